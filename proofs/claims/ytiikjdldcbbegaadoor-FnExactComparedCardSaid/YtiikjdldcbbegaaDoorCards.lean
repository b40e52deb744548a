/-
  DERIVED. GIVEN WITH THE SEED: THE CARDS: each row of YtiikjdldcbbegaaDoorRows.lean that lists a variable, with what it lists TIED to the program's text (the seventh form; the later family's looks); each row that meets fmt, with fmt's text TOLD by the authors' own Lean function (tested against real Go, not proved from fmt's source: count such statements apart). THE CARD IS WHAT COUNTS. Prove the row's statement (the work); the ties are given (YtiikjdldcbbegaaDoorTie.lean); close each card by the builder's one call (the guide's Derived/Test/ToyasCard.lean, 'card_holds'). Laid BY PROGRAM, IN A SANDBOX (cutbox-door.mjs). By AI agents, Wed Nov 11 2026. No macro, syntax, notation, axiom, sorry.
-/
import Derived.Test.YtiikjdldcbbegaaDoorRows
import GoSem.ClaimSeven
namespace Go.Proofs.YtiikjdldcbbegaaDoor
namespace Rows

/-- THE TIED CARD OF 'laws.FnExactToInteger'. -/
def fnExactToIntegerCard : Claim7 := { stood := { row := fnExactToIntegerRow, standIns := [], harness := (true, "ef73c805efa7c07fb46d82a653aa6921e6ee7e7a10b2c18212eb0cbe5f6b0347"), looks := true }, kinds := [], alts := [], laidByText := true, laidKinds := [.data, .data, .data, .sentinel, .sentinel], laidTests := true, laidLooks := .later }
def FnExactToIntegerCardSaid : Prop := Claim7.holds Tryd.pinned (.plain (OpenSpec.ofChange fnExactToIntegerSpec)) fnExactToIntegerCard

/-- THE TIED CARD OF 'laws.FnExactScanTokens'. -/
def fnExactScanTokensCard : Claim7 := { stood := { row := fnExactScanTokensRow, standIns := [], harness := (true, "ef73c805efa7c07fb46d82a653aa6921e6ee7e7a10b2c18212eb0cbe5f6b0347"), looks := true }, kinds := [], alts := [], laidByText := true, laidKinds := [.data, .data, .data, .sentinel, .sentinel], laidTests := true, laidLooks := .later }
def FnExactScanTokensCardSaid : Prop := Claim7.holds Tryd.pinned (.plain (OpenSpec.ofChange fnExactScanTokensSpec)) fnExactScanTokensCard

/-- THE TIED CARD OF 'laws.FnExactNegated'. -/
def fnExactNegatedCard : Claim7 := { stood := { row := fnExactNegatedRow, standIns := [], harness := (true, "ef73c805efa7c07fb46d82a653aa6921e6ee7e7a10b2c18212eb0cbe5f6b0347"), looks := true }, kinds := [], alts := [], laidByText := true, laidKinds := [.data, .data, .data, .sentinel, .sentinel], laidTests := true, laidLooks := .later }
def FnExactNegatedCardSaid : Prop := Claim7.holds Tryd.pinned (.plain (OpenSpec.ofChange fnExactNegatedSpec)) fnExactNegatedCard

/-- THE TIED CARD OF 'laws.FnExactCompared'. -/
def fnExactComparedCard : Claim7 := { stood := { row := fnExactComparedRow, standIns := [], harness := (true, "ef73c805efa7c07fb46d82a653aa6921e6ee7e7a10b2c18212eb0cbe5f6b0347"), looks := true }, kinds := [], alts := [], laidByText := true, laidKinds := [.data, .data, .data, .sentinel, .sentinel], laidTests := true, laidLooks := .later }
def FnExactComparedCardSaid : Prop := Claim7.holds Tryd.pinned (.plain (OpenSpec.ofChange fnExactComparedSpec)) fnExactComparedCard

/-- THE SECOND FORM's CARD OF 'laws.FnExactToInteger'. -/
def fnExactToIntegerUptoCard : Claim7 := { stood := { row := fnExactToIntegerUptoRow, standIns := [], harness := (true, "ef73c805efa7c07fb46d82a653aa6921e6ee7e7a10b2c18212eb0cbe5f6b0347"), looks := true }, kinds := [], alts := [], laidByText := true, laidKinds := [.data, .data, .data, .sentinel, .sentinel], laidTests := true, laidLooks := .later }
def FnExactToIntegerUptoCardSaid : Prop := Claim7.holds Tryd.pinned (.plain (OpenSpec.upto fnExactToIntegerSpec)) fnExactToIntegerUptoCard

/-- THE SECOND FORM's CARD OF 'laws.FnExactScanTokens'. -/
def fnExactScanTokensUptoCard : Claim7 := { stood := { row := fnExactScanTokensUptoRow, standIns := [], harness := (true, "ef73c805efa7c07fb46d82a653aa6921e6ee7e7a10b2c18212eb0cbe5f6b0347"), looks := true }, kinds := [], alts := [], laidByText := true, laidKinds := [.data, .data, .data, .sentinel, .sentinel], laidTests := true, laidLooks := .later }
def FnExactScanTokensUptoCardSaid : Prop := Claim7.holds Tryd.pinned (.plain (OpenSpec.upto fnExactScanTokensSpec)) fnExactScanTokensUptoCard

/-- THE SECOND FORM's CARD OF 'laws.FnExactNegated'. -/
def fnExactNegatedUptoCard : Claim7 := { stood := { row := fnExactNegatedUptoRow, standIns := [], harness := (true, "ef73c805efa7c07fb46d82a653aa6921e6ee7e7a10b2c18212eb0cbe5f6b0347"), looks := true }, kinds := [], alts := [], laidByText := true, laidKinds := [.data, .data, .data, .sentinel, .sentinel], laidTests := true, laidLooks := .later }
def FnExactNegatedUptoCardSaid : Prop := Claim7.holds Tryd.pinned (.plain (OpenSpec.upto fnExactNegatedSpec)) fnExactNegatedUptoCard

/-- THE SECOND FORM's CARD OF 'laws.FnExactCompared'. -/
def fnExactComparedUptoCard : Claim7 := { stood := { row := fnExactComparedUptoRow, standIns := [], harness := (true, "ef73c805efa7c07fb46d82a653aa6921e6ee7e7a10b2c18212eb0cbe5f6b0347"), looks := true }, kinds := [], alts := [], laidByText := true, laidKinds := [.data, .data, .data, .sentinel, .sentinel], laidTests := true, laidLooks := .later }
def FnExactComparedUptoCardSaid : Prop := Claim7.holds Tryd.pinned (.plain (OpenSpec.upto fnExactComparedSpec)) fnExactComparedUptoCard
end Rows
end Go.Proofs.YtiikjdldcbbegaaDoor
