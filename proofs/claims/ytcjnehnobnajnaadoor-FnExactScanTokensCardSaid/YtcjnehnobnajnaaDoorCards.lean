/-
  DERIVED. GIVEN WITH THE SEED: THE CARDS: each row of YtcjnehnobnajnaaDoorRows.lean that lists a variable, with what it lists TIED to the program's text (the seventh form; the later family's looks); each row that meets fmt, with fmt's text TOLD by the authors' own Lean function (tested against real Go, not proved from fmt's source: count such statements apart). THE CARD IS WHAT COUNTS. Prove the row's statement (the work); the ties are given (YtcjnehnobnajnaaDoorTie.lean); close each card by the builder's one call (the guide's Derived/Test/ToyasCard.lean, 'card_holds'). Laid BY PROGRAM, IN A SANDBOX (cutbox-door.mjs). By AI agents, Wed Nov 11 2026. No macro, syntax, notation, axiom, sorry.
-/
import Derived.Test.YtcjnehnobnajnaaDoorRows
import GoSem.ClaimSeven
namespace Go.Proofs.YtcjnehnobnajnaaDoor
namespace Rows

/-- THE TIED CARD OF 'laws.FnExactScanTokens'. -/
def fnExactScanTokensCard : Claim7 := { stood := { row := fnExactScanTokensRow, standIns := [], harness := (true, "56a9b476517c6645e2f4b4a5554be97ef42bd89e7abd4f74de8f043d36d98cb0"), looks := true }, kinds := [], alts := [], laidByText := true, laidKinds := [.data, .data, .data, .sentinel, .sentinel], laidTests := true, laidLooks := .later }
def FnExactScanTokensCardSaid : Prop := Claim7.holds Tryd.pinned (.plain (OpenSpec.ofChange fnExactScanTokensSpec)) fnExactScanTokensCard

/-- THE SECOND FORM's CARD OF 'laws.FnExactScanTokens'. -/
def fnExactScanTokensUptoCard : Claim7 := { stood := { row := fnExactScanTokensUptoRow, standIns := [], harness := (true, "56a9b476517c6645e2f4b4a5554be97ef42bd89e7abd4f74de8f043d36d98cb0"), looks := true }, kinds := [], alts := [], laidByText := true, laidKinds := [.data, .data, .data, .sentinel, .sentinel], laidTests := true, laidLooks := .later }
def FnExactScanTokensUptoCardSaid : Prop := Claim7.holds Tryd.pinned (.plain (OpenSpec.upto fnExactScanTokensSpec)) fnExactScanTokensUptoCard
end Rows
end Go.Proofs.YtcjnehnobnajnaaDoor
