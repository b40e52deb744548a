/-
  DERIVED. GIVEN WITH THE SEED: THE CARDS: each row of YtfbcmfniocomhaaDoorRows.lean that lists a variable, with what it lists TIED to the program's text (the seventh form; the later family's looks); each row that meets fmt, with fmt's text TOLD by the authors' own Lean function (tested against real Go, not proved from fmt's source: count such statements apart). THE CARD IS WHAT COUNTS. Prove the row's statement (the work); the ties are given (YtfbcmfniocomhaaDoorTie.lean); close each card by the builder's one call (the guide's Derived/Test/ToyasCard.lean, 'card_holds'). Laid BY PROGRAM, IN A SANDBOX (cutbox-door.mjs). By AI agents, Wed Nov 11 2026. No macro, syntax, notation, axiom, sorry.
-/
import Derived.Test.YtfbcmfniocomhaaDoorRows
import GoSem.ClaimSeven
namespace Go.Proofs.YtfbcmfniocomhaaDoor
namespace Rows

/-- THE TIED CARD OF 'laws.FnExactArithmetic'. -/
def fnExactArithmeticCard : Claim7 := { stood := { row := fnExactArithmeticRow, standIns := [], harness := (true, "b5793a1564aafd83271b08abb58d9bbaabccb27942d7b31039cc5cfc12fe7607"), looks := true }, kinds := [], alts := [], laidByText := true, laidKinds := [.data, .data, .data, .sentinel, .sentinel], laidTests := true, laidLooks := .later }
def FnExactArithmeticCardSaid : Prop := Claim7.holds Tryd.pinned (.plain (OpenSpec.ofChange fnExactArithmeticSpec)) fnExactArithmeticCard

/-- THE SECOND FORM's CARD OF 'laws.FnExactArithmetic'. -/
def fnExactArithmeticUptoCard : Claim7 := { stood := { row := fnExactArithmeticUptoRow, standIns := [], harness := (true, "b5793a1564aafd83271b08abb58d9bbaabccb27942d7b31039cc5cfc12fe7607"), looks := true }, kinds := [], alts := [], laidByText := true, laidKinds := [.data, .data, .data, .sentinel, .sentinel], laidTests := true, laidLooks := .later }
def FnExactArithmeticUptoCardSaid : Prop := Claim7.holds Tryd.pinned (.plain (OpenSpec.upto fnExactArithmeticSpec)) fnExactArithmeticUptoCard
end Rows
end Go.Proofs.YtfbcmfniocomhaaDoor
