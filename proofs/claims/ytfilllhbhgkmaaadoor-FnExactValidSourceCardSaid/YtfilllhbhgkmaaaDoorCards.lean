/-
  DERIVED. GIVEN WITH THE SEED: THE CARDS: each row of YtfilllhbhgkmaaaDoorRows.lean that lists a variable, with what it lists TIED to the program's text (the seventh form; the later family's looks); each row that meets fmt, with fmt's text TOLD by the authors' own Lean function (tested against real Go, not proved from fmt's source: count such statements apart). THE CARD IS WHAT COUNTS. Prove the row's statement (the work); the ties are given (YtfilllhbhgkmaaaDoorTie.lean); close each card by the builder's one call (the guide's Derived/Test/ToyasCard.lean, 'card_holds'). Laid BY PROGRAM, IN A SANDBOX (cutbox-door.mjs). By AI agents, Wed Nov 11 2026. No macro, syntax, notation, axiom, sorry.
-/
import Derived.Test.YtfilllhbhgkmaaaDoorRows
import GoSem.ClaimSeven
namespace Go.Proofs.YtfilllhbhgkmaaaDoor
namespace Rows

/-- THE TIED CARD OF 'laws.FnExactToText'. -/
def fnExactToTextCard : Claim7 := { stood := { row := fnExactToTextRow, standIns := [], harness := (true, "fe9cdab46c6fd5a950fb002d327985ff8069bc72b0c1e31fc89e68ad4a8ed1fa"), looks := false }, kinds := [], alts := [], laidByText := true, laidKinds := [.data, .data, .data], laidTests := true, laidLooks := .later }
def FnExactToTextCardSaid : Prop := Claim7.holds Tryd.pinned (.plain (OpenSpec.ofChange fnExactToTextSpec)) fnExactToTextCard

/-- THE TIED CARD OF 'laws.FnExactValidSource'. -/
def fnExactValidSourceCard : Claim7 := { stood := { row := fnExactValidSourceRow, standIns := [], harness := (true, "fe9cdab46c6fd5a950fb002d327985ff8069bc72b0c1e31fc89e68ad4a8ed1fa"), looks := false }, kinds := [], alts := [], laidByText := true, laidKinds := [.data, .pinned], laidTests := true, laidLooks := .later }
def FnExactValidSourceCardSaid : Prop := Claim7.holds Tryd.pinned (.plain (OpenSpec.ofChange fnExactValidSourceSpec)) fnExactValidSourceCard

/-- THE TIED CARD OF 'laws.FnExactConcatenated'. -/
def fnExactConcatenatedCard : Claim7 := { stood := { row := fnExactConcatenatedRow, standIns := [], harness := (true, "fe9cdab46c6fd5a950fb002d327985ff8069bc72b0c1e31fc89e68ad4a8ed1fa"), looks := false }, kinds := [], alts := [], laidByText := true, laidKinds := [.data, .data, .data], laidTests := true, laidLooks := .later }
def FnExactConcatenatedCardSaid : Prop := Claim7.holds Tryd.pinned (.plain (OpenSpec.ofChange fnExactConcatenatedSpec)) fnExactConcatenatedCard

/-- THE SECOND FORM's CARD OF 'laws.FnExactToText'. -/
def fnExactToTextUptoCard : Claim7 := { stood := { row := fnExactToTextUptoRow, standIns := [], harness := (true, "fe9cdab46c6fd5a950fb002d327985ff8069bc72b0c1e31fc89e68ad4a8ed1fa"), looks := false }, kinds := [], alts := [], laidByText := true, laidKinds := [.data, .data, .data], laidTests := true, laidLooks := .later }
def FnExactToTextUptoCardSaid : Prop := Claim7.holds Tryd.pinned (.plain (OpenSpec.upto fnExactToTextSpec)) fnExactToTextUptoCard

/-- THE SECOND FORM's CARD OF 'laws.FnExactValidSource'. -/
def fnExactValidSourceUptoCard : Claim7 := { stood := { row := fnExactValidSourceUptoRow, standIns := [], harness := (true, "fe9cdab46c6fd5a950fb002d327985ff8069bc72b0c1e31fc89e68ad4a8ed1fa"), looks := false }, kinds := [], alts := [], laidByText := true, laidKinds := [.data, .pinned], laidTests := true, laidLooks := .later }
def FnExactValidSourceUptoCardSaid : Prop := Claim7.holds Tryd.pinned (.plain (OpenSpec.upto fnExactValidSourceSpec)) fnExactValidSourceUptoCard

/-- THE SECOND FORM's CARD OF 'laws.FnExactConcatenated'. -/
def fnExactConcatenatedUptoCard : Claim7 := { stood := { row := fnExactConcatenatedUptoRow, standIns := [], harness := (true, "fe9cdab46c6fd5a950fb002d327985ff8069bc72b0c1e31fc89e68ad4a8ed1fa"), looks := false }, kinds := [], alts := [], laidByText := true, laidKinds := [.data, .data, .data], laidTests := true, laidLooks := .later }
def FnExactConcatenatedUptoCardSaid : Prop := Claim7.holds Tryd.pinned (.plain (OpenSpec.upto fnExactConcatenatedSpec)) fnExactConcatenatedUptoCard
end Rows
end Go.Proofs.YtfilllhbhgkmaaaDoor
