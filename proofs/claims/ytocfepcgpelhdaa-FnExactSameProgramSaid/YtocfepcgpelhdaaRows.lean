/-
  NARROWER THAN 'FOR EVERY INPUT', by the rows' own cells (each row's printed sentence says how): FnExactSameStatement: loops · FnExactSameProgram: loops.
  DERIVED. THE GIVEN ROWS OF THIS SEAT. 4 by the template 'for every input the law returns true; each argument reads behind the call as it read before'; 0 by the template 'total and deterministic' (their statements: YtocfepcgpelhdaaTotals.lean).
  GIVEN WITH THE SEED: the statements are not yours to turn. If you find one false, say at which input.
  Laid BY PROGRAM, IN A SANDBOX (cutbox-rows.mjs): the forced cells as the released guide's own fill.sh prints them over the translation e7e3f63cab0d9908… (all of the seat's roots in one cut). By AI agents, Wed Nov 11 2026. No macro, syntax, notation, axiom, sorry.
-/
import Derived.Test.YtocfepcgpelhdaaChecked
import GoSem.Claim
import GoSem.ClaimJoined
import GoSem.ClaimMapViews
import Derived.JoinedTies
import Derived.KernelRfl
namespace Go.Proofs.Ytocfepcgpelhdaa
/- THE CELL 'sum', in the pinned program and in every row, IS THE sha256 OF THE DUMP (.gsa) THAT YtocfepcgpelhdaaProg.lean LOADS. Nothing in Lean hashes anything: it is a label: what it is worth is what the hold of that sum in a sandbox is worth. -/
noncomputable def Try.pinned : Pinned := { name := "ytocfepcgpelhdaa", sum := "e7e3f63cab0d99084553d8fb2dac80a80abbe24008b1cbcc1e406bdd9053d900", checked := Try.checked }
namespace Rows
def none {H : Type} : Left H := { results := [], args := [] }

/-- 'laws.FnExactSameStatement': WHATEVER THE INPUT: true; the input reads as it did. -/
def fnExactSameStatementSpec : ChangeSpec := { name := "fnExactSameStatement", fn := fun _ => fun
  | [d1, d2] => { results := [.lit (.bool true)], args := [d1, d2] }
  | _ => none }
def fnExactSameStatementRow : OpenClaim := { program := "ytocfepcgpelhdaa", sum := "e7e3f63cab0d99084553d8fb2dac80a80abbe24008b1cbcc1e406bdd9053d900", func := "loop.example/g00873/laws.FnExactSameStatement", spec := "fnExactSameStatement", unfollowed := true, recurses := true, loops := true, apart := false }
def FnExactSameStatementSaid : Prop := fnExactSameStatementRow.holds Try.pinned (OpenSpec.ofChange fnExactSameStatementSpec)

/-- ITS FALSE NEIGHBOUR: 'it returns false'. Refute it at one input. -/
def fnExactSameStatementWrong : ChangeSpec := { name := "fnExactSameStatement", fn := fun _ => fun
  | [d1, d2] => { results := [.lit (.bool false)], args := [d1, d2] }
  | _ => none }
def FnExactSameStatementWrongFalsely : Prop := fnExactSameStatementRow.holds Try.pinned (OpenSpec.ofChange fnExactSameStatementWrong)

/-- 'laws.FnExactSameProgram': WHATEVER THE INPUT: true; the input reads as it did. -/
def fnExactSameProgramSpec : ChangeSpec := { name := "fnExactSameProgram", fn := fun _ => fun
  | [d1, d2] => { results := [.lit (.bool true)], args := [d1, d2] }
  | _ => none }
def fnExactSameProgramRow : OpenClaim := { program := "ytocfepcgpelhdaa", sum := "e7e3f63cab0d99084553d8fb2dac80a80abbe24008b1cbcc1e406bdd9053d900", func := "loop.example/g00873/laws.FnExactSameProgram", spec := "fnExactSameProgram", unfollowed := true, recurses := true, loops := true, apart := false }
def FnExactSameProgramSaid : Prop := fnExactSameProgramRow.holds Try.pinned (OpenSpec.ofChange fnExactSameProgramSpec)

/-- ITS FALSE NEIGHBOUR: 'it returns false'. Refute it at one input. -/
def fnExactSameProgramWrong : ChangeSpec := { name := "fnExactSameProgram", fn := fun _ => fun
  | [d1, d2] => { results := [.lit (.bool false)], args := [d1, d2] }
  | _ => none }
def FnExactSameProgramWrongFalsely : Prop := fnExactSameProgramRow.holds Try.pinned (OpenSpec.ofChange fnExactSameProgramWrong)

/-- 'laws.FnExactSameMatcher': WHATEVER THE INPUT: true; the input reads as it did. -/
def fnExactSameMatcherSpec : ChangeSpec := { name := "fnExactSameMatcher", fn := fun _ => fun
  | [d1, d2] => { results := [.lit (.bool true)], args := [d1, d2] }
  | _ => none }
def fnExactSameMatcherRow : OpenClaim := { program := "ytocfepcgpelhdaa", sum := "e7e3f63cab0d99084553d8fb2dac80a80abbe24008b1cbcc1e406bdd9053d900", func := "loop.example/g00873/laws.FnExactSameMatcher", spec := "fnExactSameMatcher", apart := false }
def FnExactSameMatcherSaid : Prop := fnExactSameMatcherRow.holds Try.pinned (OpenSpec.ofChange fnExactSameMatcherSpec)

/-- ITS FALSE NEIGHBOUR: 'it returns false'. Refute it at one input. -/
def fnExactSameMatcherWrong : ChangeSpec := { name := "fnExactSameMatcher", fn := fun _ => fun
  | [d1, d2] => { results := [.lit (.bool false)], args := [d1, d2] }
  | _ => none }
def FnExactSameMatcherWrongFalsely : Prop := fnExactSameMatcherRow.holds Try.pinned (OpenSpec.ofChange fnExactSameMatcherWrong)

/-- 'laws.FnExactSameHeap': WHATEVER THE INPUT: true; the input reads as it did. -/
def fnExactSameHeapSpec : ChangeSpec := { name := "fnExactSameHeap", fn := fun _ => fun
  | [d1, d2] => { results := [.lit (.bool true)], args := [d1, d2] }
  | _ => none }
def fnExactSameHeapRow : OpenClaim := { program := "ytocfepcgpelhdaa", sum := "e7e3f63cab0d99084553d8fb2dac80a80abbe24008b1cbcc1e406bdd9053d900", func := "loop.example/g00873/laws.FnExactSameHeap", spec := "fnExactSameHeap", unfollowed := true, recurses := true, apart := false }
def FnExactSameHeapSaid : Prop := fnExactSameHeapRow.holds Try.pinned (OpenSpec.ofChange fnExactSameHeapSpec)

/-- ITS FALSE NEIGHBOUR: 'it returns false'. Refute it at one input. -/
def fnExactSameHeapWrong : ChangeSpec := { name := "fnExactSameHeap", fn := fun _ => fun
  | [d1, d2] => { results := [.lit (.bool false)], args := [d1, d2] }
  | _ => none }
def FnExactSameHeapWrongFalsely : Prop := fnExactSameHeapRow.holds Try.pinned (OpenSpec.ofChange fnExactSameHeapWrong)

/- THE SECOND FORM. 'bulk': how many values and letters a reading holds, each counted each time it is reached (what is shared counts as often as it is met; a slice's spare places count too). A statement '..UptoSaid' is the law's where the arguments, and the package variables that the reading takes, are together of bulk at most 1048576: NARROWER than '..Said'. Prove '..Said' where nothing that the law and all that it calls make is longer than what came in: it says more and counts as full. Else prove '..UptoSaid'. A law counts once. -/
mutual
def uptoBulk {H : Type} : DataW H → Nat
  | .lit (.string bytes) => bytes.length + 1
  | .lit _ => 1
  | .nil => 1
  | .ptr d => uptoBulk d + 1
  | .slice elems spare => uptoBulkAll elems + uptoBulkAll spare + 1
  | .agg parts => uptoBulkAll parts + 1
  | .iface _ d => uptoBulk d + 1
  | .map entries => uptoBulkEntries entries + 1
  | .held _ => 1
def uptoBulkAll {H : Type} : List (DataW H) → Nat
  | [] => 0
  | d :: r => uptoBulk d + uptoBulkAll r
def uptoBulkEntries {H : Type} : List (Lit × DataW H) → Nat
  | [] => 0
  | x :: r => uptoBulkEntry x + uptoBulkEntries r
def uptoBulkEntry {H : Type} : Lit × DataW H → Nat
  | (.string bytes, d) => bytes.length + uptoBulk d + 1
  | (_, d) => uptoBulk d + 1
 end
def uptoSmall : (H : Type) → List (DataW H) → Bool := fun _ ds => decide (uptoBulkAll ds ≤ 1048576)
def OpenSpec.upto (s : _root_.Go.ChangeSpec) : _root_.Go.OpenSpec := { _root_.Go.OpenSpec.ofChange s with cond := some uptoSmall }

/-- 'laws.FnExactSameStatement', WHERE WHAT IT READS IS OF BULK AT MOST 1048576: true; the input reads as it did. -/
def fnExactSameStatementUptoRow : OpenClaim := { program := "ytocfepcgpelhdaa", sum := "e7e3f63cab0d99084553d8fb2dac80a80abbe24008b1cbcc1e406bdd9053d900", func := "loop.example/g00873/laws.FnExactSameStatement", spec := "fnExactSameStatement", unfollowed := true, recurses := true, loops := true, apart := false, narrowed := true }
def FnExactSameStatementUptoSaid : Prop := fnExactSameStatementUptoRow.holds Try.pinned (OpenSpec.upto fnExactSameStatementSpec)

/-- 'laws.FnExactSameProgram', WHERE WHAT IT READS IS OF BULK AT MOST 1048576: true; the input reads as it did. -/
def fnExactSameProgramUptoRow : OpenClaim := { program := "ytocfepcgpelhdaa", sum := "e7e3f63cab0d99084553d8fb2dac80a80abbe24008b1cbcc1e406bdd9053d900", func := "loop.example/g00873/laws.FnExactSameProgram", spec := "fnExactSameProgram", unfollowed := true, recurses := true, loops := true, apart := false, narrowed := true }
def FnExactSameProgramUptoSaid : Prop := fnExactSameProgramUptoRow.holds Try.pinned (OpenSpec.upto fnExactSameProgramSpec)

/-- 'laws.FnExactSameMatcher', WHERE WHAT IT READS IS OF BULK AT MOST 1048576: true; the input reads as it did. -/
def fnExactSameMatcherUptoRow : OpenClaim := { program := "ytocfepcgpelhdaa", sum := "e7e3f63cab0d99084553d8fb2dac80a80abbe24008b1cbcc1e406bdd9053d900", func := "loop.example/g00873/laws.FnExactSameMatcher", spec := "fnExactSameMatcher", apart := false, narrowed := true }
def FnExactSameMatcherUptoSaid : Prop := fnExactSameMatcherUptoRow.holds Try.pinned (OpenSpec.upto fnExactSameMatcherSpec)

/-- 'laws.FnExactSameHeap', WHERE WHAT IT READS IS OF BULK AT MOST 1048576: true; the input reads as it did. -/
def fnExactSameHeapUptoRow : OpenClaim := { program := "ytocfepcgpelhdaa", sum := "e7e3f63cab0d99084553d8fb2dac80a80abbe24008b1cbcc1e406bdd9053d900", func := "loop.example/g00873/laws.FnExactSameHeap", spec := "fnExactSameHeap", unfollowed := true, recurses := true, apart := false, narrowed := true }
def FnExactSameHeapUptoSaid : Prop := fnExactSameHeapUptoRow.holds Try.pinned (OpenSpec.upto fnExactSameHeapSpec)

end Rows
end Go.Proofs.Ytocfepcgpelhdaa
