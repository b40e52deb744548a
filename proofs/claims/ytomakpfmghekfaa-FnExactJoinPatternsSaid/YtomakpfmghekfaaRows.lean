/-
  NARROWER THAN 'FOR EVERY INPUT', by the rows' own cells (each row's printed sentence says how): FnExactDeferredNames: loops · FnExactSimplifyPattern: loops · FnExactJoinPatterns: loops.
  DERIVED. THE GIVEN ROWS OF THIS SEAT. 3 by the template 'for every input the law returns true; each argument reads behind the call as it read before'; 0 by the template 'total and deterministic' (their statements: YtomakpfmghekfaaTotals.lean).
  GIVEN WITH THE SEED: the statements are not yours to turn. If you find one false, say at which input.
  Laid BY PROGRAM, IN A SANDBOX (cutbox-rows.mjs): the forced cells as the released guide's own fill.sh prints them over the translation f877eb6e81e68c0b… (all of the seat's roots in one cut). By AI agents, Wed Nov 11 2026. No macro, syntax, notation, axiom, sorry.
-/
import Derived.Test.YtomakpfmghekfaaChecked
import GoSem.Claim
import GoSem.ClaimJoined
import GoSem.ClaimMapViews
import Derived.JoinedTies
import Derived.KernelRfl
namespace Go.Proofs.Ytomakpfmghekfaa
/- THE CELL 'sum', in the pinned program and in every row, IS THE sha256 OF THE DUMP (.gsa) THAT YtomakpfmghekfaaProg.lean LOADS. Nothing in Lean hashes anything: it is a label: what it is worth is what the hold of that sum in a sandbox is worth. -/
noncomputable def Try.pinned : Pinned := { name := "ytomakpfmghekfaa", sum := "f877eb6e81e68c0b4dbcddb765f5efcd131934ed66fddd41b2032099c07ca895", checked := Try.checked }
namespace Rows
def none {H : Type} : Left H := { results := [], args := [] }

/-- 'laws.FnExactDeferredNames': WHATEVER THE INPUT: true; the input reads as it did. -/
def fnExactDeferredNamesSpec : ChangeSpec := { name := "fnExactDeferredNames", fn := fun _ => fun
  | [d] => { results := [.lit (.bool true)], args := [d] }
  | _ => none }
def fnExactDeferredNamesRow : OpenClaim := { program := "ytomakpfmghekfaa", sum := "f877eb6e81e68c0b4dbcddb765f5efcd131934ed66fddd41b2032099c07ca895", func := "loop.example/g00873/laws.FnExactDeferredNames", spec := "fnExactDeferredNames", unfollowed := true, recurses := true, loops := true, apart := false }
def FnExactDeferredNamesSaid : Prop := fnExactDeferredNamesRow.holds Try.pinned (OpenSpec.ofChange fnExactDeferredNamesSpec)

/-- ITS FALSE NEIGHBOUR: 'it returns false'. Refute it at one input. -/
def fnExactDeferredNamesWrong : ChangeSpec := { name := "fnExactDeferredNames", fn := fun _ => fun
  | [d] => { results := [.lit (.bool false)], args := [d] }
  | _ => none }
def FnExactDeferredNamesWrongFalsely : Prop := fnExactDeferredNamesRow.holds Try.pinned (OpenSpec.ofChange fnExactDeferredNamesWrong)

/-- 'laws.FnExactSimplifyPattern': WHATEVER THE INPUT: true; the input reads as it did. -/
def fnExactSimplifyPatternSpec : ChangeSpec := { name := "fnExactSimplifyPattern", fn := fun _ => fun
  | [d] => { results := [.lit (.bool true)], args := [d] }
  | _ => none }
def fnExactSimplifyPatternRow : OpenClaim := { program := "ytomakpfmghekfaa", sum := "f877eb6e81e68c0b4dbcddb765f5efcd131934ed66fddd41b2032099c07ca895", func := "loop.example/g00873/laws.FnExactSimplifyPattern", spec := "fnExactSimplifyPattern", unfollowed := true, recurses := true, loops := true, apart := false }
def FnExactSimplifyPatternSaid : Prop := fnExactSimplifyPatternRow.holds Try.pinned (OpenSpec.ofChange fnExactSimplifyPatternSpec)

/-- ITS FALSE NEIGHBOUR: 'it returns false'. Refute it at one input. -/
def fnExactSimplifyPatternWrong : ChangeSpec := { name := "fnExactSimplifyPattern", fn := fun _ => fun
  | [d] => { results := [.lit (.bool false)], args := [d] }
  | _ => none }
def FnExactSimplifyPatternWrongFalsely : Prop := fnExactSimplifyPatternRow.holds Try.pinned (OpenSpec.ofChange fnExactSimplifyPatternWrong)

/-- 'laws.FnExactJoinPatterns': WHATEVER THE INPUT: true; the input reads as it did. -/
def fnExactJoinPatternsSpec : ChangeSpec := { name := "fnExactJoinPatterns", fn := fun _ => fun
  | [d1, d2] => { results := [.lit (.bool true)], args := [d1, d2] }
  | _ => none }
def fnExactJoinPatternsRow : OpenClaim := { program := "ytomakpfmghekfaa", sum := "f877eb6e81e68c0b4dbcddb765f5efcd131934ed66fddd41b2032099c07ca895", func := "loop.example/g00873/laws.FnExactJoinPatterns", spec := "fnExactJoinPatterns", unfollowed := true, recurses := true, loops := true, apart := false }
def FnExactJoinPatternsSaid : Prop := fnExactJoinPatternsRow.holds Try.pinned (OpenSpec.ofChange fnExactJoinPatternsSpec)

/-- ITS FALSE NEIGHBOUR: 'it returns false'. Refute it at one input. -/
def fnExactJoinPatternsWrong : ChangeSpec := { name := "fnExactJoinPatterns", fn := fun _ => fun
  | [d1, d2] => { results := [.lit (.bool false)], args := [d1, d2] }
  | _ => none }
def FnExactJoinPatternsWrongFalsely : Prop := fnExactJoinPatternsRow.holds Try.pinned (OpenSpec.ofChange fnExactJoinPatternsWrong)

/- THE SECOND FORM. 'bulk': how many values and letters a reading holds, each counted each time it is reached (what is shared counts as often as it is met; a slice's spare places count too). A statement '..UptoSaid' is the law's where the arguments, and the package variables that the reading takes, are together of bulk at most 1048576: NARROWER than '..Said'. Prove '..Said' where nothing that the law and all that it calls make is longer than what came in: it says more and counts as full. Else prove '..UptoSaid'. A law counts once. -/
mutual
def uptoBulk {H : Type} : DataW H → Nat
  | .lit (.string bytes) => bytes.length + 1
  | .lit _ => 1
  | .nil => 1
  | .ptr d => uptoBulk d + 1
  | .slice elems spare => uptoBulkAll elems + uptoBulkAll spare + 1
  | .agg parts => uptoBulkAll parts + 1
  | .iface _ d => uptoBulk d + 1
  | .map entries => uptoBulkEntries entries + 1
  | .held _ => 1
def uptoBulkAll {H : Type} : List (DataW H) → Nat
  | [] => 0
  | d :: r => uptoBulk d + uptoBulkAll r
def uptoBulkEntries {H : Type} : List (Lit × DataW H) → Nat
  | [] => 0
  | x :: r => uptoBulkEntry x + uptoBulkEntries r
def uptoBulkEntry {H : Type} : Lit × DataW H → Nat
  | (.string bytes, d) => bytes.length + uptoBulk d + 1
  | (_, d) => uptoBulk d + 1
 end
def uptoSmall : (H : Type) → List (DataW H) → Bool := fun _ ds => decide (uptoBulkAll ds ≤ 1048576)
def OpenSpec.upto (s : _root_.Go.ChangeSpec) : _root_.Go.OpenSpec := { _root_.Go.OpenSpec.ofChange s with cond := some uptoSmall }

/-- 'laws.FnExactDeferredNames', WHERE WHAT IT READS IS OF BULK AT MOST 1048576: true; the input reads as it did. -/
def fnExactDeferredNamesUptoRow : OpenClaim := { program := "ytomakpfmghekfaa", sum := "f877eb6e81e68c0b4dbcddb765f5efcd131934ed66fddd41b2032099c07ca895", func := "loop.example/g00873/laws.FnExactDeferredNames", spec := "fnExactDeferredNames", unfollowed := true, recurses := true, loops := true, apart := false, narrowed := true }
def FnExactDeferredNamesUptoSaid : Prop := fnExactDeferredNamesUptoRow.holds Try.pinned (OpenSpec.upto fnExactDeferredNamesSpec)

/-- 'laws.FnExactSimplifyPattern', WHERE WHAT IT READS IS OF BULK AT MOST 1048576: true; the input reads as it did. -/
def fnExactSimplifyPatternUptoRow : OpenClaim := { program := "ytomakpfmghekfaa", sum := "f877eb6e81e68c0b4dbcddb765f5efcd131934ed66fddd41b2032099c07ca895", func := "loop.example/g00873/laws.FnExactSimplifyPattern", spec := "fnExactSimplifyPattern", unfollowed := true, recurses := true, loops := true, apart := false, narrowed := true }
def FnExactSimplifyPatternUptoSaid : Prop := fnExactSimplifyPatternUptoRow.holds Try.pinned (OpenSpec.upto fnExactSimplifyPatternSpec)

/-- 'laws.FnExactJoinPatterns', WHERE WHAT IT READS IS OF BULK AT MOST 1048576: true; the input reads as it did. -/
def fnExactJoinPatternsUptoRow : OpenClaim := { program := "ytomakpfmghekfaa", sum := "f877eb6e81e68c0b4dbcddb765f5efcd131934ed66fddd41b2032099c07ca895", func := "loop.example/g00873/laws.FnExactJoinPatterns", spec := "fnExactJoinPatterns", unfollowed := true, recurses := true, loops := true, apart := false, narrowed := true }
def FnExactJoinPatternsUptoSaid : Prop := fnExactJoinPatternsUptoRow.holds Try.pinned (OpenSpec.upto fnExactJoinPatternsSpec)

end Rows
end Go.Proofs.Ytomakpfmghekfaa
