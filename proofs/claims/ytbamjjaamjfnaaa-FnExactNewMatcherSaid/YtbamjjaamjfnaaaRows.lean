/-
  No cell of these rows narrows 'for every input' (looked for: loops, veiled, ifaces, maps, wideKeys, modest, calm, conditions, laid).
  DERIVED. THE GIVEN ROWS OF THIS SEAT. 3 by the template 'for every input the law returns true; each argument reads behind the call as it read before'; 0 by the template 'total and deterministic' (their statements: YtbamjjaamjfnaaaTotals.lean).
  GIVEN WITH THE SEED: the statements are not yours to turn. If you find one false, say at which input.
  Laid BY PROGRAM, IN A SANDBOX (cutbox-rows.mjs): the forced cells as the released guide's own fill.sh prints them over the translation f3f0408e7518fc16… (all of the seat's roots in one cut). By AI agents, Wed Nov 11 2026. No macro, syntax, notation, axiom, sorry.
-/
import Derived.Test.YtbamjjaamjfnaaaChecked
import GoSem.Claim
import GoSem.ClaimJoined
import GoSem.ClaimMapViews
import Derived.JoinedTies
import Derived.KernelRfl
namespace Go.Proofs.Ytbamjjaamjfnaaa
/- THE CELL 'sum', in the pinned program and in every row, IS THE sha256 OF THE DUMP (.gsa) THAT YtbamjjaamjfnaaaProg.lean LOADS. Nothing in Lean hashes anything: it is a label: what it is worth is what the hold of that sum in a sandbox is worth. -/
noncomputable def Try.pinned : Pinned := { name := "ytbamjjaamjfnaaa", sum := "f3f0408e7518fc16e9296320ba0419a24dcd913c34190477ff7ce1bd08af258d", checked := Try.checked }
namespace Rows
def none {H : Type} : Left H := { results := [], args := [] }

/-- 'laws.FnExactValidPatternCode': WHATEVER THE INPUT: true; the input reads as it did. -/
def fnExactValidPatternCodeSpec : ChangeSpec := { name := "fnExactValidPatternCode", fn := fun _ => fun
  | [d] => { results := [.lit (.bool true)], args := [d] }
  | _ => none }
def fnExactValidPatternCodeRow : OpenClaim := { program := "ytbamjjaamjfnaaa", sum := "f3f0408e7518fc16e9296320ba0419a24dcd913c34190477ff7ce1bd08af258d", func := "loop.example/g00873/laws.FnExactValidPatternCode", spec := "fnExactValidPatternCode", unfollowed := true, recurses := true, apart := false }
def FnExactValidPatternCodeSaid : Prop := fnExactValidPatternCodeRow.holds Try.pinned (OpenSpec.ofChange fnExactValidPatternCodeSpec)

/-- ITS FALSE NEIGHBOUR: 'it returns false'. Refute it at one input. -/
def fnExactValidPatternCodeWrong : ChangeSpec := { name := "fnExactValidPatternCode", fn := fun _ => fun
  | [d] => { results := [.lit (.bool false)], args := [d] }
  | _ => none }
def FnExactValidPatternCodeWrongFalsely : Prop := fnExactValidPatternCodeRow.holds Try.pinned (OpenSpec.ofChange fnExactValidPatternCodeWrong)

/-- 'laws.FnExactMarksOf': WHATEVER THE INPUT: true; the input reads as it did. -/
def fnExactMarksOfSpec : ChangeSpec := { name := "fnExactMarksOf", fn := fun _ => fun
  | [d] => { results := [.lit (.bool true)], args := [d] }
  | _ => none }
def fnExactMarksOfRow : OpenClaim := { program := "ytbamjjaamjfnaaa", sum := "f3f0408e7518fc16e9296320ba0419a24dcd913c34190477ff7ce1bd08af258d", func := "loop.example/g00873/laws.FnExactMarksOf", spec := "fnExactMarksOf", unfollowed := true, recurses := true, apart := false }
def FnExactMarksOfSaid : Prop := fnExactMarksOfRow.holds Try.pinned (OpenSpec.ofChange fnExactMarksOfSpec)

/-- ITS FALSE NEIGHBOUR: 'it returns false'. Refute it at one input. -/
def fnExactMarksOfWrong : ChangeSpec := { name := "fnExactMarksOf", fn := fun _ => fun
  | [d] => { results := [.lit (.bool false)], args := [d] }
  | _ => none }
def FnExactMarksOfWrongFalsely : Prop := fnExactMarksOfRow.holds Try.pinned (OpenSpec.ofChange fnExactMarksOfWrong)

/-- 'laws.FnExactNewMatcher': WHATEVER THE INPUT: true; the input reads as it did. -/
def fnExactNewMatcherSpec : ChangeSpec := { name := "fnExactNewMatcher", fn := fun _ => fun
  | [d1, d2, d3] => { results := [.lit (.bool true)], args := [d1, d2, d3] }
  | _ => none }
def fnExactNewMatcherRow : OpenClaim := { program := "ytbamjjaamjfnaaa", sum := "f3f0408e7518fc16e9296320ba0419a24dcd913c34190477ff7ce1bd08af258d", func := "loop.example/g00873/laws.FnExactNewMatcher", spec := "fnExactNewMatcher", unfollowed := true, recurses := true, apart := false }
def FnExactNewMatcherSaid : Prop := fnExactNewMatcherRow.holds Try.pinned (OpenSpec.ofChange fnExactNewMatcherSpec)

/-- ITS FALSE NEIGHBOUR: 'it returns false'. Refute it at one input. -/
def fnExactNewMatcherWrong : ChangeSpec := { name := "fnExactNewMatcher", fn := fun _ => fun
  | [d1, d2, d3] => { results := [.lit (.bool false)], args := [d1, d2, d3] }
  | _ => none }
def FnExactNewMatcherWrongFalsely : Prop := fnExactNewMatcherRow.holds Try.pinned (OpenSpec.ofChange fnExactNewMatcherWrong)

/- THE SECOND FORM. 'bulk': how many values and letters a reading holds, each counted each time it is reached (what is shared counts as often as it is met; a slice's spare places count too). A statement '..UptoSaid' is the law's where the arguments, and the package variables that the reading takes, are together of bulk at most 1048576: NARROWER than '..Said'. Prove '..Said' where nothing that the law and all that it calls make is longer than what came in: it says more and counts as full. Else prove '..UptoSaid'. A law counts once. -/
mutual
def uptoBulk {H : Type} : DataW H → Nat
  | .lit (.string bytes) => bytes.length + 1
  | .lit _ => 1
  | .nil => 1
  | .ptr d => uptoBulk d + 1
  | .slice elems spare => uptoBulkAll elems + uptoBulkAll spare + 1
  | .agg parts => uptoBulkAll parts + 1
  | .iface _ d => uptoBulk d + 1
  | .map entries => uptoBulkEntries entries + 1
  | .held _ => 1
def uptoBulkAll {H : Type} : List (DataW H) → Nat
  | [] => 0
  | d :: r => uptoBulk d + uptoBulkAll r
def uptoBulkEntries {H : Type} : List (Lit × DataW H) → Nat
  | [] => 0
  | x :: r => uptoBulkEntry x + uptoBulkEntries r
def uptoBulkEntry {H : Type} : Lit × DataW H → Nat
  | (.string bytes, d) => bytes.length + uptoBulk d + 1
  | (_, d) => uptoBulk d + 1
 end
def uptoSmall : (H : Type) → List (DataW H) → Bool := fun _ ds => decide (uptoBulkAll ds ≤ 1048576)
def OpenSpec.upto (s : _root_.Go.ChangeSpec) : _root_.Go.OpenSpec := { _root_.Go.OpenSpec.ofChange s with cond := some uptoSmall }

/-- 'laws.FnExactValidPatternCode', WHERE WHAT IT READS IS OF BULK AT MOST 1048576: true; the input reads as it did. -/
def fnExactValidPatternCodeUptoRow : OpenClaim := { program := "ytbamjjaamjfnaaa", sum := "f3f0408e7518fc16e9296320ba0419a24dcd913c34190477ff7ce1bd08af258d", func := "loop.example/g00873/laws.FnExactValidPatternCode", spec := "fnExactValidPatternCode", unfollowed := true, recurses := true, apart := false, narrowed := true }
def FnExactValidPatternCodeUptoSaid : Prop := fnExactValidPatternCodeUptoRow.holds Try.pinned (OpenSpec.upto fnExactValidPatternCodeSpec)

/-- 'laws.FnExactMarksOf', WHERE WHAT IT READS IS OF BULK AT MOST 1048576: true; the input reads as it did. -/
def fnExactMarksOfUptoRow : OpenClaim := { program := "ytbamjjaamjfnaaa", sum := "f3f0408e7518fc16e9296320ba0419a24dcd913c34190477ff7ce1bd08af258d", func := "loop.example/g00873/laws.FnExactMarksOf", spec := "fnExactMarksOf", unfollowed := true, recurses := true, apart := false, narrowed := true }
def FnExactMarksOfUptoSaid : Prop := fnExactMarksOfUptoRow.holds Try.pinned (OpenSpec.upto fnExactMarksOfSpec)

/-- 'laws.FnExactNewMatcher', WHERE WHAT IT READS IS OF BULK AT MOST 1048576: true; the input reads as it did. -/
def fnExactNewMatcherUptoRow : OpenClaim := { program := "ytbamjjaamjfnaaa", sum := "f3f0408e7518fc16e9296320ba0419a24dcd913c34190477ff7ce1bd08af258d", func := "loop.example/g00873/laws.FnExactNewMatcher", spec := "fnExactNewMatcher", unfollowed := true, recurses := true, apart := false, narrowed := true }
def FnExactNewMatcherUptoSaid : Prop := fnExactNewMatcherUptoRow.holds Try.pinned (OpenSpec.upto fnExactNewMatcherSpec)

end Rows
end Go.Proofs.Ytbamjjaamjfnaaa
