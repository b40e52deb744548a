/-
  NARROWER THAN 'FOR EVERY INPUT', by the rows' own cells (each row's printed sentence says how): FnExactSameExpr: loops.
  DERIVED. THE GIVEN ROWS OF THIS SEAT. 5 by the template 'for every input the law returns true; each argument reads behind the call as it read before'; 0 by the template 'total and deterministic' (their statements: YtfbcmfniocomhaaTotals.lean).
  GIVEN WITH THE SEED: the statements are not yours to turn. If you find one false, say at which input.
  Laid BY PROGRAM, IN A SANDBOX (cutbox-rows.mjs): the forced cells as the released guide's own fill.sh prints them over the translation fb92d7a41051dda8… (all of the seat's roots in one cut). By AI agents, Wed Nov 11 2026. No macro, syntax, notation, axiom, sorry.
-/
import Derived.Test.YtfbcmfniocomhaaChecked
import GoSem.Claim
import GoSem.ClaimJoined
import GoSem.ClaimMapViews
import Derived.JoinedTies
import Derived.KernelRfl
namespace Go.Proofs.Ytfbcmfniocomhaa
/- THE CELL 'sum', in the pinned program and in every row, IS THE sha256 OF THE DUMP (.gsa) THAT YtfbcmfniocomhaaProg.lean LOADS. Nothing in Lean hashes anything: it is a label: what it is worth is what the hold of that sum in a sandbox is worth. -/
noncomputable def Try.pinned : Pinned := { name := "ytfbcmfniocomhaa", sum := "fb92d7a41051dda8de7411b9d6cb4bea06cf7fa5eaf07f64ae47bbd3fe31a7ce", checked := Try.checked }
namespace Rows
def none {H : Type} : Left H := { results := [], args := [] }

/-- 'laws.FnExactReverseText': WHATEVER THE INPUT: true; the input reads as it did. -/
def fnExactReverseTextSpec : ChangeSpec := { name := "fnExactReverseText", fn := fun _ => fun
  | [d] => { results := [.lit (.bool true)], args := [d] }
  | _ => none }
def fnExactReverseTextRow : OpenClaim := { program := "ytfbcmfniocomhaa", sum := "fb92d7a41051dda8de7411b9d6cb4bea06cf7fa5eaf07f64ae47bbd3fe31a7ce", func := "loop.example/g00873/laws.FnExactReverseText", spec := "fnExactReverseText", apart := false }
def FnExactReverseTextSaid : Prop := fnExactReverseTextRow.holds Try.pinned (OpenSpec.ofChange fnExactReverseTextSpec)

/-- ITS FALSE NEIGHBOUR: 'it returns false'. Refute it at one input. -/
def fnExactReverseTextWrong : ChangeSpec := { name := "fnExactReverseText", fn := fun _ => fun
  | [d] => { results := [.lit (.bool false)], args := [d] }
  | _ => none }
def FnExactReverseTextWrongFalsely : Prop := fnExactReverseTextRow.holds Try.pinned (OpenSpec.ofChange fnExactReverseTextWrong)

/-- 'laws.FnExactTranslateText': WHATEVER THE INPUT: true; the input reads as it did. -/
def fnExactTranslateTextSpec : ChangeSpec := { name := "fnExactTranslateText", fn := fun _ => fun
  | [d1, d2, d3] => { results := [.lit (.bool true)], args := [d1, d2, d3] }
  | _ => none }
def fnExactTranslateTextRow : OpenClaim := { program := "ytfbcmfniocomhaa", sum := "fb92d7a41051dda8de7411b9d6cb4bea06cf7fa5eaf07f64ae47bbd3fe31a7ce", func := "loop.example/g00873/laws.FnExactTranslateText", spec := "fnExactTranslateText", apart := false }
def FnExactTranslateTextSaid : Prop := fnExactTranslateTextRow.holds Try.pinned (OpenSpec.ofChange fnExactTranslateTextSpec)

/-- ITS FALSE NEIGHBOUR: 'it returns false'. Refute it at one input. -/
def fnExactTranslateTextWrong : ChangeSpec := { name := "fnExactTranslateText", fn := fun _ => fun
  | [d1, d2, d3] => { results := [.lit (.bool false)], args := [d1, d2, d3] }
  | _ => none }
def FnExactTranslateTextWrongFalsely : Prop := fnExactTranslateTextRow.holds Try.pinned (OpenSpec.ofChange fnExactTranslateTextWrong)

/-- 'laws.FnExactNewMatcher': WHATEVER THE INPUT: true; the input reads as it did. -/
def fnExactNewMatcherSpec : ChangeSpec := { name := "fnExactNewMatcher", fn := fun _ => fun
  | [d1, d2, d3] => { results := [.lit (.bool true)], args := [d1, d2, d3] }
  | _ => none }
def fnExactNewMatcherRow : OpenClaim := { program := "ytfbcmfniocomhaa", sum := "fb92d7a41051dda8de7411b9d6cb4bea06cf7fa5eaf07f64ae47bbd3fe31a7ce", func := "loop.example/g00873/laws.FnExactNewMatcher", spec := "fnExactNewMatcher", unfollowed := true, recurses := true, apart := false }
def FnExactNewMatcherSaid : Prop := fnExactNewMatcherRow.holds Try.pinned (OpenSpec.ofChange fnExactNewMatcherSpec)

/-- ITS FALSE NEIGHBOUR: 'it returns false'. Refute it at one input. -/
def fnExactNewMatcherWrong : ChangeSpec := { name := "fnExactNewMatcher", fn := fun _ => fun
  | [d1, d2, d3] => { results := [.lit (.bool false)], args := [d1, d2, d3] }
  | _ => none }
def FnExactNewMatcherWrongFalsely : Prop := fnExactNewMatcherRow.holds Try.pinned (OpenSpec.ofChange fnExactNewMatcherWrong)

/-- 'laws.FnExactJoinLines': WHATEVER THE INPUT: true; the input reads as it did. -/
def fnExactJoinLinesSpec : ChangeSpec := { name := "fnExactJoinLines", fn := fun _ => fun
  | [d] => { results := [.lit (.bool true)], args := [d] }
  | _ => none }
def fnExactJoinLinesRow : OpenClaim := { program := "ytfbcmfniocomhaa", sum := "fb92d7a41051dda8de7411b9d6cb4bea06cf7fa5eaf07f64ae47bbd3fe31a7ce", func := "loop.example/g00873/laws.FnExactJoinLines", spec := "fnExactJoinLines", inPlace := ["internal/abi.NoEscape"], apart := false }
def FnExactJoinLinesSaid : Prop := fnExactJoinLinesRow.holds Try.pinned (OpenSpec.ofChange fnExactJoinLinesSpec)

/-- ITS FALSE NEIGHBOUR: 'it returns false'. Refute it at one input. -/
def fnExactJoinLinesWrong : ChangeSpec := { name := "fnExactJoinLines", fn := fun _ => fun
  | [d] => { results := [.lit (.bool false)], args := [d] }
  | _ => none }
def FnExactJoinLinesWrongFalsely : Prop := fnExactJoinLinesRow.holds Try.pinned (OpenSpec.ofChange fnExactJoinLinesWrong)

/-- 'laws.FnExactSameExpr': WHATEVER THE INPUT: true; the input reads as it did. -/
def fnExactSameExprSpec : ChangeSpec := { name := "fnExactSameExpr", fn := fun _ => fun
  | [d1, d2] => { results := [.lit (.bool true)], args := [d1, d2] }
  | _ => none }
def fnExactSameExprRow : OpenClaim := { program := "ytfbcmfniocomhaa", sum := "fb92d7a41051dda8de7411b9d6cb4bea06cf7fa5eaf07f64ae47bbd3fe31a7ce", func := "loop.example/g00873/laws.FnExactSameExpr", spec := "fnExactSameExpr", unfollowed := true, recurses := true, loops := true, apart := false }
def FnExactSameExprSaid : Prop := fnExactSameExprRow.holds Try.pinned (OpenSpec.ofChange fnExactSameExprSpec)

/-- ITS FALSE NEIGHBOUR: 'it returns false'. Refute it at one input. -/
def fnExactSameExprWrong : ChangeSpec := { name := "fnExactSameExpr", fn := fun _ => fun
  | [d1, d2] => { results := [.lit (.bool false)], args := [d1, d2] }
  | _ => none }
def FnExactSameExprWrongFalsely : Prop := fnExactSameExprRow.holds Try.pinned (OpenSpec.ofChange fnExactSameExprWrong)

/- THE SECOND FORM. 'bulk': how many values and letters a reading holds, each counted each time it is reached (what is shared counts as often as it is met; a slice's spare places count too). A statement '..UptoSaid' is the law's where the arguments, and the package variables that the reading takes, are together of bulk at most 1048576: NARROWER than '..Said'. Prove '..Said' where nothing that the law and all that it calls make is longer than what came in: it says more and counts as full. Else prove '..UptoSaid'. A law counts once. -/
mutual
def uptoBulk {H : Type} : DataW H → Nat
  | .lit (.string bytes) => bytes.length + 1
  | .lit _ => 1
  | .nil => 1
  | .ptr d => uptoBulk d + 1
  | .slice elems spare => uptoBulkAll elems + uptoBulkAll spare + 1
  | .agg parts => uptoBulkAll parts + 1
  | .iface _ d => uptoBulk d + 1
  | .map entries => uptoBulkEntries entries + 1
  | .held _ => 1
def uptoBulkAll {H : Type} : List (DataW H) → Nat
  | [] => 0
  | d :: r => uptoBulk d + uptoBulkAll r
def uptoBulkEntries {H : Type} : List (Lit × DataW H) → Nat
  | [] => 0
  | x :: r => uptoBulkEntry x + uptoBulkEntries r
def uptoBulkEntry {H : Type} : Lit × DataW H → Nat
  | (.string bytes, d) => bytes.length + uptoBulk d + 1
  | (_, d) => uptoBulk d + 1
 end
def uptoSmall : (H : Type) → List (DataW H) → Bool := fun _ ds => decide (uptoBulkAll ds ≤ 1048576)
def OpenSpec.upto (s : _root_.Go.ChangeSpec) : _root_.Go.OpenSpec := { _root_.Go.OpenSpec.ofChange s with cond := some uptoSmall }

/-- 'laws.FnExactReverseText', WHERE WHAT IT READS IS OF BULK AT MOST 1048576: true; the input reads as it did. -/
def fnExactReverseTextUptoRow : OpenClaim := { program := "ytfbcmfniocomhaa", sum := "fb92d7a41051dda8de7411b9d6cb4bea06cf7fa5eaf07f64ae47bbd3fe31a7ce", func := "loop.example/g00873/laws.FnExactReverseText", spec := "fnExactReverseText", apart := false, narrowed := true }
def FnExactReverseTextUptoSaid : Prop := fnExactReverseTextUptoRow.holds Try.pinned (OpenSpec.upto fnExactReverseTextSpec)

/-- 'laws.FnExactTranslateText', WHERE WHAT IT READS IS OF BULK AT MOST 1048576: true; the input reads as it did. -/
def fnExactTranslateTextUptoRow : OpenClaim := { program := "ytfbcmfniocomhaa", sum := "fb92d7a41051dda8de7411b9d6cb4bea06cf7fa5eaf07f64ae47bbd3fe31a7ce", func := "loop.example/g00873/laws.FnExactTranslateText", spec := "fnExactTranslateText", apart := false, narrowed := true }
def FnExactTranslateTextUptoSaid : Prop := fnExactTranslateTextUptoRow.holds Try.pinned (OpenSpec.upto fnExactTranslateTextSpec)

/-- 'laws.FnExactNewMatcher', WHERE WHAT IT READS IS OF BULK AT MOST 1048576: true; the input reads as it did. -/
def fnExactNewMatcherUptoRow : OpenClaim := { program := "ytfbcmfniocomhaa", sum := "fb92d7a41051dda8de7411b9d6cb4bea06cf7fa5eaf07f64ae47bbd3fe31a7ce", func := "loop.example/g00873/laws.FnExactNewMatcher", spec := "fnExactNewMatcher", unfollowed := true, recurses := true, apart := false, narrowed := true }
def FnExactNewMatcherUptoSaid : Prop := fnExactNewMatcherUptoRow.holds Try.pinned (OpenSpec.upto fnExactNewMatcherSpec)

/-- 'laws.FnExactJoinLines', WHERE WHAT IT READS IS OF BULK AT MOST 1048576: true; the input reads as it did. -/
def fnExactJoinLinesUptoRow : OpenClaim := { program := "ytfbcmfniocomhaa", sum := "fb92d7a41051dda8de7411b9d6cb4bea06cf7fa5eaf07f64ae47bbd3fe31a7ce", func := "loop.example/g00873/laws.FnExactJoinLines", spec := "fnExactJoinLines", inPlace := ["internal/abi.NoEscape"], apart := false, narrowed := true }
def FnExactJoinLinesUptoSaid : Prop := fnExactJoinLinesUptoRow.holds Try.pinned (OpenSpec.upto fnExactJoinLinesSpec)

/-- 'laws.FnExactSameExpr', WHERE WHAT IT READS IS OF BULK AT MOST 1048576: true; the input reads as it did. -/
def fnExactSameExprUptoRow : OpenClaim := { program := "ytfbcmfniocomhaa", sum := "fb92d7a41051dda8de7411b9d6cb4bea06cf7fa5eaf07f64ae47bbd3fe31a7ce", func := "loop.example/g00873/laws.FnExactSameExpr", spec := "fnExactSameExpr", unfollowed := true, recurses := true, loops := true, apart := false, narrowed := true }
def FnExactSameExprUptoSaid : Prop := fnExactSameExprUptoRow.holds Try.pinned (OpenSpec.upto fnExactSameExprSpec)

end Rows
end Go.Proofs.Ytfbcmfniocomhaa
