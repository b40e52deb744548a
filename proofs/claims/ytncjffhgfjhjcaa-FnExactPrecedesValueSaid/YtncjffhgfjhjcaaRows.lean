/-
  No cell of these rows narrows 'for every input' (looked for: loops, veiled, ifaces, maps, wideKeys, modest, calm, conditions, laid).
  DERIVED. THE GIVEN ROWS OF THIS SEAT. 11 by the template 'for every input the law returns true; each argument reads behind the call as it read before'; 0 by the template 'total and deterministic' (their statements: YtncjffhgfjhjcaaTotals.lean).
  GIVEN WITH THE SEED: the statements are not yours to turn. If you find one false, say at which input.
  Laid BY PROGRAM, IN A SANDBOX (cutbox-rows.mjs): the forced cells as the released guide's own fill.sh prints them over the translation 33353aac2ae675ff… (all of the seat's roots in one cut). By AI agents, Wed Nov 11 2026. No macro, syntax, notation, axiom, sorry.
-/
import Derived.Test.YtncjffhgfjhjcaaChecked
import GoSem.Claim
import GoSem.ClaimJoined
import GoSem.ClaimMapViews
import Derived.JoinedTies
import Derived.KernelRfl
namespace Go.Proofs.Ytncjffhgfjhjcaa
/- THE CELL 'sum', in the pinned program and in every row, IS THE sha256 OF THE DUMP (.gsa) THAT YtncjffhgfjhjcaaProg.lean LOADS. Nothing in Lean hashes anything: it is a label: what it is worth is what the hold of that sum in a sandbox is worth. -/
noncomputable def Try.pinned : Pinned := { name := "ytncjffhgfjhjcaa", sum := "33353aac2ae675ff5843405b86239d0c630e1d8c25d3ae163df0247b3c2cf511", checked := Try.checked }
namespace Rows
def none {H : Type} : Left H := { results := [], args := [] }

/-- 'laws.FnExactConstants': WHATEVER THE INPUT: true; the input reads as it did. -/
def fnExactConstantsSpec : ChangeSpec := { name := "fnExactConstants", fn := fun _ => fun
  | [] => { results := [.lit (.bool true)], args := [] }
  | _ => none }
def fnExactConstantsRow : OpenClaim := { program := "ytncjffhgfjhjcaa", sum := "33353aac2ae675ff5843405b86239d0c630e1d8c25d3ae163df0247b3c2cf511", func := "loop.example/g00873/laws.FnExactConstants", spec := "fnExactConstants", apart := false }
def FnExactConstantsSaid : Prop := fnExactConstantsRow.holds Try.pinned (OpenSpec.ofChange fnExactConstantsSpec)

/-- ITS FALSE NEIGHBOUR: 'it returns false'. Refute it at one input. -/
def fnExactConstantsWrong : ChangeSpec := { name := "fnExactConstants", fn := fun _ => fun
  | [] => { results := [.lit (.bool false)], args := [] }
  | _ => none }
def FnExactConstantsWrongFalsely : Prop := fnExactConstantsRow.holds Try.pinned (OpenSpec.ofChange fnExactConstantsWrong)

/-- 'laws.FnExactIsComment': WHATEVER THE INPUT: true; the input reads as it did. -/
def fnExactIsCommentSpec : ChangeSpec := { name := "fnExactIsComment", fn := fun _ => fun
  | [d] => { results := [.lit (.bool true)], args := [d] }
  | _ => none }
def fnExactIsCommentRow : OpenClaim := { program := "ytncjffhgfjhjcaa", sum := "33353aac2ae675ff5843405b86239d0c630e1d8c25d3ae163df0247b3c2cf511", func := "loop.example/g00873/laws.FnExactIsComment", spec := "fnExactIsComment", apart := false }
def FnExactIsCommentSaid : Prop := fnExactIsCommentRow.holds Try.pinned (OpenSpec.ofChange fnExactIsCommentSpec)

/-- ITS FALSE NEIGHBOUR: 'it returns false'. Refute it at one input. -/
def fnExactIsCommentWrong : ChangeSpec := { name := "fnExactIsComment", fn := fun _ => fun
  | [d] => { results := [.lit (.bool false)], args := [d] }
  | _ => none }
def FnExactIsCommentWrongFalsely : Prop := fnExactIsCommentRow.holds Try.pinned (OpenSpec.ofChange fnExactIsCommentWrong)

/-- 'laws.FnExactIsContinuation': WHATEVER THE INPUT: true; the input reads as it did. -/
def fnExactIsContinuationSpec : ChangeSpec := { name := "fnExactIsContinuation", fn := fun _ => fun
  | [d] => { results := [.lit (.bool true)], args := [d] }
  | _ => none }
def fnExactIsContinuationRow : OpenClaim := { program := "ytncjffhgfjhjcaa", sum := "33353aac2ae675ff5843405b86239d0c630e1d8c25d3ae163df0247b3c2cf511", func := "loop.example/g00873/laws.FnExactIsContinuation", spec := "fnExactIsContinuation", apart := false }
def FnExactIsContinuationSaid : Prop := fnExactIsContinuationRow.holds Try.pinned (OpenSpec.ofChange fnExactIsContinuationSpec)

/-- ITS FALSE NEIGHBOUR: 'it returns false'. Refute it at one input. -/
def fnExactIsContinuationWrong : ChangeSpec := { name := "fnExactIsContinuation", fn := fun _ => fun
  | [d] => { results := [.lit (.bool false)], args := [d] }
  | _ => none }
def FnExactIsContinuationWrongFalsely : Prop := fnExactIsContinuationRow.holds Try.pinned (OpenSpec.ofChange fnExactIsContinuationWrong)

/-- 'laws.FnExactCodeName': WHATEVER THE INPUT: true; the input reads as it did. -/
def fnExactCodeNameSpec : ChangeSpec := { name := "fnExactCodeName", fn := fun _ => fun
  | [d] => { results := [.lit (.bool true)], args := [d] }
  | _ => none }
def fnExactCodeNameRow : OpenClaim := { program := "ytncjffhgfjhjcaa", sum := "33353aac2ae675ff5843405b86239d0c630e1d8c25d3ae163df0247b3c2cf511", func := "loop.example/g00873/laws.FnExactCodeName", spec := "fnExactCodeName", apart := false }
def FnExactCodeNameSaid : Prop := fnExactCodeNameRow.holds Try.pinned (OpenSpec.ofChange fnExactCodeNameSpec)

/-- ITS FALSE NEIGHBOUR: 'it returns false'. Refute it at one input. -/
def fnExactCodeNameWrong : ChangeSpec := { name := "fnExactCodeName", fn := fun _ => fun
  | [d] => { results := [.lit (.bool false)], args := [d] }
  | _ => none }
def FnExactCodeNameWrongFalsely : Prop := fnExactCodeNameRow.holds Try.pinned (OpenSpec.ofChange fnExactCodeNameWrong)

/-- 'laws.FnExactReverseText': WHATEVER THE INPUT: true; the input reads as it did. -/
def fnExactReverseTextSpec : ChangeSpec := { name := "fnExactReverseText", fn := fun _ => fun
  | [d] => { results := [.lit (.bool true)], args := [d] }
  | _ => none }
def fnExactReverseTextRow : OpenClaim := { program := "ytncjffhgfjhjcaa", sum := "33353aac2ae675ff5843405b86239d0c630e1d8c25d3ae163df0247b3c2cf511", func := "loop.example/g00873/laws.FnExactReverseText", spec := "fnExactReverseText", apart := false }
def FnExactReverseTextSaid : Prop := fnExactReverseTextRow.holds Try.pinned (OpenSpec.ofChange fnExactReverseTextSpec)

/-- ITS FALSE NEIGHBOUR: 'it returns false'. Refute it at one input. -/
def fnExactReverseTextWrong : ChangeSpec := { name := "fnExactReverseText", fn := fun _ => fun
  | [d] => { results := [.lit (.bool false)], args := [d] }
  | _ => none }
def FnExactReverseTextWrongFalsely : Prop := fnExactReverseTextRow.holds Try.pinned (OpenSpec.ofChange fnExactReverseTextWrong)

/-- 'laws.FnExactSameValue': WHATEVER THE INPUT: true; the input reads as it did. -/
def fnExactSameValueSpec : ChangeSpec := { name := "fnExactSameValue", fn := fun _ => fun
  | [d1, d2] => { results := [.lit (.bool true)], args := [d1, d2] }
  | _ => none }
def fnExactSameValueRow : OpenClaim := { program := "ytncjffhgfjhjcaa", sum := "33353aac2ae675ff5843405b86239d0c630e1d8c25d3ae163df0247b3c2cf511", func := "loop.example/g00873/laws.FnExactSameValue", spec := "fnExactSameValue", apart := false }
def FnExactSameValueSaid : Prop := fnExactSameValueRow.holds Try.pinned (OpenSpec.ofChange fnExactSameValueSpec)

/-- ITS FALSE NEIGHBOUR: 'it returns false'. Refute it at one input. -/
def fnExactSameValueWrong : ChangeSpec := { name := "fnExactSameValue", fn := fun _ => fun
  | [d1, d2] => { results := [.lit (.bool false)], args := [d1, d2] }
  | _ => none }
def FnExactSameValueWrongFalsely : Prop := fnExactSameValueRow.holds Try.pinned (OpenSpec.ofChange fnExactSameValueWrong)

/-- 'laws.FnExactIsNull': WHATEVER THE INPUT: true; the input reads as it did. -/
def fnExactIsNullSpec : ChangeSpec := { name := "fnExactIsNull", fn := fun _ => fun
  | [d] => { results := [.lit (.bool true)], args := [d] }
  | _ => none }
def fnExactIsNullRow : OpenClaim := { program := "ytncjffhgfjhjcaa", sum := "33353aac2ae675ff5843405b86239d0c630e1d8c25d3ae163df0247b3c2cf511", func := "loop.example/g00873/laws.FnExactIsNull", spec := "fnExactIsNull", apart := false }
def FnExactIsNullSaid : Prop := fnExactIsNullRow.holds Try.pinned (OpenSpec.ofChange fnExactIsNullSpec)

/-- ITS FALSE NEIGHBOUR: 'it returns false'. Refute it at one input. -/
def fnExactIsNullWrong : ChangeSpec := { name := "fnExactIsNull", fn := fun _ => fun
  | [d] => { results := [.lit (.bool false)], args := [d] }
  | _ => none }
def FnExactIsNullWrongFalsely : Prop := fnExactIsNullRow.holds Try.pinned (OpenSpec.ofChange fnExactIsNullWrong)

/-- 'laws.FnExactIsName': WHATEVER THE INPUT: true; the input reads as it did. -/
def fnExactIsNameSpec : ChangeSpec := { name := "fnExactIsName", fn := fun _ => fun
  | [d] => { results := [.lit (.bool true)], args := [d] }
  | _ => none }
def fnExactIsNameRow : OpenClaim := { program := "ytncjffhgfjhjcaa", sum := "33353aac2ae675ff5843405b86239d0c630e1d8c25d3ae163df0247b3c2cf511", func := "loop.example/g00873/laws.FnExactIsName", spec := "fnExactIsName", unfollowed := true, recurses := true, apart := false }
def FnExactIsNameSaid : Prop := fnExactIsNameRow.holds Try.pinned (OpenSpec.ofChange fnExactIsNameSpec)

/-- ITS FALSE NEIGHBOUR: 'it returns false'. Refute it at one input. -/
def fnExactIsNameWrong : ChangeSpec := { name := "fnExactIsName", fn := fun _ => fun
  | [d] => { results := [.lit (.bool false)], args := [d] }
  | _ => none }
def FnExactIsNameWrongFalsely : Prop := fnExactIsNameRow.holds Try.pinned (OpenSpec.ofChange fnExactIsNameWrong)

/-- 'laws.FnExactIsLabel': WHATEVER THE INPUT: true; the input reads as it did. -/
def fnExactIsLabelSpec : ChangeSpec := { name := "fnExactIsLabel", fn := fun _ => fun
  | [d] => { results := [.lit (.bool true)], args := [d] }
  | _ => none }
def fnExactIsLabelRow : OpenClaim := { program := "ytncjffhgfjhjcaa", sum := "33353aac2ae675ff5843405b86239d0c630e1d8c25d3ae163df0247b3c2cf511", func := "loop.example/g00873/laws.FnExactIsLabel", spec := "fnExactIsLabel", unfollowed := true, recurses := true, apart := false }
def FnExactIsLabelSaid : Prop := fnExactIsLabelRow.holds Try.pinned (OpenSpec.ofChange fnExactIsLabelSpec)

/-- ITS FALSE NEIGHBOUR: 'it returns false'. Refute it at one input. -/
def fnExactIsLabelWrong : ChangeSpec := { name := "fnExactIsLabel", fn := fun _ => fun
  | [d] => { results := [.lit (.bool false)], args := [d] }
  | _ => none }
def FnExactIsLabelWrongFalsely : Prop := fnExactIsLabelRow.holds Try.pinned (OpenSpec.ofChange fnExactIsLabelWrong)

/-- 'laws.FnExactTranslateText': WHATEVER THE INPUT: true; the input reads as it did. -/
def fnExactTranslateTextSpec : ChangeSpec := { name := "fnExactTranslateText", fn := fun _ => fun
  | [d1, d2, d3] => { results := [.lit (.bool true)], args := [d1, d2, d3] }
  | _ => none }
def fnExactTranslateTextRow : OpenClaim := { program := "ytncjffhgfjhjcaa", sum := "33353aac2ae675ff5843405b86239d0c630e1d8c25d3ae163df0247b3c2cf511", func := "loop.example/g00873/laws.FnExactTranslateText", spec := "fnExactTranslateText", apart := false }
def FnExactTranslateTextSaid : Prop := fnExactTranslateTextRow.holds Try.pinned (OpenSpec.ofChange fnExactTranslateTextSpec)

/-- ITS FALSE NEIGHBOUR: 'it returns false'. Refute it at one input. -/
def fnExactTranslateTextWrong : ChangeSpec := { name := "fnExactTranslateText", fn := fun _ => fun
  | [d1, d2, d3] => { results := [.lit (.bool false)], args := [d1, d2, d3] }
  | _ => none }
def FnExactTranslateTextWrongFalsely : Prop := fnExactTranslateTextRow.holds Try.pinned (OpenSpec.ofChange fnExactTranslateTextWrong)

/-- 'laws.FnExactPrecedesValue': WHATEVER THE INPUT: true; the input reads as it did. -/
def fnExactPrecedesValueSpec : ChangeSpec := { name := "fnExactPrecedesValue", fn := fun _ => fun
  | [d1, d2] => { results := [.lit (.bool true)], args := [d1, d2] }
  | _ => none }
def fnExactPrecedesValueRow : OpenClaim := { program := "ytncjffhgfjhjcaa", sum := "33353aac2ae675ff5843405b86239d0c630e1d8c25d3ae163df0247b3c2cf511", func := "loop.example/g00873/laws.FnExactPrecedesValue", spec := "fnExactPrecedesValue", apart := false }
def FnExactPrecedesValueSaid : Prop := fnExactPrecedesValueRow.holds Try.pinned (OpenSpec.ofChange fnExactPrecedesValueSpec)

/-- ITS FALSE NEIGHBOUR: 'it returns false'. Refute it at one input. -/
def fnExactPrecedesValueWrong : ChangeSpec := { name := "fnExactPrecedesValue", fn := fun _ => fun
  | [d1, d2] => { results := [.lit (.bool false)], args := [d1, d2] }
  | _ => none }
def FnExactPrecedesValueWrongFalsely : Prop := fnExactPrecedesValueRow.holds Try.pinned (OpenSpec.ofChange fnExactPrecedesValueWrong)

/- THE SECOND FORM. 'bulk': how many values and letters a reading holds, each counted each time it is reached (what is shared counts as often as it is met; a slice's spare places count too). A statement '..UptoSaid' is the law's where the arguments, and the package variables that the reading takes, are together of bulk at most 1048576: NARROWER than '..Said'. Prove '..Said' where nothing that the law and all that it calls make is longer than what came in: it says more and counts as full. Else prove '..UptoSaid'. A law counts once. -/
mutual
def uptoBulk {H : Type} : DataW H → Nat
  | .lit (.string bytes) => bytes.length + 1
  | .lit _ => 1
  | .nil => 1
  | .ptr d => uptoBulk d + 1
  | .slice elems spare => uptoBulkAll elems + uptoBulkAll spare + 1
  | .agg parts => uptoBulkAll parts + 1
  | .iface _ d => uptoBulk d + 1
  | .map entries => uptoBulkEntries entries + 1
  | .held _ => 1
def uptoBulkAll {H : Type} : List (DataW H) → Nat
  | [] => 0
  | d :: r => uptoBulk d + uptoBulkAll r
def uptoBulkEntries {H : Type} : List (Lit × DataW H) → Nat
  | [] => 0
  | x :: r => uptoBulkEntry x + uptoBulkEntries r
def uptoBulkEntry {H : Type} : Lit × DataW H → Nat
  | (.string bytes, d) => bytes.length + uptoBulk d + 1
  | (_, d) => uptoBulk d + 1
 end
def uptoSmall : (H : Type) → List (DataW H) → Bool := fun _ ds => decide (uptoBulkAll ds ≤ 1048576)
def OpenSpec.upto (s : _root_.Go.ChangeSpec) : _root_.Go.OpenSpec := { _root_.Go.OpenSpec.ofChange s with cond := some uptoSmall }

/-- 'laws.FnExactConstants', WHERE WHAT IT READS IS OF BULK AT MOST 1048576: true; the input reads as it did. -/
def fnExactConstantsUptoRow : OpenClaim := { program := "ytncjffhgfjhjcaa", sum := "33353aac2ae675ff5843405b86239d0c630e1d8c25d3ae163df0247b3c2cf511", func := "loop.example/g00873/laws.FnExactConstants", spec := "fnExactConstants", apart := false, narrowed := true }
def FnExactConstantsUptoSaid : Prop := fnExactConstantsUptoRow.holds Try.pinned (OpenSpec.upto fnExactConstantsSpec)

/-- 'laws.FnExactIsComment', WHERE WHAT IT READS IS OF BULK AT MOST 1048576: true; the input reads as it did. -/
def fnExactIsCommentUptoRow : OpenClaim := { program := "ytncjffhgfjhjcaa", sum := "33353aac2ae675ff5843405b86239d0c630e1d8c25d3ae163df0247b3c2cf511", func := "loop.example/g00873/laws.FnExactIsComment", spec := "fnExactIsComment", apart := false, narrowed := true }
def FnExactIsCommentUptoSaid : Prop := fnExactIsCommentUptoRow.holds Try.pinned (OpenSpec.upto fnExactIsCommentSpec)

/-- 'laws.FnExactIsContinuation', WHERE WHAT IT READS IS OF BULK AT MOST 1048576: true; the input reads as it did. -/
def fnExactIsContinuationUptoRow : OpenClaim := { program := "ytncjffhgfjhjcaa", sum := "33353aac2ae675ff5843405b86239d0c630e1d8c25d3ae163df0247b3c2cf511", func := "loop.example/g00873/laws.FnExactIsContinuation", spec := "fnExactIsContinuation", apart := false, narrowed := true }
def FnExactIsContinuationUptoSaid : Prop := fnExactIsContinuationUptoRow.holds Try.pinned (OpenSpec.upto fnExactIsContinuationSpec)

/-- 'laws.FnExactCodeName', WHERE WHAT IT READS IS OF BULK AT MOST 1048576: true; the input reads as it did. -/
def fnExactCodeNameUptoRow : OpenClaim := { program := "ytncjffhgfjhjcaa", sum := "33353aac2ae675ff5843405b86239d0c630e1d8c25d3ae163df0247b3c2cf511", func := "loop.example/g00873/laws.FnExactCodeName", spec := "fnExactCodeName", apart := false, narrowed := true }
def FnExactCodeNameUptoSaid : Prop := fnExactCodeNameUptoRow.holds Try.pinned (OpenSpec.upto fnExactCodeNameSpec)

/-- 'laws.FnExactReverseText', WHERE WHAT IT READS IS OF BULK AT MOST 1048576: true; the input reads as it did. -/
def fnExactReverseTextUptoRow : OpenClaim := { program := "ytncjffhgfjhjcaa", sum := "33353aac2ae675ff5843405b86239d0c630e1d8c25d3ae163df0247b3c2cf511", func := "loop.example/g00873/laws.FnExactReverseText", spec := "fnExactReverseText", apart := false, narrowed := true }
def FnExactReverseTextUptoSaid : Prop := fnExactReverseTextUptoRow.holds Try.pinned (OpenSpec.upto fnExactReverseTextSpec)

/-- 'laws.FnExactSameValue', WHERE WHAT IT READS IS OF BULK AT MOST 1048576: true; the input reads as it did. -/
def fnExactSameValueUptoRow : OpenClaim := { program := "ytncjffhgfjhjcaa", sum := "33353aac2ae675ff5843405b86239d0c630e1d8c25d3ae163df0247b3c2cf511", func := "loop.example/g00873/laws.FnExactSameValue", spec := "fnExactSameValue", apart := false, narrowed := true }
def FnExactSameValueUptoSaid : Prop := fnExactSameValueUptoRow.holds Try.pinned (OpenSpec.upto fnExactSameValueSpec)

/-- 'laws.FnExactIsNull', WHERE WHAT IT READS IS OF BULK AT MOST 1048576: true; the input reads as it did. -/
def fnExactIsNullUptoRow : OpenClaim := { program := "ytncjffhgfjhjcaa", sum := "33353aac2ae675ff5843405b86239d0c630e1d8c25d3ae163df0247b3c2cf511", func := "loop.example/g00873/laws.FnExactIsNull", spec := "fnExactIsNull", apart := false, narrowed := true }
def FnExactIsNullUptoSaid : Prop := fnExactIsNullUptoRow.holds Try.pinned (OpenSpec.upto fnExactIsNullSpec)

/-- 'laws.FnExactIsName', WHERE WHAT IT READS IS OF BULK AT MOST 1048576: true; the input reads as it did. -/
def fnExactIsNameUptoRow : OpenClaim := { program := "ytncjffhgfjhjcaa", sum := "33353aac2ae675ff5843405b86239d0c630e1d8c25d3ae163df0247b3c2cf511", func := "loop.example/g00873/laws.FnExactIsName", spec := "fnExactIsName", unfollowed := true, recurses := true, apart := false, narrowed := true }
def FnExactIsNameUptoSaid : Prop := fnExactIsNameUptoRow.holds Try.pinned (OpenSpec.upto fnExactIsNameSpec)

/-- 'laws.FnExactIsLabel', WHERE WHAT IT READS IS OF BULK AT MOST 1048576: true; the input reads as it did. -/
def fnExactIsLabelUptoRow : OpenClaim := { program := "ytncjffhgfjhjcaa", sum := "33353aac2ae675ff5843405b86239d0c630e1d8c25d3ae163df0247b3c2cf511", func := "loop.example/g00873/laws.FnExactIsLabel", spec := "fnExactIsLabel", unfollowed := true, recurses := true, apart := false, narrowed := true }
def FnExactIsLabelUptoSaid : Prop := fnExactIsLabelUptoRow.holds Try.pinned (OpenSpec.upto fnExactIsLabelSpec)

/-- 'laws.FnExactTranslateText', WHERE WHAT IT READS IS OF BULK AT MOST 1048576: true; the input reads as it did. -/
def fnExactTranslateTextUptoRow : OpenClaim := { program := "ytncjffhgfjhjcaa", sum := "33353aac2ae675ff5843405b86239d0c630e1d8c25d3ae163df0247b3c2cf511", func := "loop.example/g00873/laws.FnExactTranslateText", spec := "fnExactTranslateText", apart := false, narrowed := true }
def FnExactTranslateTextUptoSaid : Prop := fnExactTranslateTextUptoRow.holds Try.pinned (OpenSpec.upto fnExactTranslateTextSpec)

/-- 'laws.FnExactPrecedesValue', WHERE WHAT IT READS IS OF BULK AT MOST 1048576: true; the input reads as it did. -/
def fnExactPrecedesValueUptoRow : OpenClaim := { program := "ytncjffhgfjhjcaa", sum := "33353aac2ae675ff5843405b86239d0c630e1d8c25d3ae163df0247b3c2cf511", func := "loop.example/g00873/laws.FnExactPrecedesValue", spec := "fnExactPrecedesValue", apart := false, narrowed := true }
def FnExactPrecedesValueUptoSaid : Prop := fnExactPrecedesValueUptoRow.holds Try.pinned (OpenSpec.upto fnExactPrecedesValueSpec)

end Rows
end Go.Proofs.Ytncjffhgfjhjcaa
