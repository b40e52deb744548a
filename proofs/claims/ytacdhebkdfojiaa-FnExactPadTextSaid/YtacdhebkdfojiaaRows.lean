/-
  No cell of these rows narrows 'for every input' (looked for: loops, veiled, ifaces, maps, wideKeys, modest, calm, conditions, laid).
  DERIVED. THE GIVEN ROWS OF THIS SEAT. 12 by the template 'for every input the law returns true; each argument reads behind the call as it read before'; 0 by the template 'total and deterministic' (their statements: YtacdhebkdfojiaaTotals.lean).
  GIVEN WITH THE SEED: the statements are not yours to turn. If you find one false, say at which input.
  Laid BY PROGRAM, IN A SANDBOX (cutbox-rows.mjs): the forced cells as the released guide's own fill.sh prints them over the translation b41b127877768c5b… (all of the seat's roots in one cut). By AI agents, Wed Nov 11 2026. No macro, syntax, notation, axiom, sorry.
-/
import Derived.Test.YtacdhebkdfojiaaChecked
import GoSem.Claim
import GoSem.ClaimJoined
import GoSem.ClaimMapViews
import Derived.JoinedTies
import Derived.KernelRfl
namespace Go.Proofs.Ytacdhebkdfojiaa
/- THE CELL 'sum', in the pinned program and in every row, IS THE sha256 OF THE DUMP (.gsa) THAT YtacdhebkdfojiaaProg.lean LOADS. Nothing in Lean hashes anything: it is a label: what it is worth is what the hold of that sum in a sandbox is worth. -/
noncomputable def Try.pinned : Pinned := { name := "ytacdhebkdfojiaa", sum := "b41b127877768c5bcaff11c3d1761181accd07727ca21fd464d672807922cd50", checked := Try.checked }
namespace Rows
def none {H : Type} : Left H := { results := [], args := [] }

/-- 'laws.FnExactStringValue': WHATEVER THE INPUT: true; the input reads as it did. -/
def fnExactStringValueSpec : ChangeSpec := { name := "fnExactStringValue", fn := fun _ => fun
  | [d] => { results := [.lit (.bool true)], args := [d] }
  | _ => none }
def fnExactStringValueRow : OpenClaim := { program := "ytacdhebkdfojiaa", sum := "b41b127877768c5bcaff11c3d1761181accd07727ca21fd464d672807922cd50", func := "loop.example/g00873/laws.FnExactStringValue", spec := "fnExactStringValue", unfollowed := true, recurses := true, apart := false }
def FnExactStringValueSaid : Prop := fnExactStringValueRow.holds Try.pinned (OpenSpec.ofChange fnExactStringValueSpec)

/-- ITS FALSE NEIGHBOUR: 'it returns false'. Refute it at one input. -/
def fnExactStringValueWrong : ChangeSpec := { name := "fnExactStringValue", fn := fun _ => fun
  | [d] => { results := [.lit (.bool false)], args := [d] }
  | _ => none }
def FnExactStringValueWrongFalsely : Prop := fnExactStringValueRow.holds Try.pinned (OpenSpec.ofChange fnExactStringValueWrong)

/-- 'laws.FnExactMatchText': WHATEVER THE INPUT: true; the input reads as it did. -/
def fnExactMatchTextSpec : ChangeSpec := { name := "fnExactMatchText", fn := fun _ => fun
  | [d1, d2] => { results := [.lit (.bool true)], args := [d1, d2] }
  | _ => none }
def fnExactMatchTextRow : OpenClaim := { program := "ytacdhebkdfojiaa", sum := "b41b127877768c5bcaff11c3d1761181accd07727ca21fd464d672807922cd50", func := "loop.example/g00873/laws.FnExactMatchText", spec := "fnExactMatchText", apart := false }
def FnExactMatchTextSaid : Prop := fnExactMatchTextRow.holds Try.pinned (OpenSpec.ofChange fnExactMatchTextSpec)

/-- ITS FALSE NEIGHBOUR: 'it returns false'. Refute it at one input. -/
def fnExactMatchTextWrong : ChangeSpec := { name := "fnExactMatchText", fn := fun _ => fun
  | [d1, d2] => { results := [.lit (.bool false)], args := [d1, d2] }
  | _ => none }
def FnExactMatchTextWrongFalsely : Prop := fnExactMatchTextRow.holds Try.pinned (OpenSpec.ofChange fnExactMatchTextWrong)

/-- 'laws.FnExactIsOperator': WHATEVER THE INPUT: true; the input reads as it did. -/
def fnExactIsOperatorSpec : ChangeSpec := { name := "fnExactIsOperator", fn := fun _ => fun
  | [d] => { results := [.lit (.bool true)], args := [d] }
  | _ => none }
def fnExactIsOperatorRow : OpenClaim := { program := "ytacdhebkdfojiaa", sum := "b41b127877768c5bcaff11c3d1761181accd07727ca21fd464d672807922cd50", func := "loop.example/g00873/laws.FnExactIsOperator", spec := "fnExactIsOperator", inPlace := ["internal/bytealg.IndexByteString", "internal/bytealg.IndexString"], named := ["internal/bytealg.MaxLen"], apart := false }
def FnExactIsOperatorSaid : Prop := fnExactIsOperatorRow.holds Try.pinned (OpenSpec.ofChange fnExactIsOperatorSpec)

/-- ITS FALSE NEIGHBOUR: 'it returns false'. Refute it at one input. -/
def fnExactIsOperatorWrong : ChangeSpec := { name := "fnExactIsOperator", fn := fun _ => fun
  | [d] => { results := [.lit (.bool false)], args := [d] }
  | _ => none }
def FnExactIsOperatorWrongFalsely : Prop := fnExactIsOperatorRow.holds Try.pinned (OpenSpec.ofChange fnExactIsOperatorWrong)

/-- 'laws.FnExactAfterMatch': WHATEVER THE INPUT: true; the input reads as it did. -/
def fnExactAfterMatchSpec : ChangeSpec := { name := "fnExactAfterMatch", fn := fun _ => fun
  | [d1, d2] => { results := [.lit (.bool true)], args := [d1, d2] }
  | _ => none }
def fnExactAfterMatchRow : OpenClaim := { program := "ytacdhebkdfojiaa", sum := "b41b127877768c5bcaff11c3d1761181accd07727ca21fd464d672807922cd50", func := "loop.example/g00873/laws.FnExactAfterMatch", spec := "fnExactAfterMatch", apart := false }
def FnExactAfterMatchSaid : Prop := fnExactAfterMatchRow.holds Try.pinned (OpenSpec.ofChange fnExactAfterMatchSpec)

/-- ITS FALSE NEIGHBOUR: 'it returns false'. Refute it at one input. -/
def fnExactAfterMatchWrong : ChangeSpec := { name := "fnExactAfterMatch", fn := fun _ => fun
  | [d1, d2] => { results := [.lit (.bool false)], args := [d1, d2] }
  | _ => none }
def FnExactAfterMatchWrongFalsely : Prop := fnExactAfterMatchRow.holds Try.pinned (OpenSpec.ofChange fnExactAfterMatchWrong)

/-- 'laws.FnExactBeforeMatch': WHATEVER THE INPUT: true; the input reads as it did. -/
def fnExactBeforeMatchSpec : ChangeSpec := { name := "fnExactBeforeMatch", fn := fun _ => fun
  | [d1, d2] => { results := [.lit (.bool true)], args := [d1, d2] }
  | _ => none }
def fnExactBeforeMatchRow : OpenClaim := { program := "ytacdhebkdfojiaa", sum := "b41b127877768c5bcaff11c3d1761181accd07727ca21fd464d672807922cd50", func := "loop.example/g00873/laws.FnExactBeforeMatch", spec := "fnExactBeforeMatch", apart := false }
def FnExactBeforeMatchSaid : Prop := fnExactBeforeMatchRow.holds Try.pinned (OpenSpec.ofChange fnExactBeforeMatchSpec)

/-- ITS FALSE NEIGHBOUR: 'it returns false'. Refute it at one input. -/
def fnExactBeforeMatchWrong : ChangeSpec := { name := "fnExactBeforeMatch", fn := fun _ => fun
  | [d1, d2] => { results := [.lit (.bool false)], args := [d1, d2] }
  | _ => none }
def FnExactBeforeMatchWrongFalsely : Prop := fnExactBeforeMatchRow.holds Try.pinned (OpenSpec.ofChange fnExactBeforeMatchWrong)

/-- 'laws.FnExactSameMatch': WHATEVER THE INPUT: true; the input reads as it did. -/
def fnExactSameMatchSpec : ChangeSpec := { name := "fnExactSameMatch", fn := fun _ => fun
  | [d1, d2] => { results := [.lit (.bool true)], args := [d1, d2] }
  | _ => none }
def fnExactSameMatchRow : OpenClaim := { program := "ytacdhebkdfojiaa", sum := "b41b127877768c5bcaff11c3d1761181accd07727ca21fd464d672807922cd50", func := "loop.example/g00873/laws.FnExactSameMatch", spec := "fnExactSameMatch", apart := false }
def FnExactSameMatchSaid : Prop := fnExactSameMatchRow.holds Try.pinned (OpenSpec.ofChange fnExactSameMatchSpec)

/-- ITS FALSE NEIGHBOUR: 'it returns false'. Refute it at one input. -/
def fnExactSameMatchWrong : ChangeSpec := { name := "fnExactSameMatch", fn := fun _ => fun
  | [d1, d2] => { results := [.lit (.bool false)], args := [d1, d2] }
  | _ => none }
def FnExactSameMatchWrongFalsely : Prop := fnExactSameMatchRow.holds Try.pinned (OpenSpec.ofChange fnExactSameMatchWrong)

/-- 'laws.FnExactGotoLabels': WHATEVER THE INPUT: true; the input reads as it did. -/
def fnExactGotoLabelsSpec : ChangeSpec := { name := "fnExactGotoLabels", fn := fun _ => fun
  | [d] => { results := [.lit (.bool true)], args := [d] }
  | _ => none }
def fnExactGotoLabelsRow : OpenClaim := { program := "ytacdhebkdfojiaa", sum := "b41b127877768c5bcaff11c3d1761181accd07727ca21fd464d672807922cd50", func := "loop.example/g00873/laws.FnExactGotoLabels", spec := "fnExactGotoLabels", unfollowed := true, recurses := true, apart := false }
def FnExactGotoLabelsSaid : Prop := fnExactGotoLabelsRow.holds Try.pinned (OpenSpec.ofChange fnExactGotoLabelsSpec)

/-- ITS FALSE NEIGHBOUR: 'it returns false'. Refute it at one input. -/
def fnExactGotoLabelsWrong : ChangeSpec := { name := "fnExactGotoLabels", fn := fun _ => fun
  | [d] => { results := [.lit (.bool false)], args := [d] }
  | _ => none }
def FnExactGotoLabelsWrongFalsely : Prop := fnExactGotoLabelsRow.holds Try.pinned (OpenSpec.ofChange fnExactGotoLabelsWrong)

/-- 'laws.FnExactCanQuote': WHATEVER THE INPUT: true; the input reads as it did. -/
def fnExactCanQuoteSpec : ChangeSpec := { name := "fnExactCanQuote", fn := fun _ => fun
  | [d] => { results := [.lit (.bool true)], args := [d] }
  | _ => none }
def fnExactCanQuoteRow : OpenClaim := { program := "ytacdhebkdfojiaa", sum := "b41b127877768c5bcaff11c3d1761181accd07727ca21fd464d672807922cd50", func := "loop.example/g00873/laws.FnExactCanQuote", spec := "fnExactCanQuote", inPlace := ["internal/bytealg.IndexByteString", "internal/bytealg.IndexString"], unfollowed := true, recurses := true, named := ["internal/bytealg.MaxLen"], apart := false }
def FnExactCanQuoteSaid : Prop := fnExactCanQuoteRow.holds Try.pinned (OpenSpec.ofChange fnExactCanQuoteSpec)

/-- ITS FALSE NEIGHBOUR: 'it returns false'. Refute it at one input. -/
def fnExactCanQuoteWrong : ChangeSpec := { name := "fnExactCanQuote", fn := fun _ => fun
  | [d] => { results := [.lit (.bool false)], args := [d] }
  | _ => none }
def FnExactCanQuoteWrongFalsely : Prop := fnExactCanQuoteRow.holds Try.pinned (OpenSpec.ofChange fnExactCanQuoteWrong)

/-- 'laws.FnExactQuoteString': WHATEVER THE INPUT: true; the input reads as it did. -/
def fnExactQuoteStringSpec : ChangeSpec := { name := "fnExactQuoteString", fn := fun _ => fun
  | [d] => { results := [.lit (.bool true)], args := [d] }
  | _ => none }
def fnExactQuoteStringRow : OpenClaim := { program := "ytacdhebkdfojiaa", sum := "b41b127877768c5bcaff11c3d1761181accd07727ca21fd464d672807922cd50", func := "loop.example/g00873/laws.FnExactQuoteString", spec := "fnExactQuoteString", inPlace := ["internal/bytealg.IndexByteString", "internal/bytealg.IndexString"], unfollowed := true, recurses := true, named := ["internal/bytealg.MaxLen"], apart := false }
def FnExactQuoteStringSaid : Prop := fnExactQuoteStringRow.holds Try.pinned (OpenSpec.ofChange fnExactQuoteStringSpec)

/-- ITS FALSE NEIGHBOUR: 'it returns false'. Refute it at one input. -/
def fnExactQuoteStringWrong : ChangeSpec := { name := "fnExactQuoteString", fn := fun _ => fun
  | [d] => { results := [.lit (.bool false)], args := [d] }
  | _ => none }
def FnExactQuoteStringWrongFalsely : Prop := fnExactQuoteStringRow.holds Try.pinned (OpenSpec.ofChange fnExactQuoteStringWrong)

/-- 'laws.FnExactSamePatternCode': WHATEVER THE INPUT: true; the input reads as it did. -/
def fnExactSamePatternCodeSpec : ChangeSpec := { name := "fnExactSamePatternCode", fn := fun _ => fun
  | [d1, d2] => { results := [.lit (.bool true)], args := [d1, d2] }
  | _ => none }
def fnExactSamePatternCodeRow : OpenClaim := { program := "ytacdhebkdfojiaa", sum := "b41b127877768c5bcaff11c3d1761181accd07727ca21fd464d672807922cd50", func := "loop.example/g00873/laws.FnExactSamePatternCode", spec := "fnExactSamePatternCode", apart := false }
def FnExactSamePatternCodeSaid : Prop := fnExactSamePatternCodeRow.holds Try.pinned (OpenSpec.ofChange fnExactSamePatternCodeSpec)

/-- ITS FALSE NEIGHBOUR: 'it returns false'. Refute it at one input. -/
def fnExactSamePatternCodeWrong : ChangeSpec := { name := "fnExactSamePatternCode", fn := fun _ => fun
  | [d1, d2] => { results := [.lit (.bool false)], args := [d1, d2] }
  | _ => none }
def FnExactSamePatternCodeWrongFalsely : Prop := fnExactSamePatternCodeRow.holds Try.pinned (OpenSpec.ofChange fnExactSamePatternCodeWrong)

/-- 'laws.FnExactPadText': WHATEVER THE INPUT: true; the input reads as it did. -/
def fnExactPadTextSpec : ChangeSpec := { name := "fnExactPadText", fn := fun _ => fun
  | [d1, d2, d3, d4] => { results := [.lit (.bool true)], args := [d1, d2, d3, d4] }
  | _ => none }
def fnExactPadTextRow : OpenClaim := { program := "ytacdhebkdfojiaa", sum := "b41b127877768c5bcaff11c3d1761181accd07727ca21fd464d672807922cd50", func := "loop.example/g00873/laws.FnExactPadText", spec := "fnExactPadText", inPlace := ["internal/abi.NoEscape", "internal/bytealg.MakeNoZero"], apart := false }
def FnExactPadTextSaid : Prop := fnExactPadTextRow.holds Try.pinned (OpenSpec.ofChange fnExactPadTextSpec)

/-- ITS FALSE NEIGHBOUR: 'it returns false'. Refute it at one input. -/
def fnExactPadTextWrong : ChangeSpec := { name := "fnExactPadText", fn := fun _ => fun
  | [d1, d2, d3, d4] => { results := [.lit (.bool false)], args := [d1, d2, d3, d4] }
  | _ => none }
def FnExactPadTextWrongFalsely : Prop := fnExactPadTextRow.holds Try.pinned (OpenSpec.ofChange fnExactPadTextWrong)

/-- 'laws.FnExactSameMatches': WHATEVER THE INPUT: true; the input reads as it did. -/
def fnExactSameMatchesSpec : ChangeSpec := { name := "fnExactSameMatches", fn := fun _ => fun
  | [d1, d2] => { results := [.lit (.bool true)], args := [d1, d2] }
  | _ => none }
def fnExactSameMatchesRow : OpenClaim := { program := "ytacdhebkdfojiaa", sum := "b41b127877768c5bcaff11c3d1761181accd07727ca21fd464d672807922cd50", func := "loop.example/g00873/laws.FnExactSameMatches", spec := "fnExactSameMatches", unfollowed := true, recurses := true, apart := false }
def FnExactSameMatchesSaid : Prop := fnExactSameMatchesRow.holds Try.pinned (OpenSpec.ofChange fnExactSameMatchesSpec)

/-- ITS FALSE NEIGHBOUR: 'it returns false'. Refute it at one input. -/
def fnExactSameMatchesWrong : ChangeSpec := { name := "fnExactSameMatches", fn := fun _ => fun
  | [d1, d2] => { results := [.lit (.bool false)], args := [d1, d2] }
  | _ => none }
def FnExactSameMatchesWrongFalsely : Prop := fnExactSameMatchesRow.holds Try.pinned (OpenSpec.ofChange fnExactSameMatchesWrong)

/- THE SECOND FORM. 'bulk': how many values and letters a reading holds, each counted each time it is reached (what is shared counts as often as it is met; a slice's spare places count too). A statement '..UptoSaid' is the law's where the arguments, and the package variables that the reading takes, are together of bulk at most 1048576: NARROWER than '..Said'. Prove '..Said' where nothing that the law and all that it calls make is longer than what came in: it says more and counts as full. Else prove '..UptoSaid'. A law counts once. -/
mutual
def uptoBulk {H : Type} : DataW H → Nat
  | .lit (.string bytes) => bytes.length + 1
  | .lit _ => 1
  | .nil => 1
  | .ptr d => uptoBulk d + 1
  | .slice elems spare => uptoBulkAll elems + uptoBulkAll spare + 1
  | .agg parts => uptoBulkAll parts + 1
  | .iface _ d => uptoBulk d + 1
  | .map entries => uptoBulkEntries entries + 1
  | .held _ => 1
def uptoBulkAll {H : Type} : List (DataW H) → Nat
  | [] => 0
  | d :: r => uptoBulk d + uptoBulkAll r
def uptoBulkEntries {H : Type} : List (Lit × DataW H) → Nat
  | [] => 0
  | x :: r => uptoBulkEntry x + uptoBulkEntries r
def uptoBulkEntry {H : Type} : Lit × DataW H → Nat
  | (.string bytes, d) => bytes.length + uptoBulk d + 1
  | (_, d) => uptoBulk d + 1
 end
def uptoSmall : (H : Type) → List (DataW H) → Bool := fun _ ds => decide (uptoBulkAll ds ≤ 1048576)
def OpenSpec.upto (s : _root_.Go.ChangeSpec) : _root_.Go.OpenSpec := { _root_.Go.OpenSpec.ofChange s with cond := some uptoSmall }

/-- 'laws.FnExactStringValue', WHERE WHAT IT READS IS OF BULK AT MOST 1048576: true; the input reads as it did. -/
def fnExactStringValueUptoRow : OpenClaim := { program := "ytacdhebkdfojiaa", sum := "b41b127877768c5bcaff11c3d1761181accd07727ca21fd464d672807922cd50", func := "loop.example/g00873/laws.FnExactStringValue", spec := "fnExactStringValue", unfollowed := true, recurses := true, apart := false, narrowed := true }
def FnExactStringValueUptoSaid : Prop := fnExactStringValueUptoRow.holds Try.pinned (OpenSpec.upto fnExactStringValueSpec)

/-- 'laws.FnExactMatchText', WHERE WHAT IT READS IS OF BULK AT MOST 1048576: true; the input reads as it did. -/
def fnExactMatchTextUptoRow : OpenClaim := { program := "ytacdhebkdfojiaa", sum := "b41b127877768c5bcaff11c3d1761181accd07727ca21fd464d672807922cd50", func := "loop.example/g00873/laws.FnExactMatchText", spec := "fnExactMatchText", apart := false, narrowed := true }
def FnExactMatchTextUptoSaid : Prop := fnExactMatchTextUptoRow.holds Try.pinned (OpenSpec.upto fnExactMatchTextSpec)

/-- 'laws.FnExactIsOperator', WHERE WHAT IT READS IS OF BULK AT MOST 1048576: true; the input reads as it did. -/
def fnExactIsOperatorUptoRow : OpenClaim := { program := "ytacdhebkdfojiaa", sum := "b41b127877768c5bcaff11c3d1761181accd07727ca21fd464d672807922cd50", func := "loop.example/g00873/laws.FnExactIsOperator", spec := "fnExactIsOperator", inPlace := ["internal/bytealg.IndexByteString", "internal/bytealg.IndexString"], named := ["internal/bytealg.MaxLen"], apart := false, narrowed := true }
def FnExactIsOperatorUptoSaid : Prop := fnExactIsOperatorUptoRow.holds Try.pinned (OpenSpec.upto fnExactIsOperatorSpec)

/-- 'laws.FnExactAfterMatch', WHERE WHAT IT READS IS OF BULK AT MOST 1048576: true; the input reads as it did. -/
def fnExactAfterMatchUptoRow : OpenClaim := { program := "ytacdhebkdfojiaa", sum := "b41b127877768c5bcaff11c3d1761181accd07727ca21fd464d672807922cd50", func := "loop.example/g00873/laws.FnExactAfterMatch", spec := "fnExactAfterMatch", apart := false, narrowed := true }
def FnExactAfterMatchUptoSaid : Prop := fnExactAfterMatchUptoRow.holds Try.pinned (OpenSpec.upto fnExactAfterMatchSpec)

/-- 'laws.FnExactBeforeMatch', WHERE WHAT IT READS IS OF BULK AT MOST 1048576: true; the input reads as it did. -/
def fnExactBeforeMatchUptoRow : OpenClaim := { program := "ytacdhebkdfojiaa", sum := "b41b127877768c5bcaff11c3d1761181accd07727ca21fd464d672807922cd50", func := "loop.example/g00873/laws.FnExactBeforeMatch", spec := "fnExactBeforeMatch", apart := false, narrowed := true }
def FnExactBeforeMatchUptoSaid : Prop := fnExactBeforeMatchUptoRow.holds Try.pinned (OpenSpec.upto fnExactBeforeMatchSpec)

/-- 'laws.FnExactSameMatch', WHERE WHAT IT READS IS OF BULK AT MOST 1048576: true; the input reads as it did. -/
def fnExactSameMatchUptoRow : OpenClaim := { program := "ytacdhebkdfojiaa", sum := "b41b127877768c5bcaff11c3d1761181accd07727ca21fd464d672807922cd50", func := "loop.example/g00873/laws.FnExactSameMatch", spec := "fnExactSameMatch", apart := false, narrowed := true }
def FnExactSameMatchUptoSaid : Prop := fnExactSameMatchUptoRow.holds Try.pinned (OpenSpec.upto fnExactSameMatchSpec)

/-- 'laws.FnExactGotoLabels', WHERE WHAT IT READS IS OF BULK AT MOST 1048576: true; the input reads as it did. -/
def fnExactGotoLabelsUptoRow : OpenClaim := { program := "ytacdhebkdfojiaa", sum := "b41b127877768c5bcaff11c3d1761181accd07727ca21fd464d672807922cd50", func := "loop.example/g00873/laws.FnExactGotoLabels", spec := "fnExactGotoLabels", unfollowed := true, recurses := true, apart := false, narrowed := true }
def FnExactGotoLabelsUptoSaid : Prop := fnExactGotoLabelsUptoRow.holds Try.pinned (OpenSpec.upto fnExactGotoLabelsSpec)

/-- 'laws.FnExactCanQuote', WHERE WHAT IT READS IS OF BULK AT MOST 1048576: true; the input reads as it did. -/
def fnExactCanQuoteUptoRow : OpenClaim := { program := "ytacdhebkdfojiaa", sum := "b41b127877768c5bcaff11c3d1761181accd07727ca21fd464d672807922cd50", func := "loop.example/g00873/laws.FnExactCanQuote", spec := "fnExactCanQuote", inPlace := ["internal/bytealg.IndexByteString", "internal/bytealg.IndexString"], unfollowed := true, recurses := true, named := ["internal/bytealg.MaxLen"], apart := false, narrowed := true }
def FnExactCanQuoteUptoSaid : Prop := fnExactCanQuoteUptoRow.holds Try.pinned (OpenSpec.upto fnExactCanQuoteSpec)

/-- 'laws.FnExactQuoteString', WHERE WHAT IT READS IS OF BULK AT MOST 1048576: true; the input reads as it did. -/
def fnExactQuoteStringUptoRow : OpenClaim := { program := "ytacdhebkdfojiaa", sum := "b41b127877768c5bcaff11c3d1761181accd07727ca21fd464d672807922cd50", func := "loop.example/g00873/laws.FnExactQuoteString", spec := "fnExactQuoteString", inPlace := ["internal/bytealg.IndexByteString", "internal/bytealg.IndexString"], unfollowed := true, recurses := true, named := ["internal/bytealg.MaxLen"], apart := false, narrowed := true }
def FnExactQuoteStringUptoSaid : Prop := fnExactQuoteStringUptoRow.holds Try.pinned (OpenSpec.upto fnExactQuoteStringSpec)

/-- 'laws.FnExactSamePatternCode', WHERE WHAT IT READS IS OF BULK AT MOST 1048576: true; the input reads as it did. -/
def fnExactSamePatternCodeUptoRow : OpenClaim := { program := "ytacdhebkdfojiaa", sum := "b41b127877768c5bcaff11c3d1761181accd07727ca21fd464d672807922cd50", func := "loop.example/g00873/laws.FnExactSamePatternCode", spec := "fnExactSamePatternCode", apart := false, narrowed := true }
def FnExactSamePatternCodeUptoSaid : Prop := fnExactSamePatternCodeUptoRow.holds Try.pinned (OpenSpec.upto fnExactSamePatternCodeSpec)

/-- 'laws.FnExactPadText', WHERE WHAT IT READS IS OF BULK AT MOST 1048576: true; the input reads as it did. -/
def fnExactPadTextUptoRow : OpenClaim := { program := "ytacdhebkdfojiaa", sum := "b41b127877768c5bcaff11c3d1761181accd07727ca21fd464d672807922cd50", func := "loop.example/g00873/laws.FnExactPadText", spec := "fnExactPadText", inPlace := ["internal/abi.NoEscape", "internal/bytealg.MakeNoZero"], apart := false, narrowed := true }
def FnExactPadTextUptoSaid : Prop := fnExactPadTextUptoRow.holds Try.pinned (OpenSpec.upto fnExactPadTextSpec)

/-- 'laws.FnExactSameMatches', WHERE WHAT IT READS IS OF BULK AT MOST 1048576: true; the input reads as it did. -/
def fnExactSameMatchesUptoRow : OpenClaim := { program := "ytacdhebkdfojiaa", sum := "b41b127877768c5bcaff11c3d1761181accd07727ca21fd464d672807922cd50", func := "loop.example/g00873/laws.FnExactSameMatches", spec := "fnExactSameMatches", unfollowed := true, recurses := true, apart := false, narrowed := true }
def FnExactSameMatchesUptoSaid : Prop := fnExactSameMatchesUptoRow.holds Try.pinned (OpenSpec.upto fnExactSameMatchesSpec)

end Rows
end Go.Proofs.Ytacdhebkdfojiaa
