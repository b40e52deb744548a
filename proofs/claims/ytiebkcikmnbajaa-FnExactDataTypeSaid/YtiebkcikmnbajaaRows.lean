/-
  NARROWER THAN 'FOR EVERY INPUT', by the rows' own cells (each row's printed sentence says how): FnExactCountNodes: loops · FnExactSamePattern: loops · FnExactSameExpr: loops.
  DERIVED. THE GIVEN ROWS OF THIS SEAT. 11 by the template 'for every input the law returns true; each argument reads behind the call as it read before'; 0 by the template 'total and deterministic' (their statements: YtiebkcikmnbajaaTotals.lean).
  GIVEN WITH THE SEED: the statements are not yours to turn. If you find one false, say at which input.
  Laid BY PROGRAM, IN A SANDBOX (cutbox-rows.mjs): the forced cells as the released guide's own fill.sh prints them over the translation 19abd42f415e46d9… (all of the seat's roots in one cut). By AI agents, Wed Nov 11 2026. No macro, syntax, notation, axiom, sorry.
-/
import Derived.Test.YtiebkcikmnbajaaChecked
import GoSem.Claim
import GoSem.ClaimJoined
import GoSem.ClaimMapViews
import Derived.JoinedTies
import Derived.KernelRfl
namespace Go.Proofs.Ytiebkcikmnbajaa
/- THE CELL 'sum', in the pinned program and in every row, IS THE sha256 OF THE DUMP (.gsa) THAT YtiebkcikmnbajaaProg.lean LOADS. Nothing in Lean hashes anything: it is a label: what it is worth is what the hold of that sum in a sandbox is worth. -/
noncomputable def Try.pinned : Pinned := { name := "ytiebkcikmnbajaa", sum := "19abd42f415e46d9be8a419900865d9bf62988fb49e9db7ba17652ffce0583db", checked := Try.checked }
namespace Rows
def none {H : Type} : Left H := { results := [], args := [] }

/-- 'laws.FnExactValidGoto': WHATEVER THE INPUT: true; the input reads as it did. -/
def fnExactValidGotoSpec : ChangeSpec := { name := "fnExactValidGoto", fn := fun _ => fun
  | [d] => { results := [.lit (.bool true)], args := [d] }
  | _ => none }
def fnExactValidGotoRow : OpenClaim := { program := "ytiebkcikmnbajaa", sum := "19abd42f415e46d9be8a419900865d9bf62988fb49e9db7ba17652ffce0583db", func := "loop.example/g00873/laws.FnExactValidGoto", spec := "fnExactValidGoto", unfollowed := true, recurses := true, apart := false }
def FnExactValidGotoSaid : Prop := fnExactValidGotoRow.holds Try.pinned (OpenSpec.ofChange fnExactValidGotoSpec)

/-- ITS FALSE NEIGHBOUR: 'it returns false'. Refute it at one input. -/
def fnExactValidGotoWrong : ChangeSpec := { name := "fnExactValidGoto", fn := fun _ => fun
  | [d] => { results := [.lit (.bool false)], args := [d] }
  | _ => none }
def FnExactValidGotoWrongFalsely : Prop := fnExactValidGotoRow.holds Try.pinned (OpenSpec.ofChange fnExactValidGotoWrong)

/-- 'laws.FnExactSplitStatements': WHATEVER THE INPUT: true; the input reads as it did. -/
def fnExactSplitStatementsSpec : ChangeSpec := { name := "fnExactSplitStatements", fn := fun _ => fun
  | [d] => { results := [.lit (.bool true)], args := [d] }
  | _ => none }
def fnExactSplitStatementsRow : OpenClaim := { program := "ytiebkcikmnbajaa", sum := "19abd42f415e46d9be8a419900865d9bf62988fb49e9db7ba17652ffce0583db", func := "loop.example/g00873/laws.FnExactSplitStatements", spec := "fnExactSplitStatements", apart := false }
def FnExactSplitStatementsSaid : Prop := fnExactSplitStatementsRow.holds Try.pinned (OpenSpec.ofChange fnExactSplitStatementsSpec)

/-- ITS FALSE NEIGHBOUR: 'it returns false'. Refute it at one input. -/
def fnExactSplitStatementsWrong : ChangeSpec := { name := "fnExactSplitStatements", fn := fun _ => fun
  | [d] => { results := [.lit (.bool false)], args := [d] }
  | _ => none }
def FnExactSplitStatementsWrongFalsely : Prop := fnExactSplitStatementsRow.holds Try.pinned (OpenSpec.ofChange fnExactSplitStatementsWrong)

/-- 'laws.FnExactValidValue': WHATEVER THE INPUT: true; the input reads as it did. -/
def fnExactValidValueSpec : ChangeSpec := { name := "fnExactValidValue", fn := fun _ => fun
  | [d] => { results := [.lit (.bool true)], args := [d] }
  | _ => none }
def fnExactValidValueRow : OpenClaim := { program := "ytiebkcikmnbajaa", sum := "19abd42f415e46d9be8a419900865d9bf62988fb49e9db7ba17652ffce0583db", func := "loop.example/g00873/laws.FnExactValidValue", spec := "fnExactValidValue", unfollowed := true, recurses := true, apart := false }
def FnExactValidValueSaid : Prop := fnExactValidValueRow.holds Try.pinned (OpenSpec.ofChange fnExactValidValueSpec)

/-- ITS FALSE NEIGHBOUR: 'it returns false'. Refute it at one input. -/
def fnExactValidValueWrong : ChangeSpec := { name := "fnExactValidValue", fn := fun _ => fun
  | [d] => { results := [.lit (.bool false)], args := [d] }
  | _ => none }
def FnExactValidValueWrongFalsely : Prop := fnExactValidValueRow.holds Try.pinned (OpenSpec.ofChange fnExactValidValueWrong)

/-- 'laws.FnExactNewMatcher': WHATEVER THE INPUT: true; the input reads as it did. -/
def fnExactNewMatcherSpec : ChangeSpec := { name := "fnExactNewMatcher", fn := fun _ => fun
  | [d1, d2, d3] => { results := [.lit (.bool true)], args := [d1, d2, d3] }
  | _ => none }
def fnExactNewMatcherRow : OpenClaim := { program := "ytiebkcikmnbajaa", sum := "19abd42f415e46d9be8a419900865d9bf62988fb49e9db7ba17652ffce0583db", func := "loop.example/g00873/laws.FnExactNewMatcher", spec := "fnExactNewMatcher", unfollowed := true, recurses := true, apart := false }
def FnExactNewMatcherSaid : Prop := fnExactNewMatcherRow.holds Try.pinned (OpenSpec.ofChange fnExactNewMatcherSpec)

/-- ITS FALSE NEIGHBOUR: 'it returns false'. Refute it at one input. -/
def fnExactNewMatcherWrong : ChangeSpec := { name := "fnExactNewMatcher", fn := fun _ => fun
  | [d1, d2, d3] => { results := [.lit (.bool false)], args := [d1, d2, d3] }
  | _ => none }
def FnExactNewMatcherWrongFalsely : Prop := fnExactNewMatcherRow.holds Try.pinned (OpenSpec.ofChange fnExactNewMatcherWrong)

/-- 'laws.FnExactCountNodes': WHATEVER THE INPUT: true; the input reads as it did. -/
def fnExactCountNodesSpec : ChangeSpec := { name := "fnExactCountNodes", fn := fun _ => fun
  | [d] => { results := [.lit (.bool true)], args := [d] }
  | _ => none }
def fnExactCountNodesRow : OpenClaim := { program := "ytiebkcikmnbajaa", sum := "19abd42f415e46d9be8a419900865d9bf62988fb49e9db7ba17652ffce0583db", func := "loop.example/g00873/laws.FnExactCountNodes", spec := "fnExactCountNodes", recurses := true, loops := true, apart := false }
def FnExactCountNodesSaid : Prop := fnExactCountNodesRow.holds Try.pinned (OpenSpec.ofChange fnExactCountNodesSpec)

/-- ITS FALSE NEIGHBOUR: 'it returns false'. Refute it at one input. -/
def fnExactCountNodesWrong : ChangeSpec := { name := "fnExactCountNodes", fn := fun _ => fun
  | [d] => { results := [.lit (.bool false)], args := [d] }
  | _ => none }
def FnExactCountNodesWrongFalsely : Prop := fnExactCountNodesRow.holds Try.pinned (OpenSpec.ofChange fnExactCountNodesWrong)

/-- 'laws.FnExactIsReference': WHATEVER THE INPUT: true; the input reads as it did. -/
def fnExactIsReferenceSpec : ChangeSpec := { name := "fnExactIsReference", fn := fun _ => fun
  | [d] => { results := [.lit (.bool true)], args := [d] }
  | _ => none }
def fnExactIsReferenceRow : OpenClaim := { program := "ytiebkcikmnbajaa", sum := "19abd42f415e46d9be8a419900865d9bf62988fb49e9db7ba17652ffce0583db", func := "loop.example/g00873/laws.FnExactIsReference", spec := "fnExactIsReference", unfollowed := true, recurses := true, apart := false }
def FnExactIsReferenceSaid : Prop := fnExactIsReferenceRow.holds Try.pinned (OpenSpec.ofChange fnExactIsReferenceSpec)

/-- ITS FALSE NEIGHBOUR: 'it returns false'. Refute it at one input. -/
def fnExactIsReferenceWrong : ChangeSpec := { name := "fnExactIsReference", fn := fun _ => fun
  | [d] => { results := [.lit (.bool false)], args := [d] }
  | _ => none }
def FnExactIsReferenceWrongFalsely : Prop := fnExactIsReferenceRow.holds Try.pinned (OpenSpec.ofChange fnExactIsReferenceWrong)

/-- 'laws.FnExactSamePattern': WHATEVER THE INPUT: true; the input reads as it did. -/
def fnExactSamePatternSpec : ChangeSpec := { name := "fnExactSamePattern", fn := fun _ => fun
  | [d1, d2] => { results := [.lit (.bool true)], args := [d1, d2] }
  | _ => none }
def fnExactSamePatternRow : OpenClaim := { program := "ytiebkcikmnbajaa", sum := "19abd42f415e46d9be8a419900865d9bf62988fb49e9db7ba17652ffce0583db", func := "loop.example/g00873/laws.FnExactSamePattern", spec := "fnExactSamePattern", unfollowed := true, recurses := true, loops := true, apart := false }
def FnExactSamePatternSaid : Prop := fnExactSamePatternRow.holds Try.pinned (OpenSpec.ofChange fnExactSamePatternSpec)

/-- ITS FALSE NEIGHBOUR: 'it returns false'. Refute it at one input. -/
def fnExactSamePatternWrong : ChangeSpec := { name := "fnExactSamePattern", fn := fun _ => fun
  | [d1, d2] => { results := [.lit (.bool false)], args := [d1, d2] }
  | _ => none }
def FnExactSamePatternWrongFalsely : Prop := fnExactSamePatternRow.holds Try.pinned (OpenSpec.ofChange fnExactSamePatternWrong)

/-- 'laws.FnExactJoinLines': WHATEVER THE INPUT: true; the input reads as it did. -/
def fnExactJoinLinesSpec : ChangeSpec := { name := "fnExactJoinLines", fn := fun _ => fun
  | [d] => { results := [.lit (.bool true)], args := [d] }
  | _ => none }
def fnExactJoinLinesRow : OpenClaim := { program := "ytiebkcikmnbajaa", sum := "19abd42f415e46d9be8a419900865d9bf62988fb49e9db7ba17652ffce0583db", func := "loop.example/g00873/laws.FnExactJoinLines", spec := "fnExactJoinLines", inPlace := ["internal/abi.NoEscape"], apart := false }
def FnExactJoinLinesSaid : Prop := fnExactJoinLinesRow.holds Try.pinned (OpenSpec.ofChange fnExactJoinLinesSpec)

/-- ITS FALSE NEIGHBOUR: 'it returns false'. Refute it at one input. -/
def fnExactJoinLinesWrong : ChangeSpec := { name := "fnExactJoinLines", fn := fun _ => fun
  | [d] => { results := [.lit (.bool false)], args := [d] }
  | _ => none }
def FnExactJoinLinesWrongFalsely : Prop := fnExactJoinLinesRow.holds Try.pinned (OpenSpec.ofChange fnExactJoinLinesWrong)

/-- 'laws.FnExactSameExpr': WHATEVER THE INPUT: true; the input reads as it did. -/
def fnExactSameExprSpec : ChangeSpec := { name := "fnExactSameExpr", fn := fun _ => fun
  | [d1, d2] => { results := [.lit (.bool true)], args := [d1, d2] }
  | _ => none }
def fnExactSameExprRow : OpenClaim := { program := "ytiebkcikmnbajaa", sum := "19abd42f415e46d9be8a419900865d9bf62988fb49e9db7ba17652ffce0583db", func := "loop.example/g00873/laws.FnExactSameExpr", spec := "fnExactSameExpr", unfollowed := true, recurses := true, loops := true, apart := false }
def FnExactSameExprSaid : Prop := fnExactSameExprRow.holds Try.pinned (OpenSpec.ofChange fnExactSameExprSpec)

/-- ITS FALSE NEIGHBOUR: 'it returns false'. Refute it at one input. -/
def fnExactSameExprWrong : ChangeSpec := { name := "fnExactSameExpr", fn := fun _ => fun
  | [d1, d2] => { results := [.lit (.bool false)], args := [d1, d2] }
  | _ => none }
def FnExactSameExprWrongFalsely : Prop := fnExactSameExprRow.holds Try.pinned (OpenSpec.ofChange fnExactSameExprWrong)

/-- 'laws.FnExactDataType': WHATEVER THE INPUT: true; the input reads as it did. -/
def fnExactDataTypeSpec : ChangeSpec := { name := "fnExactDataType", fn := fun _ => fun
  | [d] => { results := [.lit (.bool true)], args := [d] }
  | _ => none }
def fnExactDataTypeRow : OpenClaim := { program := "ytiebkcikmnbajaa", sum := "19abd42f415e46d9be8a419900865d9bf62988fb49e9db7ba17652ffce0583db", func := "loop.example/g00873/laws.FnExactDataType", spec := "fnExactDataType", unfollowed := true, recurses := true, apart := false }
def FnExactDataTypeSaid : Prop := fnExactDataTypeRow.holds Try.pinned (OpenSpec.ofChange fnExactDataTypeSpec)

/-- ITS FALSE NEIGHBOUR: 'it returns false'. Refute it at one input. -/
def fnExactDataTypeWrong : ChangeSpec := { name := "fnExactDataType", fn := fun _ => fun
  | [d] => { results := [.lit (.bool false)], args := [d] }
  | _ => none }
def FnExactDataTypeWrongFalsely : Prop := fnExactDataTypeRow.holds Try.pinned (OpenSpec.ofChange fnExactDataTypeWrong)

/-- 'laws.FnExactIntegerValue': WHATEVER THE INPUT: true; the input reads as it did. -/
def fnExactIntegerValueSpec : ChangeSpec := { name := "fnExactIntegerValue", fn := fun _ => fun
  | [d] => { results := [.lit (.bool true)], args := [d] }
  | _ => none }
def fnExactIntegerValueRow : OpenClaim := { program := "ytiebkcikmnbajaa", sum := "19abd42f415e46d9be8a419900865d9bf62988fb49e9db7ba17652ffce0583db", func := "loop.example/g00873/laws.FnExactIntegerValue", spec := "fnExactIntegerValue", unfollowed := true, recurses := true, apart := false }
def FnExactIntegerValueSaid : Prop := fnExactIntegerValueRow.holds Try.pinned (OpenSpec.ofChange fnExactIntegerValueSpec)

/-- ITS FALSE NEIGHBOUR: 'it returns false'. Refute it at one input. -/
def fnExactIntegerValueWrong : ChangeSpec := { name := "fnExactIntegerValue", fn := fun _ => fun
  | [d] => { results := [.lit (.bool false)], args := [d] }
  | _ => none }
def FnExactIntegerValueWrongFalsely : Prop := fnExactIntegerValueRow.holds Try.pinned (OpenSpec.ofChange fnExactIntegerValueWrong)

/- THE SECOND FORM. 'bulk': how many values and letters a reading holds, each counted each time it is reached (what is shared counts as often as it is met; a slice's spare places count too). A statement '..UptoSaid' is the law's where the arguments, and the package variables that the reading takes, are together of bulk at most 1048576: NARROWER than '..Said'. Prove '..Said' where nothing that the law and all that it calls make is longer than what came in: it says more and counts as full. Else prove '..UptoSaid'. A law counts once. -/
mutual
def uptoBulk {H : Type} : DataW H → Nat
  | .lit (.string bytes) => bytes.length + 1
  | .lit _ => 1
  | .nil => 1
  | .ptr d => uptoBulk d + 1
  | .slice elems spare => uptoBulkAll elems + uptoBulkAll spare + 1
  | .agg parts => uptoBulkAll parts + 1
  | .iface _ d => uptoBulk d + 1
  | .map entries => uptoBulkEntries entries + 1
  | .held _ => 1
def uptoBulkAll {H : Type} : List (DataW H) → Nat
  | [] => 0
  | d :: r => uptoBulk d + uptoBulkAll r
def uptoBulkEntries {H : Type} : List (Lit × DataW H) → Nat
  | [] => 0
  | x :: r => uptoBulkEntry x + uptoBulkEntries r
def uptoBulkEntry {H : Type} : Lit × DataW H → Nat
  | (.string bytes, d) => bytes.length + uptoBulk d + 1
  | (_, d) => uptoBulk d + 1
 end
def uptoSmall : (H : Type) → List (DataW H) → Bool := fun _ ds => decide (uptoBulkAll ds ≤ 1048576)
def OpenSpec.upto (s : _root_.Go.ChangeSpec) : _root_.Go.OpenSpec := { _root_.Go.OpenSpec.ofChange s with cond := some uptoSmall }

/-- 'laws.FnExactValidGoto', WHERE WHAT IT READS IS OF BULK AT MOST 1048576: true; the input reads as it did. -/
def fnExactValidGotoUptoRow : OpenClaim := { program := "ytiebkcikmnbajaa", sum := "19abd42f415e46d9be8a419900865d9bf62988fb49e9db7ba17652ffce0583db", func := "loop.example/g00873/laws.FnExactValidGoto", spec := "fnExactValidGoto", unfollowed := true, recurses := true, apart := false, narrowed := true }
def FnExactValidGotoUptoSaid : Prop := fnExactValidGotoUptoRow.holds Try.pinned (OpenSpec.upto fnExactValidGotoSpec)

/-- 'laws.FnExactSplitStatements', WHERE WHAT IT READS IS OF BULK AT MOST 1048576: true; the input reads as it did. -/
def fnExactSplitStatementsUptoRow : OpenClaim := { program := "ytiebkcikmnbajaa", sum := "19abd42f415e46d9be8a419900865d9bf62988fb49e9db7ba17652ffce0583db", func := "loop.example/g00873/laws.FnExactSplitStatements", spec := "fnExactSplitStatements", apart := false, narrowed := true }
def FnExactSplitStatementsUptoSaid : Prop := fnExactSplitStatementsUptoRow.holds Try.pinned (OpenSpec.upto fnExactSplitStatementsSpec)

/-- 'laws.FnExactValidValue', WHERE WHAT IT READS IS OF BULK AT MOST 1048576: true; the input reads as it did. -/
def fnExactValidValueUptoRow : OpenClaim := { program := "ytiebkcikmnbajaa", sum := "19abd42f415e46d9be8a419900865d9bf62988fb49e9db7ba17652ffce0583db", func := "loop.example/g00873/laws.FnExactValidValue", spec := "fnExactValidValue", unfollowed := true, recurses := true, apart := false, narrowed := true }
def FnExactValidValueUptoSaid : Prop := fnExactValidValueUptoRow.holds Try.pinned (OpenSpec.upto fnExactValidValueSpec)

/-- 'laws.FnExactNewMatcher', WHERE WHAT IT READS IS OF BULK AT MOST 1048576: true; the input reads as it did. -/
def fnExactNewMatcherUptoRow : OpenClaim := { program := "ytiebkcikmnbajaa", sum := "19abd42f415e46d9be8a419900865d9bf62988fb49e9db7ba17652ffce0583db", func := "loop.example/g00873/laws.FnExactNewMatcher", spec := "fnExactNewMatcher", unfollowed := true, recurses := true, apart := false, narrowed := true }
def FnExactNewMatcherUptoSaid : Prop := fnExactNewMatcherUptoRow.holds Try.pinned (OpenSpec.upto fnExactNewMatcherSpec)

/-- 'laws.FnExactCountNodes', WHERE WHAT IT READS IS OF BULK AT MOST 1048576: true; the input reads as it did. -/
def fnExactCountNodesUptoRow : OpenClaim := { program := "ytiebkcikmnbajaa", sum := "19abd42f415e46d9be8a419900865d9bf62988fb49e9db7ba17652ffce0583db", func := "loop.example/g00873/laws.FnExactCountNodes", spec := "fnExactCountNodes", recurses := true, loops := true, apart := false, narrowed := true }
def FnExactCountNodesUptoSaid : Prop := fnExactCountNodesUptoRow.holds Try.pinned (OpenSpec.upto fnExactCountNodesSpec)

/-- 'laws.FnExactIsReference', WHERE WHAT IT READS IS OF BULK AT MOST 1048576: true; the input reads as it did. -/
def fnExactIsReferenceUptoRow : OpenClaim := { program := "ytiebkcikmnbajaa", sum := "19abd42f415e46d9be8a419900865d9bf62988fb49e9db7ba17652ffce0583db", func := "loop.example/g00873/laws.FnExactIsReference", spec := "fnExactIsReference", unfollowed := true, recurses := true, apart := false, narrowed := true }
def FnExactIsReferenceUptoSaid : Prop := fnExactIsReferenceUptoRow.holds Try.pinned (OpenSpec.upto fnExactIsReferenceSpec)

/-- 'laws.FnExactSamePattern', WHERE WHAT IT READS IS OF BULK AT MOST 1048576: true; the input reads as it did. -/
def fnExactSamePatternUptoRow : OpenClaim := { program := "ytiebkcikmnbajaa", sum := "19abd42f415e46d9be8a419900865d9bf62988fb49e9db7ba17652ffce0583db", func := "loop.example/g00873/laws.FnExactSamePattern", spec := "fnExactSamePattern", unfollowed := true, recurses := true, loops := true, apart := false, narrowed := true }
def FnExactSamePatternUptoSaid : Prop := fnExactSamePatternUptoRow.holds Try.pinned (OpenSpec.upto fnExactSamePatternSpec)

/-- 'laws.FnExactJoinLines', WHERE WHAT IT READS IS OF BULK AT MOST 1048576: true; the input reads as it did. -/
def fnExactJoinLinesUptoRow : OpenClaim := { program := "ytiebkcikmnbajaa", sum := "19abd42f415e46d9be8a419900865d9bf62988fb49e9db7ba17652ffce0583db", func := "loop.example/g00873/laws.FnExactJoinLines", spec := "fnExactJoinLines", inPlace := ["internal/abi.NoEscape"], apart := false, narrowed := true }
def FnExactJoinLinesUptoSaid : Prop := fnExactJoinLinesUptoRow.holds Try.pinned (OpenSpec.upto fnExactJoinLinesSpec)

/-- 'laws.FnExactSameExpr', WHERE WHAT IT READS IS OF BULK AT MOST 1048576: true; the input reads as it did. -/
def fnExactSameExprUptoRow : OpenClaim := { program := "ytiebkcikmnbajaa", sum := "19abd42f415e46d9be8a419900865d9bf62988fb49e9db7ba17652ffce0583db", func := "loop.example/g00873/laws.FnExactSameExpr", spec := "fnExactSameExpr", unfollowed := true, recurses := true, loops := true, apart := false, narrowed := true }
def FnExactSameExprUptoSaid : Prop := fnExactSameExprUptoRow.holds Try.pinned (OpenSpec.upto fnExactSameExprSpec)

/-- 'laws.FnExactDataType', WHERE WHAT IT READS IS OF BULK AT MOST 1048576: true; the input reads as it did. -/
def fnExactDataTypeUptoRow : OpenClaim := { program := "ytiebkcikmnbajaa", sum := "19abd42f415e46d9be8a419900865d9bf62988fb49e9db7ba17652ffce0583db", func := "loop.example/g00873/laws.FnExactDataType", spec := "fnExactDataType", unfollowed := true, recurses := true, apart := false, narrowed := true }
def FnExactDataTypeUptoSaid : Prop := fnExactDataTypeUptoRow.holds Try.pinned (OpenSpec.upto fnExactDataTypeSpec)

/-- 'laws.FnExactIntegerValue', WHERE WHAT IT READS IS OF BULK AT MOST 1048576: true; the input reads as it did. -/
def fnExactIntegerValueUptoRow : OpenClaim := { program := "ytiebkcikmnbajaa", sum := "19abd42f415e46d9be8a419900865d9bf62988fb49e9db7ba17652ffce0583db", func := "loop.example/g00873/laws.FnExactIntegerValue", spec := "fnExactIntegerValue", unfollowed := true, recurses := true, apart := false, narrowed := true }
def FnExactIntegerValueUptoSaid : Prop := fnExactIntegerValueUptoRow.holds Try.pinned (OpenSpec.upto fnExactIntegerValueSpec)

end Rows
end Go.Proofs.Ytiebkcikmnbajaa
