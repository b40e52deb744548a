/- By a program of this session: for each Go function that the law reaches, a Lean function with the same answers, and that the code comes to exactly these answers. Conditions: none beyond each statement. -/
import Derived.Test.YthiooabcgkidbaaDoorProg
import Derived.Below
import Derived.Deep.Draws
import Derived.Deep.AppendLies
import Derived.Maps.AppendAt
import Derived.OwnWalk
import Derived.Laws.BytesArg
import Derived.Laws.MakeOwn
import Derived.Laws.OwnMore
import Derived.Deep.OwnRows
import Derived.Tactics
import Derived.Lib.ConvBytes
import Derived.Laws.Slices
import Derived.WalkKit
import Derived.KernelRfl
import Derived.RowKit3
import Derived.Deep.LoopGhost
import Derived.Deep.QuietTactic
import Derived.BigQuiet
import Derived.WideLaws
import Derived.Deep.DeepCutAuto
import Derived.Deep.CutBlock
import Derived.Deep.RegionHeld3
import Derived.Laws.Rows
import Derived.Lib.AppendStr
import Derived.ArgAppend
import Derived.Laws.IdiomCopy
import Derived.OrdersHeld
import Derived.Laws.BitsLemmas
import Derived.RowKit
import Derived.Test.YthiooabcgkidbaaDoorShSplit
import Derived.Test.YthiooabcgkidbaaDoorWWords
import Derived.Test.YthiooabcgkidbaaDoorWLast
import Derived.Test.YthiooabcgkidbaaDoorWTab
import Derived.Test.YthiooabcgkidbaaDoorWFour
import Derived.Test.YthiooabcgkidbaaDoorWQPut
import Derived.Test.YthiooabcgkidbaaDoorWApart
import Derived.Test.YthiooabcgkidbaaDoorWArr
import Derived.Test.YthiooabcgkidbaaDoorWZeros
import Derived.Test.YthiooabcgkidbaaDoorWFoot
import Derived.Test.YthiooabcgkidbaaDoorWKept
import Derived.Test.YthiooabcgkidbaaDoorWShare
import Derived.Test.YthiooabcgkidbaaDoorWN
import Derived.Test.YthiooabcgkidbaaDoorWFootNe
import Derived.Test.YthiooabcgkidbaaDoorWAt
import Derived.Test.YthiooabcgkidbaaDoorWEqStruct
import Derived.Test.YthiooabcgkidbaaDoorWRepsOne
import Derived.Test.YthiooabcgkidbaaDoorWInv
import Derived.Test.YthiooabcgkidbaaDoorWInvWords
import Derived.Test.YthiooabcgkidbaaDoorWGuard
import Derived.Test.YthiooabcgkidbaaDoorWNEv
import Derived.Test.YthiooabcgkidbaaDoorWMore
namespace Go.Proofs.YthiooabcgkidbaaDoor.PFnExactSplitLines
open Go.RowKit Go.Proofs.YthiooabcgkidbaaDoorW.PrintWords Go.Proofs.YthiooabcgkidbaaDoorW.PrintLast Go.Proofs.YthiooabcgkidbaaDoorW.PrintMore
attribute [local go_sem] max2_int min2_int max_two min_two max_three min_three max_four min_four   -- for this text's walks alone
set_option linter.unusedVariables false
set_option linter.unusedSimpArgs false



def errW : Option Int → Value
  | none => .nilIface
  | some c => .iface 0 (.int .i64 c)
theorem errW_none : errW none = .nilIface := rfl
theorem errW_some (c : Int) : errW (some c) = .iface 0 (.int .i64 c) := rfl

theorem bne_nil_e (l : List UInt8) : (l != []) = !l.isEmpty := by cases l <;> rfl
theorem info5 : (Tryd.prog.info? 5).map (fun i => (i.zero, i.size, i.bytes)) = some (some (.int .u8 0), 1, 1) := by kernel_rfl
theorem info9 : (Tryd.prog.info? 9).map (fun i => (i.zero, i.size, i.bytes)) = some (some (.string ⟨#[]⟩), 1, 16) := by kernel_rfl
-- the values' own types

end Go.Proofs.YthiooabcgkidbaaDoor.PFnExactSplitLines
