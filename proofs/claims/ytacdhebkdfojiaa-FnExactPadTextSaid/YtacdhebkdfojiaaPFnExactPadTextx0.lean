/- By a program of this session: for each Go function that the law reaches, a Lean function with the same answers, and that the code comes to exactly these answers. Conditions: none beyond each statement. -/
import Derived.Test.YtacdhebkdfojiaaProg
import Derived.Below
import Derived.Deep.Draws
import Derived.Deep.AppendLies
import Derived.Maps.AppendAt
import Derived.OwnWalk
import Derived.Laws.BytesArg
import Derived.Laws.MakeOwn
import Derived.Laws.OwnMore
import Derived.Deep.OwnRows
import Derived.Tactics
import Derived.Lib.ConvBytes
import Derived.Laws.Slices
import Derived.WalkKit
import Derived.KernelRfl
import Derived.RowKit3
import Derived.Deep.LoopGhost
import Derived.Deep.QuietTactic
import Derived.BigQuiet
import Derived.WideLaws
import Derived.Deep.DeepCutAuto
import Derived.Deep.CutBlock
import Derived.Deep.RegionHeld3
import Derived.Laws.Rows
import Derived.Lib.AppendStr
import Derived.ArgAppend
import Derived.Laws.IdiomCopy
import Derived.OrdersHeld
import Derived.Laws.BitsLemmas
import Derived.RowKit
import Derived.Test.YtacdhebkdfojiaaShRepeat
import Derived.Test.YtacdhebkdfojiaaWWords
import Derived.Test.YtacdhebkdfojiaaWLast
import Derived.Test.YtacdhebkdfojiaaWTab
import Derived.Test.YtacdhebkdfojiaaWFour
import Derived.Test.YtacdhebkdfojiaaWQPut
import Derived.Test.YtacdhebkdfojiaaWApart
import Derived.Test.YtacdhebkdfojiaaWArr
import Derived.Test.YtacdhebkdfojiaaWZeros
import Derived.Test.YtacdhebkdfojiaaWFoot
import Derived.Test.YtacdhebkdfojiaaWKept
import Derived.Test.YtacdhebkdfojiaaWShare
import Derived.Test.YtacdhebkdfojiaaWN
import Derived.Test.YtacdhebkdfojiaaWFootNe
import Derived.Test.YtacdhebkdfojiaaWAt
import Derived.Test.YtacdhebkdfojiaaWEqStruct
import Derived.Test.YtacdhebkdfojiaaWRepsOne
import Derived.Test.YtacdhebkdfojiaaWInv
import Derived.Test.YtacdhebkdfojiaaWInvWords
import Derived.Test.YtacdhebkdfojiaaWGuard
import Derived.Test.YtacdhebkdfojiaaWNEv
import Derived.Test.YtacdhebkdfojiaaWMore
namespace Go.Proofs.Ytacdhebkdfojiaa.PFnExactPadText
open Go.RowKit Go.Proofs.YtacdhebkdfojiaaW.PrintWords Go.Proofs.YtacdhebkdfojiaaW.PrintLast Go.Proofs.YtacdhebkdfojiaaW.PrintMore
attribute [local go_sem] max2_int min2_int max_two min_two max_three min_three max_four min_four   -- for this text's walks alone
set_option linter.unusedVariables false
set_option linter.unusedSimpArgs false



def errW : Option Int → Value
  | none => .nilIface
  | some c => .iface 0 (.int .i64 c)
theorem errW_none : errW none = .nilIface := rfl
theorem errW_some (c : Int) : errW (some c) = .iface 0 (.int .i64 c) := rfl

-- the values' own types

end Go.Proofs.Ytacdhebkdfojiaa.PFnExactPadText
