-- PRINTED BY print.sh 35421559b90ae4d0a3588c463048766b98c2df88dd9212a6774a882060cdf62d: not written by this session
import Derived.Test.YtiebkcikmnbajaaProg
import Derived.Below
import Derived.Deep.Draws
import Derived.Deep.AppendLies
import Derived.Maps.AppendAt
import Derived.OwnWalk
import Derived.Laws.BytesArg
import Derived.Laws.MakeOwn
import Derived.Laws.OwnMore
import Derived.Deep.OwnRows
import Derived.Tactics
import Derived.Lib.ConvBytes
import Derived.Laws.Slices
import Derived.WalkKit
import Derived.KernelRfl
import Derived.RowKit3
import Derived.Deep.LoopGhost
import Derived.Deep.QuietTactic
import Derived.BigQuiet
import Derived.WideLaws
import Derived.Deep.DeepCutAuto
import Derived.Deep.CutBlock
import Derived.Deep.RegionHeld3
import Derived.Laws.Rows
import Derived.Lib.AppendStr
import Derived.ArgAppend
import Derived.Laws.IdiomCopy
import Derived.OrdersHeld
import Derived.Laws.BitsLemmas
import Derived.RowKit
import Derived.Test.YtiebkcikmnbajaaWWords
import Derived.Test.YtiebkcikmnbajaaWLast
import Derived.Test.YtiebkcikmnbajaaWTab
import Derived.Test.YtiebkcikmnbajaaWFour
import Derived.Test.YtiebkcikmnbajaaWQPut
import Derived.Test.YtiebkcikmnbajaaWApart
import Derived.Test.YtiebkcikmnbajaaWArr
import Derived.Test.YtiebkcikmnbajaaWZeros
import Derived.Test.YtiebkcikmnbajaaWFoot
import Derived.Test.YtiebkcikmnbajaaWKept
import Derived.Test.YtiebkcikmnbajaaWShare
import Derived.Test.YtiebkcikmnbajaaWN
import Derived.Test.YtiebkcikmnbajaaWFootNe
import Derived.Test.YtiebkcikmnbajaaWAt
import Derived.Test.YtiebkcikmnbajaaWEqStruct
import Derived.Test.YtiebkcikmnbajaaWRepsOne
import Derived.Test.YtiebkcikmnbajaaWInv
import Derived.Test.YtiebkcikmnbajaaWInvWords
import Derived.Test.YtiebkcikmnbajaaWGuard
import Derived.Test.YtiebkcikmnbajaaWNEv
import Derived.Test.YtiebkcikmnbajaaWMore
namespace Go.Proofs.Ytiebkcikmnbajaa.PFnExactSplitStatements
open Go.RowKit Go.Proofs.YtiebkcikmnbajaaW.PrintWords Go.Proofs.YtiebkcikmnbajaaW.PrintLast Go.Proofs.YtiebkcikmnbajaaW.PrintMore
attribute [local go_sem] max2_int min2_int max_two min_two max_three min_three max_four min_four   -- for this text's walks alone
set_option linter.unusedVariables false
set_option linter.unusedSimpArgs false



def errW : Option Int → Value
  | none => .nilIface
  | some c => .iface 0 (.int .i64 c)
theorem errW_none : errW none = .nilIface := rfl
theorem errW_some (c : Int) : errW (some c) = .iface 0 (.int .i64 c) := rfl

theorem info5 : (Try.prog.info? 5).map (fun i => (i.zero, i.size, i.bytes)) = some (some (.int .u8 0), 1, 1) := by kernel_rfl
theorem info9 : (Try.prog.info? 9).map (fun i => (i.zero, i.size, i.bytes)) = some (some (.string ⟨#[]⟩), 1, 16) := by kernel_rfl
-- the values' own types

end Go.Proofs.Ytiebkcikmnbajaa.PFnExactSplitStatements
