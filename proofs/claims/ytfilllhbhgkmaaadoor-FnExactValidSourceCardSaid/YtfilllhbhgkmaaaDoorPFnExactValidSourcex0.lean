/- By a program of this session: for each Go function that the law reaches, a Lean function with the same answers, and that the code comes to exactly these answers. Conditions: none beyond each statement. -/
import Derived.Test.YtfilllhbhgkmaaaDoorProg
import Derived.Below
import Derived.Deep.Draws
import Derived.Deep.AppendLies
import Derived.Maps.AppendAt
import Derived.OwnWalk
import Derived.Laws.BytesArg
import Derived.Laws.MakeOwn
import Derived.Laws.OwnMore
import Derived.Deep.OwnRows
import Derived.Tactics
import Derived.Lib.ConvBytes
import Derived.Laws.Slices
import Derived.WalkKit
import Derived.KernelRfl
import Derived.RowKit3
import Derived.Deep.LoopGhost
import Derived.Deep.QuietTactic
import Derived.BigQuiet
import Derived.WideLaws
import Derived.Deep.DeepCutAuto
import Derived.Deep.CutBlock
import Derived.Deep.RegionHeld3
import Derived.Laws.Rows
import Derived.Lib.AppendStr
import Derived.ArgAppend
import Derived.Laws.IdiomCopy
import Derived.OrdersHeld
import Derived.Laws.BitsLemmas
import Derived.RowKit
import Derived.Test.YtfilllhbhgkmaaaDoorShReplace
import Derived.Test.YtfilllhbhgkmaaaDoorShSplit
import Derived.Test.YtfilllhbhgkmaaaDoorWWords
import Derived.Test.YtfilllhbhgkmaaaDoorWLast
import Derived.Test.YtfilllhbhgkmaaaDoorWTab
import Derived.Test.YtfilllhbhgkmaaaDoorWFour
import Derived.Test.YtfilllhbhgkmaaaDoorWQPut
import Derived.Test.YtfilllhbhgkmaaaDoorWApart
import Derived.Test.YtfilllhbhgkmaaaDoorWArr
import Derived.Test.YtfilllhbhgkmaaaDoorWZeros
import Derived.Test.YtfilllhbhgkmaaaDoorWFoot
import Derived.Test.YtfilllhbhgkmaaaDoorWKept
import Derived.Test.YtfilllhbhgkmaaaDoorWShare
import Derived.Test.YtfilllhbhgkmaaaDoorWN
import Derived.Test.YtfilllhbhgkmaaaDoorWFootNe
import Derived.Test.YtfilllhbhgkmaaaDoorWAt
import Derived.Test.YtfilllhbhgkmaaaDoorWEqStruct
import Derived.Test.YtfilllhbhgkmaaaDoorWRepsOne
import Derived.Test.YtfilllhbhgkmaaaDoorWInv
import Derived.Test.YtfilllhbhgkmaaaDoorWInvWords
import Derived.Test.YtfilllhbhgkmaaaDoorWGuard
import Derived.Test.YtfilllhbhgkmaaaDoorWNEv
import Derived.Test.YtfilllhbhgkmaaaDoorWMore
namespace Go.Proofs.YtfilllhbhgkmaaaDoor.PFnExactValidSource
open Go.RowKit Go.Proofs.YtfilllhbhgkmaaaDoorW.PrintWords Go.Proofs.YtfilllhbhgkmaaaDoorW.PrintLast Go.Proofs.YtfilllhbhgkmaaaDoorW.PrintMore
attribute [local go_sem] max2_int min2_int max_two min_two max_three min_three max_four min_four   -- for this text's walks alone
set_option linter.unusedVariables false
set_option linter.unusedSimpArgs false



def errW : Option Int → Value
  | none => .nilIface
  | some c => .iface 0 (.int .i64 c)
theorem errW_none : errW none = .nilIface := rfl
theorem errW_some (c : Int) : errW (some c) = .iface 0 (.int .i64 c) := rfl

theorem below_bytes {w W : World} (h : Below w.heap.size w W) (e : TypeId) (s : ByteArray) : Below w.heap.size w (Lib.bytesWorld W e s) := bytes_below h h.size e s
theorem blk_bytes {w : World} {g : Nat} {o : Obj} (h : w.heap[g]? = some o) (e : TypeId) (s : ByteArray) : (Lib.bytesWorld w e s).heap[g]? = some o := blk_below h (bytes_below (Below.refl _ _) (Nat.le_refl _) e s)
theorem conv_reads (W : World) (e : TypeId) (s : ByteArray) (hs : s.size ≤ 9223372036854775807) : Kd.C (Kd.int .u8) (Lib.bytesWorld W e s) (some ⟨W.heap.size, 0, none⟩) (bytesOf s).length (bytesOf s) := by
  rw [bytesOf_length]
  have h : ReadsInt (Lib.bytesWorld W e s) .u8 (some ⟨W.heap.size, 0, none⟩) s.size (bytesOf s) := bytes_reads W e s hs
  exact Kd.C_of_reads (d := (0 : Int)) (h1 := fun _ => rfl) h
theorem conv_room (W : World) (e : TypeId) (s : ByteArray) : (bytesOf s).length ≤ grownCap W s.size 0 e := by
  rw [bytesOf_length]
  exact grownCap_ge _ _ _ _
theorem bne_nil_e (l : List UInt8) : (l != []) = !l.isEmpty := by cases l <;> rfl
theorem info9 : (Tryd.prog.info? 9).map (fun i => (i.zero, i.size, i.bytes)) = some (some (.string ⟨#[]⟩), 1, 16) := by kernel_rfl
-- the values' own types

end Go.Proofs.YtfilllhbhgkmaaaDoor.PFnExactValidSource
