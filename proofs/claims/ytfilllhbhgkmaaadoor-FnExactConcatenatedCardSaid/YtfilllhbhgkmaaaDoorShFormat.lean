/- strconv.FormatInt at base 10: the shelf's contract, laid at this program; what it asks of the world (the table of powers), and that it lasts. Conditions: none beyond each statement. -/
import Derived.Test.YtfilllhbhgkmaaaDoorProg
import Derived.Ground.NamesProg
import Derived.KernelRfl
import Derived.Shelf.Lay
import Derived.Shelf.Strconv.Itoa4
import Derived.Lib.AppendIntMem
import Derived.Lib.LaidTab
import Derived.LaidSub
namespace Go.Proofs
open Go.Shelf
shelf_lay LaysM.n173 Nm 173 at Tryd as Tryd.lays173
end Go.Proofs
namespace Go.Proofs.YtfilllhbhgkmaaaDoor
open Go.RowKit
/-- The library's table of powers lies where start-up laid it. -/
def WT (w : World) : Prop := Lib.TabIs Tryd.prog w "internal/strconv.uint64pow10" .u64 Lib.pow10Tab
theorem WT_below {w w' : World} (h : WT w) (hb : Below w.heap.size w w') : WT w' := Lib.tabBelow_of_tabIs h w' hb
theorem WT_laid {W : World} {l : List (String × DataW Unit)} (hl : l.filter (fun x => x.1 == "internal/strconv.uint64pow10") = [("internal/strconv.uint64pow10", Lib.tabData .u64 Lib.pow10Tab)]) (h : laidMet Tryd.prog l W) : WT W := by
  have h2 := laidMet.filter (fun x => x.1 == "internal/strconv.uint64pow10") h
  rw [hl] at h2
  exact Lib.tabIs_of_head (g := 0) (t := 89) (e := 77) (n := 20) (by kernel_rfl) (by kernel_rfl) (by kernel_rfl) (by kernel_rfl) (by kernel_rfl) (by kernel_rfl) h2
end Go.Proofs.YtfilllhbhgkmaaaDoor
