/- strings.ReplaceAll: the shelf's contract, laid at this program; what it asks of the world (the cell of internal/bytealg.MaxLen holds some int), and that it lasts. Conditions: none beyond each statement. -/
import Derived.Test.YtfilllhbhgkmaaaDoorProg
import Derived.Ground.NamesProg
import Derived.KernelRfl
import Derived.Below
import Derived.Shelf.Lay
import Derived.Shelf.Strings.SplitShaped
namespace Go.Proofs
open Go.Shelf
shelf_lay LaysM.n155 Nm 155 at Tryd as Tryd.lays155
theorem Tryd.builder155 : Builder.Extra Tryd.prog Tryd.lays155_ren where
  sizeBuilder := by kernel_rfl
  liesBuilder := by kernel_rfl
  t5 := Tryd.underlying5
  a5 := Tryd.isAgg5
  z5 := Tryd.sizeOf5
  v5 := Tryd.zeroValue5
  infoByte := by kernel_rfl
  cellsByte := by kernel_rfl
  sizeByte := by kernel_rfl
  neB5 := by decide
end Go.Proofs
namespace Go.Proofs.YtfilllhbhgkmaaaDoor
open Go.RowKit Go.Shelf
/-- The cell of internal/bytealg.MaxLen holds some int. -/
def WT (w : World) : Prop := ∃ m, w.cell? ⟨1, 0, none⟩ = some (.int .i64 m)
theorem WT_below {w w' : World} (h : WT w) (hb : Below w.heap.size w w') : WT w' := by
  obtain ⟨m, hm⟩ := h
  exact ⟨m, (hb.cell (World.block_lt_of_cell? w _ hm)).trans hm⟩
theorem WT_shaped {w : World} (h : w.ShapedOpen Tryd.prog) : WT w := Tryd.lays155.s1_3 w h
end Go.Proofs.YtfilllhbhgkmaaaDoor
