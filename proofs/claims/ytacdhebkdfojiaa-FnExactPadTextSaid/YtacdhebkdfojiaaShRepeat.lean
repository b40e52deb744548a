/- strings.Repeat: the shelf's contract, laid at this program. Conditions: a count that is not negative, and a result within one allocation. -/
import Derived.Test.YtacdhebkdfojiaaProg
import Derived.Ground.NamesProg
import Derived.KernelRfl
import Derived.Shelf.Lay
import Derived.Shelf.Strings.Repeat
namespace Go.Proofs
open Go.Shelf
shelf_lay Lays.n105 Nm 105 at Try as Try.lays105
theorem Try.builder105 : Builder.Extra Try.prog Try.lays105_ren where
  sizeBuilder := by kernel_rfl
  liesBuilder := by kernel_rfl
  t5 := Try.underlying5
  a5 := Try.isAgg5
  z5 := Try.sizeOf5
  v5 := Try.zeroValue5
  infoByte := by kernel_rfl
  cellsByte := by kernel_rfl
  sizeByte := by kernel_rfl
  neB5 := by decide
end Go.Proofs
