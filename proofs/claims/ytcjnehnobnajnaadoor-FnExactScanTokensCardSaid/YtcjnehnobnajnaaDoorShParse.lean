/- strconv.ParseInt at base 10: the shelf's contract, laid at this program. Conditions: none beyond each statement. -/
import Derived.Test.YtcjnehnobnajnaaDoorProg
import Derived.Ground.NamesProg
import Derived.KernelRfl
import Derived.Shelf.Lay
import Derived.Shelf.Strconv.ParseIntPublic10
namespace Go.Proofs
open Go.Shelf
shelf_lay LaysC.n174 Nm 174 at Tryd as Tryd.lays174
end Go.Proofs
