/- strings.TrimRight and strings.Trim where what is cut off is one ASCII byte: the shelf's contracts, laid at this program. Conditions: the string is no longer than any Go string. -/
import Derived.Test.YthiooabcgkidbaaDoorProg
import Derived.Ground.NamesProg
import Derived.Shelf.Lay
import Derived.Shelf.Strings.Trim
namespace Go.Proofs
open Go.Shelf
shelf_lay Lays.n162 Nm 162 at Tryd as Tryd.lays162
shelf_lay Lays.n160 Nm 160 at Tryd as Tryd.lays160
end Go.Proofs
