/- slices.Reverse at []byte: the shelf's contract, laid at this program, and at the bytes of a string that has just been turned into them. Conditions: none beyond each statement. -/
import Derived.Test.YtfbcmfniocomhaaProg
import Derived.Ground.SlgnProg
import Derived.Shelf.Lay
import Derived.Shelf.SlicesE.Reverse
import Derived.Lib.OwnBridge
import Derived.Lib.ConvBytes
namespace Go.Proofs
open Go.Shelf
shelf_lay_g SlLaysE.n35 Slgn 35 at Try 31 as Try.revB
end Go.Proofs
