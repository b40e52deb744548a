/- Words of the walks, printed by the kit's print and cut down to what this law's texts name. Conditions: none beyond each statement. -/
import Derived.Test.YtbamjjaamjfnaaaWN
/-! ### 52. A row that stays read whatever happens to a block (a set of blocks) doesn't lie there -/
namespace Go.Proofs.YtbamjjaamjfnaaaW.PrintWords
open Go.RowKit
namespace Kd
section
variable {α : Type} {d : Kd α} {W : World} {g n : Nat} {S ok : Nat → Prop} {A : Option Addr} {ad : Addr} {xs : List α}
end
end Kd
end Go.Proofs.YtbamjjaamjfnaaaW.PrintWords
