/- Words of the walks, printed by the kit's print and cut down to what this law's texts name. Conditions: none beyond each statement. -/
import Derived.Test.YtbamjjaamjfnaaaWInv
import Derived.Test.YtbamjjaamjfnaaaWFootNe
namespace Go.Proofs.YtbamjjaamjfnaaaW.PrintWords
open Go.RowKit
end Go.Proofs.YtbamjjaamjfnaaaW.PrintWords
namespace Go.Proofs.YtbamjjaamjfnaaaW.PrintLast
section
variable {ops : Array Oper} {a : Act} {o og : Oper} {g : Nat} {t : Tmp} {u : Bool}
end
end Go.Proofs.YtbamjjaamjfnaaaW.PrintLast
