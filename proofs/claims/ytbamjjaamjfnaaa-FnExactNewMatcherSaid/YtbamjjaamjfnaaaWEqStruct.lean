/- Words of the walks, printed by the kit's print and cut down to what this law's texts name. Conditions: none beyond each statement. -/
import Derived.Test.YtbamjjaamjfnaaaWWords
import Derived.Laws.StructEq
/-! ### 53. '==' of structs as_ one Bool -/
namespace Go.Proofs.YtbamjjaamjfnaaaW.PrintWords
open Go.RowKit
section
variable {P : Program} {d : Nat} {xs ys : Array Value} {f : Field} {fs : List Field} {a b : Value} {r s : Bool} {w : World}
end
end Go.Proofs.YtbamjjaamjfnaaaW.PrintWords
