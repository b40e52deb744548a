/- Words of the walks, printed by the kit's print and cut down to what this law's texts name. Conditions: none beyond each statement. -/
import Derived.Test.YtbamjjaamjfnaaaWTab
/-! ### 56. Four, five, six operations that may come up next, in any order -/
namespace Go.Proofs.YtbamjjaamjfnaaaW.PrintLast
section
variable {P : Program} {ops : Array Oper} {Q : Exit → Act → World → Prop} {md : Region.Mode} {S : World → Prop} {ds : List Nat} {T : Bool × List (List Nat × List Nat)}
end
end Go.Proofs.YtbamjjaamjfnaaaW.PrintLast
