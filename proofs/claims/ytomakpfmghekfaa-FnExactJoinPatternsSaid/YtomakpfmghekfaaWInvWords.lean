/- Words of the walks, printed by the kit's print and cut down to what this law's texts name. Conditions: none beyond each statement. -/
import Derived.Test.YtomakpfmghekfaaWInv
import Derived.Test.YtomakpfmghekfaaWFootNe
namespace Go.Proofs.YtomakpfmghekfaaW.PrintWords
open Go.RowKit
end Go.Proofs.YtomakpfmghekfaaW.PrintWords
namespace Go.Proofs.YtomakpfmghekfaaW.PrintLast
section
variable {ops : Array Oper} {a : Act} {o og : Oper} {g : Nat} {t : Tmp} {u : Bool}
end
end Go.Proofs.YtomakpfmghekfaaW.PrintLast
