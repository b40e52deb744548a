/- FnExactConstants answers true: every exported constant of the program has the number of the specification. Conditions: none (the law has no argument). -/
import Derived.Test.YtncjffhgfjhjcaaPFnExactConstantsx1
namespace Go.Proofs.Ytncjffhgfjhjcaa.Pure
open Go.RowKit Go.Proofs.Ytncjffhgfjhjcaa.PFnExactConstants Go.Proofs.YtncjffhgfjhjcaaW.PrintWords Go.Proofs.YtncjffhgfjhjcaaW.PrintLast
theorem FnExactConstants : laws_FnExactConstants.Pure := rfl
end Go.Proofs.Ytncjffhgfjhjcaa.Pure
