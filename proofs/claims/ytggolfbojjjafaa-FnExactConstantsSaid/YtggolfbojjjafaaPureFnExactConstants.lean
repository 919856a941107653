/- The law of the constants answers true. No conditions. -/
import Derived.Test.YtggolfbojjjafaaPFnExactConstantsx1
namespace Go.Proofs.Ytggolfbojjjafaa.Pure
open Go.RowKit Go.Proofs.Ytggolfbojjjafaa.PFnExactConstants Go.Proofs.YtggolfbojjjafaaW.PrintWords Go.Proofs.YtggolfbojjjafaaW.PrintLast

theorem FnExactConstants : laws_FnExactConstants.Pure := rfl

end Go.Proofs.Ytggolfbojjjafaa.Pure
