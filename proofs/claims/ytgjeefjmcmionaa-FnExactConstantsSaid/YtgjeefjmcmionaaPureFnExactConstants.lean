/- Every exported constant of the program has the value that the reference gives it; no condition (the law takes no argument). -/
import Derived.Test.YtgjeefjmcmionaaPFnExactConstantsx1
set_option linter.unusedVariables false
set_option linter.unusedSimpArgs false
namespace Go.Proofs.Ytgjeefjmcmionaa.Pure
open Go.RowKit Go.Proofs.Ytgjeefjmcmionaa.PFnExactConstants Go.Proofs.YtgjeefjmcmionaaW.PrintWords Go.Proofs.YtgjeefjmcmionaaW.PrintLast

theorem FnExactConstants : laws_FnExactConstants.Pure := rfl

end Go.Proofs.Ytgjeefjmcmionaa.Pure
