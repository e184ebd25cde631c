/- The law FnExactConstants returns true: every exported constant is the document's. No condition. -/
import Derived.Test.YtcdjbkkikgnnoaaPFnExactConstantsx1
namespace Go.Proofs.Ytcdjbkkikgnnoaa.Pure
open Go.RowKit Go.Proofs.Ytcdjbkkikgnnoaa.PFnExactConstants Go.Proofs.YtcdjbkkikgnnoaaW.PrintWords Go.Proofs.YtcdjbkkikgnnoaaW.PrintLast
set_option linter.unusedVariables false
set_option linter.unusedSimpArgs false
theorem FnExactConstants : laws_FnExactConstants.Pure := rfl
end Go.Proofs.Ytcdjbkkikgnnoaa.Pure
