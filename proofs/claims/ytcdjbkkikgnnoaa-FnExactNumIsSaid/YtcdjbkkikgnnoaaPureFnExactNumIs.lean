/- The law FnExactNumIs returns true for both truth values: the program's NumIs is the reference's. No condition. -/
import Derived.Test.YtcdjbkkikgnnoaaPFnExactNumIsx1
namespace Go.Proofs.Ytcdjbkkikgnnoaa.Pure
open Go.RowKit Go.Proofs.Ytcdjbkkikgnnoaa.PFnExactNumIs Go.Proofs.YtcdjbkkikgnnoaaW.PrintWords Go.Proofs.YtcdjbkkikgnnoaaW.PrintLast
set_option linter.unusedVariables false
set_option linter.unusedSimpArgs false
theorem FnExactNumIs : laws_FnExactNumIs.Pure := by
  intro a0
  cases a0 <;> rfl
end Go.Proofs.Ytcdjbkkikgnnoaa.Pure
