/- The law FnExactNumOn returns true for every number: the program's NumOn is the reference's. No condition. -/
import Derived.Test.YtcdjbkkikgnnoaaPFnExactNumOnx1
namespace Go.Proofs.Ytcdjbkkikgnnoaa.Pure
open Go.RowKit Go.Proofs.Ytcdjbkkikgnnoaa.PFnExactNumOn Go.Proofs.YtcdjbkkikgnnoaaW.PrintWords Go.Proofs.YtcdjbkkikgnnoaaW.PrintLast
set_option linter.unusedVariables false
set_option linter.unusedSimpArgs false
theorem FnExactNumOn : laws_FnExactNumOn.Pure := by
  intro a0 _
  simp [laws_FnExactNumOn.f, spec_NumOn.f, impl_NumOn.f]
end Go.Proofs.Ytcdjbkkikgnnoaa.Pure
