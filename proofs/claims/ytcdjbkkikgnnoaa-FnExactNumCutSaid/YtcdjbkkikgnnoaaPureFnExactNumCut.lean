/- The law FnExactNumCut returns true for every number: the program's NumCut is the reference's. No condition. -/
import Derived.Test.YtcdjbkkikgnnoaaPFnExactNumCutx1
namespace Go.Proofs.Ytcdjbkkikgnnoaa.Pure
open Go.RowKit Go.Proofs.Ytcdjbkkikgnnoaa.PFnExactNumCut Go.Proofs.YtcdjbkkikgnnoaaW.PrintWords Go.Proofs.YtcdjbkkikgnnoaaW.PrintLast
set_option linter.unusedVariables false
set_option linter.unusedSimpArgs false
def cut (n : Int) : Int := mn (mx n (-1000000)) 1000000
theorem cut_bd (n : Int) : -1000000 ≤ cut n ∧ cut n ≤ 1000000 := by
  unfold cut mn mx; split <;> split <;> omega
theorem cut_id {n : Int} (h1 : -1000000 ≤ n) (h2 : n ≤ 1000000) : cut n = n := by
  unfold cut mn mx; split <;> split <;> omega
theorem cut_def (n : Int) : cut n = if n < -1000000 then -1000000 else if 1000000 < n then 1000000 else n := by
  unfold cut mn mx; (repeat' split) <;> omega
theorem impl_cut (n : Int) : impl_NumCut.f n = some (cut n) := rfl
theorem spec_cut (n : Int) : spec_NumCut.f n = some (cut n) := by
  unfold spec_NumCut.f spec_l1Min.f spec_l1Max.f cut mn mx
  (repeat' split) <;> simp only [Option.bind_some] <;> (repeat' split) <;> simp only [Option.some.injEq, Option.bind_some] <;> omega
theorem FnExactNumCut : laws_FnExactNumCut.Pure := by
  intro a0 _
  unfold laws_FnExactNumCut.f
  rw [spec_cut, impl_cut]; simp only [Option.bind_some, if_true]
end Go.Proofs.Ytcdjbkkikgnnoaa.Pure
