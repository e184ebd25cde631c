/- The law FnExactNumAdd returns true for every two numbers: the program's NumAdd is the reference's. No condition. -/
import Derived.Test.YtcdjbkkikgnnoaaPFnExactNumAddx1
namespace Go.Proofs.Ytcdjbkkikgnnoaa.Pure
open Go.RowKit Go.Proofs.Ytcdjbkkikgnnoaa.PFnExactNumAdd Go.Proofs.YtcdjbkkikgnnoaaW.PrintWords Go.Proofs.YtcdjbkkikgnnoaaW.PrintLast
set_option linter.unusedVariables false
set_option linter.unusedSimpArgs false
theorem wrap_id {x : Int} (h1 : -9223372036854775808 ≤ x) (h2 : x ≤ 9223372036854775807) : wrap64 x = x := by
  unfold wrap64; omega
def cut (n : Int) : Int := mn (mx n (-1000000)) 1000000
theorem cut_bd (n : Int) : -1000000 ≤ cut n ∧ cut n ≤ 1000000 := by
  unfold cut mn mx; split <;> split <;> omega
theorem cut_id {n : Int} (h1 : -1000000 ≤ n) (h2 : n ≤ 1000000) : cut n = n := by
  unfold cut mn mx; split <;> split <;> omega
theorem cut_def (n : Int) : cut n = if n < -1000000 then -1000000 else if 1000000 < n then 1000000 else n := by
  unfold cut mn mx; (repeat' split) <;> omega
theorem op_wrap_add (a0 a1 : Int) : wrap64 (cut a0 + cut a1) = cut a0 + cut a1 := by
  have a := cut_bd a0; have b := cut_bd a1; exact wrap_id (by omega) (by omega)
theorem op_wrap_sub (a0 a1 : Int) : wrap64 (cut a0 - cut a1) = cut a0 - cut a1 := by
  have a := cut_bd a0; have b := cut_bd a1; exact wrap_id (by omega) (by omega)
theorem mul_bd {x y A B : Int} (hA : 0 ≤ A) (hB : 0 ≤ B) (h1 : -A ≤ x) (h2 : x ≤ A) (h3 : -B ≤ y) (h4 : y ≤ B) : -(A * B) ≤ x * y ∧ x * y ≤ A * B := by
  have hx : x.natAbs ≤ A.natAbs := by omega
  have hy : y.natAbs ≤ B.natAbs := by omega
  have hm : (x * y).natAbs ≤ A.natAbs * B.natAbs := by rw [Int.natAbs_mul]; exact Nat.mul_le_mul hx hy
  have hAB : ((A.natAbs * B.natAbs : Nat) : Int) = A * B := by
    rw [Int.natCast_mul, Int.natAbs_of_nonneg hA, Int.natAbs_of_nonneg hB]
  omega
theorem op_wrap_mul (a0 a1 : Int) : wrap64 (cut a0 * cut a1) = cut a0 * cut a1 := by
  have a := cut_bd a0; have b := cut_bd a1
  have m := mul_bd (x := cut a0) (y := cut a1) (A := 1000000) (B := 1000000) (by omega) (by omega) a.1 a.2 b.1 b.2
  exact wrap_id (by omega) (by omega)
theorem impl_cut (n : Int) : impl_NumCut.f n = some (cut n) := rfl
theorem spec_cut (n : Int) : spec_NumCut.f n = some (cut n) := by
  unfold spec_NumCut.f spec_l1Min.f spec_l1Max.f cut mn mx
  (repeat' split) <;> simp only [Option.bind_some] <;> (repeat' split) <;> simp only [Option.some.injEq, Option.bind_some] <;> omega
theorem impl_add (a0 a1 : Int) : impl_NumAdd.f a0 a1 = some (cut (cut a0 + cut a1)) := by
  unfold impl_NumAdd.f impl_maker_of.f
  simp only [impl_cut, Option.bind_some, Option.some.injEq]
  have hw : wrap64 (cut a0 + cut a1) = cut a0 + cut a1 := op_wrap_add a0 a1
  rw [hw]; rfl
theorem spec_add (a0 a1 : Int) : spec_NumAdd.f a0 a1 = some (cut (cut a0 + cut a1)) := by
  unfold spec_NumAdd.f
  simp only [spec_cut, Option.bind_some, Option.some.injEq]
  have hw : wrap64 (cut a0 + cut a1) = cut a0 + cut a1 := op_wrap_add a0 a1
  rw [hw]
theorem FnExactNumAdd : laws_FnExactNumAdd.Pure := by
  intro a0 a1 _ _
  unfold laws_FnExactNumAdd.f
  rw [spec_add, impl_add]; simp only [Option.bind_some, if_true]
end Go.Proofs.Ytcdjbkkikgnnoaa.Pure
