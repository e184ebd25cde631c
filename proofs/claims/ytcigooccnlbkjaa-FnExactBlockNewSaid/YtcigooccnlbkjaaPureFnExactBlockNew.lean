/- The law FnExactBlockNew returns true for every kind and number: the program's BlockNew is the reference's. No condition. -/
import Derived.Test.YtcigooccnlbkjaaHFnExactBlockNewx1
namespace Go.Proofs.Ytcigooccnlbkjaa.Pure
open Go.RowKit Go.Proofs.Ytcigooccnlbkjaa.HFnExactBlockNew Go.Proofs.YtcigooccnlbkjaaW.PrintWords Go.Proofs.YtcigooccnlbkjaaW.PrintLast
set_option linter.unusedVariables false
set_option linter.unusedSimpArgs false
theorem l6N_some (k : Nat) (a n : Int) : spec_l6N.f (k + 1) a n = some (Hb.sizedB a n) := by
  have key : ∀ b : Bool, (b = true ↔ (1 ≤ a ∧ a ≤ 3)) → spec_l6N.j0 (k + 1) n a b = some (Hb.sizedB a n) := by
    intro b hb
    simp only [spec_l6N.j0, Hb.sizedB]
    by_cases h : b = true
    · have h1 := hb.1 h
      rw [if_pos h]
      have e1 : decide (1 ≤ a) = true := by simp; omega
      have e2 : decide (a ≤ 3) = true := by simp; omega
      have e3 : decide (4 ≤ a) = false := by simp; omega
      by_cases hn : n ≥ 0
      · rw [if_pos hn]; have e4 : decide (0 ≤ n) = true := by simpa using hn
        simp [e1, e2, e3, e4]
      · rw [if_neg hn]; have e4 : decide (0 ≤ n) = false := by simpa using hn
        simp [e1, e2, e3, e4]
    · have h1 : ¬ (1 ≤ a ∧ a ≤ 3) := fun x => h (hb.2 x)
      rw [if_neg h]
      have e12 : (decide (1 ≤ a) && decide (a ≤ 3)) = false := by simp; omega
      rw [e12]
      by_cases h4 : a = 4
      · subst h4; simp; rfl
      · rw [if_neg h4]
        by_cases h5 : a = 5
        · subst h5; simp; rfl
        · rw [if_neg h5]
          have e : (decide (4 ≤ a) && decide (a ≤ 5)) = false := by simp; omega
          simp [e]
  unfold spec_l6N.f
  by_cases h1 : a = 1
  · rw [if_pos h1]; exact key _ (by simp [h1])
  · rw [if_neg h1]
    by_cases h2 : a = 2
    · rw [if_pos h2]; exact key _ (by simp [h2])
    · rw [if_neg h2]; exact key _ (by simp; omega)
theorem FnExactBlockNew : laws_FnExactBlockNew.Pure := by
  intro a0 a1 _ _
  refine ⟨1, ?_⟩
  unfold laws_FnExactBlockNew.f spec_BlockNew.f impl_BlockNew.f impl_sized.f
  rw [l6N_some]; simp only [Option.bind_some]
  cases Hb.sizedB a0 a1 <;> simp [laws_eqBlock.f]
end Go.Proofs.Ytcigooccnlbkjaa.Pure
