/- The run of code that is ok ends, with so many rounds. No condition. -/
import Derived.Test.YtjamfddhcigchaaGreatDoorTFnExactCodeRunHk
import Derived.Test.YtjamfddhcigchaaGreatDoorTFnExactCodeRunHm
namespace Go.Proofs.YtjamfddhcigchaaGreatDoor.Hn
open Go.RowKit  Go.Proofs.YtjamfddhcigchaaGreatDoor.Gm Go.Proofs.YtjamfddhcigchaaGreatDoor.Gn Go.Proofs.YtjamfddhcigchaaGreatDoor.Gz Go.Proofs.YtjamfddhcigchaaGreatDoor.Gq Go.Proofs.YtjamfddhcigchaaGreatDoor.Ht Go.Proofs.YtjamfddhcigchaaGreatDoor.Hp Go.Proofs.YtjamfddhcigchaaGreatDoor.Hd Go.Proofs.YtjamfddhcigchaaGreatDoor.Hs Go.Proofs.YtjamfddhcigchaaGreatDoor.Hm Go.Proofs.YtjamfddhcigchaaGreatDoor.HFnExactCodeRun Go.Proofs.YtjamfddhcigchaaGreatDoorW.PrintWords Go.Proofs.YtjamfddhcigchaaGreatDoorW.PrintLast Go.Proofs.YtjamfddhcigchaaGreatDoorW.PrintMore
set_option linter.unusedVariables false
set_option linter.unusedSimpArgs false
theorem numIs_some (b : Bool) : ∃ t, Gt.impl_NumIs.f b = some t := by cases b <;> exact ⟨_, rfl⟩
theorem two_some (k a b : Int) : ∃ t, Gt.impl_two.f k a b = some t := by
 unfold Gt.impl_two.f
 by_cases h3 : k = 3
 ·rw [if_pos h3]; exact ⟨_, rfl⟩
 rw [if_neg h3]
 by_cases h4 : k = 4
 ·rw [if_pos h4]; exact ⟨_, rfl⟩
 rw [if_neg h4]
 by_cases h5 : k = 5
 ·rw [if_pos h5]; exact ⟨_, rfl⟩
 rw [if_neg h5]
 by_cases h6 : k = 6
 ·rw [if_pos h6]; obtain ⟨t, ht⟩ := numIs_some (decide (a < b)); rw [ht]; exact ⟨_, rfl⟩
 rw [if_neg h6]
 by_cases h7 : k = 7
 ·rw [if_pos h7]; obtain ⟨t, ht⟩ := numIs_some (a == b); rw [ht]; exact ⟨_, rfl⟩
 rw [if_neg h7]
 by_cases h8 : k = 8
 ·rw [if_pos h8]; cases e1 : a != 0 <;> cases e2 : b != 0 <;> exact ⟨_, by simp [Gt.impl_NumOn.f, Gt.impl_NumIs.f, e1, e2]; rfl⟩
 rw [if_neg h8]
 cases e1 : a != 0 <;> cases e2 : b != 0 <;> exact ⟨_, by simp [Gt.impl_NumOn.f, Gt.impl_NumIs.f, e1, e2]; rfl⟩
theorem okI_to {a b c d p n : Int} (h : okI a b c d p n = true) (hp : 0 ≤ p) (hpn : p < n) (hg : a = 6 ∨ a = 7 ∨ a = 8) : 0 ≤ b ∧ b ≤ n ∧ (a ≠ 8 → p < b) := by
 unfold okI at h
 rcases hg with rfl | rfl | rfl
 ·simp at h; omega
 ·simp at h; omega
 ·simp at h; omega
theorem doI_total {i : S30} {m : M3} {st : List Int} {p n : Int} (hok : okI i.f0 i.f1 i.f2.f0 i.f2.f1 p n = true) (h1 : tk i.f0 ≤ (st.length : Int)) (h2 : (st.length : Int) - tk i.f0 + gv i.f0 ≤ 12) :
  ∃ r, doI i m st = some r ∧ (r.2.length : Int) = (st.length : Int) - tk i.f0 + gv i.f0 := by
 unfold okI at hok
 by_cases c1 : i.f0 = 1
 ·have t : tk i.f0 = 0 := by rw [c1]; rfl
  have g : gv i.f0 = 1 := by rw [c1]; rfl
  exact ⟨(m, i.f1 :: st), by unfold doI; rw [if_pos c1, if_pos (by omega)], by rw [t, g]; simp⟩
 rw [if_neg c1] at hok
 by_cases c2 : i.f0 = 2
 ·have t : tk i.f0 = 0 := by rw [c2]; rfl
  have g : gv i.f0 = 1 := by rw [c2]; rfl
  rw [if_pos c2] at hok
  simp only [Bool.and_eq_true] at hok
  exact ⟨(m, m.get i.f2.f0 i.f2.f1 :: st), by unfold doI; rw [if_neg c1, if_pos c2, if_pos ⟨by omega, hok.2⟩], by rw [t, g]; simp⟩
 rw [if_neg c2] at hok
 by_cases c3 : i.f0 = 3
 ·have t : tk i.f0 = 1 := by rw [c3]; rfl
  have g : gv i.f0 = 0 := by rw [c3]; rfl
  rw [if_pos c3] at hok
  simp only [Bool.and_eq_true] at hok
  match st, h1 with
  | [], h1 => rw [t] at h1; simp at h1
  | x :: s, h1 =>
   have hp : pOk i.f2.f0 i.f2.f1 = true := by unfold pOk; rw [Bool.and_eq_true]; exact ⟨hok.2.1, hok.2.2⟩
   exact ⟨(m.put i.f2.f0 i.f2.f1 x, s), by unfold doI; rw [if_neg c1, if_neg c2, if_pos c3]; simp only [hp, if_true], by rw [t, g]; simp⟩
 rw [if_neg c3] at hok
 by_cases c4 : i.f0 = 4
 ·have t : tk i.f0 = 2 := by rw [c4]; rfl
  have g : gv i.f0 = 1 := by rw [c4]; rfl
  match st, h1 with
  | [], h1 => rw [t] at h1; simp at h1
  | [_], h1 => rw [t] at h1; simp at h1
  | y :: x :: s, h1 =>
   obtain ⟨v, hv⟩ := two_some i.f1 x y
   exact ⟨(m, v :: s), by unfold doI; rw [if_neg c1, if_neg c2, if_neg c3, if_pos c4]; simp only [hv, Option.map_some], by rw [t, g]; simp; omega⟩
 rw [if_neg c4] at hok
 by_cases c5 : i.f0 = 5
 ·have t : tk i.f0 = 1 := by rw [c5]; rfl
  have g : gv i.f0 = 1 := by rw [c5]; rfl
  match st, h1 with
  | [], h1 => rw [t] at h1; simp at h1
  | x :: s, h1 => exact ⟨(m, isI (!onI x) :: s), by unfold doI; rw [if_neg c1, if_neg c2, if_neg c3, if_neg c4, if_pos c5], by rw [t, g]; simp⟩
 rw [if_neg c5] at hok
 by_cases c6 : i.f0 = 6
 ·have t : tk i.f0 = 1 := by rw [c6]; rfl
  have g : gv i.f0 = 0 := by rw [c6]; rfl
  match st, h1 with
  | [], h1 => rw [t] at h1; simp at h1
  | x :: s, h1 => exact ⟨(m, s), by unfold doI; rw [if_neg c1, if_neg c2, if_neg c3, if_neg c4, if_neg c5, if_pos c6], by rw [t, g]; simp⟩
 by_cases c7 : i.f0 = 7 ∨ i.f0 = 8
 ·have t : tk i.f0 = 0 := by rcases c7 with e | e <;> (rw [e]; rfl)
  have g : gv i.f0 = 0 := by rcases c7 with e | e <;> (rw [e]; rfl)
  exact ⟨(m, st), by unfold doI; rw [if_neg c1, if_neg c2, if_neg c3, if_neg c4, if_neg c5, if_neg c6, if_pos c7], by rw [t, g]; simp⟩
 ·exfalso
  rw [if_neg (by omega), if_neg (by omega)] at hok
  cases hok
theorem goes_or {i : S30} {st : List Int} (h : goes i st = true) : i.f0 = 6 ∨ i.f0 = 7 ∨ i.f0 = 8 := by
 unfold goes at h
 simp only [Bool.or_eq_true, Bool.and_eq_true, beq_iff_eq] at h
 omega
theorem goB_of {a : Int} (h : a = 6 ∨ a = 7 ∨ a = 8) : goB a = true := by
 unfold goB
 simp only [Bool.or_eq_true, beq_iff_eq]
 omega
theorem foB_of {i : S30} {st : List Int} (h : ¬ goes i st = true) : foB i.f0 = true ∧ i.f0 ≠ 8 := by
 unfold goes at h
 simp only [Bool.or_eq_true, Bool.and_eq_true, beq_iff_eq] at h
 refine ⟨?_, fun e => h (.inr (.inl e))⟩
 unfold foB
 simp only [Bool.not_eq_true', Bool.or_eq_false_iff, beq_eq_false_iff_ne, ne_eq]
 exact ⟨fun e => h (.inl e), fun e => h (.inr (.inl e))⟩
theorem run_total {ps : List S30} (h : okB ps = true) : ∃ l : List Int, rd l 0 = 0 ∧ ∀ (G : Nat) (m : M3) (st : List Int) (p fl : Nat), p ≤ ps.length → (st.length : Int) = rd l (p : Int) → fl * (ps.length + 1) + (ps.length - p) < G → ∃ q, runI ps G m st p fl = some q := by
 obtain ⟨_, l, h0, hn, hf⟩ := Hk.dep_facts h
 refine ⟨l, h0, fun G => ?_⟩
 induction G with
 | zero => intro m st p fl _ _ hG; omega
 | succ G ih =>
  intro m st p fl hp hs hG
  by_cases c : p < ps.length
  rotate_left
  ·exact ⟨_, runI_end c⟩
  by_cases h8 : (rd_T30 ps p).f0 = 8 ∧ fl = 0
  ·exact ⟨_, runI_long c h8⟩
  obtain ⟨f1, f2, f3, f4, f5, f6⟩ := hf p c
  obtain ⟨r, hd, hl⟩ := doI_total (m := m) (st := st) f1 (by omega) (by omega)
  by_cases cg : goes (rd_T30 ps p) st = true
  ·have g := goes_or cg
   obtain ⟨g0, g1, g2⟩ := okI_to f1 (by omega) (by omega) g
   have e5 := f5 (goB_of g)
   rw [runI_step c h8 (by omega) hd]
   have en : nx (rd_T30 ps p) st p = (rd_T30 ps p).f1.toNat := by unfold nx; rw [if_pos cg]
   rw [en]
   refine ih _ _ _ _ (by omega) ?_ ?_
   ·rw [show (((rd_T30 ps p).f1.toNat : Nat) : Int) = (rd_T30 ps p).f1 by omega, e5]; omega
   ·unfold fu
    by_cases e8 : (rd_T30 ps p).f0 = 8
    ·rw [if_pos e8]
     obtain ⟨k, rfl⟩ : ∃ k, fl = k + 1 := ⟨fl - 1, by omega⟩
     rw [Nat.succ_mul] at hG
     rw [Nat.add_sub_cancel]
     generalize k * (ps.length + 1) = z at hG ⊢
     omega
    ·rw [if_neg e8]
     have := g2 e8
     generalize fl * (ps.length + 1) = z at hG ⊢
     omega
  ·obtain ⟨k1, k2⟩ := foB_of cg
   have e6 := f6 k1
   rw [runI_step c h8 (by rintro ⟨q, _⟩; exact cg q) hd]
   have en : nx (rd_T30 ps p) st p = p + 1 := by unfold nx; rw [if_neg cg]
   rw [en]
   refine ih _ _ _ _ (by omega) (by rw [e6]; omega) ?_
   unfold fu
   rw [if_neg k2]
   generalize fl * (ps.length + 1) = z at hG ⊢
   omega
def gasC (ps : List S30) (fl : Nat) : Nat := fl * (ps.length + 1) + ps.length + 1
def runC (m : M3) (ps : List S30) (fuel : Int) : Option (M3 × Int × Nat) :=
 if okM m.a m.b m.c = true ∧ okB ps = true ∧ 0 ≤ fuel ∧ fuel ≤ 100 then runI ps (gasC ps fuel.toNat) m [] 0 fuel.toNat else some (⟨[], [], []⟩, 2, 0)
theorem runC_total (m : M3) (ps : List S30) (fuel : Int) : ∃ q, runC m ps fuel = some q := by
 unfold runC
 by_cases h : okM m.a m.b m.c = true ∧ okB ps = true ∧ 0 ≤ fuel ∧ fuel ≤ 100
 ·rw [if_pos h]
  obtain ⟨l, h0, k⟩ := run_total h.2.1
  refine k _ _ _ _ _ (Nat.zero_le _) ?_ ?_
  ·simpa using h0.symm
  ·unfold gasC; omega
 ·rw [if_neg h]; exact ⟨_, rfl⟩
end Go.Proofs.YtjamfddhcigchaaGreatDoor.Hn
