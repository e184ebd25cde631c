/- Drawn statements are told to be ok or not; the code of drawn statements exists, of such a size; the draws of code exist. No condition. -/
import Derived.Test.YtjamfddhcigchaaGreatDoorTFnCodeSameHx
namespace Go.Proofs.YtjamfddhcigchaaGreatDoor.Hy
open Go.RowKit Go.Proofs.YtjamfddhcigchaaGreatDoor.HFnCodeSame Go.Proofs.YtjamfddhcigchaaGreatDoor.Hx Go.Proofs.YtjamfddhcigchaaGreatDoorW.PrintWords Go.Proofs.YtjamfddhcigchaaGreatDoorW.PrintLast Go.Proofs.YtjamfddhcigchaaGreatDoorW.PrintMore
set_option linter.unusedVariables false
set_option linter.unusedSimpArgs false
theorem rd120 (l : List S120) (i : Nat) (h : i < l.length) : rd_T120 l (i : Int) ∈ l := by
 unfold rd_T120
 rw [Int.toNat_natCast, List.getD_eq_getElem?_getD, List.getElem?_eq_getElem h]; exact List.getElem_mem h
theorem rd122 (l : List S122) (i : Nat) (h : i < l.length) : rd_T122 l (i : Int) ∈ l := by
 unfold rd_T122
 rw [Int.toNat_natCast, List.getD_eq_getElem?_getD, List.getElem?_eq_getElem h]; exact List.getElem_mem h
theorem okX_len {d : Nat} {x : S120} (h : okX d x) : x.f3.length ≤ 2 ∧ ∀ y ∈ x.f3, okX (d - 1) y := by
 cases d with
 | zero => exact h.elim
 | succ d =>
  rcases h with ⟨_, h⟩ | ⟨h, h2⟩
  ·rw [h]; exact ⟨by simp, fun y hy => by simp at hy⟩
  ·exact ⟨by rcases h with ⟨_, h⟩ | ⟨_, h⟩ <;> omega, h2⟩
theorem many_end {k : Nat} {a acc i a0 a1 a2 a3 : Int} {l : List S120} (h : ¬ i < (l.length : Int)) : spec_l3Many.l0 (k + 1) a acc i a0 a1 a2 a3 l = some acc := by
 rw [spec_l3Many.l0, if_neg h]
theorem many_neg {k : Nat} {a acc i a0 a1 a2 a3 : Int} {l : List S120} (h : i < (l.length : Int)) (ha : ¬ a > 0) : spec_l3Many.l0 (k + 1) a acc i a0 a1 a2 a3 l = some acc := by
 rw [spec_l3Many.l0, if_pos h, if_neg ha]
theorem many_step {k : Nat} {a acc i a0 a1 a2 a3 t : Int} {l : List S120} (h : i < (l.length : Int)) (h0 : 0 ≤ i) (ha : a > 0) (e : spec_l3Many.f k (rd_T120 l i).f0 (rd_T120 l i).f1 (rd_T120 l i).f2.f0 (rd_T120 l i).f2.f1 (rd_T120 l i).f3 (wrap64 (a - 1)) = some t) : spec_l3Many.l0 (k + 1) a acc i a0 a1 a2 a3 l = spec_l3Many.l0 k a (wrap64 (acc + t)) (wrap64 (i + 1)) a0 a1 a2 a3 l := by
 rw [spec_l3Many.l0, if_pos h, if_pos ha, if_pos h0, e]; rfl
theorem many_of {k : Nat} {a0 a1 a2 a3 a i : Int} {l : List S120} {r : Option Int} (hi : i = 0) (e : spec_l3Many.l0 k a 1 i a0 a1 a2 a3 l = r) : spec_l3Many.f (k + 1) a0 a1 a2 a3 l a = r := by
 subst hi; rw [spec_l3Many.f]; exact e
theorem many3 : ∀ (d : Nat) (x : S120), okX d x → ∀ (k : Nat) (a : Int), ∃ r, spec_l3Many.f (k + 5 * d + 5) x.f0 x.f1 x.f2.f0 x.f2.f1 x.f3 a = some r
 | 0, _, h, _, _ => h.elim
 | d + 1, x, h, k, a => by
  obtain ⟨hl, hk⟩ := okX_len h
  have L : ∀ (n k i : Nat) (acc : Int), n + i = x.f3.length → ∃ r, spec_l3Many.l0 (k + 5 * d + 5 + n + 1) a acc (i : Int) x.f0 x.f1 x.f2.f0 x.f2.f1 x.f3 = some r := by
   intro n
   induction n with
   | zero =>
    intro k i acc hi
    exact ⟨_, many_end (by omega)⟩
   | succ n ih =>
    intro k i acc hi
    by_cases ha : a > 0
    ·obtain ⟨r, hr⟩ := many3 d _ (hk _ (rd120 x.f3 i (by omega))) (k + n + 1) (wrap64 (a - 1))
     rw [show k + n + 1 + 5 * d + 5 = k + 5 * d + 5 + n + 1 by omega] at hr
     rw [show k + 5 * d + 5 + (n + 1) + 1 = (k + 5 * d + 5 + n + 1) + 1 by omega, many_step (by omega) (by omega) ha hr]
     rw [show wrap64 ((i : Int) + 1) = ((i + 1 : Nat) : Int) by rw [wrap_id (by omega) (by omega)]; omega]
     exact ih k (i + 1) _ (by omega)
    ·exact ⟨_, many_neg (by omega) ha⟩
  obtain ⟨r, hr⟩ := L x.f3.length (k + 5 - x.f3.length - 2 + 0) 0 1 (by omega)
  refine ⟨r, ?_⟩
  have ek : k + 5 * (d + 1) + 5 = (k + 5 - x.f3.length - 2 + 0 + 5 * d + 5 + x.f3.length + 1) + 1 := by omega
  rw [ek]
  exact many_of rfl hr
theorem addrOk_some (a b : Int) : ∃ r, spec_AddrOk.f a b = some r := by
 unfold spec_AddrOk.f; repeat' split
 all_goals exact ⟨_, rfl⟩
theorem cut_some (a : Int) : ∃ r, spec_NumCut.f a = some r := by
 unfold spec_NumCut.f spec_l1Min.f
 by_cases h : 1000000 < a
 ·rw [if_pos h]; simp only [Option.bind_some]; unfold spec_l1Max.f; split <;> exact ⟨_, rfl⟩
 ·rw [if_neg h]; simp only [Option.bind_some]; unfold spec_l1Max.f; split <;> exact ⟨_, rfl⟩
theorem form3 : ∀ (d : Nat) (x : S120), okX d x → ∀ (k : Nat) (a : Int), ∃ r, spec_l3Form.f (k + 9 * d + 9) x.f0 x.f1 x.f2.f0 x.f2.f1 x.f3 a = some r
 | 0, _, h, _, _ => h.elim
 | d + 1, x, h, k, a => by
  obtain ⟨hl, hk⟩ := okX_len h
  have L : ∀ (n k i : Nat), n + i = x.f3.length → ∃ r, spec_l3Form.l0 (k + 9 * d + 9 + n + 1) a (i : Int) x.f0 x.f1 x.f2.f0 x.f2.f1 x.f3 = some r := by
   intro n
   induction n with
   | zero =>
    intro k i hi
    rw [show k + 9 * d + 9 + 0 + 1 = (k + 9 * d + 9) + 1 from rfl, spec_l3Form.l0, if_neg (by omega)]
    exact ⟨_, rfl⟩
   | succ n ih =>
    intro k i hi
    rw [show k + 9 * d + 9 + (n + 1) + 1 = (k + 9 * d + 9 + n + 1) + 1 from rfl, spec_l3Form.l0, if_pos (by omega), if_pos (by omega)]
    obtain ⟨r, hr⟩ := form3 d _ (hk _ (rd120 x.f3 i (by omega))) (k + n + 1) (wrap64 (a - 1))
    rw [show k + n + 1 + 9 * d + 9 = k + 9 * d + 9 + n + 1 by omega] at hr
    rw [hr]; simp only [Option.bind_some]
    rw [show wrap64 ((i : Int) + 1) = ((i + 1 : Nat) : Int) by rw [wrap_id (by omega) (by omega)]; omega]
    cases r with
    | true => rw [if_pos rfl]; exact ih k (i + 1) (by omega)
    | false => exact ⟨_, rfl⟩
  have J2 : ∀ (m : Nat) (b : Bool), (∃ r, spec_l3Form.l0 m a 0 x.f0 x.f1 x.f2.f0 x.f2.f1 x.f3 = some r) → ∃ r, spec_l3Form.j2 (m + 1) a b x.f0 x.f1 x.f2.f0 x.f2.f1 x.f3 = some r := by
   intro m b hL
   rw [spec_l3Form.j2]; split
   ·exact ⟨_, rfl⟩
   ·exact hL
  have J1 : ∀ (m : Nat) (b : Bool), (∃ r, spec_l3Form.l0 m a 0 x.f0 x.f1 x.f2.f0 x.f2.f1 x.f3 = some r) → ∃ r, spec_l3Form.j1 (m + 1 + 1) a b x.f0 x.f1 x.f2.f0 x.f2.f1 x.f3 = some r := by
   intro m b hL
   rw [spec_l3Form.j1]; split
   ·exact ⟨_, rfl⟩
   ·split
    ·obtain ⟨t, ht⟩ := addrOk_some x.f2.f0 x.f2.f1
     rw [ht]; simp only [Option.bind_some]
     split <;> exact J2 m _ hL
    ·exact J2 m _ hL
  have J0 : ∀ (m : Nat) (b : Bool), (∃ r, spec_l3Form.l0 m a 0 x.f0 x.f1 x.f2.f0 x.f2.f1 x.f3 = some r) → ∃ r, spec_l3Form.j0 (m + 1 + 1 + 1) a b x.f0 x.f1 x.f2.f0 x.f2.f1 x.f3 = some r := by
   intro m b hL
   rw [spec_l3Form.j0]; split
   ·exact ⟨_, rfl⟩
   ·split
    ·obtain ⟨t, ht⟩ := cut_some x.f1
     rw [ht]; simp only [Option.bind_some]
     split <;> exact J1 m _ hL
    ·exact J1 m _ hL
  have hL := L x.f3.length (k + 9 - x.f3.length - 5) 0 (by omega)
  have ek : k + 9 * (d + 1) + 9 = (k + 9 - x.f3.length - 5 + 9 * d + 9 + x.f3.length + 1) + 1 + 1 + 1 + 1 := by omega
  rw [ek, spec_l3Form.f]
  split
  ·exact J0 _ _ hL
  ·obtain ⟨t, ht, _⟩ := kids_some (k + 9 - x.f3.length - 5 + 9 * d + 9 + x.f3.length + 1 + 1 + 1) x.f0
   rw [ht]; simp only [Option.bind_some]
   exact J0 _ _ hL
theorem exprOk_some (x : S120) (h : okX 3 x) (k : Nat) : ∃ r, spec_ExprOk.f (k + 36) x.f0 x.f1 x.f2.f0 x.f2.f1 x.f3 = some r := by
 unfold spec_ExprOk.f
 obtain ⟨r, hr⟩ := form3 3 x h k 6
 obtain ⟨t, ht⟩ := many3 3 x h (k + 16) 6
 rw [show k + 9 * 3 + 9 = k + 36 from rfl] at hr
 rw [show k + 16 + 5 * 3 + 5 = k + 36 from rfl] at ht
 rw [hr]; simp only [Option.bind_some]
 split
 ·rw [ht]; exact ⟨_, rfl⟩
 ·exact ⟨_, rfl⟩
theorem okS_len {d : Nat} {s : S122} (h : okS d s) : okX 3 s.f2 ∧ s.f3.length ≤ 3 ∧ s.f4.length ≤ 3 ∧ (∀ t ∈ s.f3, okS (d - 1) t) ∧ ∀ t ∈ s.f4, okS (d - 1) t := by
 cases d with
 | zero => exact h.elim
 | succ d => exact ⟨h.2.1, h.2.2.1, h.2.2.2.1, h.2.2.2.2.1, h.2.2.2.2.2⟩
theorem m4_end {k : Nat} {xs : List S122} {a acc i : Int} (h : ¬ i < (xs.length : Int)) : spec_l4Many.l0 (k + 1 + 1) xs a acc i = some acc := by
 rw [spec_l4Many.l0, if_neg h, spec_l4Many.j1, if_neg (by decide)]
theorem m4_neg {k : Nat} {xs : List S122} {a acc i : Int} (ha : ¬ a > 0) : spec_l4Many.l0 (k + 1 + 1) xs a acc i = some acc := by
 rw [spec_l4Many.l0, decide_eq_false ha]
 split
 ·rw [spec_l4Many.j1, if_neg (by decide)]
 ·rw [spec_l4Many.j1, if_neg (by decide)]
theorem m4_step {k : Nat} {xs : List S122} {a acc i t u : Int} (h : i < (xs.length : Int)) (h0 : 0 ≤ i) (ha : a > 0) (e : spec_l4Many.f k (rd_T122 xs i).f3 (wrap64 (a - 1)) = some t) (e2 : spec_l4Many.f k (rd_T122 xs i).f4 (wrap64 (a - 1)) = some u) : spec_l4Many.l0 (k + 1 + 1) xs a acc i = spec_l4Many.l0 k xs a (wrap64 ((wrap64 (acc + t)) + u)) (wrap64 (i + 1)) := by
 rw [spec_l4Many.l0, if_pos h, decide_eq_true ha, spec_l4Many.j1, if_pos rfl, if_pos h0, if_pos h, e]
 simp only [Option.bind_some]
 rw [e2]; rfl
theorem m4_of {k : Nat} {xs : List S122} {a n i : Int} {r : Option Int} (hi : i = 0) (hn : n = (xs.length : Int)) (e : spec_l4Many.l0 k xs a n i = r) : spec_l4Many.f (k + 1) xs a = r := by
 subst hi; subst hn; rw [spec_l4Many.f]; exact e
theorem many4 : ∀ (d : Nat) (xs : List S122), xs.length ≤ 3 → (∀ s ∈ xs, okS d s) → ∀ (k : Nat) (a : Int), ∃ r, spec_l4Many.f (k + 10 * d + 10) xs a = some r
 | 0, xs, hl, ho, k, a => by
  cases xs with
  | nil =>
   refine ⟨((([] : List S122).length : Nat) : Int), ?_⟩
   rw [show k + 10 * 0 + 10 = (k + 7 + 1 + 1) + 1 by omega]
   exact m4_of (i := ((0 : Nat) : Int)) rfl rfl (m4_end (by simp))
  | cons s t => exact (ho s (List.mem_cons_self ..)).elim
 | d + 1, xs, hl, ho, k, a => by
  have L : ∀ (n k i : Nat) (acc : Int), n + i = xs.length → ∃ r, spec_l4Many.l0 (k + 10 * d + 10 + 2 * n + 2) xs a acc (i : Int) = some r := by
   intro n
   induction n with
   | zero =>
    intro k i acc hi
    rw [show k + 10 * d + 10 + 2 * 0 + 2 = (k + 10 * d + 10) + 1 + 1 by omega]
    exact ⟨_, m4_end (by omega)⟩
   | succ n ih =>
    intro k i acc hi
    by_cases ha : a > 0
    ·obtain ⟨_, l3, l4, o3, o4⟩ := okS_len (ho _ (rd122 xs i (by omega)))
     obtain ⟨t, ht⟩ := many4 d _ l3 o3 (k + 2 * n + 2) (wrap64 (a - 1))
     obtain ⟨u, hu⟩ := many4 d _ l4 o4 (k + 2 * n + 2) (wrap64 (a - 1))
     have ek : k + 2 * n + 2 + 10 * d + 10 = k + 10 * d + 10 + 2 * n + 2 := by omega
     rw [ek] at ht hu
     have ek2 : k + 10 * d + 10 + 2 * (n + 1) + 2 = (k + 10 * d + 10 + 2 * n + 2) + 1 + 1 := by omega
     rw [ek2, m4_step (by omega) (by omega) ha ht hu, show wrap64 ((i : Int) + 1) = ((i + 1 : Nat) : Int) by rw [wrap_id (by omega) (by omega)]; omega]
     exact ih k (i + 1) _ (by omega)
    ·have ek2 : k + 10 * d + 10 + 2 * (n + 1) + 2 = (k + 10 * d + 10 + 2 * n + 2) + 1 + 1 := by omega
     rw [ek2]
     exact ⟨_, m4_neg ha⟩
  obtain ⟨r, hr⟩ := L xs.length (k + 7 - 2 * xs.length) 0 (xs.length : Int) (by omega)
  refine ⟨r, ?_⟩
  have ek : k + 10 * (d + 1) + 10 = (k + 7 - 2 * xs.length + 10 * d + 10 + 2 * xs.length + 2) + 1 := by omega
  rw [ek]
  exact m4_of rfl rfl hr
theorem f4_end {k : Nat} {xs : List S122} {a i : Int} (h : ¬ i < (xs.length : Int)) : spec_l4Form.l0 (k + 1) xs a i = some true := by
 rw [spec_l4Form.l0, if_neg h]
theorem f4_j2 {k : Nat} {xs : List S122} {a i : Int} {b : Bool} {s : S122} (he : ∃ r, spec_ExprOk.f k s.f2.f0 s.f2.f1 s.f2.f2.f0 s.f2.f2.f1 s.f2.f3 = some r) (h3 : ∃ r, spec_l4Form.f k s.f3 (wrap64 (a - 1)) = some r) (h4 : ∃ r, spec_l4Form.f k s.f4 (wrap64 (a - 1)) = some r) (hn : ∃ r, spec_l4Form.l0 k xs a (wrap64 (i + 1)) = some r) :
  ∃ r, spec_l4Form.j2 (k + 1) xs a i b s.f0 s.f1.f0 s.f1.f1 s.f2.f0 s.f2.f1 s.f2.f2.f0 s.f2.f2.f1 s.f2.f3 s.f3 s.f4 = some r := by
 obtain ⟨e, he⟩ := he
 obtain ⟨t, h3⟩ := h3
 obtain ⟨u, h4⟩ := h4
 rw [spec_l4Form.j2]; split
 ·rw [he]; simp only [Option.bind_some]; split
  ·rw [h3]; simp only [Option.bind_some]; split
   ·rw [h4]; simp only [Option.bind_some]; split
    ·exact hn
    ·exact ⟨_, rfl⟩
   ·exact ⟨_, rfl⟩
  ·exact ⟨_, rfl⟩
 ·exact ⟨_, rfl⟩
theorem f4_step {k : Nat} {xs : List S122} {a i : Int} (h : i < (xs.length : Int)) (h0 : 0 ≤ i) (he : ∃ r, spec_ExprOk.f k (rd_T122 xs i).f2.f0 (rd_T122 xs i).f2.f1 (rd_T122 xs i).f2.f2.f0 (rd_T122 xs i).f2.f2.f1 (rd_T122 xs i).f2.f3 = some r) (h3 : ∃ r, spec_l4Form.f k (rd_T122 xs i).f3 (wrap64 (a - 1)) = some r) (h4 : ∃ r, spec_l4Form.f k (rd_T122 xs i).f4 (wrap64 (a - 1)) = some r) (hn : ∃ r, spec_l4Form.l0 k xs a (wrap64 (i + 1)) = some r) :
  ∃ r, spec_l4Form.l0 (k + 1 + 1) xs a i = some r := by
 have J := fun b => f4_j2 (xs := xs) (i := i) (b := b) he h3 h4 hn
 rw [spec_l4Form.l0, if_pos h, if_pos h0]
 obtain ⟨t, ht⟩ := addrOk_some (rd_T122 xs i).f1.f0 (rd_T122 xs i).f1.f1
 rw [ht]; simp only [Option.bind_some]
 repeat' split
 all_goals exact J _
theorem f4_j0 {k : Nat} {xs : List S122} {a : Int} {b : Bool} (e : ∃ r, spec_l4Form.l0 k xs a 0 = some r) : ∃ r, spec_l4Form.j0 (k + 1) xs a b = some r := by
 rw [spec_l4Form.j0]; split
 ·exact ⟨_, rfl⟩
 ·exact e
theorem f4_of {k : Nat} {xs : List S122} {a i : Int} (hi : i = 0) (e : ∃ r, spec_l4Form.l0 k xs a i = some r) : ∃ r, spec_l4Form.f (k + 1 + 1) xs a = some r := by
 subst hi
 rw [spec_l4Form.f]; split
 ·exact f4_j0 e
 ·exact f4_j0 e
theorem form4 : ∀ (d : Nat) (xs : List S122), xs.length ≤ 3 → (∀ s ∈ xs, okS d s) → ∀ (k : Nat) (a : Int), ∃ r, spec_l4Form.f (k + 10 * d + 60) xs a = some r
 | 0, xs, hl, ho, k, a => by
  cases xs with
  | nil =>
   rw [show k + 10 * 0 + 60 = (k + 57 + 1) + 1 + 1 by omega]
   exact f4_of (i := ((0 : Nat) : Int)) rfl ⟨_, f4_end (by simp)⟩
  | cons s t => exact (ho s (List.mem_cons_self ..)).elim
 | d + 1, xs, hl, ho, k, a => by
  have L : ∀ (n k i : Nat), n + i = xs.length → ∃ r, spec_l4Form.l0 (k + 10 * d + 60 + 2 * n + 1) xs a (i : Int) = some r := by
   intro n
   induction n with
   | zero =>
    intro k i hi
    rw [show k + 10 * d + 60 + 2 * 0 + 1 = (k + 10 * d + 60) + 1 by omega]
    exact ⟨_, f4_end (by omega)⟩
   | succ n ih =>
    intro k i hi
    obtain ⟨ox, l3, l4, o3, o4⟩ := okS_len (ho _ (rd122 xs i (by omega)))
    have ht := form4 d _ l3 o3 (k + 2 * n + 1) (wrap64 (a - 1))
    have hu := form4 d _ l4 o4 (k + 2 * n + 1) (wrap64 (a - 1))
    have hx := exprOk_some _ ox (k + 10 * d + 24 + 2 * n + 1)
    have hr := ih k (i + 1) (by omega)
    have ek : k + 2 * n + 1 + 10 * d + 60 = k + 10 * d + 60 + 2 * n + 1 := by omega
    have ex : k + 10 * d + 24 + 2 * n + 1 + 36 = k + 10 * d + 60 + 2 * n + 1 := by omega
    rw [ek] at ht hu
    rw [ex] at hx
    have ek2 : k + 10 * d + 60 + 2 * (n + 1) + 1 = (k + 10 * d + 60 + 2 * n + 1) + 1 + 1 := by omega
    rw [ek2]
    refine f4_step (by omega) (by omega) hx ht hu ?_
    rw [show wrap64 ((i : Int) + 1) = ((i + 1 : Nat) : Int) by rw [wrap_id (by omega) (by omega)]; omega]
    exact hr
  have hL := L xs.length (k + 7 - 2 * xs.length) 0 (by omega)
  have ek : k + 10 * (d + 1) + 60 = (k + 7 - 2 * xs.length + 10 * d + 60 + 2 * xs.length + 1) + 1 + 1 := by omega
  rw [ek]
  exact f4_of rfl hL
theorem stmtsOk_some (xs : List S122) (hl : xs.length ≤ 3) (ho : ∀ s ∈ xs, okS 3 s) (k : Nat) : ∃ r, spec_StmtsOk.f (k + 90) xs = some r := by
 unfold spec_StmtsOk.f
 obtain ⟨r, hr⟩ := many4 3 xs hl ho (k + 50) 4
 obtain ⟨t, ht⟩ := form4 3 xs hl ho k 4
 have e1 : k + 50 + 10 * 3 + 10 = k + 90 := by omega
 have e2 : k + 10 * 3 + 60 = k + 90 := by omega
 rw [e1] at hr
 rw [e2] at ht
 rw [hr]; simp only [Option.bind_some]
 split
 ·rw [ht]; exact ⟨_, rfl⟩
 ·exact ⟨_, rfl⟩
theorem some_some {l : List Int} (h : Byt l) (k : Nat) : ∃ xs q, spec_l4Some.f (k + 200) l 0 = some (xs, q) ∧ xs.length ≤ 3 ∧ (∀ s ∈ xs, okS 3 s) ∧ 0 ≤ q ∧ q ≤ 20000 := by
 unfold spec_l4Some.f
 obtain ⟨xs, q, e, hl, ho, q0, q1⟩ := list3 h (k + 46) 0 (by omega) (by omega)
 obtain ⟨r, hr⟩ := stmtsOk_some xs hl ho (k + 110)
 have e1 : k + 46 + 154 = k + 200 := by omega
 have e2 : k + 110 + 90 = k + 200 := by omega
 rw [e1] at e
 rw [e2] at hr
 rw [e]; simp only [Option.bind_some]
 rw [hr]; simp only [Option.bind_some]
 split
 ·exact ⟨xs, q, rfl, hl, ho, q0, by omega⟩
 ·obtain ⟨s, q', hs, os, s0, s1⟩ := count_some h q (by omega) (by omega)
  rw [hs]; simp only [Option.bind_some, eta122]
  exact ⟨[s], q', rfl, by simp, fun t ht => by rw [List.mem_singleton.1 ht]; exact okS_le (by omega) os, by omega, by omega⟩
def xl : Nat → Nat
 | 0 => 0
 | d + 1 => 2 * xl d + 1
theorem x5_some : ∀ (d : Nat) (x : S120), okX d x → d ≤ 3 → ∀ (k : Nat), ∃ es, spec_l5Expr.f (k + d) x.f0 x.f1 x.f2.f0 x.f2.f1 x.f3 = some es ∧ es.length ≤ xl d
 | 0, _, h, _, _ => h.elim
 | d + 1, x, h, hd, k => by
  have hx : xl (d + 1) = 2 * xl d + 1 := rfl
  have hb : xl d ≤ 7 := by rcases (by omega : d = 0 ∨ d = 1 ∨ d = 2) with rfl | rfl | rfl <;> decide
  rw [show k + (d + 1) = (k + d) + 1 by omega, spec_l5Expr.f]
  rcases h with ⟨h, _⟩ | ⟨h, hk⟩
  ·rcases h with h | h
   ·rw [if_pos h]; exact ⟨_, rfl, by simp; omega⟩
   ·rw [if_neg (by omega), if_pos h]; exact ⟨_, rfl, by simp; omega⟩
  ·rcases h with ⟨h, hl⟩ | ⟨⟨h3, h9⟩, hl⟩
   ·rw [if_neg (by omega), if_neg (by omega), if_pos h, if_pos (by omega)]
    obtain ⟨es, he, el⟩ := x5_some d _ (hk _ (rd120 x.f3 0 (by omega))) (by omega) k
    rw [show ((0 : Nat) : Int) = 0 from rfl] at he
    rw [he]; simp only [Option.bind_some]
    rw [if_pos (by simp; omega)]
    exact ⟨_, rfl, by simp; omega⟩
   ·rw [if_neg (by omega), if_neg (by omega), if_neg (by omega), if_pos (by omega)]
    obtain ⟨es, he, el⟩ := x5_some d _ (hk _ (rd120 x.f3 0 (by omega))) (by omega) k
    obtain ⟨fs, hf, fl⟩ := x5_some d _ (hk _ (rd120 x.f3 1 (by omega))) (by omega) k
    rw [show ((0 : Nat) : Int) = 0 from rfl] at he
    rw [show ((1 : Nat) : Int) = 1 from rfl] at hf
    rw [he]; simp only [Option.bind_some]
    rw [if_pos (by omega), hf]; simp only [Option.bind_some]
    rw [if_pos (by omega)]; try simp only [Option.bind_some]
    rw [if_pos (by simp; omega)]
    exact ⟨_, rfl, by simp; omega⟩
def ol : Nat → Nat
 | 0 => 0
 | d + 1 => 3 * (2 * ol d + 10)
theorem one_some {F : List S122 → Int → Option (List S30)} (d : Nat) (hd : ol d ≤ 300) (s : S122) (a : Int) (h : okS (d + 1) s) (HF : ∀ xs : List S122, xs.length ≤ 3 → (∀ t ∈ xs, okS d t) → ∀ b, ∃ es, F xs b = some es ∧ es.length ≤ ol d) :
  ∃ es, spec_l5One.g F s.f0 s.f1.f0 s.f1.f1 s.f2.f0 s.f2.f1 s.f2.f2.f0 s.f2.f2.f1 s.f2.f3 s.f3 s.f4 a = some es ∧ es.length ≤ 2 * ol d + 10 := by
 obtain ⟨_, ox, l3, l4, o3, o4⟩ := h
 unfold spec_l5One.g
 obtain ⟨es, he, el⟩ := x5_some 3 _ ox (by omega) 997
 have el : es.length ≤ 7 := el
 rw [show 997 + 3 = 1000 from rfl] at he
 rw [he]; simp only [Option.bind_some]
 split
 ·rw [if_pos (by omega)]; exact ⟨_, rfl, by simp; omega⟩
 ·obtain ⟨bs, hb, bl⟩ := HF s.f3 l3 o3 (wrap64 (a + (wrap64 ((es.length : Int) + 1))))
  split
  ·rw [hb]; simp only [Option.bind_some]
   rw [if_pos (by omega)]; try simp only [Option.bind_some]
   rw [if_pos (by simp; omega)]; try simp only [Option.bind_some]
   rw [if_pos (by simp; omega)]
   exact ⟨_, rfl, by simp; omega⟩
  ·rw [hb]; simp only [Option.bind_some]
   obtain ⟨cs, hc, cl⟩ := HF s.f4 l4 o4 (wrap64 ((wrap64 ((wrap64 (a + (wrap64 ((es.length : Int) + 1)))) + (bs.length : Int))) + 1))
   rw [hc]; simp only [Option.bind_some]
   rw [if_pos (by omega)]; try simp only [Option.bind_some]
   rw [if_pos (by simp; omega)]; try simp only [Option.bind_some]
   rw [if_pos (by simp; omega)]; try simp only [Option.bind_some]
   rw [if_pos (by simp; omega)]
   exact ⟨_, rfl, by simp; omega⟩
theorem lp_end {G : Int → Int → Int → Int → Int → Int → Int → List S120 → List S122 → List S122 → Int → Option (List S30)} {k : Nat} {xs : List S122} {a i : Int} {acc : List S30} (h : ¬ i < (xs.length : Int)) : spec_l5Loop.l0 G (k + 1) xs a acc i = some acc := by
 rw [spec_l5Loop.l0, if_neg h]
theorem lp_step {G : Int → Int → Int → Int → Int → Int → Int → List S120 → List S122 → List S122 → Int → Option (List S30)} {k : Nat} {xs : List S122} {a i : Int} {acc es : List S30} (h : i < (xs.length : Int)) (h0 : 0 ≤ i) (he : G (rd_T122 xs i).f0 (rd_T122 xs i).f1.f0 (rd_T122 xs i).f1.f1 (rd_T122 xs i).f2.f0 (rd_T122 xs i).f2.f1 (rd_T122 xs i).f2.f2.f0 (rd_T122 xs i).f2.f2.f1 (rd_T122 xs i).f2.f3 (rd_T122 xs i).f3 (rd_T122 xs i).f4 (wrap64 (a + (acc.length : Int))) = some es) (hl : acc.length + es.length < 4398046511104) :
  spec_l5Loop.l0 G (k + 1) xs a acc i = spec_l5Loop.l0 G k xs a (acc ++ es) (wrap64 (i + 1)) := by
 rw [spec_l5Loop.l0, if_pos h, if_pos h0, he]; simp only [Option.bind_some]
 rw [if_pos hl]
theorem loop_some {G : Int → Int → Int → Int → Int → Int → Int → List S120 → List S122 → List S122 → Int → Option (List S30)} (xs : List S122) (a : Int) (B : Nat) (hB : B ≤ 1000) (hl : xs.length ≤ 3) (HG : ∀ s ∈ xs, ∀ b, ∃ es, G s.f0 s.f1.f0 s.f1.f1 s.f2.f0 s.f2.f1 s.f2.f2.f0 s.f2.f2.f1 s.f2.f3 s.f3 s.f4 b = some es ∧ es.length ≤ B) :
  ∀ (n k i : Nat) (acc : List S30), n + i = xs.length → acc.length ≤ i * B → ∃ es, spec_l5Loop.l0 G (k + n + 1) xs a acc (i : Int) = some es ∧ es.length ≤ xs.length * B
 | 0, k, i, acc, hi, ha => ⟨acc, lp_end (by omega), by rw [← hi]; simpa using ha⟩
 | n + 1, k, i, acc, hi, ha => by
  obtain ⟨es, he, el⟩ := HG _ (rd122 xs i (by omega)) (wrap64 (a + (acc.length : Int)))
  have hiB : i * B ≤ 3 * 1000 := Nat.mul_le_mul (by omega) hB
  have e1 : (i + 1) * B = i * B + B := by rw [Nat.add_mul, Nat.one_mul]
  rw [show k + (n + 1) + 1 = (k + n + 1) + 1 by omega, lp_step (by omega) (by omega) he (by omega), show wrap64 ((i : Int) + 1) = ((i + 1 : Nat) : Int) by rw [wrap_id (by omega) (by omega)]; omega]
  exact loop_some xs a B hB hl HG n k (i + 1) (acc ++ es) (by omega) (by rw [List.length_append, e1]; omega)
theorem deep_eq (m : Nat) (xs : List S122) (b : Int) : spec_l5Of.deep (m + 1) xs b = spec_l5Loop.l0 (spec_l5One.g (spec_l5Of.deep m)) 1000 xs b [] 0 := rfl
theorem deep_some : ∀ (d : Nat), d ≤ 3 → ∀ (n : Nat), d + 1 ≤ n → ∀ xs : List S122, xs.length ≤ 3 → (∀ t ∈ xs, okS d t) → ∀ b, ∃ es, spec_l5Of.deep n xs b = some es ∧ es.length ≤ ol d
 | 0, _, n, hn, xs, hl, ho, b => by
  obtain ⟨m, rfl⟩ : ∃ m, n = m + 1 := ⟨n - 1, by omega⟩
  cases xs with
  | nil => exact ⟨[], (deep_eq m [] b).trans (lp_end (k := 999) (by simp)), by simp⟩
  | cons s t => exact (ho s (List.mem_cons_self ..)).elim
 | d + 1, hd, n, hn, xs, hl, ho, b => by
  obtain ⟨m, rfl⟩ : ∃ m, n = m + 1 := ⟨n - 1, by omega⟩
  have hod : ol d ≤ 300 := by rcases (by omega : d = 0 ∨ d = 1 ∨ d = 2) with rfl | rfl | rfl <;> decide
  have HG : ∀ s ∈ xs, ∀ b, ∃ es, spec_l5One.g (spec_l5Of.deep m) s.f0 s.f1.f0 s.f1.f1 s.f2.f0 s.f2.f1 s.f2.f2.f0 s.f2.f2.f1 s.f2.f3 s.f3 s.f4 b = some es ∧ es.length ≤ 2 * ol d + 10 := fun s hs b => one_some d hod s b (ho s hs) (fun ys yl yo c => deep_some d (by omega) m (by omega) ys yl yo c)
  obtain ⟨es, he, el⟩ := loop_some (G := spec_l5One.g (spec_l5Of.deep m)) xs b (2 * ol d + 10) (by omega) hl HG xs.length (999 - xs.length) 0 [] (by omega) (by simp)
  have ek : 999 - xs.length + xs.length + 1 = 1000 := by omega
  rw [ek] at he
  have eo : ol (d + 1) = 3 * (2 * ol d + 10) := rfl
  have := Nat.mul_le_mul_right (2 * ol d + 10) hl
  exact ⟨es, (deep_eq m xs b).trans he, by omega⟩
end Go.Proofs.YtjamfddhcigchaaGreatDoor.Hy
