/- Trees of impl's and of the law's Stmt in plain Lean: conversion, size, depth, sameness. No condition. -/
import Derived.Test.YtcigooccnlbkjaaHe1
import Derived.Test.YtcigooccnlbkjaaHe3
import Derived.Test.YtcigooccnlbkjaaHe4
namespace Go.Proofs.Ytcigooccnlbkjaa.Hf1
open Go.RowKit Go.Proofs.Ytcigooccnlbkjaa.He1 Go.Proofs.Ytcigooccnlbkjaa.He4 Go.Proofs.Ytcigooccnlbkjaa.PFnExactStmtsSame Go.Proofs.YtcigooccnlbkjaaW.PrintWords Go.Proofs.YtcigooccnlbkjaaW.PrintLast Go.Proofs.YtcigooccnlbkjaaW.PrintMore
set_option linter.unusedVariables false
set_option linter.unusedSimpArgs false
theorem rd107 (l : List S107) (i : Nat) (h : i < l.length) : rd_T107 l (i : Int) = l[i] := by
  unfold rd_T107; rw [Int.toNat_natCast, List.getD_eq_getElem?_getD, List.getElem?_eq_getElem h]; rfl
theorem rd109 (l : List S109) (i : Nat) (h : i < l.length) : rd_T109 l (i : Int) = l[i] := by
  unfold rd_T109; rw [Int.toNat_natCast, List.getD_eq_getElem?_getD, List.getElem?_eq_getElem h]; rfl
mutual
def cvS : S107 → S109
  | ⟨a, b, e, l, m⟩ => ⟨a, ⟨b.f0, b.f1⟩, cvE e, cvSs l, cvSs m⟩
def cvSs : List S107 → List S109
  | [] => []
  | x :: xs => cvS x :: cvSs xs
end
theorem cvSs_map : ∀ l : List S107, cvSs l = l.map cvS
  | [] => by simp [cvSs]
  | x :: xs => by rw [cvSs, cvSs_map xs]; rfl
theorem cvSs_len (l : List S107) : (cvSs l).length = l.length := by rw [cvSs_map, List.length_map]
theorem cvS_eq (x : S107) : cvS x = ⟨x.f0, ⟨x.f1.f0, x.f1.f1⟩, cvE x.f2, cvSs x.f3, cvSs x.f4⟩ := by cases x; rw [cvS]
mutual
def dS : S107 → Nat
  | ⟨_, _, _, l, m⟩ => max (dSs l) (dSs m) + 1
def dSs : List S107 → Nat
  | [] => 0
  | x :: xs => max (dS x) (dSs xs)
end
theorem dSs_mem : ∀ (l : List S107) (x : S107), x ∈ l → dS x ≤ dSs l
  | y :: ys, x, h => by
    rw [dSs]
    rcases List.mem_cons.1 h with rfl | h
    · exact Nat.le_max_left _ _
    · exact Nat.le_trans (dSs_mem ys x h) (Nat.le_max_right _ _)
theorem dS_eq (x : S107) : dSs x.f3 < dS x ∧ dSs x.f4 < dS x := by cases x; rw [dS]; exact ⟨Nat.lt_succ_of_le (Nat.le_max_left _ _), Nat.lt_succ_of_le (Nat.le_max_right _ _)⟩
mutual
def dT : S109 → Nat
  | ⟨_, _, _, l, m⟩ => max (dTs l) (dTs m) + 1
def dTs : List S109 → Nat
  | [] => 0
  | x :: xs => max (dT x) (dTs xs)
end
theorem dTs_mem : ∀ (l : List S109) (x : S109), x ∈ l → dT x ≤ dTs l
  | y :: ys, x, h => by
    rw [dTs]
    rcases List.mem_cons.1 h with rfl | h
    · exact Nat.le_max_left _ _
    · exact Nat.le_trans (dTs_mem ys x h) (Nat.le_max_right _ _)
theorem dT_eq (x : S109) : dTs x.f3 < dT x ∧ dTs x.f4 < dT x := by cases x; rw [dT]; exact ⟨Nat.lt_succ_of_le (Nat.le_max_left _ _), Nat.lt_succ_of_le (Nat.le_max_right _ _)⟩
def nb (r : Int) (f : Int → Int) : Int := if r < 0 then -1 else f r
def gl (n : Nat) (f : Int → Int) (a : Int) : Int := if a - (n : Int) < 0 then -1 else f (a - (n : Int))
mutual
def szS : S107 → Int → Int
  | ⟨_, _, e, l, m⟩ => fun a => nb (szE e a) fun r1 => nb (gl l.length (szSL l) r1) fun r2 => nb (gl m.length (szSL m) r2) fun r3 => r3
def szSL : List S107 → Int → Int
  | [] => fun a => a
  | x :: xs => fun a => nb (szS x a) fun r => szSL xs r
end
def szSs (l : List S107) (a : Int) : Int := gl l.length (szSL l) a
theorem szS_eq (x : S107) (a : Int) : szS x a = nb (szE x.f2 a) fun r1 => nb (szSs x.f3 r1) fun r2 => nb (szSs x.f4 r2) fun r3 => r3 := by cases x; rw [szS]; rfl
theorem gl_rng {n : Nat} {f : Int → Int} {a : Int} (h : 0 ≤ a) (hf : ∀ b, 0 ≤ b → f b = -1 ∨ (0 ≤ f b ∧ f b ≤ b)) : gl n f a = -1 ∨ (0 ≤ gl n f a ∧ gl n f a ≤ a) := by
  unfold gl
  split
  · exact .inl rfl
  · rcases hf (a - (n : Int)) (by omega) with h1 | h1
    · exact .inl h1
    · exact .inr ⟨h1.1, by omega⟩
theorem nb_rng {r a : Int} {f : Int → Int} (hr : r = -1 ∨ (0 ≤ r ∧ r ≤ a)) (hf : ∀ b, 0 ≤ b → f b = -1 ∨ (0 ≤ f b ∧ f b ≤ b)) : nb r f = -1 ∨ (0 ≤ nb r f ∧ nb r f ≤ a) := by
  unfold nb
  split
  · exact .inl rfl
  · rcases hr with rfl | hr
    · omega
    · rcases hf r hr.1 with h1 | h1
      · exact .inl h1
      · exact .inr ⟨h1.1, by omega⟩
mutual
theorem szS_rng : ∀ (x : S107) (a : Int), 0 ≤ a → szS x a = -1 ∨ (0 ≤ szS x a ∧ szS x a ≤ a)
  | ⟨_, _, e, l, m⟩, a, h => by
    rw [szS]
    exact nb_rng (szE_rng e a h) fun b hb => nb_rng (gl_rng hb (szSL_rng l)) fun b2 hb2 => nb_rng (gl_rng hb2 (szSL_rng m)) fun b3 hb3 => .inr ⟨hb3, Int.le_refl _⟩
theorem szSL_rng : ∀ (l : List S107) (a : Int), 0 ≤ a → szSL l a = -1 ∨ (0 ≤ szSL l a ∧ szSL l a ≤ a)
  | [], a, h => by rw [szSL]; exact .inr ⟨h, Int.le_refl _⟩
  | x :: xs, a, h => by
    rw [szSL]
    exact nb_rng (szS_rng x a h) fun b hb => szSL_rng xs b hb
end
theorem szSs_rng (l : List S107) (a : Int) (h : 0 ≤ a) : szSs l a = -1 ∨ (0 ≤ szSs l a ∧ szSs l a ≤ a) := gl_rng h (szSL_rng l)
mutual
def okS : S107 → Prop
  | ⟨_, _, e, l, m⟩ => okE e ∧ (l.length ≤ 1048576 ∧ okSs l) ∧ (m.length ≤ 1048576 ∧ okSs m)
def okSs : List S107 → Prop
  | [] => True
  | x :: xs => okS x ∧ okSs xs
end
theorem nb_ge {r : Int} {f : Int → Int} (h : 0 ≤ nb r f) : 0 ≤ r ∧ 0 ≤ f r := by
  unfold nb at h
  split at h
  · omega
  · exact ⟨by omega, h⟩
theorem gl_ge {n : Nat} {f : Int → Int} {a : Int} (h : 0 ≤ gl n f a) : (n : Int) ≤ a ∧ 0 ≤ f (a - (n : Int)) := by
  unfold gl at h
  split at h
  · omega
  · exact ⟨by omega, h⟩
theorem rng_le {r a : Int} (h : r = -1 ∨ (0 ≤ r ∧ r ≤ a)) (h0 : 0 ≤ r) : r ≤ a := by omega
mutual
theorem okS_of : ∀ (x : S107) (a : Int), 0 ≤ a → a ≤ 1048576 → 0 ≤ szS x a → okS x
  | ⟨_, _, e, l, m⟩, a, h, h2, h3 => by
    rw [szS] at h3
    rw [okS]
    obtain ⟨p1, h3⟩ := nb_ge h3
    obtain ⟨p2, h3⟩ := nb_ge h3
    obtain ⟨p3, _⟩ := nb_ge h3
    have b1 := rng_le (szE_rng e a h) p1
    have b2 := rng_le (gl_rng p1 (szSL_rng l)) p2
    obtain ⟨q1, q2⟩ := gl_ge p2
    obtain ⟨q3, q4⟩ := gl_ge p3
    exact ⟨okE_of e a h h2 p1, ⟨by omega, okSL_of l _ (by omega) (by omega) q2⟩, ⟨by omega, okSL_of m _ (by omega) (by omega) q4⟩⟩
theorem okSL_of : ∀ (l : List S107) (a : Int), 0 ≤ a → a ≤ 1048576 → 0 ≤ szSL l a → okSs l
  | [], a, h, h2, h3 => by rw [okSs]; trivial
  | x :: xs, a, h, h2, h3 => by
    rw [szSL] at h3
    rw [okSs]
    obtain ⟨p1, p2⟩ := nb_ge h3
    have b1 := rng_le (szS_rng x a h) p1
    exact ⟨okS_of x a h h2 p1, okSL_of xs _ p1 (by omega) p2⟩
end
theorem okSs_of (l : List S107) (a : Int) (h : 0 ≤ a) (h2 : a ≤ 1048576) (h3 : 0 ≤ szSs l a) : l.length ≤ 1048576 ∧ okSs l := by
  obtain ⟨q1, q2⟩ := gl_ge h3
  exact ⟨by omega, okSL_of l _ (by omega) (by omega) q2⟩
theorem okSs_mem : ∀ (l : List S107) (x : S107), okSs l → x ∈ l → okS x
  | y :: ys, x, h, hm => by
    rw [okSs] at h
    rcases List.mem_cons.1 hm with rfl | hm
    · exact h.1
    · exact okSs_mem ys x h.2 hm
theorem okS_eq (x : S107) : okS x ↔ okE x.f2 ∧ (x.f3.length ≤ 1048576 ∧ okSs x.f3) ∧ (x.f4.length ≤ 1048576 ∧ okSs x.f4) := by cases x; rw [okS]
mutual
def sm : S109 → S109 → Bool
  | ⟨a, b, e, l, m⟩, y => a == y.f0 && ((b.f0 == y.f1.f0 && b.f1 == y.f1.f1) && (alk e y.f2 && (sms l y.f3 && sms m y.f4)))
def sms : List S109 → List S109 → Bool
  | [], ys => ys.isEmpty
  | x :: xs, ys => match ys with
    | [] => false
    | y :: ys => sm x y && sms xs ys
end
theorem sm_eq (x y : S109) : sm x y = (x.f0 == y.f0 && ((x.f1.f0 == y.f1.f0 && x.f1.f1 == y.f1.f1) && (alk x.f2 y.f2 && (sms x.f3 y.f3 && sms x.f4 y.f4)))) := by cases x; rw [sm]
theorem sms_len : ∀ (l m : List S109), l.length ≠ m.length → sms l m = false
  | [], [], h => absurd rfl h
  | [], y :: ys, h => by rw [sms]; rfl
  | x :: xs, [], h => by rw [sms]
  | x :: xs, y :: ys, h => by
    rw [sms]
    show (sm x y && sms xs ys) = false
    rw [sms_len xs ys (by intro e; exact h (by simp [e])), Bool.and_false]
theorem sms_drop (l m : List S109) (k : Nat) (h1 : k < l.length) (h2 : k < m.length) : sms (l.drop k) (m.drop k) = (sm l[k] m[k] && sms (l.drop (k + 1)) (m.drop (k + 1))) := by
  rw [List.drop_eq_getElem_cons h1, List.drop_eq_getElem_cons h2, sms]
theorem sms_end (l m : List S109) (h : l.length = m.length) : sms (l.drop l.length) (m.drop l.length) = true := by
  rw [List.drop_length, h, List.drop_length, sms]; rfl
theorem szSL_drop (l : List S107) (k : Nat) (a : Int) (h : k < l.length) : szSL (l.drop k) a = if szS l[k] a < 0 then -1 else szSL (l.drop (k + 1)) (szS l[k] a) := by
  rw [List.drop_eq_getElem_cons h, szSL]; rfl
theorem szSL_end (l : List S107) (a : Int) : szSL (l.drop l.length) a = a := by
  rw [List.drop_length, szSL]
mutual
def lnS : S109 → Prop
  | ⟨_, _, e, l, m⟩ => lenF e ∧ (l.length ≤ 9223372036854775807 ∧ lnSs l) ∧ (m.length ≤ 9223372036854775807 ∧ lnSs m)
def lnSs : List S109 → Prop
  | [] => True
  | x :: xs => lnS x ∧ lnSs xs
end
theorem lnSs_mem : ∀ (l : List S109) (x : S109), lnSs l → x ∈ l → lnS x
  | y :: ys, x, h, hm => by
    rw [lnSs] at h
    rcases List.mem_cons.1 hm with rfl | hm
    · exact h.1
    · exact lnSs_mem ys x h.2 hm
theorem lnS_eq (x : S109) : lnS x ↔ lenF x.f2 ∧ (x.f3.length ≤ 9223372036854775807 ∧ lnSs x.f3) ∧ (x.f4.length ≤ 9223372036854775807 ∧ lnSs x.f4) := by cases x; rw [lnS]
end Go.Proofs.Ytcigooccnlbkjaa.Hf1
