/- Trees of impl's and of the law's Expr in plain Lean: conversion, size, depth, likeness. No condition. -/
import Derived.Test.YtcigooccnlbkjaaPFnExactStmtsSamex3
namespace Go.Proofs.Ytcigooccnlbkjaa.He1
open Go.RowKit Go.Proofs.Ytcigooccnlbkjaa.PFnExactStmtsSame Go.Proofs.YtcigooccnlbkjaaW.PrintWords Go.Proofs.YtcigooccnlbkjaaW.PrintLast Go.Proofs.YtcigooccnlbkjaaW.PrintMore
set_option linter.unusedVariables false
set_option linter.unusedSimpArgs false
theorem wrap_id {x : Int} (h1 : -9223372036854775808 ≤ x) (h2 : x ≤ 9223372036854775807) : wrap64 x = x := by
  unfold wrap64; omega
theorem rd49 (l : List S49) (i : Nat) (h : i < l.length) : rd_T49 l (i : Int) = l[i] := by
  unfold rd_T49; rw [Int.toNat_natCast, List.getD_eq_getElem?_getD, List.getElem?_eq_getElem h]; rfl
theorem rd55 (l : List S55) (i : Nat) (h : i < l.length) : rd_T55 l (i : Int) = l[i] := by
  unfold rd_T55; rw [Int.toNat_natCast, List.getD_eq_getElem?_getD, List.getElem?_eq_getElem h]; rfl
mutual
def cvE : S49 → S55
  | ⟨a, b, c, l⟩ => ⟨a, b, ⟨c.f0, c.f1⟩, cvEs l⟩
def cvEs : List S49 → List S55
  | [] => []
  | x :: xs => cvE x :: cvEs xs
end
theorem cvEs_map : ∀ l : List S49, cvEs l = l.map cvE
  | [] => by simp [cvEs]
  | x :: xs => by rw [cvEs, cvEs_map xs]; rfl
theorem cvEs_len (l : List S49) : (cvEs l).length = l.length := by rw [cvEs_map, List.length_map]
mutual
def dE : S49 → Nat
  | ⟨_, _, _, l⟩ => dEs l + 1
def dEs : List S49 → Nat
  | [] => 0
  | x :: xs => max (dE x) (dEs xs)
end
theorem dEs_mem : ∀ (l : List S49) (x : S49), x ∈ l → dE x ≤ dEs l
  | y :: ys, x, h => by
    rw [dEs]
    rcases List.mem_cons.1 h with rfl | h
    · exact Nat.le_max_left _ _
    · exact Nat.le_trans (dEs_mem ys x h) (Nat.le_max_right _ _)
theorem dE_eq (x : S49) : dE x = dEs x.f3 + 1 := by cases x; rw [dE]
mutual
def dF : S55 → Nat
  | ⟨_, _, _, l⟩ => dFs l + 1
def dFs : List S55 → Nat
  | [] => 0
  | x :: xs => max (dF x) (dFs xs)
end
theorem dFs_mem : ∀ (l : List S55) (x : S55), x ∈ l → dF x ≤ dFs l
  | y :: ys, x, h => by
    rw [dFs]
    rcases List.mem_cons.1 h with rfl | h
    · exact Nat.le_max_left _ _
    · exact Nat.le_trans (dFs_mem ys x h) (Nat.le_max_right _ _)
theorem dF_eq (x : S55) : dF x = dFs x.f3 + 1 := by cases x; rw [dF]
mutual
def szE : S49 → Int → Int
  | ⟨_, _, _, l⟩, a => if a - (l.length : Int) < 0 then -1 else szL l (a - (l.length : Int))
def szL : List S49 → Int → Int
  | [], a => a
  | x :: xs, a => if szE x a < 0 then -1 else szL xs (szE x a)
end
def szEs (l : List S49) (a : Int) : Int := if a - (l.length : Int) < 0 then -1 else szL l (a - (l.length : Int))
theorem szE_eq (x : S49) (a : Int) : szE x a = szEs x.f3 a := by cases x; rw [szE]; rfl
mutual
theorem szE_rng : ∀ (x : S49) (a : Int), 0 ≤ a → szE x a = -1 ∨ (0 ≤ szE x a ∧ szE x a ≤ a)
  | ⟨_, _, _, l⟩, a, h => by
    rw [szE]
    split
    · exact .inl rfl
    · rcases szL_rng l (a - (l.length : Int)) (by omega) with h1 | h1
      · exact .inl h1
      · exact .inr ⟨h1.1, by omega⟩
theorem szL_rng : ∀ (l : List S49) (a : Int), 0 ≤ a → szL l a = -1 ∨ (0 ≤ szL l a ∧ szL l a ≤ a)
  | [], a, h => by rw [szL]; exact .inr ⟨h, Int.le_refl _⟩
  | x :: xs, a, h => by
    rw [szL]
    split
    · exact .inl rfl
    · rcases szE_rng x a h with h1 | h1
      · omega
      · rcases szL_rng xs (szE x a) h1.1 with h2 | h2
        · exact .inl h2
        · exact .inr ⟨h2.1, by omega⟩
end
mutual
def okE : S49 → Prop
  | ⟨_, _, _, l⟩ => l.length ≤ 1048576 ∧ okEs l
def okEs : List S49 → Prop
  | [] => True
  | x :: xs => okE x ∧ okEs xs
end
mutual
theorem okE_of : ∀ (x : S49) (a : Int), 0 ≤ a → a ≤ 1048576 → 0 ≤ szE x a → okE x
  | ⟨_, _, _, l⟩, a, h, h2, h3 => by
    rw [szE] at h3
    rw [okE]
    by_cases c : a - (l.length : Int) < 0
    · rw [if_pos c] at h3; omega
    · rw [if_neg c] at h3
      exact ⟨by omega, okL_of l _ (by omega) (by omega) h3⟩
theorem okL_of : ∀ (l : List S49) (a : Int), 0 ≤ a → a ≤ 1048576 → 0 ≤ szL l a → okEs l
  | [], a, h, h2, h3 => by rw [okEs]; trivial
  | x :: xs, a, h, h2, h3 => by
    rw [szL] at h3
    rw [okEs]
    by_cases c : szE x a < 0
    · rw [if_pos c] at h3; omega
    · rw [if_neg c] at h3
      rcases szE_rng x a h with h1 | h1
      · omega
      · exact ⟨okE_of x a h h2 (by omega), okL_of xs _ h1.1 (by omega) h3⟩
end
theorem okEs_mem : ∀ (l : List S49) (x : S49), okEs l → x ∈ l → okE x
  | y :: ys, x, h, hm => by
    rw [okEs] at h
    rcases List.mem_cons.1 hm with rfl | hm
    · exact h.1
    · exact okEs_mem ys x h.2 hm
theorem okE_eq (x : S49) : okE x ↔ x.f3.length ≤ 1048576 ∧ okEs x.f3 := by cases x; rw [okE]
mutual
def alk : S55 → S55 → Bool
  | ⟨a, b, c, l⟩, y => a == y.f0 && (b == y.f1 && ((c.f0 == y.f2.f0 && c.f1 == y.f2.f1) && alks l y.f3))
def alks : List S55 → List S55 → Bool
  | [], ys => ys.isEmpty
  | x :: xs, ys => match ys with
    | [] => false
    | y :: ys => alk x y && alks xs ys
end
theorem alk_eq (x y : S55) : alk x y = (x.f0 == y.f0 && (x.f1 == y.f1 && ((x.f2.f0 == y.f2.f0 && x.f2.f1 == y.f2.f1) && alks x.f3 y.f3))) := by cases x; rw [alk]
theorem alks_len : ∀ (l m : List S55), l.length ≠ m.length → alks l m = false
  | [], [], h => absurd rfl h
  | [], y :: ys, h => by rw [alks]; rfl
  | x :: xs, [], h => by rw [alks]
  | x :: xs, y :: ys, h => by
    rw [alks]
    show (alk x y && alks xs ys) = false
    rw [alks_len xs ys (by intro e; exact h (by simp [e])), Bool.and_false]
theorem alks_drop (l m : List S55) (k : Nat) (h1 : k < l.length) (h2 : k < m.length) : alks (l.drop k) (m.drop k) = (alk l[k] m[k] && alks (l.drop (k + 1)) (m.drop (k + 1))) := by
  rw [List.drop_eq_getElem_cons h1, List.drop_eq_getElem_cons h2, alks]
theorem alks_end (l m : List S55) (h : l.length = m.length) : alks (l.drop l.length) (m.drop l.length) = true := by
  rw [List.drop_length, h, List.drop_length, alks]; rfl
theorem szL_drop (l : List S49) (k : Nat) (a : Int) (h : k < l.length) : szL (l.drop k) a = if szE l[k] a < 0 then -1 else szL (l.drop (k + 1)) (szE l[k] a) := by
  rw [List.drop_eq_getElem_cons h, szL]
theorem szL_end (l : List S49) (a : Int) : szL (l.drop l.length) a = a := by
  rw [List.drop_length, szL]
end Go.Proofs.Ytcigooccnlbkjaa.He1
