/- What the draws of code answer exists for every list of bytes; their shapes and sizes. No condition. -/
import Derived.Test.YtjamfddhcigchaaGreatDoorTFnCodeSameHFnCodeSamex14
import Derived.Test.YtjamfddhcigchaaGreatDoorTFnCodeSameHFnCodeSamex15
import Derived.WalkSmall
import Derived.WalkLawsBesides
import Derived.WalkSpells
import Derived.Deep.RegionHeld
namespace Go.Proofs.YtjamfddhcigchaaGreatDoor.Hx
open Go.RowKit Go.Proofs.YtjamfddhcigchaaGreatDoor.HFnCodeSame Go.Proofs.YtjamfddhcigchaaGreatDoorW.PrintWords Go.Proofs.YtjamfddhcigchaaGreatDoorW.PrintLast Go.Proofs.YtjamfddhcigchaaGreatDoorW.PrintMore
set_option linter.unusedVariables false
set_option linter.unusedSimpArgs false
theorem wrap_id {x : Int} (h1 : -9223372036854775808 ≤ x) (h2 : x ≤ 9223372036854775807) : wrap64 x = x := by
  unfold wrap64; omega
theorem xor_i64_nat (a b : Nat) (ha : a < 9223372036854775808) (hb : b < 9223372036854775808) :
    Go.bits .xor .i64 (a : Int) (b : Int) = ((a ^^^ b : Nat) : Int) := by
  have hx : a ^^^ b < 2 ^ 63 := Nat.xor_lt_two_pow (by omega) (by omega)
  have h1 : (BitVec.ofInt 64 (a : Int)).toNat = a := by
    rw [BitVec.ofInt_natCast, BitVec.toNat_ofNat]; exact Nat.mod_eq_of_lt (by omega)
  have h2 : (BitVec.ofInt 64 (b : Int)).toNat = b := by
    rw [BitVec.ofInt_natCast, BitVec.toNat_ofNat]; exact Nat.mod_eq_of_lt (by omega)
  show IntKind.i64.wrap ((BitVec.ofInt 64 (a : Int) ^^^ BitVec.ofInt 64 (b : Int)).toNat : Int) = _
  rw [BitVec.toNat_xor, h1, h2, IntKind.wrap_i64]
  omega
theorem xor_i64_nonneg (x y : Int) (hx : 0 ≤ x) (hx' : x < 9223372036854775808) (hy : 0 ≤ y) (hy' : y < 9223372036854775808) :
    0 ≤ Go.bits .xor .i64 x y := by
  obtain ⟨a, rfl⟩ := Int.eq_ofNat_of_zero_le hx
  obtain ⟨b, rfl⟩ := Int.eq_ofNat_of_zero_le hy
  rw [xor_i64_nat a b (by omega) (by omega)]
  exact Int.natCast_nonneg _
def Byt (l : List Int) : Prop := ∀ x ∈ l, 0 ≤ x ∧ x ≤ 255
theorem rd_byt {l : List Int} (h : Byt l) (i : Int) : 0 ≤ rd l i ∧ rd l i ≤ 255 := by
  unfold rd
  by_cases hi : i.toNat < l.length
  · rw [List.getD_eq_getElem?_getD, List.getElem?_eq_getElem hi]; exact h _ (List.getElem_mem hi)
  · rw [List.getD_eq_getElem?_getD, List.getElem?_eq_none (by omega)]; simp
theorem tmod_bd {a b : Int} (ha : 0 ≤ a) (hb : 0 < b) : 0 ≤ Int.tmod a b ∧ Int.tmod a b < b := by
  rw [Int.tmod_eq_emod_of_nonneg ha]
  exact ⟨Int.emod_nonneg _ (by omega), Int.emod_lt_of_pos _ hb⟩
theorem tdiv_bd {a b : Int} (ha : 0 ≤ a) (hb : 0 < b) : 0 ≤ Int.tdiv a b ∧ Int.tdiv a b ≤ a := by
  rw [Int.tdiv_eq_ediv_of_nonneg ha]
  exact ⟨Int.ediv_nonneg ha (by omega), Int.ediv_le_self _ ha⟩
theorem pick_some {l : List Int} (h : Byt l) (k : Nat) (p n : Int) (hp : 0 ≤ p) (hp' : p ≤ 1000000000000) :
    ∃ r, spec_l12Rd_pick.f (k + 1) l p n = some (r, p + 1) ∧ 0 ≤ r ∧ (r < n ∨ (n < 1 ∧ r = 0)) := by
  have hw : wrap64 (p + 1) = p + 1 := wrap_id (by omega) (by omega)
  have hw2 : wrap64 (p + 1 - 1) = p := by rw [wrap_id (by omega) (by omega)]; omega
  unfold spec_l12Rd_pick.f
  by_cases hn : n < 1
  · refine ⟨0, ?_, by omega, .inr ⟨hn, rfl⟩⟩
    rw [if_pos hn]; simp only [spec_l12Rd_pick.j0, if_true]; rw [hw]
  · rw [if_neg hn]
    by_cases hl : (l.length : Int) = 0
    · refine ⟨0, ?_, by omega, .inl (by omega)⟩
      have e : ((l.length : Int) == 0) = true := by simpa using hl
      rw [e]; simp only [spec_l12Rd_pick.j0, if_true]; rw [hw]
    · have e : ((l.length : Int) == 0) = false := by simpa using hl
      have hn0 : ¬ n = 0 := by omega
      rw [e]; simp only [spec_l12Rd_pick.j0]
      rw [if_neg (by simp), hw, hw2]
      by_cases hlt : p < (l.length : Int)
      · rw [if_pos hlt, if_pos hp, if_neg hn0]
        have hb := rd_byt h p
        rw [wrap_id (x := rd l p) (by omega) (by omega)]
        have ht := tmod_bd (a := rd l p) (b := n) hb.1 (by omega)
        exact ⟨_, rfl, ht.1, .inl ht.2⟩
      · have hL : 0 < (l.length : Int) := by omega
        have ht1 := tmod_bd (a := p) (b := (l.length : Int)) hp hL
        have e7 : wrap64 (p * 7) = p * 7 := wrap_id (by omega) (by omega)
        have e73 : wrap64 (p * 7 + 3) = p * 7 + 3 := wrap_id (by omega) (by omega)
        have ht2 := tmod_bd (a := p * 7 + 3) (b := (l.length : Int)) (by omega) hL
        rw [if_neg hlt, if_neg hl, if_pos ht1.1, if_pos ht1.2, e7, e73, if_pos ht2.1, if_pos ht2.2, if_neg hn0]
        have hb1 := rd_byt h (Int.tmod p (l.length : Int))
        have hb2 := rd_byt h (Int.tmod (p * 7 + 3) (l.length : Int))
        have hd := tdiv_bd (a := p) (b := (l.length : Int)) hp hL
        generalize rd l (Int.tmod p (l.length : Int)) = A at hb1 ⊢
        generalize rd l (Int.tmod (p * 7 + 3) (l.length : Int)) = B at hb2 ⊢
        generalize Int.tdiv p (l.length : Int) = D at hd ⊢
        rw [wrap_id (x := A) (by omega) (by omega), wrap_id (x := B) (by omega) (by omega), wrap_id (x := D) (by omega) (by omega), wrap_id (x := A * 131) (by omega) (by omega), wrap_id (x := B * 1117) (by omega) (by omega), wrap_id (x := p * 29) (by omega) (by omega), wrap_id (x := D * 53) (by omega) (by omega), wrap_id (x := A * 131 + B * 1117) (by omega) (by omega), wrap_id (x := A * 131 + B * 1117 + p * 29) (by omega) (by omega), wrap_id (x := A * 131 + B * 1117 + p * 29 + D * 53) (by omega) (by omega)]
        have hx0 : 0 ≤ A * 131 + B * 1117 + p * 29 + D * 53 := by omega
        have hx1 : A * 131 + B * 1117 + p * 29 + D * 53 < 9223372036854775807 := by omega
        generalize A * 131 + B * 1117 + p * 29 + D * 53 = X at hx0 hx1 ⊢
        have hd2 := tdiv_bd (a := X) (b := 64) hx0 (by omega)
        rw [wrap_id (x := Int.tdiv X 64) (by omega) (by omega)]
        have hnn := xor_i64_nonneg X (Int.tdiv X 64) hx0 (by omega) hd2.1 (by omega)
        have ht := tmod_bd (a := Go.bits .xor .i64 X (Int.tdiv X 64)) (b := n) hnn (by omega)
        exact ⟨_, rfl, ht.1, .inl ht.2⟩
theorem rd_mem {l : List Int} {i : Int} (h0 : 0 ≤ i) (h1 : i < (l.length : Int)) : rd l i ∈ l := by
  unfold rd
  rw [List.getD_eq_getElem?_getD, List.getElem?_eq_getElem (by omega)]; exact List.getElem_mem _
theorem num_some {l : List Int} (h : Byt l) (k : Nat) (p : Int) (xs : List Int) (hx : 0 < xs.length) (hp : 0 ≤ p) (hp' : p ≤ 1000000000000) :
    ∃ r, spec_l12Rd_num.f (k + 1) l p xs = some (r, p + 1) ∧ r ∈ xs := by
  obtain ⟨i, hi, h0, h1⟩ := pick_some h k p (xs.length : Int) hp hp'
  have h1' : i < (xs.length : Int) := by omega
  refine ⟨rd xs i, ?_, rd_mem h0 h1'⟩
  unfold spec_l12Rd_num.f
  rw [hi]; simp only [Option.bind_some]
  rw [if_pos h0, if_pos h1']
theorem byt_of {l : List Int} (h : ∀ x ∈ l, (Lit.int .u8 x).wf = true) : Byt l := by
  intro x hx
  have := h x hx
  simp [Lit.wf, IntKind.min, IntKind.max, IntKind.bits, IntKind.signed] at this
  omega
theorem open_some {l : List Int} (h : Byt l) : ∃ l', spec_l12Open.f l = some (l', 0) ∧ Byt l' := by
  unfold spec_l12Open.f
  by_cases hl : (l.length : Int) > 2000
  · rw [if_pos hl, if_pos (by omega)]
    exact ⟨_, rfl, fun x hx => h x (List.mem_of_mem_take hx)⟩
  · rw [if_neg hl]; exact ⟨l, rfl, h⟩
theorem l2Addr_some {l : List Int} (h : Byt l) (k : Nat) (p : Int) (hp : 0 ≤ p) (hp' : p ≤ 100000000) : ∃ a i, spec_l2Addr.f (k + 1) l p = some (a, i, p + 2) := by
  unfold spec_l2Addr.f
  obtain ⟨a, ha, _⟩ := pick_some h k p 3 hp (by omega)
  obtain ⟨b, hb, _⟩ := pick_some h k (p + 1) 3 (by omega) (by omega)
  rw [ha]; simp only [Option.bind_some]
  rw [hb]; simp only [Option.bind_some]
  exact ⟨_, _, by rw [show p + 1 + 1 = p + 2 by omega]⟩
theorem l2To_some {l : List Int} (h : Byt l) (k : Nat) (p : Int) (hp : 0 ≤ p) (hp' : p ≤ 100000000) : ∃ a i, spec_l2To.f (k + 1) l p = some (a, i, p + 2) := by
  unfold spec_l2To.f
  obtain ⟨a, ha, _⟩ := pick_some h k p 2 hp (by omega)
  obtain ⟨b, hb, _⟩ := pick_some h k (p + 1) 3 (by omega) (by omega)
  rw [ha]; simp only [Option.bind_some]
  rw [hb]; simp only [Option.bind_some]
  exact ⟨_, _, by rw [show p + 1 + 1 = p + 2 by omega]⟩
theorem bent_addr {l : List Int} (h : Byt l) (k : Nat) (p : Int) (hp : 0 ≤ p) (hp' : p ≤ 100000000) : ∃ a i q, spec_l2AddrBent.f (k + 1) l p = some (a, i, q) ∧ 0 ≤ q ∧ q ≤ p + 10 := by
  unfold spec_l2AddrBent.f
  obtain ⟨a, i, ha⟩ := l2Addr_some h k p hp hp'
  obtain ⟨b, hb, _⟩ := pick_some h k (p + 2) 16 (by omega) (by omega)
  rw [ha]; simp only [Option.bind_some]
  rw [hb]; simp only [Option.bind_some]
  obtain ⟨c, hc, _⟩ := num_some h k (p + 2 + 1) [0, 4, (-1)] (by simp) (by omega) (by omega)
  obtain ⟨d, hd, _⟩ := num_some h k (p + 2 + 1) [(-1), 6, 5] (by simp) (by omega) (by omega)
  rw [hc, hd]; simp only [Option.bind_some]
  split
  · exact ⟨_, _, _, rfl, by omega, by omega⟩
  · split <;> exact ⟨_, _, _, rfl, by omega, by omega⟩
def okX : Nat → S120 → Prop
  | 0, _ => False
  | d + 1, x => ((x.f0 = 1 ∨ x.f0 = 2) ∧ x.f3 = []) ∨ ((x.f0 = 10 ∧ x.f3.length = 1 ∨ (3 ≤ x.f0 ∧ x.f0 ≤ 9) ∧ x.f3.length = 2) ∧ ∀ y ∈ x.f3, okX d y)
theorem okX_up : ∀ (d : Nat) (x : S120), okX d x → okX (d + 1) x
  | 0, _, h => h.elim
  | d + 1, x, h => by
    rcases h with h | ⟨h1, h2⟩
    · exact .inl h
    · exact .inr ⟨h1, fun y hy => okX_up d y (h2 y hy)⟩
theorem okX_le {d e : Nat} (h : d ≤ e) {x : S120} (hx : okX d x) : okX e x := by
  induction e with
  | zero => obtain rfl : d = 0 := by omega
            exact hx
  | succ e ih =>
    by_cases he : d = e + 1
    · subst he; exact hx
    · exact okX_up e x (ih (by omega))
def eb : Nat → Int
  | 0 => 0
  | d + 1 => 2 * eb d + 4
theorem eb_nn : ∀ d, 0 ≤ eb d
  | 0 => by decide
  | d + 1 => by have := eb_nn d; show 0 ≤ 2 * eb d + 4; omega
theorem kids_some (k : Nat) (r : Int) : ∃ t, spec_l3Kids.f (k + 1) r = some t ∧ (r = 10 → t = 1) ∧ (3 ≤ r → r ≤ 9 → t = 2) := by
  unfold spec_l3Kids.f
  by_cases h1 : r = 1
  · rw [if_pos h1]; exact ⟨_, rfl, fun h => by omega, fun h => by omega⟩
  rw [if_neg h1]
  by_cases h2 : r = 2
  · subst h2; exact ⟨_, rfl, fun h => by omega, fun h => by omega⟩
  rw [show (r == 2) = false by simpa using h2]
  simp only [spec_l3Kids.j0]
  rw [if_neg (by decide)]
  by_cases h10 : r = 10
  · rw [if_pos h10]; exact ⟨_, rfl, fun _ => rfl, fun h => by omega⟩
  rw [if_neg h10]
  by_cases h3 : r ≥ 3
  · rw [if_pos h3]
    by_cases h9 : r ≤ 9
    · rw [if_pos h9]; exact ⟨_, rfl, fun h => by omega, fun _ _ => rfl⟩
    · rw [if_neg h9]; exact ⟨_, rfl, fun h => by omega, fun _ h => by omega⟩
  · rw [if_neg h3]; exact ⟨_, rfl, fun h => by omega, fun h => by omega⟩
theorem leaf_some {l : List Int} (h : Byt l) (k : Nat) (a p : Int) (hp : 0 ≤ p) (hp' : p ≤ 10000000) :
    ∃ (x : S120) (q : Int), spec_l3Expr.j0 (k + 2) a true l p = some (x.f0, x.f1, x.f2.f0, x.f2.f1, x.f3, q) ∧ okX 1 x ∧ p ≤ q ∧ q ≤ p + 3 := by
  rw [show k + 2 = (k + 1) + 1 from rfl]
  simp only [spec_l3Expr.j0, if_true]
  obtain ⟨b, hb, _⟩ := pick_some h k p 3 hp (by omega)
  rw [hb]; simp only [Option.bind_some]
  obtain ⟨n, hn, _⟩ := num_some h k (p + 1) [0, 1, 2, 3, (-1), 5, 1000000] (by simp) (by omega) (by omega)
  obtain ⟨u, v, hu⟩ := l2Addr_some h k (p + 1) (by omega) (by omega)
  rw [hn, hu]; simp only [Option.bind_some]
  split
  · exact ⟨⟨1, n, ⟨0, 0⟩, []⟩, _, rfl, .inl ⟨.inl rfl, rfl⟩, by omega, by omega⟩
  · exact ⟨⟨2, 0, ⟨u, v⟩, []⟩, _, rfl, .inl ⟨.inr rfl, rfl⟩, by omega, by omega⟩
theorem eta120 (x : S120) : (⟨x.f0, x.f1, ⟨x.f2.f0, x.f2.f1⟩, x.f3⟩ : S120) = x := by cases x; rfl
theorem kids_end {l : List Int} (k : Nat) (a r p : Int) (acc : List S120) : spec_l3Expr.l0 (k + 1) a 0 l p r 0 0 0 acc = some (r, 0, 0, 0, acc, p) := by
  rw [spec_l3Expr.l0, if_neg (by decide)]
theorem kids_step {l : List Int} (k d : Nat) (a r p n : Int) (acc : List S120) (ha : wrap64 (a - 1) = (d : Int)) (hn : 0 < n) (hn2 : n ≤ 2) (hl : acc.length ≤ 2) {x : S120} {q : Int} (hx : spec_l3Expr.f k l p (d : Int) = some (x.f0, x.f1, x.f2.f0, x.f2.f1, x.f3, q)) :
    spec_l3Expr.l0 (k + 1) a n l p r 0 0 0 acc = spec_l3Expr.l0 k a (n - 1) l q r 0 0 0 (acc ++ [x]) := by
  rw [spec_l3Expr.l0, if_pos hn, ha, hx]; simp only [Option.bind_some]
  rw [if_pos (by omega), wrap_id (x := n - 1) (by omega) (by omega), eta120]
theorem expr_some {l : List Int} (h : Byt l) : ∀ (d : Nat), 1 ≤ d → d ≤ 3 → ∀ (k : Nat) (p : Int), 0 ≤ p → p + eb d + 10 ≤ 1000000 →
    ∃ (x : S120) (q : Int), spec_l3Expr.f (k + 8 * d) l p (d : Int) = some (x.f0, x.f1, x.f2.f0, x.f2.f1, x.f3, q) ∧ okX d x ∧ p ≤ q ∧ q ≤ p + eb d
  | 0, h1, _, _, _, _, _ => by omega
  | 1, _, _, k, p, h0, h1 => by
    have h1 : p + 4 + 10 ≤ 1000000 := h1
    obtain ⟨x, q, hx, ho, q0, q1⟩ := leaf_some h (k + 5) 1 p h0 (by omega)
    refine ⟨x, q, ?_, ho, q0, by show q ≤ p + 4; omega⟩
    rw [show k + 8 * 1 = (k + 7) + 1 by omega, spec_l3Expr.f, if_pos (by decide)]
    exact hx
  | d + 2, _, hd, k, p, h0, h1 => by
    have hb : eb (d + 2) = 2 * eb (d + 1) + 4 := rfl
    have hn := eb_nn (d + 1)
    have hB : eb (d + 1) ≤ 100 := by
      rcases (by omega : d = 0 ∨ d = 1) with rfl | rfl <;> decide
    rw [show k + 8 * (d + 2) = (k + 8 * d + 15) + 1 by omega, spec_l3Expr.f, if_neg (by omega)]
    obtain ⟨b, hb1, _⟩ := pick_some h (k + 8 * d + 14) p 4 h0 (by omega)
    rw [hb1]; simp only [Option.bind_some]
    by_cases hb0 : b = 0
    · subst hb0
      obtain ⟨x, q, hx, ho, q0, q1⟩ := leaf_some h (k + 8 * d + 13) ((d + 2 : Nat) : Int) (p + 1) (by omega) (by omega)
      exact ⟨x, q, hx, okX_le (by omega) ho, by omega, by omega⟩
    rw [show (b == 0) = false by simpa using hb0, spec_l3Expr.j0, if_neg (by decide)]
    obtain ⟨r, hr, hm⟩ := num_some h (k + 8 * d + 13) (p + 1) [3, 3, 4, 5, 6, 6, 7, 8, 9, 10] (by simp) (by omega) (by omega)
    rw [hr]; simp only [Option.bind_some]
    obtain ⟨t, ht, t1, t2⟩ := kids_some (k + 8 * d + 13) r
    rw [ht]; simp only [Option.bind_some]
    have ha : wrap64 (((d + 2 : Nat) : Int) - 1) = ((d + 1 : Nat) : Int) := by rw [wrap_id (by omega) (by omega)]; omega
    have hrr : r = 10 ∨ (3 ≤ r ∧ r ≤ 9) := by simp only [List.mem_cons, List.not_mem_nil, or_false] at hm; omega
    obtain ⟨x, q, hx, ho, q0, q1⟩ := expr_some h (d + 1) (by omega) (by omega) (k + 5) (p + 1 + 1) (by omega) (by omega)
    rw [show k + 5 + 8 * (d + 1) = k + 8 * d + 13 by omega] at hx
    rcases hrr with rfl | ⟨r3, r9⟩
    · obtain rfl : t = 1 := t1 rfl
      rw [show k + 8 * d + 14 = (k + 8 * d + 13) + 1 by omega, kids_step _ (d + 1) _ _ _ 1 [] ha (by omega) (by omega) (by simp) hx, show k + 8 * d + 13 = (k + 8 * d + 12) + 1 by omega]
      refine ⟨⟨10, 0, ⟨0, 0⟩, [] ++ [x]⟩, q, kids_end _ _ _ _ _, .inr ⟨.inl ⟨rfl, rfl⟩, fun y hy => ?_⟩, by omega, by omega⟩
      obtain rfl : y = x := by simpa using hy
      exact ho
    · obtain rfl : t = 2 := t2 r3 r9
      obtain ⟨x2, q2, hx2, ho2, s0, s1⟩ := expr_some h (d + 1) (by omega) (by omega) (k + 4) q (by omega) (by omega)
      rw [show k + 4 + 8 * (d + 1) = k + 8 * d + 12 by omega] at hx2
      rw [show k + 8 * d + 14 = (k + 8 * d + 13) + 1 by omega, kids_step _ (d + 1) _ _ _ 2 [] ha (by omega) (by omega) (by simp) hx, show k + 8 * d + 13 = (k + 8 * d + 12) + 1 by omega, kids_step _ (d + 1) _ _ _ (2 - 1) _ ha (by omega) (by omega) (by simp) hx2, show k + 8 * d + 12 = (k + 8 * d + 11) + 1 by omega]
      refine ⟨⟨r, 0, ⟨0, 0⟩, [] ++ [x] ++ [x2]⟩, q2, kids_end _ _ _ _ _, .inr ⟨.inr ⟨⟨r3, r9⟩, rfl⟩, fun y hy => ?_⟩, by omega, by omega⟩
      have : y = x ∨ y = x2 := by simpa using hy
      rcases this with rfl | rfl
      · exact ho
      · exact ho2
def okS : Nat → S122 → Prop
  | 0, _ => False
  | d + 1, s => (s.f0 = 1 ∨ s.f0 = 2 ∨ s.f0 = 3) ∧ okX 3 s.f2 ∧ s.f3.length ≤ 3 ∧ s.f4.length ≤ 3 ∧ (∀ t ∈ s.f3, okS d t) ∧ ∀ t ∈ s.f4, okS d t
theorem okS_up : ∀ (d : Nat) (s : S122), okS d s → okS (d + 1) s
  | 0, _, h => h.elim
  | d + 1, s, ⟨h1, h2, h3, h4, h5, h6⟩ => ⟨h1, h2, h3, h4, fun t ht => okS_up d t (h5 t ht), fun t ht => okS_up d t (h6 t ht)⟩
theorem okS_le {d e : Nat} (h : d ≤ e) {s : S122} (hs : okS d s) : okS e s := by
  induction e with
  | zero => obtain rfl : d = 0 := by omega
            exact hs
  | succ e ih =>
    by_cases he : d = e + 1
    · subst he; exact hs
    · exact okS_up e s (ih (by omega))
theorem set_ok {x : S122} {d : Nat} (h0 : x.f0 = 1) (h2 : okX 3 x.f2) (h3 : x.f3 = []) (h4 : x.f4 = []) : okS (d + 1) x :=
  ⟨.inl h0, h2, by simp [h3], by simp [h4], by simp [h3], by simp [h4]⟩
theorem count_some {l : List Int} (h : Byt l) (p : Int) (hp : 0 ≤ p) (hp' : p ≤ 900000) :
    ∃ (s : S122) (q : Int), spec_l4Count.f l p = some (s.f0, s.f1.f0, s.f1.f1, s.f2.f0, s.f2.f1, s.f2.f2.f0, s.f2.f2.f1, s.f2.f3, s.f3, s.f4, q) ∧ okS 2 s ∧ p ≤ q ∧ q ≤ p + 50 := by
  unfold spec_l4Count.f
  obtain ⟨a, ha, _⟩ := pick_some h 999 p 3 hp (by omega)
  obtain ⟨n, hn, _⟩ := num_some h 999 (p + 1) [1, 3, 5, 9, 200] (by simp) (by omega) (by omega)
  obtain ⟨m, hm, _⟩ := num_some h 999 (p + 1 + 1) [1, 1, 2, 0] (by simp) (by omega) (by omega)
  obtain ⟨c, hc, _⟩ := pick_some h 999 (p + 1 + 1 + 1) 2 (by omega) (by omega)
  obtain ⟨t0, t1, ht⟩ := l2To_some h 999 (p + 1 + 1 + 1 + 1) (by omega) (by omega)
  obtain ⟨x, q, hx, ho, q0, q1⟩ := expr_some h 2 (by omega) (by omega) 984 (p + 1 + 1 + 1 + 1 + 2) (by omega) (by show _ + 12 + 10 ≤ _; omega)
  have q1' : q ≤ p + 1 + 1 + 1 + 1 + 2 + 12 := q1
  replace hx : spec_l3Expr.f 1000 l (p + 1 + 1 + 1 + 1 + 2) 2 = _ := hx
  rw [show (999 + 1 : Nat) = 1000 from rfl] at ha hn hm hc ht
  have k1 : ∀ u : Int, okX 3 ⟨6, 0, ⟨0, 0⟩, [(⟨2, 0, ⟨3, a⟩, []⟩ : S120), ⟨1, u, ⟨0, 0⟩, []⟩]⟩ := fun u => .inr ⟨.inr ⟨(show (3 : Int) ≤ 6 ∧ (6 : Int) ≤ 9 by decide), rfl⟩, fun y hy => by
    have : y = ⟨2, 0, ⟨3, a⟩, []⟩ ∨ y = ⟨1, u, ⟨0, 0⟩, []⟩ := by simpa using hy
    rcases this with rfl | rfl
    · exact .inl ⟨.inr rfl, rfl⟩
    · exact .inl ⟨.inl rfl, rfl⟩⟩
  have k2 : ∀ u : Int, okX 3 ⟨3, 0, ⟨0, 0⟩, [(⟨2, 0, ⟨3, a⟩, []⟩ : S120), ⟨1, u, ⟨0, 0⟩, []⟩]⟩ := fun u => .inr ⟨.inr ⟨(show (3 : Int) ≤ 3 ∧ (3 : Int) ≤ 9 by decide), rfl⟩, fun y hy => by
    have : y = ⟨2, 0, ⟨3, a⟩, []⟩ ∨ y = ⟨1, u, ⟨0, 0⟩, []⟩ := by simpa using hy
    rcases this with rfl | rfl
    · exact .inl ⟨.inr rfl, rfl⟩
    · exact .inl ⟨.inl rfl, rfl⟩⟩
  have s1 : okS 1 ⟨1, ⟨3, a⟩, ⟨3, 0, ⟨0, 0⟩, [(⟨2, 0, ⟨3, a⟩, []⟩ : S120), ⟨1, m, ⟨0, 0⟩, []⟩]⟩, [], []⟩ := set_ok rfl (k2 m) rfl rfl
  rw [ha]; simp only [Option.bind_some]
  rw [hn]; simp only [Option.bind_some]
  rw [hm]; simp only [Option.bind_some]
  rw [hc]; simp only [Option.bind_some]
  by_cases hc0 : c = 0
  · rw [if_pos hc0, ht]; simp only [Option.bind_some]
    rw [hx]; simp only [Option.bind_some, eta120]
    refine ⟨⟨3, ⟨0, 0⟩, ⟨6, 0, ⟨0, 0⟩, [(⟨2, 0, ⟨3, a⟩, []⟩ : S120), ⟨1, n, ⟨0, 0⟩, []⟩]⟩, [⟨1, ⟨3, a⟩, ⟨3, 0, ⟨0, 0⟩, [(⟨2, 0, ⟨3, a⟩, []⟩ : S120), ⟨1, m, ⟨0, 0⟩, []⟩]⟩, [], []⟩, ⟨1, ⟨t0, t1⟩, x, [], []⟩], []⟩, q, rfl, ⟨.inr (.inr rfl), k1 n, by simp, by simp, fun t ht => ?_, fun t ht => by simp at ht⟩, by omega, by omega⟩
    have : t = ⟨1, ⟨3, a⟩, ⟨3, 0, ⟨0, 0⟩, [(⟨2, 0, ⟨3, a⟩, []⟩ : S120), ⟨1, m, ⟨0, 0⟩, []⟩]⟩, [], []⟩ ∨ t = ⟨1, ⟨t0, t1⟩, x, [], []⟩ := by simpa using ht
    rcases this with rfl | rfl
    · exact s1
    · exact set_ok rfl (okX_le (by omega) ho) rfl rfl
  · rw [if_neg hc0]
    refine ⟨⟨3, ⟨0, 0⟩, ⟨6, 0, ⟨0, 0⟩, [(⟨2, 0, ⟨3, a⟩, []⟩ : S120), ⟨1, n, ⟨0, 0⟩, []⟩]⟩, [⟨1, ⟨3, a⟩, ⟨3, 0, ⟨0, 0⟩, [(⟨2, 0, ⟨3, a⟩, []⟩ : S120), ⟨1, m, ⟨0, 0⟩, []⟩]⟩, [], []⟩], []⟩, _, rfl, ⟨.inr (.inr rfl), k1 n, by simp, by simp, fun t ht => ?_, fun t ht => by simp at ht⟩, by omega, by omega⟩
    obtain rfl : t = ⟨1, ⟨3, a⟩, ⟨3, 0, ⟨0, 0⟩, [(⟨2, 0, ⟨3, a⟩, []⟩ : S120), ⟨1, m, ⟨0, 0⟩, []⟩]⟩, [], []⟩ := by simpa using ht
    exact s1
theorem eta122 (s : S122) : (⟨s.f0, ⟨s.f1.f0, s.f1.f1⟩, ⟨s.f2.f0, s.f2.f1, ⟨s.f2.f2.f0, s.f2.f2.f1⟩, s.f2.f3⟩, s.f3, s.f4⟩ : S122) = s := by
  cases s with
  | mk a b c d e => cases c; rfl
def LP (l : List Int) (a : Int) (d c : Nat) (C : Int) : Prop := ∀ (k : Nat) (p : Int), 0 ≤ p → p + C ≤ 400000 → ∃ xs q, spec_l4List.f (k + c) l p a = some (xs, q) ∧ xs.length ≤ 3 ∧ (∀ s ∈ xs, okS d s) ∧ p ≤ q ∧ q ≤ p + C
theorem LP.up {l : List Int} {a : Int} {d c d' c' : Nat} {C C' : Int} (h : LP l a d c C) (hd : d ≤ d') (hc : c ≤ c') (hC : C ≤ C') : LP l a d' c' C' := fun k p h0 h1 => by
  obtain ⟨xs, q, e, hl, ho, q0, q1⟩ := h (k + (c' - c)) p h0 (by omega)
  rw [show k + (c' - c) + c = k + c' by omega] at e
  exact ⟨xs, q, e, hl, fun s hs => okS_le hd (ho s hs), q0, by omega⟩
theorem list_le0 {l : List Int} (h : Byt l) {a : Int} (ha : a ≤ 0) : LP l a 0 4 1 := fun k p h0 h1 => by
  obtain ⟨b, hb, _⟩ := pick_some h (k + 2) p 4 h0 (by omega)
  rw [show k + 4 = (k + 3) + 1 from rfl, spec_l4List.f, hb]; simp only [Option.bind_some]
  rw [show k + 3 = (k + 2) + 1 from rfl, spec_l4List.l0, show decide (a > 0) = false from decide_eq_false (by omega)]
  refine ⟨[], p + 1, ?_, by simp, fun s hs => by simp at hs, by omega, by omega⟩
  split
  · rw [show k + 2 = (k + 1) + 1 from rfl, spec_l4List.j1, if_neg (by decide)]
  · rw [show k + 2 = (k + 1) + 1 from rfl, spec_l4List.j1, if_neg (by decide)]
theorem list_iter {l : List Int} (h : Byt l) (d c : Nat) (a C : Int) (a1 : 1 ≤ a) (a3 : a ≤ 3) (hd : 1 < a → 1 ≤ d) (hC : 1 ≤ C) (H1 : LP l (a - 1) d c C) (H2 : LP l (a - 2) d c C)
    (k : Nat) (acc : List S122) (n p : Int) (hn : 0 < n) (hn3 : n ≤ 3) (hacc : acc.length ≤ 3) (h0 : 0 ≤ p) (h1 : p + 2 * C + 100 ≤ 400000) :
    ∃ acc' q, spec_l4List.l0 (k + c + 40) a acc n l p = spec_l4List.l0 (k + c + 37) a acc' (n - 1) l q ∧ (acc' = acc ∨ ∃ s, acc' = acc ++ [s] ∧ okS (d + 1) s) ∧ p ≤ q ∧ q ≤ p + 2 * C + 100 := by
  have w1 : wrap64 (a - 1) = a - 1 := wrap_id (by omega) (by omega)
  have w2 : wrap64 (a - 2) = a - 2 := wrap_id (by omega) (by omega)
  have wn : wrap64 (n - 1) = n - 1 := wrap_id (by omega) (by omega)
  obtain ⟨b, hb, b0, b1⟩ := pick_some h (k + c + 37) p 7 h0 (by omega)
  rw [show k + c + 40 = (k + c + 39) + 1 from rfl, spec_l4List.l0, if_pos hn, show decide (a > 0) = true from decide_eq_true (by omega), show k + c + 39 = (k + c + 38) + 1 from rfl, spec_l4List.j1, if_pos rfl, hb]
  simp only [Option.bind_some]
  have E : ∀ (e : Nat) (r : Int), 1 ≤ e → e ≤ 3 → 0 ≤ r → r ≤ 400000 → ∃ (x : S120) (q : Int), spec_l3Expr.f (k + c + 37) l r (e : Int) = some (x.f0, x.f1, x.f2.f0, x.f2.f1, x.f3, q) ∧ okX 3 x ∧ r ≤ q ∧ q ≤ r + 28 := by
    intro e r e1 e3 r0 r1
    have he : eb e ≤ 28 := by rcases (by omega : e = 1 ∨ e = 2 ∨ e = 3) with rfl | rfl | rfl <;> decide
    obtain ⟨x, q, hx, ho, q0, q1⟩ := expr_some h e e1 e3 (k + c + 37 - 8 * e) r r0 (by omega)
    rw [show k + c + 37 - 8 * e + 8 * e = k + c + 37 by omega] at hx
    exact ⟨x, q, hx, okX_le e3 ho, q0, by omega⟩
  have app : ∀ (s : S122) (q : Int), okS (d + 1) s → p ≤ q → q ≤ p + 2 * C + 100 → ∃ acc' q', (if acc.length < 1099511627776 then spec_l4List.l0 (k + c + 37) a (acc ++ [s]) (wrap64 (n - 1)) l q else none) = spec_l4List.l0 (k + c + 37) a acc' (n - 1) l q' ∧ (acc' = acc ∨ ∃ s, acc' = acc ++ [s] ∧ okS (d + 1) s) ∧ p ≤ q' ∧ q' ≤ p + 2 * C + 100 := by
    intro s q hs q0 q1
    rw [if_pos (by omega), wn]
    exact ⟨_, q, rfl, .inr ⟨s, rfl, hs⟩, q0, q1⟩
  have J : ∀ x28 : Bool, (x28 = true → ∃ acc' q, spec_l4List.j2 (k + c + 38) a acc n b x28 l (p + 1) = spec_l4List.l0 (k + c + 37) a acc' (n - 1) l q ∧ (acc' = acc ∨ ∃ s, acc' = acc ++ [s] ∧ okS (d + 1) s) ∧ p ≤ q ∧ q ≤ p + 2 * C + 100) := by
    rintro _ rfl
    rw [show k + c + 38 = (k + c + 37) + 1 from rfl, spec_l4List.j2, if_pos rfl]
    obtain ⟨x, q, hx, ho, q0, q1⟩ := E 3 (p + 1) (by omega) (by omega) (by omega) (by omega)
    replace hx : spec_l3Expr.f (k + c + 37) l (p + 1) 3 = _ := hx
    obtain ⟨ys, r, hy, yl, yo, r0, r1⟩ := H1 (k + 37) q (by omega) (by omega)
    obtain ⟨zs, t, hz, zl, zo, t0, t1⟩ := H2 (k + 37) r (by omega) (by omega)
    rw [show k + 37 + c = k + c + 37 by omega] at hy hz
    rw [hx]; simp only [Option.bind_some]
    rw [w1, hy]; simp only [Option.bind_some]
    rw [w2, hz]; simp only [Option.bind_some, eta120]
    exact app ⟨2, ⟨0, 0⟩, x, ys, zs⟩ t ⟨.inr (.inl rfl), ho, yl, zl, yo, zo⟩ (by omega) (by omega)
  by_cases hb0 : b = 0
  · rw [if_pos hb0]; exact J _ (by simpa using hb0)
  rw [if_neg hb0]
  by_cases hb1 : b = 1
  · exact J _ (by simpa using hb1)
  rw [show (b == 1) = false by simpa using hb1, show k + c + 38 = (k + c + 37) + 1 from rfl, spec_l4List.j2, if_neg (by decide)]
  by_cases hb2 : b = 2
  · rw [if_pos hb2]
    by_cases ha : a > 1
    · rw [if_pos ha]
      obtain ⟨s, q, hs, ho, q0, q1⟩ := count_some h (p + 1) (by omega) (by omega)
      rw [hs]; simp only [Option.bind_some, eta122]
      exact app s q (okS_le (by have := hd ha; omega) ho) (by omega) (by omega)
    · rw [if_neg ha, wn]
      exact ⟨acc, p + 1, rfl, .inl rfl, by omega, by omega⟩
  rw [if_neg hb2]
  by_cases hb3 : b = 3
  · rw [if_pos hb3]
    obtain ⟨e, he, _⟩ := pick_some h (k + c + 36) (p + 1) 3 (by omega) (by omega)
    rw [he]; simp only [Option.bind_some]
    by_cases he0 : e = 0
    · rw [if_pos he0]
      obtain ⟨x, q, hx, ho, q0, q1⟩ := E 2 (p + 1 + 1) (by omega) (by omega) (by omega) (by omega)
      replace hx : spec_l3Expr.f (k + c + 37) l (p + 1 + 1) 2 = _ := hx
      obtain ⟨ys, r, hy, yl, yo, r0, r1⟩ := H1 (k + 37) q (by omega) (by omega)
      rw [show k + 37 + c = k + c + 37 by omega] at hy
      rw [hx]; simp only [Option.bind_some]
      rw [w1, hy]; simp only [Option.bind_some, eta120]
      exact app ⟨3, ⟨0, 0⟩, x, ys, []⟩ r ⟨.inr (.inr rfl), ho, yl, by simp, yo, fun t ht => by simp at ht⟩ (by omega) (by omega)
    · rw [if_neg he0, wn]
      exact ⟨acc, _, rfl, .inl rfl, by omega, by omega⟩
  rw [if_neg hb3]
  obtain ⟨u, v, hu⟩ := l2To_some h (k + c + 36) (p + 1) (by omega) (by omega)
  rw [hu]; simp only [Option.bind_some]
  obtain ⟨x, q, hx, ho, q0, q1⟩ := E 3 (p + 1 + 2) (by omega) (by omega) (by omega) (by omega)
  replace hx : spec_l3Expr.f (k + c + 37) l (p + 1 + 2) 3 = _ := hx
  rw [hx]; simp only [Option.bind_some, eta120]
  exact app ⟨1, ⟨u, v⟩, x, [], []⟩ q (set_ok rfl ho rfl rfl) (by omega) (by omega)
theorem list_loop {l : List Int} (h : Byt l) (d c : Nat) (a C : Int) (a1 : 1 ≤ a) (a3 : a ≤ 3) (hd : 1 < a → 1 ≤ d) (hC : 1 ≤ C) (H1 : LP l (a - 1) d c C) (H2 : LP l (a - 2) d c C) :
    ∀ (n k : Nat) (acc : List S122) (p : Int), n + acc.length ≤ 3 → 0 ≤ p → p + (n : Int) * (2 * C + 100) ≤ 400000 →
      ∃ ys q, spec_l4List.l0 (k + c + 37 + 3 * n) a acc (n : Int) l p = some (acc ++ ys, q) ∧ ys.length ≤ n ∧ (∀ s ∈ ys, okS (d + 1) s) ∧ p ≤ q ∧ q ≤ p + (n : Int) * (2 * C + 100)
  | 0, k, acc, p, _, h0, _ => by
    refine ⟨[], p, ?_, by simp, fun s hs => by simp at hs, by omega, by simp⟩
    rw [show k + c + 37 + 3 * 0 = (k + c + 36) + 1 from rfl, spec_l4List.l0, if_neg (by decide), show k + c + 36 = (k + c + 35) + 1 from rfl, spec_l4List.j1, if_neg (by decide), List.append_nil]
  | n + 1, k, acc, p, hl, h0, h1 => by
    have em : ((n + 1 : Nat) : Int) * (2 * C + 100) = (n : Int) * (2 * C + 100) + (2 * C + 100) := by rw [Int.natCast_add, Int.add_mul]; simp
    have hnn : 0 ≤ (n : Int) * (2 * C + 100) := Int.mul_nonneg (by omega) (by omega)
    obtain ⟨acc', q, e, ha, q0, q1⟩ := list_iter h d c a C a1 a3 hd hC H1 H2 (k + 3 * n) acc ((n + 1 : Nat) : Int) p (by omega) (by omega) (by omega) h0 (by omega)
    rw [show k + c + 37 + 3 * (n + 1) = k + 3 * n + c + 40 by omega, e, show ((n + 1 : Nat) : Int) - 1 = (n : Int) by omega, show k + 3 * n + c + 37 = k + c + 37 + 3 * n by omega]
    have hl' : n + acc'.length ≤ 3 := by
      rcases ha with rfl | ⟨s, rfl, _⟩
      · omega
      · simp; omega
    obtain ⟨ys, q', e', yl, yo, r0, r1⟩ := list_loop h d c a C a1 a3 hd hC H1 H2 n k acc' q hl' (by omega) (by omega)
    rw [e']
    rcases ha with rfl | ⟨s, rfl, hs⟩
    · exact ⟨ys, q', rfl, by omega, yo, by omega, by omega⟩
    · refine ⟨[s] ++ ys, q', by rw [List.append_assoc], by simp; omega, fun t ht => ?_, by omega, by omega⟩
      rcases List.mem_append.1 ht with ht | ht
      · rw [List.mem_singleton.1 ht]; exact hs
      · exact yo t ht
theorem list_of {k : Nat} {l : List Int} {p a n p' : Int} {r : Option (List S122 × Int)} (hb : spec_l12Rd_pick.f k l p 4 = some (n, p')) (e : spec_l4List.l0 k a [] n l p' = r) : spec_l4List.f (k + 1) l p a = r := by
  rw [spec_l4List.f, hb, ← e]; rfl
theorem list_step {l : List Int} (h : Byt l) (d c : Nat) (a C : Int) (a1 : 1 ≤ a) (a3 : a ≤ 3) (hd : 1 < a → 1 ≤ d) (hC : 1 ≤ C) (H1 : LP l (a - 1) d c C) (H2 : LP l (a - 2) d c C) : LP l a (d + 1) (c + 50) (6 * C + 310) := fun k p h0 h1 => by
  obtain ⟨b, hb, b0, b1⟩ := pick_some h (k + c + 48) p 4 h0 (by omega)
  obtain ⟨n, rfl⟩ : ∃ n : Nat, b = (n : Int) := ⟨b.toNat, by omega⟩
  have hn : n ≤ 3 := by omega
  have hb2 : (n : Int) * (2 * C + 100) ≤ 3 * (2 * C + 100) := Int.mul_le_mul_of_nonneg_right (by omega) (by omega)
  obtain ⟨ys, q, e, yl, yo, q0, q1⟩ := list_loop h d c a C a1 a3 hd hC H1 H2 n (k + 12 - 3 * n) [] (p + 1) (by rw [List.length_nil]; exact hn) (by omega) (by omega)
  have ek : k + 12 - 3 * n + c + 37 + 3 * n = k + c + 48 + 1 := by omega
  rw [ek] at e
  have ek2 : k + (c + 50) = k + c + 48 + 1 + 1 := by omega
  rw [ek2]
  exact ⟨[] ++ ys, q, list_of hb e, by rw [List.nil_append]; omega, by rw [List.nil_append]; exact yo, by omega, by omega⟩
theorem list3 {l : List Int} (h : Byt l) : LP l 3 3 154 14166 := by
  have z : ∀ a : Int, a ≤ 0 → LP l a 0 4 1 := fun a ha => list_le0 h ha
  have l1 : LP l 1 1 54 316 := list_step h 0 4 1 1 (by omega) (by omega) (by omega) (by omega) (z _ (by omega)) (z _ (by omega))
  have l2 : LP l 2 2 104 2206 := list_step h 1 54 2 316 (by omega) (by omega) (by omega) (by omega) l1 ((z 0 (by omega)).up (by omega) (by omega) (by omega))
  exact (list_step h 2 104 3 2206 (by omega) (by omega) (by omega) (by omega) l2 (l1.up (by omega) (by omega) (by omega))).up (by omega) (by omega) (by omega)
end Go.Proofs.YtjamfddhcigchaaGreatDoor.Hx
