/- What the draws of code answer exists for every list of bytes; their shapes and sizes. No condition. -/
import Derived.Test.YtjamfddhcigchaaGreatDoorTFnCodeRunHFnCodeRunx15
import Derived.Test.YtjamfddhcigchaaGreatDoorTFnCodeRunHFnCodeRunx22
import Derived.Test.YtjamfddhcigchaaGreatDoorTFnCodeRunGw
namespace Go.Proofs.YtjamfddhcigchaaGreatDoor.Hx
open Go.RowKit  Go.Proofs.YtjamfddhcigchaaGreatDoor.HFnCodeRun Go.Proofs.YtjamfddhcigchaaGreatDoorW.PrintWords Go.Proofs.YtjamfddhcigchaaGreatDoorW.PrintLast Go.Proofs.YtjamfddhcigchaaGreatDoorW.PrintMore
set_option linter.unusedVariables false
set_option linter.unusedSimpArgs false
theorem wrap_id {x : Int} (h1 : -9223372036854775808 ≤ x) (h2 : x ≤ 9223372036854775807) : wrap64 x = x := by
  unfold wrap64; omega
theorem xor_i64_nat (a b : Nat) (ha : a < 9223372036854775808) (hb : b < 9223372036854775808) :
    Go.bits .xor .i64 (a : Int) (b : Int) = ((a ^^^ b : Nat) : Int) := by
  have hx : a ^^^ b < 2 ^ 63 := Nat.xor_lt_two_pow (by omega) (by omega)
  have h1 : (BitVec.ofInt 64 (a : Int)).toNat = a := by
    rw [BitVec.ofInt_natCast, BitVec.toNat_ofNat]; exact Nat.mod_eq_of_lt (by omega)
  have h2 : (BitVec.ofInt 64 (b : Int)).toNat = b := by
    rw [BitVec.ofInt_natCast, BitVec.toNat_ofNat]; exact Nat.mod_eq_of_lt (by omega)
  show IntKind.i64.wrap ((BitVec.ofInt 64 (a : Int) ^^^ BitVec.ofInt 64 (b : Int)).toNat : Int) = _
  rw [BitVec.toNat_xor, h1, h2, IntKind.wrap_i64]
  omega
theorem xor_i64_nonneg (x y : Int) (hx : 0 ≤ x) (hx' : x < 9223372036854775808) (hy : 0 ≤ y) (hy' : y < 9223372036854775808) :
    0 ≤ Go.bits .xor .i64 x y := by
  obtain ⟨a, rfl⟩ := Int.eq_ofNat_of_zero_le hx
  obtain ⟨b, rfl⟩ := Int.eq_ofNat_of_zero_le hy
  rw [xor_i64_nat a b (by omega) (by omega)]
  exact Int.natCast_nonneg _
def Byt (l : List Int) : Prop := ∀ x ∈ l, 0 ≤ x ∧ x ≤ 255
theorem rd_byt {l : List Int} (h : Byt l) (i : Int) : 0 ≤ rd l i ∧ rd l i ≤ 255 := by
  unfold rd
  by_cases hi : i.toNat < l.length
  · rw [List.getD_eq_getElem?_getD, List.getElem?_eq_getElem hi]; exact h _ (List.getElem_mem hi)
  · rw [List.getD_eq_getElem?_getD, List.getElem?_eq_none (by omega)]; simp
theorem tmod_bd {a b : Int} (ha : 0 ≤ a) (hb : 0 < b) : 0 ≤ Int.tmod a b ∧ Int.tmod a b < b := by
  rw [Int.tmod_eq_emod_of_nonneg ha]
  exact ⟨Int.emod_nonneg _ (by omega), Int.emod_lt_of_pos _ hb⟩
theorem tdiv_bd {a b : Int} (ha : 0 ≤ a) (hb : 0 < b) : 0 ≤ Int.tdiv a b ∧ Int.tdiv a b ≤ a := by
  rw [Int.tdiv_eq_ediv_of_nonneg ha]
  exact ⟨Int.ediv_nonneg ha (by omega), Int.ediv_le_self _ ha⟩
theorem pick_some {l : List Int} (h : Byt l) (k : Nat) (p n : Int) (hp : 0 ≤ p) (hp' : p ≤ 1000000000000) :
    ∃ r, spec_l12Rd_pick.f (k + 1) l p n = some (r, p + 1) ∧ 0 ≤ r ∧ (r < n ∨ (n < 1 ∧ r = 0)) := by
  have hw : wrap64 (p + 1) = p + 1 := wrap_id (by omega) (by omega)
  have hw2 : wrap64 (p + 1 - 1) = p := by rw [wrap_id (by omega) (by omega)]; omega
  unfold spec_l12Rd_pick.f
  by_cases hn : n < 1
  · refine ⟨0, ?_, by omega, .inr ⟨hn, rfl⟩⟩
    rw [if_pos hn]; simp only [spec_l12Rd_pick.j0, if_true]; rw [hw]
  · rw [if_neg hn]
    by_cases hl : (l.length : Int) = 0
    · refine ⟨0, ?_, by omega, .inl (by omega)⟩
      have e : ((l.length : Int) == 0) = true := by simpa using hl
      rw [e]; simp only [spec_l12Rd_pick.j0, if_true]; rw [hw]
    · have e : ((l.length : Int) == 0) = false := by simpa using hl
      have hn0 : ¬ n = 0 := by omega
      rw [e]; simp only [spec_l12Rd_pick.j0]
      rw [if_neg (by simp), hw, hw2]
      by_cases hlt : p < (l.length : Int)
      · rw [if_pos hlt, if_pos hp, if_neg hn0]
        have hb := rd_byt h p
        rw [wrap_id (x := rd l p) (by omega) (by omega)]
        have ht := tmod_bd (a := rd l p) (b := n) hb.1 (by omega)
        exact ⟨_, rfl, ht.1, .inl ht.2⟩
      · have hL : 0 < (l.length : Int) := by omega
        have ht1 := tmod_bd (a := p) (b := (l.length : Int)) hp hL
        have e7 : wrap64 (p * 7) = p * 7 := wrap_id (by omega) (by omega)
        have e73 : wrap64 (p * 7 + 3) = p * 7 + 3 := wrap_id (by omega) (by omega)
        have ht2 := tmod_bd (a := p * 7 + 3) (b := (l.length : Int)) (by omega) hL
        rw [if_neg hlt, if_neg hl, if_pos ht1.1, if_pos ht1.2, e7, e73, if_pos ht2.1, if_pos ht2.2, if_neg hn0]
        have hb1 := rd_byt h (Int.tmod p (l.length : Int))
        have hb2 := rd_byt h (Int.tmod (p * 7 + 3) (l.length : Int))
        have hd := tdiv_bd (a := p) (b := (l.length : Int)) hp hL
        generalize rd l (Int.tmod p (l.length : Int)) = A at hb1 ⊢
        generalize rd l (Int.tmod (p * 7 + 3) (l.length : Int)) = B at hb2 ⊢
        generalize Int.tdiv p (l.length : Int) = D at hd ⊢
        rw [wrap_id (x := A) (by omega) (by omega), wrap_id (x := B) (by omega) (by omega), wrap_id (x := D) (by omega) (by omega), wrap_id (x := A * 131) (by omega) (by omega), wrap_id (x := B * 1117) (by omega) (by omega), wrap_id (x := p * 29) (by omega) (by omega), wrap_id (x := D * 53) (by omega) (by omega), wrap_id (x := A * 131 + B * 1117) (by omega) (by omega), wrap_id (x := A * 131 + B * 1117 + p * 29) (by omega) (by omega), wrap_id (x := A * 131 + B * 1117 + p * 29 + D * 53) (by omega) (by omega)]
        have hx0 : 0 ≤ A * 131 + B * 1117 + p * 29 + D * 53 := by omega
        have hx1 : A * 131 + B * 1117 + p * 29 + D * 53 < 9223372036854775807 := by omega
        generalize A * 131 + B * 1117 + p * 29 + D * 53 = X at hx0 hx1 ⊢
        have hd2 := tdiv_bd (a := X) (b := 64) hx0 (by omega)
        rw [wrap_id (x := Int.tdiv X 64) (by omega) (by omega)]
        have hnn := xor_i64_nonneg X (Int.tdiv X 64) hx0 (by omega) hd2.1 (by omega)
        have ht := tmod_bd (a := Go.bits .xor .i64 X (Int.tdiv X 64)) (b := n) hnn (by omega)
        exact ⟨_, rfl, ht.1, .inl ht.2⟩
theorem rd_mem {l : List Int} {i : Int} (h0 : 0 ≤ i) (h1 : i < (l.length : Int)) : rd l i ∈ l := by
  unfold rd
  rw [List.getD_eq_getElem?_getD, List.getElem?_eq_getElem (by omega)]; exact List.getElem_mem _
theorem num_some {l : List Int} (h : Byt l) (k : Nat) (p : Int) (xs : List Int) (hx : 0 < xs.length) (hp : 0 ≤ p) (hp' : p ≤ 1000000000000) :
    ∃ r, spec_l12Rd_num.f (k + 1) l p xs = some (r, p + 1) ∧ r ∈ xs := by
  obtain ⟨i, hi, h0, h1⟩ := pick_some h k p (xs.length : Int) hp hp'
  have h1' : i < (xs.length : Int) := by omega
  refine ⟨rd xs i, ?_, rd_mem h0 h1'⟩
  unfold spec_l12Rd_num.f
  rw [hi]; simp only [Option.bind_some]
  rw [if_pos h0, if_pos h1']
theorem byt_of {l : List Int} (h : ∀ x ∈ l, (Lit.int .u8 x).wf = true) : Byt l := by
  intro x hx
  have := h x hx
  simp [Lit.wf, IntKind.min, IntKind.max, IntKind.bits, IntKind.signed] at this
  omega
theorem open_some {l : List Int} (h : Byt l) : ∃ l', spec_l12Open.f l = some (l', 0) ∧ Byt l' := by
  unfold spec_l12Open.f
  by_cases hl : (l.length : Int) > 2000
  · rw [if_pos hl, if_pos (by omega)]
    exact ⟨_, rfl, fun x hx => h x (List.mem_of_mem_take hx)⟩
  · rw [if_neg hl]; exact ⟨l, rfl, h⟩
theorem l2Addr_some {l : List Int} (h : Byt l) (k : Nat) (p : Int) (hp : 0 ≤ p) (hp' : p ≤ 100000000) : ∃ a i, spec_l2Addr.f (k + 1) l p = some (a, i, p + 2) := by
  unfold spec_l2Addr.f
  obtain ⟨a, ha, _⟩ := pick_some h k p 3 hp (by omega)
  obtain ⟨b, hb, _⟩ := pick_some h k (p + 1) 3 (by omega) (by omega)
  rw [ha]; simp only [Option.bind_some]
  rw [hb]; simp only [Option.bind_some]
  exact ⟨_, _, by rw [show p + 1 + 1 = p + 2 by omega]⟩
theorem l2To_some {l : List Int} (h : Byt l) (k : Nat) (p : Int) (hp : 0 ≤ p) (hp' : p ≤ 100000000) : ∃ a i, spec_l2To.f (k + 1) l p = some (a, i, p + 2) := by
  unfold spec_l2To.f
  obtain ⟨a, ha, _⟩ := pick_some h k p 2 hp (by omega)
  obtain ⟨b, hb, _⟩ := pick_some h k (p + 1) 3 (by omega) (by omega)
  rw [ha]; simp only [Option.bind_some]
  rw [hb]; simp only [Option.bind_some]
  exact ⟨_, _, by rw [show p + 1 + 1 = p + 2 by omega]⟩
theorem bent_addr {l : List Int} (h : Byt l) (k : Nat) (p : Int) (hp : 0 ≤ p) (hp' : p ≤ 100000000) : ∃ a i q, spec_l2AddrBent.f (k + 1) l p = some (a, i, q) ∧ 0 ≤ q ∧ q ≤ p + 10 := by
  unfold spec_l2AddrBent.f
  obtain ⟨a, i, ha⟩ := l2Addr_some h k p hp hp'
  obtain ⟨b, hb, _⟩ := pick_some h k (p + 2) 16 (by omega) (by omega)
  rw [ha]; simp only [Option.bind_some]
  rw [hb]; simp only [Option.bind_some]
  obtain ⟨c, hc, _⟩ := num_some h k (p + 2 + 1) [0, 4, (-1)] (by simp) (by omega) (by omega)
  obtain ⟨d, hd, _⟩ := num_some h k (p + 2 + 1) [(-1), 6, 5] (by simp) (by omega) (by omega)
  rw [hc, hd]; simp only [Option.bind_some]
  split
  · exact ⟨_, _, _, rfl, by omega, by omega⟩
  · split <;> exact ⟨_, _, _, rfl, by omega, by omega⟩
def okX : Nat → S120 → Prop
  | 0, _ => False
  | d + 1, x => ((x.f0 = 1 ∨ x.f0 = 2) ∧ x.f3 = []) ∨ ((x.f0 = 10 ∧ x.f3.length = 1 ∨ (3 ≤ x.f0 ∧ x.f0 ≤ 9) ∧ x.f3.length = 2) ∧ ∀ y ∈ x.f3, okX d y)
theorem okX_up : ∀ (d : Nat) (x : S120), okX d x → okX (d + 1) x
  | 0, _, h => h.elim
  | d + 1, x, h => by
    rcases h with h | ⟨h1, h2⟩
    · exact .inl h
    · exact .inr ⟨h1, fun y hy => okX_up d y (h2 y hy)⟩
theorem okX_le {d e : Nat} (h : d ≤ e) {x : S120} (hx : okX d x) : okX e x := by
  induction e with
  | zero => obtain rfl : d = 0 := by omega
            exact hx
  | succ e ih =>
    by_cases he : d = e + 1
    · subst he; exact hx
    · exact okX_up e x (ih (by omega))
def eb : Nat → Int
  | 0 => 0
  | d + 1 => 2 * eb d + 4
theorem eb_nn : ∀ d, 0 ≤ eb d
  | 0 => by decide
  | d + 1 => by have := eb_nn d; show 0 ≤ 2 * eb d + 4; omega
theorem kids_some (k : Nat) (r : Int) : ∃ t, spec_l3Kids.f (k + 1) r = some t ∧ (r = 10 → t = 1) ∧ (3 ≤ r → r ≤ 9 → t = 2) := by
  unfold spec_l3Kids.f
  by_cases h1 : r = 1
  · rw [if_pos h1]; exact ⟨_, rfl, fun h => by omega, fun h => by omega⟩
  rw [if_neg h1]
  by_cases h2 : r = 2
  · subst h2; exact ⟨_, rfl, fun h => by omega, fun h => by omega⟩
  rw [show (r == 2) = false by simpa using h2]
  simp only [spec_l3Kids.j0]
  rw [if_neg (by decide)]
  by_cases h10 : r = 10
  · rw [if_pos h10]; exact ⟨_, rfl, fun _ => rfl, fun h => by omega⟩
  rw [if_neg h10]
  by_cases h3 : r ≥ 3
  · rw [if_pos h3]
    by_cases h9 : r ≤ 9
    · rw [if_pos h9]; exact ⟨_, rfl, fun h => by omega, fun _ _ => rfl⟩
    · rw [if_neg h9]; exact ⟨_, rfl, fun h => by omega, fun _ h => by omega⟩
  · rw [if_neg h3]; exact ⟨_, rfl, fun h => by omega, fun h => by omega⟩
theorem leaf_some {l : List Int} (h : Byt l) (k : Nat) (a p : Int) (hp : 0 ≤ p) (hp' : p ≤ 10000000) :
    ∃ (x : S120) (q : Int), spec_l3Expr.j0 (k + 2) a true l p = some (x.f0, x.f1, x.f2.f0, x.f2.f1, x.f3, q) ∧ okX 1 x ∧ p ≤ q ∧ q ≤ p + 3 := by
  rw [show k + 2 = (k + 1) + 1 from rfl]
  simp only [spec_l3Expr.j0, if_true]
  obtain ⟨b, hb, _⟩ := pick_some h k p 3 hp (by omega)
  rw [hb]; simp only [Option.bind_some]
  obtain ⟨n, hn, _⟩ := num_some h k (p + 1) [0, 1, 2, 3, (-1), 5, 1000000] (by simp) (by omega) (by omega)
  obtain ⟨u, v, hu⟩ := l2Addr_some h k (p + 1) (by omega) (by omega)
  rw [hn, hu]; simp only [Option.bind_some]
  split
  · exact ⟨⟨1, n, ⟨0, 0⟩, []⟩, _, rfl, .inl ⟨.inl rfl, rfl⟩, by omega, by omega⟩
  · exact ⟨⟨2, 0, ⟨u, v⟩, []⟩, _, rfl, .inl ⟨.inr rfl, rfl⟩, by omega, by omega⟩
theorem eta120 (x : S120) : (⟨x.f0, x.f1, ⟨x.f2.f0, x.f2.f1⟩, x.f3⟩ : S120) = x := by cases x; rfl
theorem kids_end {l : List Int} (k : Nat) (a r p : Int) (acc : List S120) : spec_l3Expr.l0 (k + 1) a 0 l p r 0 0 0 acc = some (r, 0, 0, 0, acc, p) := by
  rw [spec_l3Expr.l0, if_neg (by decide)]
theorem kids_step {l : List Int} (k d : Nat) (a r p n : Int) (acc : List S120) (ha : wrap64 (a - 1) = (d : Int)) (hn : 0 < n) (hn2 : n ≤ 2) (hl : acc.length ≤ 2) {x : S120} {q : Int} (hx : spec_l3Expr.f k l p (d : Int) = some (x.f0, x.f1, x.f2.f0, x.f2.f1, x.f3, q)) :
    spec_l3Expr.l0 (k + 1) a n l p r 0 0 0 acc = spec_l3Expr.l0 k a (n - 1) l q r 0 0 0 (acc ++ [x]) := by
  rw [spec_l3Expr.l0, if_pos hn, ha, hx]; simp only [Option.bind_some]
  rw [if_pos (by omega), wrap_id (x := n - 1) (by omega) (by omega), eta120]
theorem expr_some {l : List Int} (h : Byt l) : ∀ (d : Nat), 1 ≤ d → d ≤ 3 → ∀ (k : Nat) (p : Int), 0 ≤ p → p + eb d + 10 ≤ 1000000 →
    ∃ (x : S120) (q : Int), spec_l3Expr.f (k + 8 * d) l p (d : Int) = some (x.f0, x.f1, x.f2.f0, x.f2.f1, x.f3, q) ∧ okX d x ∧ p ≤ q ∧ q ≤ p + eb d
  | 0, h1, _, _, _, _, _ => by omega
  | 1, _, _, k, p, h0, h1 => by
    have h1 : p + 4 + 10 ≤ 1000000 := h1
    obtain ⟨x, q, hx, ho, q0, q1⟩ := leaf_some h (k + 5) 1 p h0 (by omega)
    refine ⟨x, q, ?_, ho, q0, by show q ≤ p + 4; omega⟩
    rw [show k + 8 * 1 = (k + 7) + 1 by omega, spec_l3Expr.f, if_pos (by decide)]
    exact hx
  | d + 2, _, hd, k, p, h0, h1 => by
    have hb : eb (d + 2) = 2 * eb (d + 1) + 4 := rfl
    have hn := eb_nn (d + 1)
    have hB : eb (d + 1) ≤ 100 := by
      rcases (by omega : d = 0 ∨ d = 1) with rfl | rfl <;> decide
    rw [show k + 8 * (d + 2) = (k + 8 * d + 15) + 1 by omega, spec_l3Expr.f, if_neg (by omega)]
    obtain ⟨b, hb1, _⟩ := pick_some h (k + 8 * d + 14) p 4 h0 (by omega)
    rw [hb1]; simp only [Option.bind_some]
    by_cases hb0 : b = 0
    · subst hb0
      obtain ⟨x, q, hx, ho, q0, q1⟩ := leaf_some h (k + 8 * d + 13) ((d + 2 : Nat) : Int) (p + 1) (by omega) (by omega)
      exact ⟨x, q, hx, okX_le (by omega) ho, by omega, by omega⟩
    rw [show (b == 0) = false by simpa using hb0, spec_l3Expr.j0, if_neg (by decide)]
    obtain ⟨r, hr, hm⟩ := num_some h (k + 8 * d + 13) (p + 1) [3, 3, 4, 5, 6, 6, 7, 8, 9, 10] (by simp) (by omega) (by omega)
    rw [hr]; simp only [Option.bind_some]
    obtain ⟨t, ht, t1, t2⟩ := kids_some (k + 8 * d + 13) r
    rw [ht]; simp only [Option.bind_some]
    have ha : wrap64 (((d + 2 : Nat) : Int) - 1) = ((d + 1 : Nat) : Int) := by rw [wrap_id (by omega) (by omega)]; omega
    have hrr : r = 10 ∨ (3 ≤ r ∧ r ≤ 9) := by simp only [List.mem_cons, List.not_mem_nil, or_false] at hm; omega
    obtain ⟨x, q, hx, ho, q0, q1⟩ := expr_some h (d + 1) (by omega) (by omega) (k + 5) (p + 1 + 1) (by omega) (by omega)
    rw [show k + 5 + 8 * (d + 1) = k + 8 * d + 13 by omega] at hx
    rcases hrr with rfl | ⟨r3, r9⟩
    · obtain rfl : t = 1 := t1 rfl
      rw [show k + 8 * d + 14 = (k + 8 * d + 13) + 1 by omega, kids_step _ (d + 1) _ _ _ 1 [] ha (by omega) (by omega) (by simp) hx, show k + 8 * d + 13 = (k + 8 * d + 12) + 1 by omega]
      refine ⟨⟨10, 0, ⟨0, 0⟩, [] ++ [x]⟩, q, kids_end _ _ _ _ _, .inr ⟨.inl ⟨rfl, rfl⟩, fun y hy => ?_⟩, by omega, by omega⟩
      obtain rfl : y = x := by simpa using hy
      exact ho
    · obtain rfl : t = 2 := t2 r3 r9
      obtain ⟨x2, q2, hx2, ho2, s0, s1⟩ := expr_some h (d + 1) (by omega) (by omega) (k + 4) q (by omega) (by omega)
      rw [show k + 4 + 8 * (d + 1) = k + 8 * d + 12 by omega] at hx2
      rw [show k + 8 * d + 14 = (k + 8 * d + 13) + 1 by omega, kids_step _ (d + 1) _ _ _ 2 [] ha (by omega) (by omega) (by simp) hx, show k + 8 * d + 13 = (k + 8 * d + 12) + 1 by omega, kids_step _ (d + 1) _ _ _ (2 - 1) _ ha (by omega) (by omega) (by simp) hx2, show k + 8 * d + 12 = (k + 8 * d + 11) + 1 by omega]
      refine ⟨⟨r, 0, ⟨0, 0⟩, [] ++ [x] ++ [x2]⟩, q2, kids_end _ _ _ _ _, .inr ⟨.inr ⟨⟨r3, r9⟩, rfl⟩, fun y hy => ?_⟩, by omega, by omega⟩
      have : y = x ∨ y = x2 := by simpa using hy
      rcases this with rfl | rfl
      · exact ho
      · exact ho2
def okS : Nat → S122 → Prop
  | 0, _ => False
  | d + 1, s => (s.f0 = 1 ∨ s.f0 = 2 ∨ s.f0 = 3) ∧ okX 3 s.f2 ∧ s.f3.length ≤ 3 ∧ s.f4.length ≤ 3 ∧ (∀ t ∈ s.f3, okS d t) ∧ ∀ t ∈ s.f4, okS d t
theorem okS_up : ∀ (d : Nat) (s : S122), okS d s → okS (d + 1) s
  | 0, _, h => h.elim
  | d + 1, s, ⟨h1, h2, h3, h4, h5, h6⟩ => ⟨h1, h2, h3, h4, fun t ht => okS_up d t (h5 t ht), fun t ht => okS_up d t (h6 t ht)⟩
theorem okS_le {d e : Nat} (h : d ≤ e) {s : S122} (hs : okS d s) : okS e s := by
  induction e with
  | zero => obtain rfl : d = 0 := by omega
            exact hs
  | succ e ih =>
    by_cases he : d = e + 1
    · subst he; exact hs
    · exact okS_up e s (ih (by omega))
theorem set_ok {x : S122} {d : Nat} (h0 : x.f0 = 1) (h2 : okX 3 x.f2) (h3 : x.f3 = []) (h4 : x.f4 = []) : okS (d + 1) x :=
  ⟨.inl h0, h2, by simp [h3], by simp [h4], by simp [h3], by simp [h4]⟩
theorem count_some {l : List Int} (h : Byt l) (p : Int) (hp : 0 ≤ p) (hp' : p ≤ 900000) :
    ∃ (s : S122) (q : Int), spec_l4Count.f l p = some (s.f0, s.f1.f0, s.f1.f1, s.f2.f0, s.f2.f1, s.f2.f2.f0, s.f2.f2.f1, s.f2.f3, s.f3, s.f4, q) ∧ okS 2 s ∧ p ≤ q ∧ q ≤ p + 50 := by
  unfold spec_l4Count.f
  obtain ⟨a, ha, _⟩ := pick_some h 999 p 3 hp (by omega)
  obtain ⟨n, hn, _⟩ := num_some h 999 (p + 1) [1, 3, 5, 9, 200] (by simp) (by omega) (by omega)
  obtain ⟨m, hm, _⟩ := num_some h 999 (p + 1 + 1) [1, 1, 2, 0] (by simp) (by omega) (by omega)
  obtain ⟨c, hc, _⟩ := pick_some h 999 (p + 1 + 1 + 1) 2 (by omega) (by omega)
  obtain ⟨t0, t1, ht⟩ := l2To_some h 999 (p + 1 + 1 + 1 + 1) (by omega) (by omega)
  obtain ⟨x, q, hx, ho, q0, q1⟩ := expr_some h 2 (by omega) (by omega) 984 (p + 1 + 1 + 1 + 1 + 2) (by omega) (by show _ + 12 + 10 ≤ _; omega)
  have q1' : q ≤ p + 1 + 1 + 1 + 1 + 2 + 12 := q1
  replace hx : spec_l3Expr.f 1000 l (p + 1 + 1 + 1 + 1 + 2) 2 = _ := hx
  rw [show (999 + 1 : Nat) = 1000 from rfl] at ha hn hm hc ht
  have k1 : ∀ u : Int, okX 3 ⟨6, 0, ⟨0, 0⟩, [(⟨2, 0, ⟨3, a⟩, []⟩ : S120), ⟨1, u, ⟨0, 0⟩, []⟩]⟩ := fun u => .inr ⟨.inr ⟨(show (3 : Int) ≤ 6 ∧ (6 : Int) ≤ 9 by decide), rfl⟩, fun y hy => by
    have : y = ⟨2, 0, ⟨3, a⟩, []⟩ ∨ y = ⟨1, u, ⟨0, 0⟩, []⟩ := by simpa using hy
    rcases this with rfl | rfl
    · exact .inl ⟨.inr rfl, rfl⟩
    · exact .inl ⟨.inl rfl, rfl⟩⟩
  have k2 : ∀ u : Int, okX 3 ⟨3, 0, ⟨0, 0⟩, [(⟨2, 0, ⟨3, a⟩, []⟩ : S120), ⟨1, u, ⟨0, 0⟩, []⟩]⟩ := fun u => .inr ⟨.inr ⟨(show (3 : Int) ≤ 3 ∧ (3 : Int) ≤ 9 by decide), rfl⟩, fun y hy => by
    have : y = ⟨2, 0, ⟨3, a⟩, []⟩ ∨ y = ⟨1, u, ⟨0, 0⟩, []⟩ := by simpa using hy
    rcases this with rfl | rfl
    · exact .inl ⟨.inr rfl, rfl⟩
    · exact .inl ⟨.inl rfl, rfl⟩⟩
  have s1 : okS 1 ⟨1, ⟨3, a⟩, ⟨3, 0, ⟨0, 0⟩, [(⟨2, 0, ⟨3, a⟩, []⟩ : S120), ⟨1, m, ⟨0, 0⟩, []⟩]⟩, [], []⟩ := set_ok rfl (k2 m) rfl rfl
  rw [ha]; simp only [Option.bind_some]
  rw [hn]; simp only [Option.bind_some]
  rw [hm]; simp only [Option.bind_some]
  rw [hc]; simp only [Option.bind_some]
  by_cases hc0 : c = 0
  · rw [if_pos hc0, ht]; simp only [Option.bind_some]
    rw [hx]; simp only [Option.bind_some, eta120]
    refine ⟨⟨3, ⟨0, 0⟩, ⟨6, 0, ⟨0, 0⟩, [(⟨2, 0, ⟨3, a⟩, []⟩ : S120), ⟨1, n, ⟨0, 0⟩, []⟩]⟩, [⟨1, ⟨3, a⟩, ⟨3, 0, ⟨0, 0⟩, [(⟨2, 0, ⟨3, a⟩, []⟩ : S120), ⟨1, m, ⟨0, 0⟩, []⟩]⟩, [], []⟩, ⟨1, ⟨t0, t1⟩, x, [], []⟩], []⟩, q, rfl, ⟨.inr (.inr rfl), k1 n, by simp, by simp, fun t ht => ?_, fun t ht => by simp at ht⟩, by omega, by omega⟩
    have : t = ⟨1, ⟨3, a⟩, ⟨3, 0, ⟨0, 0⟩, [(⟨2, 0, ⟨3, a⟩, []⟩ : S120), ⟨1, m, ⟨0, 0⟩, []⟩]⟩, [], []⟩ ∨ t = ⟨1, ⟨t0, t1⟩, x, [], []⟩ := by simpa using ht
    rcases this with rfl | rfl
    · exact s1
    · exact set_ok rfl (okX_le (by omega) ho) rfl rfl
  · rw [if_neg hc0]
    refine ⟨⟨3, ⟨0, 0⟩, ⟨6, 0, ⟨0, 0⟩, [(⟨2, 0, ⟨3, a⟩, []⟩ : S120), ⟨1, n, ⟨0, 0⟩, []⟩]⟩, [⟨1, ⟨3, a⟩, ⟨3, 0, ⟨0, 0⟩, [(⟨2, 0, ⟨3, a⟩, []⟩ : S120), ⟨1, m, ⟨0, 0⟩, []⟩]⟩, [], []⟩], []⟩, _, rfl, ⟨.inr (.inr rfl), k1 n, by simp, by simp, fun t ht => ?_, fun t ht => by simp at ht⟩, by omega, by omega⟩
    obtain rfl : t = ⟨1, ⟨3, a⟩, ⟨3, 0, ⟨0, 0⟩, [(⟨2, 0, ⟨3, a⟩, []⟩ : S120), ⟨1, m, ⟨0, 0⟩, []⟩]⟩, [], []⟩ := by simpa using ht
    exact s1
theorem eta122 (s : S122) : (⟨s.f0, ⟨s.f1.f0, s.f1.f1⟩, ⟨s.f2.f0, s.f2.f1, ⟨s.f2.f2.f0, s.f2.f2.f1⟩, s.f2.f3⟩, s.f3, s.f4⟩ : S122) = s := by
  cases s with
  | mk a b c d e => cases c; rfl
def LP (l : List Int) (a : Int) (d c : Nat) (C : Int) : Prop := ∀ (k : Nat) (p : Int), 0 ≤ p → p + C ≤ 400000 → ∃ xs q, spec_l4List.f (k + c) l p a = some (xs, q) ∧ xs.length ≤ 3 ∧ (∀ s ∈ xs, okS d s) ∧ p ≤ q ∧ q ≤ p + C
theorem LP.up {l : List Int} {a : Int} {d c d' c' : Nat} {C C' : Int} (h : LP l a d c C) (hd : d ≤ d') (hc : c ≤ c') (hC : C ≤ C') : LP l a d' c' C' := fun k p h0 h1 => by
  obtain ⟨xs, q, e, hl, ho, q0, q1⟩ := h (k + (c' - c)) p h0 (by omega)
  rw [show k + (c' - c) + c = k + c' by omega] at e
  exact ⟨xs, q, e, hl, fun s hs => okS_le hd (ho s hs), q0, by omega⟩
theorem list_le0 {l : List Int} (h : Byt l) {a : Int} (ha : a ≤ 0) : LP l a 0 4 1 := fun k p h0 h1 => by
  obtain ⟨b, hb, _⟩ := pick_some h (k + 2) p 4 h0 (by omega)
  rw [show k + 4 = (k + 3) + 1 from rfl, spec_l4List.f, hb]; simp only [Option.bind_some]
  rw [show k + 3 = (k + 2) + 1 from rfl, spec_l4List.l0, show decide (a > 0) = false from decide_eq_false (by omega)]
  refine ⟨[], p + 1, ?_, by simp, fun s hs => by simp at hs, by omega, by omega⟩
  split
  · rw [show k + 2 = (k + 1) + 1 from rfl, spec_l4List.j1, if_neg (by decide)]
  · rw [show k + 2 = (k + 1) + 1 from rfl, spec_l4List.j1, if_neg (by decide)]
theorem list_iter {l : List Int} (h : Byt l) (d c : Nat) (a C : Int) (a1 : 1 ≤ a) (a3 : a ≤ 3) (hd : 1 < a → 1 ≤ d) (hC : 1 ≤ C) (H1 : LP l (a - 1) d c C) (H2 : LP l (a - 2) d c C)
    (k : Nat) (acc : List S122) (n p : Int) (hn : 0 < n) (hn3 : n ≤ 3) (hacc : acc.length ≤ 3) (h0 : 0 ≤ p) (h1 : p + 2 * C + 100 ≤ 400000) :
    ∃ acc' q, spec_l4List.l0 (k + c + 40) a acc n l p = spec_l4List.l0 (k + c + 37) a acc' (n - 1) l q ∧ (acc' = acc ∨ ∃ s, acc' = acc ++ [s] ∧ okS (d + 1) s) ∧ p ≤ q ∧ q ≤ p + 2 * C + 100 := by
  have w1 : wrap64 (a - 1) = a - 1 := wrap_id (by omega) (by omega)
  have w2 : wrap64 (a - 2) = a - 2 := wrap_id (by omega) (by omega)
  have wn : wrap64 (n - 1) = n - 1 := wrap_id (by omega) (by omega)
  obtain ⟨b, hb, b0, b1⟩ := pick_some h (k + c + 37) p 7 h0 (by omega)
  rw [show k + c + 40 = (k + c + 39) + 1 from rfl, spec_l4List.l0, if_pos hn, show decide (a > 0) = true from decide_eq_true (by omega), show k + c + 39 = (k + c + 38) + 1 from rfl, spec_l4List.j1, if_pos rfl, hb]
  simp only [Option.bind_some]
  have E : ∀ (e : Nat) (r : Int), 1 ≤ e → e ≤ 3 → 0 ≤ r → r ≤ 400000 → ∃ (x : S120) (q : Int), spec_l3Expr.f (k + c + 37) l r (e : Int) = some (x.f0, x.f1, x.f2.f0, x.f2.f1, x.f3, q) ∧ okX 3 x ∧ r ≤ q ∧ q ≤ r + 28 := by
    intro e r e1 e3 r0 r1
    have he : eb e ≤ 28 := by rcases (by omega : e = 1 ∨ e = 2 ∨ e = 3) with rfl | rfl | rfl <;> decide
    obtain ⟨x, q, hx, ho, q0, q1⟩ := expr_some h e e1 e3 (k + c + 37 - 8 * e) r r0 (by omega)
    rw [show k + c + 37 - 8 * e + 8 * e = k + c + 37 by omega] at hx
    exact ⟨x, q, hx, okX_le e3 ho, q0, by omega⟩
  have app : ∀ (s : S122) (q : Int), okS (d + 1) s → p ≤ q → q ≤ p + 2 * C + 100 → ∃ acc' q', (if acc.length < 1099511627776 then spec_l4List.l0 (k + c + 37) a (acc ++ [s]) (wrap64 (n - 1)) l q else none) = spec_l4List.l0 (k + c + 37) a acc' (n - 1) l q' ∧ (acc' = acc ∨ ∃ s, acc' = acc ++ [s] ∧ okS (d + 1) s) ∧ p ≤ q' ∧ q' ≤ p + 2 * C + 100 := by
    intro s q hs q0 q1
    rw [if_pos (by omega), wn]
    exact ⟨_, q, rfl, .inr ⟨s, rfl, hs⟩, q0, q1⟩
  have J : ∀ x28 : Bool, (x28 = true → ∃ acc' q, spec_l4List.j2 (k + c + 38) a acc n b x28 l (p + 1) = spec_l4List.l0 (k + c + 37) a acc' (n - 1) l q ∧ (acc' = acc ∨ ∃ s, acc' = acc ++ [s] ∧ okS (d + 1) s) ∧ p ≤ q ∧ q ≤ p + 2 * C + 100) := by
    rintro _ rfl
    rw [show k + c + 38 = (k + c + 37) + 1 from rfl, spec_l4List.j2, if_pos rfl]
    obtain ⟨x, q, hx, ho, q0, q1⟩ := E 3 (p + 1) (by omega) (by omega) (by omega) (by omega)
    replace hx : spec_l3Expr.f (k + c + 37) l (p + 1) 3 = _ := hx
    obtain ⟨ys, r, hy, yl, yo, r0, r1⟩ := H1 (k + 37) q (by omega) (by omega)
    obtain ⟨zs, t, hz, zl, zo, t0, t1⟩ := H2 (k + 37) r (by omega) (by omega)
    rw [show k + 37 + c = k + c + 37 by omega] at hy hz
    rw [hx]; simp only [Option.bind_some]
    rw [w1, hy]; simp only [Option.bind_some]
    rw [w2, hz]; simp only [Option.bind_some, eta120]
    exact app ⟨2, ⟨0, 0⟩, x, ys, zs⟩ t ⟨.inr (.inl rfl), ho, yl, zl, yo, zo⟩ (by omega) (by omega)
  by_cases hb0 : b = 0
  · rw [if_pos hb0]; exact J _ (by simpa using hb0)
  rw [if_neg hb0]
  by_cases hb1 : b = 1
  · exact J _ (by simpa using hb1)
  rw [show (b == 1) = false by simpa using hb1, show k + c + 38 = (k + c + 37) + 1 from rfl, spec_l4List.j2, if_neg (by decide)]
  by_cases hb2 : b = 2
  · rw [if_pos hb2]
    by_cases ha : a > 1
    · rw [if_pos ha]
      obtain ⟨s, q, hs, ho, q0, q1⟩ := count_some h (p + 1) (by omega) (by omega)
      rw [hs]; simp only [Option.bind_some, eta122]
      exact app s q (okS_le (by have := hd ha; omega) ho) (by omega) (by omega)
    · rw [if_neg ha, wn]
      exact ⟨acc, p + 1, rfl, .inl rfl, by omega, by omega⟩
  rw [if_neg hb2]
  by_cases hb3 : b = 3
  · rw [if_pos hb3]
    obtain ⟨e, he, _⟩ := pick_some h (k + c + 36) (p + 1) 3 (by omega) (by omega)
    rw [he]; simp only [Option.bind_some]
    by_cases he0 : e = 0
    · rw [if_pos he0]
      obtain ⟨x, q, hx, ho, q0, q1⟩ := E 2 (p + 1 + 1) (by omega) (by omega) (by omega) (by omega)
      replace hx : spec_l3Expr.f (k + c + 37) l (p + 1 + 1) 2 = _ := hx
      obtain ⟨ys, r, hy, yl, yo, r0, r1⟩ := H1 (k + 37) q (by omega) (by omega)
      rw [show k + 37 + c = k + c + 37 by omega] at hy
      rw [hx]; simp only [Option.bind_some]
      rw [w1, hy]; simp only [Option.bind_some, eta120]
      exact app ⟨3, ⟨0, 0⟩, x, ys, []⟩ r ⟨.inr (.inr rfl), ho, yl, by simp, yo, fun t ht => by simp at ht⟩ (by omega) (by omega)
    · rw [if_neg he0, wn]
      exact ⟨acc, _, rfl, .inl rfl, by omega, by omega⟩
  rw [if_neg hb3]
  obtain ⟨u, v, hu⟩ := l2To_some h (k + c + 36) (p + 1) (by omega) (by omega)
  rw [hu]; simp only [Option.bind_some]
  obtain ⟨x, q, hx, ho, q0, q1⟩ := E 3 (p + 1 + 2) (by omega) (by omega) (by omega) (by omega)
  replace hx : spec_l3Expr.f (k + c + 37) l (p + 1 + 2) 3 = _ := hx
  rw [hx]; simp only [Option.bind_some, eta120]
  exact app ⟨1, ⟨u, v⟩, x, [], []⟩ q (set_ok rfl ho rfl rfl) (by omega) (by omega)
theorem list_loop {l : List Int} (h : Byt l) (d c : Nat) (a C : Int) (a1 : 1 ≤ a) (a3 : a ≤ 3) (hd : 1 < a → 1 ≤ d) (hC : 1 ≤ C) (H1 : LP l (a - 1) d c C) (H2 : LP l (a - 2) d c C) :
    ∀ (n k : Nat) (acc : List S122) (p : Int), n + acc.length ≤ 3 → 0 ≤ p → p + (n : Int) * (2 * C + 100) ≤ 400000 →
      ∃ ys q, spec_l4List.l0 (k + c + 37 + 3 * n) a acc (n : Int) l p = some (acc ++ ys, q) ∧ ys.length ≤ n ∧ (∀ s ∈ ys, okS (d + 1) s) ∧ p ≤ q ∧ q ≤ p + (n : Int) * (2 * C + 100)
  | 0, k, acc, p, _, h0, _ => by
    refine ⟨[], p, ?_, by simp, fun s hs => by simp at hs, by omega, by simp⟩
    rw [show k + c + 37 + 3 * 0 = (k + c + 36) + 1 from rfl, spec_l4List.l0, if_neg (by decide), show k + c + 36 = (k + c + 35) + 1 from rfl, spec_l4List.j1, if_neg (by decide), List.append_nil]
  | n + 1, k, acc, p, hl, h0, h1 => by
    have em : ((n + 1 : Nat) : Int) * (2 * C + 100) = (n : Int) * (2 * C + 100) + (2 * C + 100) := by rw [Int.natCast_add, Int.add_mul]; simp
    have hnn : 0 ≤ (n : Int) * (2 * C + 100) := Int.mul_nonneg (by omega) (by omega)
    obtain ⟨acc', q, e, ha, q0, q1⟩ := list_iter h d c a C a1 a3 hd hC H1 H2 (k + 3 * n) acc ((n + 1 : Nat) : Int) p (by omega) (by omega) (by omega) h0 (by omega)
    rw [show k + c + 37 + 3 * (n + 1) = k + 3 * n + c + 40 by omega, e, show ((n + 1 : Nat) : Int) - 1 = (n : Int) by omega, show k + 3 * n + c + 37 = k + c + 37 + 3 * n by omega]
    have hl' : n + acc'.length ≤ 3 := by
      rcases ha with rfl | ⟨s, rfl, _⟩
      · omega
      · simp; omega
    obtain ⟨ys, q', e', yl, yo, r0, r1⟩ := list_loop h d c a C a1 a3 hd hC H1 H2 n k acc' q hl' (by omega) (by omega)
    rw [e']
    rcases ha with rfl | ⟨s, rfl, hs⟩
    · exact ⟨ys, q', rfl, by omega, yo, by omega, by omega⟩
    · refine ⟨[s] ++ ys, q', by rw [List.append_assoc], by simp; omega, fun t ht => ?_, by omega, by omega⟩
      rcases List.mem_append.1 ht with ht | ht
      · rw [List.mem_singleton.1 ht]; exact hs
      · exact yo t ht
theorem list_of {k : Nat} {l : List Int} {p a n p' : Int} {r : Option (List S122 × Int)} (hb : spec_l12Rd_pick.f k l p 4 = some (n, p')) (e : spec_l4List.l0 k a [] n l p' = r) : spec_l4List.f (k + 1) l p a = r := by
  rw [spec_l4List.f, hb, ← e]; rfl
theorem list_step {l : List Int} (h : Byt l) (d c : Nat) (a C : Int) (a1 : 1 ≤ a) (a3 : a ≤ 3) (hd : 1 < a → 1 ≤ d) (hC : 1 ≤ C) (H1 : LP l (a - 1) d c C) (H2 : LP l (a - 2) d c C) : LP l a (d + 1) (c + 50) (6 * C + 310) := fun k p h0 h1 => by
  obtain ⟨b, hb, b0, b1⟩ := pick_some h (k + c + 48) p 4 h0 (by omega)
  obtain ⟨n, rfl⟩ : ∃ n : Nat, b = (n : Int) := ⟨b.toNat, by omega⟩
  have hn : n ≤ 3 := by omega
  have hb2 : (n : Int) * (2 * C + 100) ≤ 3 * (2 * C + 100) := Int.mul_le_mul_of_nonneg_right (by omega) (by omega)
  obtain ⟨ys, q, e, yl, yo, q0, q1⟩ := list_loop h d c a C a1 a3 hd hC H1 H2 n (k + 12 - 3 * n) [] (p + 1) (by rw [List.length_nil]; exact hn) (by omega) (by omega)
  have ek : k + 12 - 3 * n + c + 37 + 3 * n = k + c + 48 + 1 := by omega
  rw [ek] at e
  have ek2 : k + (c + 50) = k + c + 48 + 1 + 1 := by omega
  rw [ek2]
  exact ⟨[] ++ ys, q, list_of hb e, by rw [List.nil_append]; omega, by rw [List.nil_append]; exact yo, by omega, by omega⟩
theorem list3 {l : List Int} (h : Byt l) : LP l 3 3 154 14166 := by
  have z : ∀ a : Int, a ≤ 0 → LP l a 0 4 1 := fun a ha => list_le0 h ha
  have l1 : LP l 1 1 54 316 := list_step h 0 4 1 1 (by omega) (by omega) (by omega) (by omega) (z _ (by omega)) (z _ (by omega))
  have l2 : LP l 2 2 104 2206 := list_step h 1 54 2 316 (by omega) (by omega) (by omega) (by omega) l1 ((z 0 (by omega)).up (by omega) (by omega) (by omega))
  exact (list_step h 2 104 3 2206 (by omega) (by omega) (by omega) (by omega) l2 (l1.up (by omega) (by omega) (by omega))).up (by omega) (by omega) (by omega)
end Go.Proofs.YtjamfddhcigchaaGreatDoor.Hx
namespace Go.Proofs.YtjamfddhcigchaaGreatDoor.Hy
open Go.RowKit  Go.Proofs.YtjamfddhcigchaaGreatDoor.HFnCodeRun Go.Proofs.YtjamfddhcigchaaGreatDoor.Hx Go.Proofs.YtjamfddhcigchaaGreatDoorW.PrintWords Go.Proofs.YtjamfddhcigchaaGreatDoorW.PrintLast Go.Proofs.YtjamfddhcigchaaGreatDoorW.PrintMore
set_option linter.unusedVariables false
set_option linter.unusedSimpArgs false
theorem rd120 (l : List S120) (i : Nat) (h : i < l.length) : rd_T120 l (i : Int) ∈ l := by
 unfold rd_T120
 rw [Int.toNat_natCast, List.getD_eq_getElem?_getD, List.getElem?_eq_getElem h]; exact List.getElem_mem h
theorem rd122 (l : List S122) (i : Nat) (h : i < l.length) : rd_T122 l (i : Int) ∈ l := by
 unfold rd_T122
 rw [Int.toNat_natCast, List.getD_eq_getElem?_getD, List.getElem?_eq_getElem h]; exact List.getElem_mem h
theorem okX_len {d : Nat} {x : S120} (h : okX d x) : x.f3.length ≤ 2 ∧ ∀ y ∈ x.f3, okX (d - 1) y := by
 cases d with
 | zero => exact h.elim
 | succ d =>
  rcases h with ⟨_, h⟩ | ⟨h, h2⟩
  ·rw [h]; exact ⟨by simp, fun y hy => by simp at hy⟩
  ·exact ⟨by rcases h with ⟨_, h⟩ | ⟨_, h⟩ <;> omega, h2⟩
theorem many_end {k : Nat} {a acc i a0 a1 a2 a3 : Int} {l : List S120} (h : ¬ i < (l.length : Int)) : spec_l3Many.l0 (k + 1) a acc i a0 a1 a2 a3 l = some acc := by
 rw [spec_l3Many.l0, if_neg h]
theorem many_neg {k : Nat} {a acc i a0 a1 a2 a3 : Int} {l : List S120} (h : i < (l.length : Int)) (ha : ¬ a > 0) : spec_l3Many.l0 (k + 1) a acc i a0 a1 a2 a3 l = some acc := by
 rw [spec_l3Many.l0, if_pos h, if_neg ha]
theorem many_step {k : Nat} {a acc i a0 a1 a2 a3 t : Int} {l : List S120} (h : i < (l.length : Int)) (h0 : 0 ≤ i) (ha : a > 0) (e : spec_l3Many.f k (rd_T120 l i).f0 (rd_T120 l i).f1 (rd_T120 l i).f2.f0 (rd_T120 l i).f2.f1 (rd_T120 l i).f3 (wrap64 (a - 1)) = some t) : spec_l3Many.l0 (k + 1) a acc i a0 a1 a2 a3 l = spec_l3Many.l0 k a (wrap64 (acc + t)) (wrap64 (i + 1)) a0 a1 a2 a3 l := by
 rw [spec_l3Many.l0, if_pos h, if_pos ha, if_pos h0, e]; rfl
theorem many_of {k : Nat} {a0 a1 a2 a3 a i : Int} {l : List S120} {r : Option Int} (hi : i = 0) (e : spec_l3Many.l0 k a 1 i a0 a1 a2 a3 l = r) : spec_l3Many.f (k + 1) a0 a1 a2 a3 l a = r := by
 subst hi; rw [spec_l3Many.f]; exact e
theorem many3 : ∀ (d : Nat) (x : S120), okX d x → ∀ (k : Nat) (a : Int), ∃ r, spec_l3Many.f (k + 5 * d + 5) x.f0 x.f1 x.f2.f0 x.f2.f1 x.f3 a = some r
 | 0, _, h, _, _ => h.elim
 | d + 1, x, h, k, a => by
  obtain ⟨hl, hk⟩ := okX_len h
  have L : ∀ (n k i : Nat) (acc : Int), n + i = x.f3.length → ∃ r, spec_l3Many.l0 (k + 5 * d + 5 + n + 1) a acc (i : Int) x.f0 x.f1 x.f2.f0 x.f2.f1 x.f3 = some r := by
   intro n
   induction n with
   | zero =>
    intro k i acc hi
    exact ⟨_, many_end (by omega)⟩
   | succ n ih =>
    intro k i acc hi
    by_cases ha : a > 0
    ·obtain ⟨r, hr⟩ := many3 d _ (hk _ (rd120 x.f3 i (by omega))) (k + n + 1) (wrap64 (a - 1))
     rw [show k + n + 1 + 5 * d + 5 = k + 5 * d + 5 + n + 1 by omega] at hr
     rw [show k + 5 * d + 5 + (n + 1) + 1 = (k + 5 * d + 5 + n + 1) + 1 by omega, many_step (by omega) (by omega) ha hr]
     rw [show wrap64 ((i : Int) + 1) = ((i + 1 : Nat) : Int) by rw [wrap_id (by omega) (by omega)]; omega]
     exact ih k (i + 1) _ (by omega)
    ·exact ⟨_, many_neg (by omega) ha⟩
  obtain ⟨r, hr⟩ := L x.f3.length (k + 5 - x.f3.length - 2 + 0) 0 1 (by omega)
  refine ⟨r, ?_⟩
  have ek : k + 5 * (d + 1) + 5 = (k + 5 - x.f3.length - 2 + 0 + 5 * d + 5 + x.f3.length + 1) + 1 := by omega
  rw [ek]
  exact many_of rfl hr
theorem addrOk_some (a b : Int) : ∃ r, spec_AddrOk.f a b = some r := by
 unfold spec_AddrOk.f; repeat' split
 all_goals exact ⟨_, rfl⟩
theorem cut_some (a : Int) : ∃ r, spec_NumCut.f a = some r := by
 unfold spec_NumCut.f spec_l1Min.f
 by_cases h : 1000000 < a
 ·rw [if_pos h]; simp only [Option.bind_some]; unfold spec_l1Max.f; split <;> exact ⟨_, rfl⟩
 ·rw [if_neg h]; simp only [Option.bind_some]; unfold spec_l1Max.f; split <;> exact ⟨_, rfl⟩
theorem form3 : ∀ (d : Nat) (x : S120), okX d x → ∀ (k : Nat) (a : Int), ∃ r, spec_l3Form.f (k + 9 * d + 9) x.f0 x.f1 x.f2.f0 x.f2.f1 x.f3 a = some r
 | 0, _, h, _, _ => h.elim
 | d + 1, x, h, k, a => by
  obtain ⟨hl, hk⟩ := okX_len h
  have L : ∀ (n k i : Nat), n + i = x.f3.length → ∃ r, spec_l3Form.l0 (k + 9 * d + 9 + n + 1) a (i : Int) x.f0 x.f1 x.f2.f0 x.f2.f1 x.f3 = some r := by
   intro n
   induction n with
   | zero =>
    intro k i hi
    rw [show k + 9 * d + 9 + 0 + 1 = (k + 9 * d + 9) + 1 from rfl, spec_l3Form.l0, if_neg (by omega)]
    exact ⟨_, rfl⟩
   | succ n ih =>
    intro k i hi
    rw [show k + 9 * d + 9 + (n + 1) + 1 = (k + 9 * d + 9 + n + 1) + 1 from rfl, spec_l3Form.l0, if_pos (by omega), if_pos (by omega)]
    obtain ⟨r, hr⟩ := form3 d _ (hk _ (rd120 x.f3 i (by omega))) (k + n + 1) (wrap64 (a - 1))
    rw [show k + n + 1 + 9 * d + 9 = k + 9 * d + 9 + n + 1 by omega] at hr
    rw [hr]; simp only [Option.bind_some]
    rw [show wrap64 ((i : Int) + 1) = ((i + 1 : Nat) : Int) by rw [wrap_id (by omega) (by omega)]; omega]
    cases r with
    | true => rw [if_pos rfl]; exact ih k (i + 1) (by omega)
    | false => exact ⟨_, rfl⟩
  have J2 : ∀ (m : Nat) (b : Bool), (∃ r, spec_l3Form.l0 m a 0 x.f0 x.f1 x.f2.f0 x.f2.f1 x.f3 = some r) → ∃ r, spec_l3Form.j2 (m + 1) a b x.f0 x.f1 x.f2.f0 x.f2.f1 x.f3 = some r := by
   intro m b hL
   rw [spec_l3Form.j2]; split
   ·exact ⟨_, rfl⟩
   ·exact hL
  have J1 : ∀ (m : Nat) (b : Bool), (∃ r, spec_l3Form.l0 m a 0 x.f0 x.f1 x.f2.f0 x.f2.f1 x.f3 = some r) → ∃ r, spec_l3Form.j1 (m + 1 + 1) a b x.f0 x.f1 x.f2.f0 x.f2.f1 x.f3 = some r := by
   intro m b hL
   rw [spec_l3Form.j1]; split
   ·exact ⟨_, rfl⟩
   ·split
    ·obtain ⟨t, ht⟩ := addrOk_some x.f2.f0 x.f2.f1
     rw [ht]; simp only [Option.bind_some]
     split <;> exact J2 m _ hL
    ·exact J2 m _ hL
  have J0 : ∀ (m : Nat) (b : Bool), (∃ r, spec_l3Form.l0 m a 0 x.f0 x.f1 x.f2.f0 x.f2.f1 x.f3 = some r) → ∃ r, spec_l3Form.j0 (m + 1 + 1 + 1) a b x.f0 x.f1 x.f2.f0 x.f2.f1 x.f3 = some r := by
   intro m b hL
   rw [spec_l3Form.j0]; split
   ·exact ⟨_, rfl⟩
   ·split
    ·obtain ⟨t, ht⟩ := cut_some x.f1
     rw [ht]; simp only [Option.bind_some]
     split <;> exact J1 m _ hL
    ·exact J1 m _ hL
  have hL := L x.f3.length (k + 9 - x.f3.length - 5) 0 (by omega)
  have ek : k + 9 * (d + 1) + 9 = (k + 9 - x.f3.length - 5 + 9 * d + 9 + x.f3.length + 1) + 1 + 1 + 1 + 1 := by omega
  rw [ek, spec_l3Form.f]
  split
  ·exact J0 _ _ hL
  ·obtain ⟨t, ht, _⟩ := kids_some (k + 9 - x.f3.length - 5 + 9 * d + 9 + x.f3.length + 1 + 1 + 1) x.f0
   rw [ht]; simp only [Option.bind_some]
   exact J0 _ _ hL
theorem exprOk_some (x : S120) (h : okX 3 x) (k : Nat) : ∃ r, spec_ExprOk.f (k + 36) x.f0 x.f1 x.f2.f0 x.f2.f1 x.f3 = some r := by
 unfold spec_ExprOk.f
 obtain ⟨r, hr⟩ := form3 3 x h k 6
 obtain ⟨t, ht⟩ := many3 3 x h (k + 16) 6
 rw [show k + 9 * 3 + 9 = k + 36 from rfl] at hr
 rw [show k + 16 + 5 * 3 + 5 = k + 36 from rfl] at ht
 rw [hr]; simp only [Option.bind_some]
 split
 ·rw [ht]; exact ⟨_, rfl⟩
 ·exact ⟨_, rfl⟩
theorem okS_len {d : Nat} {s : S122} (h : okS d s) : okX 3 s.f2 ∧ s.f3.length ≤ 3 ∧ s.f4.length ≤ 3 ∧ (∀ t ∈ s.f3, okS (d - 1) t) ∧ ∀ t ∈ s.f4, okS (d - 1) t := by
 cases d with
 | zero => exact h.elim
 | succ d => exact ⟨h.2.1, h.2.2.1, h.2.2.2.1, h.2.2.2.2.1, h.2.2.2.2.2⟩
theorem m4_end {k : Nat} {xs : List S122} {a acc i : Int} (h : ¬ i < (xs.length : Int)) : spec_l4Many.l0 (k + 1 + 1) xs a acc i = some acc := by
 rw [spec_l4Many.l0, if_neg h, spec_l4Many.j1, if_neg (by decide)]
theorem m4_neg {k : Nat} {xs : List S122} {a acc i : Int} (ha : ¬ a > 0) : spec_l4Many.l0 (k + 1 + 1) xs a acc i = some acc := by
 rw [spec_l4Many.l0, decide_eq_false ha]
 split
 ·rw [spec_l4Many.j1, if_neg (by decide)]
 ·rw [spec_l4Many.j1, if_neg (by decide)]
theorem m4_step {k : Nat} {xs : List S122} {a acc i t u : Int} (h : i < (xs.length : Int)) (h0 : 0 ≤ i) (ha : a > 0) (e : spec_l4Many.f k (rd_T122 xs i).f3 (wrap64 (a - 1)) = some t) (e2 : spec_l4Many.f k (rd_T122 xs i).f4 (wrap64 (a - 1)) = some u) : spec_l4Many.l0 (k + 1 + 1) xs a acc i = spec_l4Many.l0 k xs a (wrap64 ((wrap64 (acc + t)) + u)) (wrap64 (i + 1)) := by
 rw [spec_l4Many.l0, if_pos h, decide_eq_true ha, spec_l4Many.j1, if_pos rfl, if_pos h0, if_pos h, e]
 simp only [Option.bind_some]
 rw [e2]; rfl
theorem m4_of {k : Nat} {xs : List S122} {a n i : Int} {r : Option Int} (hi : i = 0) (hn : n = (xs.length : Int)) (e : spec_l4Many.l0 k xs a n i = r) : spec_l4Many.f (k + 1) xs a = r := by
 subst hi; subst hn; rw [spec_l4Many.f]; exact e
theorem many4 : ∀ (d : Nat) (xs : List S122), xs.length ≤ 3 → (∀ s ∈ xs, okS d s) → ∀ (k : Nat) (a : Int), ∃ r, spec_l4Many.f (k + 10 * d + 10) xs a = some r
 | 0, xs, hl, ho, k, a => by
  cases xs with
  | nil =>
   refine ⟨((([] : List S122).length : Nat) : Int), ?_⟩
   rw [show k + 10 * 0 + 10 = (k + 7 + 1 + 1) + 1 by omega]
   exact m4_of (i := ((0 : Nat) : Int)) rfl rfl (m4_end (by simp))
  | cons s t => exact (ho s (List.mem_cons_self ..)).elim
 | d + 1, xs, hl, ho, k, a => by
  have L : ∀ (n k i : Nat) (acc : Int), n + i = xs.length → ∃ r, spec_l4Many.l0 (k + 10 * d + 10 + 2 * n + 2) xs a acc (i : Int) = some r := by
   intro n
   induction n with
   | zero =>
    intro k i acc hi
    rw [show k + 10 * d + 10 + 2 * 0 + 2 = (k + 10 * d + 10) + 1 + 1 by omega]
    exact ⟨_, m4_end (by omega)⟩
   | succ n ih =>
    intro k i acc hi
    by_cases ha : a > 0
    ·obtain ⟨_, l3, l4, o3, o4⟩ := okS_len (ho _ (rd122 xs i (by omega)))
     obtain ⟨t, ht⟩ := many4 d _ l3 o3 (k + 2 * n + 2) (wrap64 (a - 1))
     obtain ⟨u, hu⟩ := many4 d _ l4 o4 (k + 2 * n + 2) (wrap64 (a - 1))
     have ek : k + 2 * n + 2 + 10 * d + 10 = k + 10 * d + 10 + 2 * n + 2 := by omega
     rw [ek] at ht hu
     have ek2 : k + 10 * d + 10 + 2 * (n + 1) + 2 = (k + 10 * d + 10 + 2 * n + 2) + 1 + 1 := by omega
     rw [ek2, m4_step (by omega) (by omega) ha ht hu, show wrap64 ((i : Int) + 1) = ((i + 1 : Nat) : Int) by rw [wrap_id (by omega) (by omega)]; omega]
     exact ih k (i + 1) _ (by omega)
    ·have ek2 : k + 10 * d + 10 + 2 * (n + 1) + 2 = (k + 10 * d + 10 + 2 * n + 2) + 1 + 1 := by omega
     rw [ek2]
     exact ⟨_, m4_neg ha⟩
  obtain ⟨r, hr⟩ := L xs.length (k + 7 - 2 * xs.length) 0 (xs.length : Int) (by omega)
  refine ⟨r, ?_⟩
  have ek : k + 10 * (d + 1) + 10 = (k + 7 - 2 * xs.length + 10 * d + 10 + 2 * xs.length + 2) + 1 := by omega
  rw [ek]
  exact m4_of rfl rfl hr
theorem f4_end {k : Nat} {xs : List S122} {a i : Int} (h : ¬ i < (xs.length : Int)) : spec_l4Form.l0 (k + 1) xs a i = some true := by
 rw [spec_l4Form.l0, if_neg h]
theorem f4_j2 {k : Nat} {xs : List S122} {a i : Int} {b : Bool} {s : S122} (he : ∃ r, spec_ExprOk.f k s.f2.f0 s.f2.f1 s.f2.f2.f0 s.f2.f2.f1 s.f2.f3 = some r) (h3 : ∃ r, spec_l4Form.f k s.f3 (wrap64 (a - 1)) = some r) (h4 : ∃ r, spec_l4Form.f k s.f4 (wrap64 (a - 1)) = some r) (hn : ∃ r, spec_l4Form.l0 k xs a (wrap64 (i + 1)) = some r) :
  ∃ r, spec_l4Form.j2 (k + 1) xs a i b s.f0 s.f1.f0 s.f1.f1 s.f2.f0 s.f2.f1 s.f2.f2.f0 s.f2.f2.f1 s.f2.f3 s.f3 s.f4 = some r := by
 obtain ⟨e, he⟩ := he
 obtain ⟨t, h3⟩ := h3
 obtain ⟨u, h4⟩ := h4
 rw [spec_l4Form.j2]; split
 ·rw [he]; simp only [Option.bind_some]; split
  ·rw [h3]; simp only [Option.bind_some]; split
   ·rw [h4]; simp only [Option.bind_some]; split
    ·exact hn
    ·exact ⟨_, rfl⟩
   ·exact ⟨_, rfl⟩
  ·exact ⟨_, rfl⟩
 ·exact ⟨_, rfl⟩
theorem f4_step {k : Nat} {xs : List S122} {a i : Int} (h : i < (xs.length : Int)) (h0 : 0 ≤ i) (he : ∃ r, spec_ExprOk.f k (rd_T122 xs i).f2.f0 (rd_T122 xs i).f2.f1 (rd_T122 xs i).f2.f2.f0 (rd_T122 xs i).f2.f2.f1 (rd_T122 xs i).f2.f3 = some r) (h3 : ∃ r, spec_l4Form.f k (rd_T122 xs i).f3 (wrap64 (a - 1)) = some r) (h4 : ∃ r, spec_l4Form.f k (rd_T122 xs i).f4 (wrap64 (a - 1)) = some r) (hn : ∃ r, spec_l4Form.l0 k xs a (wrap64 (i + 1)) = some r) :
  ∃ r, spec_l4Form.l0 (k + 1 + 1) xs a i = some r := by
 have J := fun b => f4_j2 (xs := xs) (i := i) (b := b) he h3 h4 hn
 rw [spec_l4Form.l0, if_pos h, if_pos h0]
 obtain ⟨t, ht⟩ := addrOk_some (rd_T122 xs i).f1.f0 (rd_T122 xs i).f1.f1
 rw [ht]; simp only [Option.bind_some]
 repeat' split
 all_goals exact J _
theorem f4_j0 {k : Nat} {xs : List S122} {a : Int} {b : Bool} (e : ∃ r, spec_l4Form.l0 k xs a 0 = some r) : ∃ r, spec_l4Form.j0 (k + 1) xs a b = some r := by
 rw [spec_l4Form.j0]; split
 ·exact ⟨_, rfl⟩
 ·exact e
theorem f4_of {k : Nat} {xs : List S122} {a i : Int} (hi : i = 0) (e : ∃ r, spec_l4Form.l0 k xs a i = some r) : ∃ r, spec_l4Form.f (k + 1 + 1) xs a = some r := by
 subst hi
 rw [spec_l4Form.f]; split
 ·exact f4_j0 e
 ·exact f4_j0 e
theorem form4 : ∀ (d : Nat) (xs : List S122), xs.length ≤ 3 → (∀ s ∈ xs, okS d s) → ∀ (k : Nat) (a : Int), ∃ r, spec_l4Form.f (k + 10 * d + 60) xs a = some r
 | 0, xs, hl, ho, k, a => by
  cases xs with
  | nil =>
   rw [show k + 10 * 0 + 60 = (k + 57 + 1) + 1 + 1 by omega]
   exact f4_of (i := ((0 : Nat) : Int)) rfl ⟨_, f4_end (by simp)⟩
  | cons s t => exact (ho s (List.mem_cons_self ..)).elim
 | d + 1, xs, hl, ho, k, a => by
  have L : ∀ (n k i : Nat), n + i = xs.length → ∃ r, spec_l4Form.l0 (k + 10 * d + 60 + 2 * n + 1) xs a (i : Int) = some r := by
   intro n
   induction n with
   | zero =>
    intro k i hi
    rw [show k + 10 * d + 60 + 2 * 0 + 1 = (k + 10 * d + 60) + 1 by omega]
    exact ⟨_, f4_end (by omega)⟩
   | succ n ih =>
    intro k i hi
    obtain ⟨ox, l3, l4, o3, o4⟩ := okS_len (ho _ (rd122 xs i (by omega)))
    have ht := form4 d _ l3 o3 (k + 2 * n + 1) (wrap64 (a - 1))
    have hu := form4 d _ l4 o4 (k + 2 * n + 1) (wrap64 (a - 1))
    have hx := exprOk_some _ ox (k + 10 * d + 24 + 2 * n + 1)
    have hr := ih k (i + 1) (by omega)
    have ek : k + 2 * n + 1 + 10 * d + 60 = k + 10 * d + 60 + 2 * n + 1 := by omega
    have ex : k + 10 * d + 24 + 2 * n + 1 + 36 = k + 10 * d + 60 + 2 * n + 1 := by omega
    rw [ek] at ht hu
    rw [ex] at hx
    have ek2 : k + 10 * d + 60 + 2 * (n + 1) + 1 = (k + 10 * d + 60 + 2 * n + 1) + 1 + 1 := by omega
    rw [ek2]
    refine f4_step (by omega) (by omega) hx ht hu ?_
    rw [show wrap64 ((i : Int) + 1) = ((i + 1 : Nat) : Int) by rw [wrap_id (by omega) (by omega)]; omega]
    exact hr
  have hL := L xs.length (k + 7 - 2 * xs.length) 0 (by omega)
  have ek : k + 10 * (d + 1) + 60 = (k + 7 - 2 * xs.length + 10 * d + 60 + 2 * xs.length + 1) + 1 + 1 := by omega
  rw [ek]
  exact f4_of rfl hL
theorem stmtsOk_some (xs : List S122) (hl : xs.length ≤ 3) (ho : ∀ s ∈ xs, okS 3 s) (k : Nat) : ∃ r, spec_StmtsOk.f (k + 90) xs = some r := by
 unfold spec_StmtsOk.f
 obtain ⟨r, hr⟩ := many4 3 xs hl ho (k + 50) 4
 obtain ⟨t, ht⟩ := form4 3 xs hl ho k 4
 have e1 : k + 50 + 10 * 3 + 10 = k + 90 := by omega
 have e2 : k + 10 * 3 + 60 = k + 90 := by omega
 rw [e1] at hr
 rw [e2] at ht
 rw [hr]; simp only [Option.bind_some]
 split
 ·rw [ht]; exact ⟨_, rfl⟩
 ·exact ⟨_, rfl⟩
theorem some_some {l : List Int} (h : Byt l) (k : Nat) : ∃ xs q, spec_l4Some.f (k + 200) l 0 = some (xs, q) ∧ xs.length ≤ 3 ∧ (∀ s ∈ xs, okS 3 s) ∧ 0 ≤ q ∧ q ≤ 20000 := by
 unfold spec_l4Some.f
 obtain ⟨xs, q, e, hl, ho, q0, q1⟩ := list3 h (k + 46) 0 (by omega) (by omega)
 obtain ⟨r, hr⟩ := stmtsOk_some xs hl ho (k + 110)
 have e1 : k + 46 + 154 = k + 200 := by omega
 have e2 : k + 110 + 90 = k + 200 := by omega
 rw [e1] at e
 rw [e2] at hr
 rw [e]; simp only [Option.bind_some]
 rw [hr]; simp only [Option.bind_some]
 split
 ·exact ⟨xs, q, rfl, hl, ho, q0, by omega⟩
 ·obtain ⟨s, q', hs, os, s0, s1⟩ := count_some h q (by omega) (by omega)
  rw [hs]; simp only [Option.bind_some, eta122]
  exact ⟨[s], q', rfl, by simp, fun t ht => by rw [List.mem_singleton.1 ht]; exact okS_le (by omega) os, by omega, by omega⟩
def xl : Nat → Nat
 | 0 => 0
 | d + 1 => 2 * xl d + 1
theorem x5_some : ∀ (d : Nat) (x : S120), okX d x → d ≤ 3 → ∀ (k : Nat), ∃ es, spec_l5Expr.f (k + d) x.f0 x.f1 x.f2.f0 x.f2.f1 x.f3 = some es ∧ es.length ≤ xl d
 | 0, _, h, _, _ => h.elim
 | d + 1, x, h, hd, k => by
  have hx : xl (d + 1) = 2 * xl d + 1 := rfl
  have hb : xl d ≤ 7 := by rcases (by omega : d = 0 ∨ d = 1 ∨ d = 2) with rfl | rfl | rfl <;> decide
  rw [show k + (d + 1) = (k + d) + 1 by omega, spec_l5Expr.f]
  rcases h with ⟨h, _⟩ | ⟨h, hk⟩
  ·rcases h with h | h
   ·rw [if_pos h]; exact ⟨_, rfl, by simp; omega⟩
   ·rw [if_neg (by omega), if_pos h]; exact ⟨_, rfl, by simp; omega⟩
  ·rcases h with ⟨h, hl⟩ | ⟨⟨h3, h9⟩, hl⟩
   ·rw [if_neg (by omega), if_neg (by omega), if_pos h, if_pos (by omega)]
    obtain ⟨es, he, el⟩ := x5_some d _ (hk _ (rd120 x.f3 0 (by omega))) (by omega) k
    rw [show ((0 : Nat) : Int) = 0 from rfl] at he
    rw [he]; simp only [Option.bind_some]
    rw [if_pos (by simp; omega)]
    exact ⟨_, rfl, by simp; omega⟩
   ·rw [if_neg (by omega), if_neg (by omega), if_neg (by omega), if_pos (by omega)]
    obtain ⟨es, he, el⟩ := x5_some d _ (hk _ (rd120 x.f3 0 (by omega))) (by omega) k
    obtain ⟨fs, hf, fl⟩ := x5_some d _ (hk _ (rd120 x.f3 1 (by omega))) (by omega) k
    rw [show ((0 : Nat) : Int) = 0 from rfl] at he
    rw [show ((1 : Nat) : Int) = 1 from rfl] at hf
    rw [he]; simp only [Option.bind_some]
    rw [if_pos (by omega), hf]; simp only [Option.bind_some]
    rw [if_pos (by omega)]; try simp only [Option.bind_some]
    rw [if_pos (by simp; omega)]
    exact ⟨_, rfl, by simp; omega⟩
def ol : Nat → Nat
 | 0 => 0
 | d + 1 => 3 * (2 * ol d + 10)
theorem one_some {F : List S122 → Int → Option (List S30)} (d : Nat) (hd : ol d ≤ 300) (s : S122) (a : Int) (h : okS (d + 1) s) (HF : ∀ xs : List S122, xs.length ≤ 3 → (∀ t ∈ xs, okS d t) → ∀ b, ∃ es, F xs b = some es ∧ es.length ≤ ol d) :
  ∃ es, spec_l5One.g F s.f0 s.f1.f0 s.f1.f1 s.f2.f0 s.f2.f1 s.f2.f2.f0 s.f2.f2.f1 s.f2.f3 s.f3 s.f4 a = some es ∧ es.length ≤ 2 * ol d + 10 := by
 obtain ⟨_, ox, l3, l4, o3, o4⟩ := h
 unfold spec_l5One.g
 obtain ⟨es, he, el⟩ := x5_some 3 _ ox (by omega) 997
 have el : es.length ≤ 7 := el
 rw [show 997 + 3 = 1000 from rfl] at he
 rw [he]; simp only [Option.bind_some]
 split
 ·rw [if_pos (by omega)]; exact ⟨_, rfl, by simp; omega⟩
 ·obtain ⟨bs, hb, bl⟩ := HF s.f3 l3 o3 (wrap64 (a + (wrap64 ((es.length : Int) + 1))))
  split
  ·rw [hb]; simp only [Option.bind_some]
   rw [if_pos (by omega)]; try simp only [Option.bind_some]
   rw [if_pos (by simp; omega)]; try simp only [Option.bind_some]
   rw [if_pos (by simp; omega)]
   exact ⟨_, rfl, by simp; omega⟩
  ·rw [hb]; simp only [Option.bind_some]
   obtain ⟨cs, hc, cl⟩ := HF s.f4 l4 o4 (wrap64 ((wrap64 ((wrap64 (a + (wrap64 ((es.length : Int) + 1)))) + (bs.length : Int))) + 1))
   rw [hc]; simp only [Option.bind_some]
   rw [if_pos (by omega)]; try simp only [Option.bind_some]
   rw [if_pos (by simp; omega)]; try simp only [Option.bind_some]
   rw [if_pos (by simp; omega)]; try simp only [Option.bind_some]
   rw [if_pos (by simp; omega)]
   exact ⟨_, rfl, by simp; omega⟩
theorem lp_end {G : Int → Int → Int → Int → Int → Int → Int → List S120 → List S122 → List S122 → Int → Option (List S30)} {k : Nat} {xs : List S122} {a i : Int} {acc : List S30} (h : ¬ i < (xs.length : Int)) : spec_l5Loop.l0 G (k + 1) xs a acc i = some acc := by
 rw [spec_l5Loop.l0, if_neg h]
theorem lp_step {G : Int → Int → Int → Int → Int → Int → Int → List S120 → List S122 → List S122 → Int → Option (List S30)} {k : Nat} {xs : List S122} {a i : Int} {acc es : List S30} (h : i < (xs.length : Int)) (h0 : 0 ≤ i) (he : G (rd_T122 xs i).f0 (rd_T122 xs i).f1.f0 (rd_T122 xs i).f1.f1 (rd_T122 xs i).f2.f0 (rd_T122 xs i).f2.f1 (rd_T122 xs i).f2.f2.f0 (rd_T122 xs i).f2.f2.f1 (rd_T122 xs i).f2.f3 (rd_T122 xs i).f3 (rd_T122 xs i).f4 (wrap64 (a + (acc.length : Int))) = some es) (hl : acc.length + es.length < 4398046511104) :
  spec_l5Loop.l0 G (k + 1) xs a acc i = spec_l5Loop.l0 G k xs a (acc ++ es) (wrap64 (i + 1)) := by
 rw [spec_l5Loop.l0, if_pos h, if_pos h0, he]; simp only [Option.bind_some]
 rw [if_pos hl]
theorem loop_some {G : Int → Int → Int → Int → Int → Int → Int → List S120 → List S122 → List S122 → Int → Option (List S30)} (xs : List S122) (a : Int) (B : Nat) (hB : B ≤ 1000) (hl : xs.length ≤ 3) (HG : ∀ s ∈ xs, ∀ b, ∃ es, G s.f0 s.f1.f0 s.f1.f1 s.f2.f0 s.f2.f1 s.f2.f2.f0 s.f2.f2.f1 s.f2.f3 s.f3 s.f4 b = some es ∧ es.length ≤ B) :
  ∀ (n k i : Nat) (acc : List S30), n + i = xs.length → acc.length ≤ i * B → ∃ es, spec_l5Loop.l0 G (k + n + 1) xs a acc (i : Int) = some es ∧ es.length ≤ xs.length * B
 | 0, k, i, acc, hi, ha => ⟨acc, lp_end (by omega), by rw [← hi]; simpa using ha⟩
 | n + 1, k, i, acc, hi, ha => by
  obtain ⟨es, he, el⟩ := HG _ (rd122 xs i (by omega)) (wrap64 (a + (acc.length : Int)))
  have hiB : i * B ≤ 3 * 1000 := Nat.mul_le_mul (by omega) hB
  have e1 : (i + 1) * B = i * B + B := by rw [Nat.add_mul, Nat.one_mul]
  rw [show k + (n + 1) + 1 = (k + n + 1) + 1 by omega, lp_step (by omega) (by omega) he (by omega), show wrap64 ((i : Int) + 1) = ((i + 1 : Nat) : Int) by rw [wrap_id (by omega) (by omega)]; omega]
  exact loop_some xs a B hB hl HG n k (i + 1) (acc ++ es) (by omega) (by rw [List.length_append, e1]; omega)
theorem deep_eq (m : Nat) (xs : List S122) (b : Int) : spec_l5Of.deep (m + 1) xs b = spec_l5Loop.l0 (spec_l5One.g (spec_l5Of.deep m)) 1000 xs b [] 0 := rfl
theorem deep_some : ∀ (d : Nat), d ≤ 3 → ∀ (n : Nat), d + 1 ≤ n → ∀ xs : List S122, xs.length ≤ 3 → (∀ t ∈ xs, okS d t) → ∀ b, ∃ es, spec_l5Of.deep n xs b = some es ∧ es.length ≤ ol d
 | 0, _, n, hn, xs, hl, ho, b => by
  obtain ⟨m, rfl⟩ : ∃ m, n = m + 1 := ⟨n - 1, by omega⟩
  cases xs with
  | nil => exact ⟨[], (deep_eq m [] b).trans (lp_end (k := 999) (by simp)), by simp⟩
  | cons s t => exact (ho s (List.mem_cons_self ..)).elim
 | d + 1, hd, n, hn, xs, hl, ho, b => by
  obtain ⟨m, rfl⟩ : ∃ m, n = m + 1 := ⟨n - 1, by omega⟩
  have hod : ol d ≤ 300 := by rcases (by omega : d = 0 ∨ d = 1 ∨ d = 2) with rfl | rfl | rfl <;> decide
  have HG : ∀ s ∈ xs, ∀ b, ∃ es, spec_l5One.g (spec_l5Of.deep m) s.f0 s.f1.f0 s.f1.f1 s.f2.f0 s.f2.f1 s.f2.f2.f0 s.f2.f2.f1 s.f2.f3 s.f3 s.f4 b = some es ∧ es.length ≤ 2 * ol d + 10 := fun s hs b => one_some d hod s b (ho s hs) (fun ys yl yo c => deep_some d (by omega) m (by omega) ys yl yo c)
  obtain ⟨es, he, el⟩ := loop_some (G := spec_l5One.g (spec_l5Of.deep m)) xs b (2 * ol d + 10) (by omega) hl HG xs.length (999 - xs.length) 0 [] (by omega) (by simp)
  have ek : 999 - xs.length + xs.length + 1 = 1000 := by omega
  rw [ek] at he
  have eo : ol (d + 1) = 3 * (2 * ol d + 10) := rfl
  have := Nat.mul_le_mul_right (2 * ol d + 10) hl
  exact ⟨es, (deep_eq m xs b).trans he, by omega⟩
end Go.Proofs.YtjamfddhcigchaaGreatDoor.Hy
namespace Go.Proofs.YtjamfddhcigchaaGreatDoor.Lc
open Go.RowKit  Go.Proofs.YtjamfddhcigchaaGreatDoor.Gz Go.Proofs.YtjamfddhcigchaaGreatDoor.Hx Go.Proofs.YtjamfddhcigchaaGreatDoor.Hy Go.Proofs.YtjamfddhcigchaaGreatDoor.HFnCodeRun Go.Proofs.YtjamfddhcigchaaGreatDoorW.PrintWords Go.Proofs.YtjamfddhcigchaaGreatDoorW.PrintLast Go.Proofs.YtjamfddhcigchaaGreatDoorW.PrintMore
set_option linter.unusedVariables false
set_option linter.unusedSimpArgs false
structure CS (w0 w : World) (g : Nat) (s : List Int) (q : Int) (v : Value) (W : World) : Prop where
 r : ∃ l, Kd.R k30 30 W w.heap.size (fun k => k ≠ g) v l
 i : IsS98 w0 W g s q
 b : Below w0.heap.size w0 W
 k : KeepBut w W g none
 z : w0.heap.size ≤ w.heap.size
section
variable {w0 w W W' : World} {g n c : Nat} {s : List Int} {q q' : Int} {A : Option Addr} {v u : Value}
theorem CS.call (h : CS w0 w g s q v W) (i : IsS98 w0 W' g s q') (b : Below w0.heap.size w0 W') (k : KeepBut W W' g none) : CS w0 w g s q' v W' :=
 ⟨h.r.imp fun _ r => Kd.R_keep r k (fun _ e => e), i, b, h.k.trans k (.inl rfl), h.z⟩
theorem CS.below (h : CS w0 w g s q v W) (k : Below W.heap.size W W') : CS w0 w g s q v W' := h.call (h.i.below k) (h.b.trans (k.mono h.b.size)) (KeepBut.of_below k g none)
theorem CS.gr (h : CS w0 w g s q v W) (hg : W.grownBy W' v.ownBlock) (r : ∃ l, Kd.R k30 30 W' w.heap.size (fun k => k ≠ g) u l) : CS w0 w g s q u W' := by
 obtain ⟨l, hr⟩ := h.r
 refine ⟨r, IsS98.grown h.i hg (IsS98.own_ne h.i hr (by decide)), pw_below_grown h.b _ h.b.size hg (fun k e => Nat.le_trans h.z (Kd.R_base hr k e)), h.k.trans (KeepBut.of_grown hg g) (Kd.R_base2 hr), h.z⟩
theorem CS.pick (h : CS w0 w g s q v W) (m : Int) (hs : Byt s) (q0 : 0 ≤ q) (q1 : q ≤ 100000) : Calls Tryz.prog 58 #[.pointer (some ⟨g, 0, none⟩), .int .i64 m] W fun e w' => ∃ r, e = .returned (.int .i64 r) ∧ (0 ≤ r ∧ (r < m ∨ m < 1 ∧ r = 0)) ∧ CS w0 w g s (q + 1) v w' := by
 obtain ⟨r, hr, hb⟩ := pick_some hs 10 q m q0 (by omega)
 refine (spec_l12Rd_pick.calls _ g s q m r _ w0 W h.i h.b hr).mono ?_
 rintro e w' ⟨rfl, i, b, k⟩
 exact ⟨r, rfl, hb, h.call i b k⟩
theorem CS.num (h : CS w0 w g s q v W) {l : List Int} (hn : n = l.length) (hl : l.length ≤ 1000) (h0 : 0 < l.length) (hs : Byt s) (q0 : 0 ≤ q) (q1 : q ≤ 100000) :
  Calls Tryz.prog 35 #[.pointer (some ⟨g, 0, none⟩), .slice (some ⟨W.heap.size, 0, none⟩) n n] (W.alloc (.cells (l.map (Value.int .i64)).toArray 3)) fun e w' => ∃ r, e = .returned (.int .i64 r) ∧ CS w0 w g s (q + 1) v w' := by
 subst hn
 have hb := heap_alloc_new W (.cells (l.map (Value.int .i64)).toArray 3)
 have h' := h.below (below_alloc (Below.refl _ _) (.cells (l.map (Value.int .i64)).toArray 3))
 generalize W.alloc _ = W1 at *
 obtain ⟨r, hr, _⟩ := num_some hs 10 q l h0 q0 (by omega)
 have hC : Kd.C (Kd.int .i64) W1 (some ⟨W.heap.size, 0, none⟩) l.length l := C_of_cells hl (fun i hi => by
  rw [Nat.zero_add, blk_cell hb, List.getElem?_toArray, List.getElem?_map, List.getElem?_eq_getElem hi]; rfl)
 refine (spec_l12Rd_num.calls _ g s q _ _ l r _ w0 W1 h'.i h'.b hC (Nat.le_refl _) (fun ad e _ => by cases e; exact fun e => (IsS98.ne_blk h'.i hb (by decide)) e.symm) hr).mono ?_
 rintro e w' ⟨rfl, i, b, k⟩
 exact ⟨r, rfl, h'.call i b k⟩
theorem CS.slice (h : CS w0 w g s q v W) : ∃ A n c, v = .slice A n c := by
 obtain ⟨l, r⟩ := h.r
 obtain ⟨A, c, e⟩ := Kd.R_slice r
 exact ⟨A, _, c, e⟩
theorem CS.el (h : CS w0 w g s q (.slice A n c) W) (a : Int) (h0 : 0 ≤ a) (h1 : a < n) : ∃ G, A = some ⟨G, 0, none⟩ ∧ (∀ j, W.frozen? ⟨G, a.toNat * 4 + j, none⟩ = false) ∧ (∀ j : Nat, j < 4 → ∃ u : Int, W.cell? ⟨G, a.toNat * 4 + j, none⟩ = some (.int .i64 u)) ∧ (∀ x, CS w0 w g s q (.slice A n c) (W.setCell ⟨G, a.toNat * 4 + 0, none⟩ (.int .i64 x))) ∧ (∀ x, CS w0 w g s q (.slice A n c) (W.setCell ⟨G, a.toNat * 4 + 1, none⟩ (.int .i64 x))) ∧ ∀ x y, CS w0 w g s q (.slice A n c) ((W.setCell ⟨G, a.toNat * 4 + 2, none⟩ (.int .i64 x)).setCell ⟨G, a.toNat * 4 + 3, none⟩ (.int .i64 y)) := by
 obtain ⟨l, r⟩ := h.r
 obtain rfl := (Kd.R_reads' r).1
 obtain ⟨G, cap, e, hb, _, _⟩ := Kd.R_form r (by omega)
 injection e with e1 _ e3
 subst e1; subst e3
 obtain ⟨cs, hl, hM, hc, hf⟩ := Kd.R_elem r (⟨0, 0, ⟨0, 0⟩⟩ : S30) a h0 h1
 obtain rfl := k30_openM hM
 generalize l.getD a.toNat (⟨0, 0, ⟨0, 0⟩⟩ : S30) = z at *
 refine ⟨G, rfl, hf, fun j hj => ?_, fun x => ?_, fun x => ?_, fun x y => ?_⟩
 ·match j, hj with
  | 0, _ => exact ⟨_, hc 0 _ rfl⟩
  | 1, _ => exact ⟨_, hc 1 _ rfl⟩
  | 2, _ => exact ⟨_, hc 2 _ rfl⟩
  | 3, _ => exact ⟨_, hc 3 _ rfl⟩
 ·have k := Kd.R_seg r a h0 h1 (seg := [.int .i64 x]) (j := 0) hl hc (show 1 ≤ 4 by decide) (k30_mkM _ _ _ (⟨x, z.f1, ⟨z.f2.f0, z.f2.f1⟩⟩ : S30)) (fun _ e => e)
  exact h.gr k.2 ⟨_, k.1⟩
 ·have k := Kd.R_seg r a h0 h1 (seg := [.int .i64 x]) (j := 1) hl hc (show 2 ≤ 4 by decide) (k30_mkM _ _ _ (⟨z.f0, x, ⟨z.f2.f0, z.f2.f1⟩⟩ : S30)) (fun _ e => e)
  exact h.gr k.2 ⟨_, k.1⟩
 ·have k := Kd.R_seg r a h0 h1 (seg := [.int .i64 x, .int .i64 y]) (j := 2) hl hc (show 4 ≤ 4 by decide) (k30_mkM _ _ _ (⟨z.f0, z.f1, ⟨x, y⟩⟩ : S30)) (fun _ e => e)
  exact h.gr k.2 ⟨_, k.1⟩
end
set_option maxRecDepth 100000 in
set_option maxHeartbeats 6400000 in
theorem l5Code_any (g : Nat) (s : List Int) (w0 w : World) (hI : IsS98 w0 w g s 0) (hB : Below w0.heap.size w0 w) (hs : Byt s) :
  Calls Tryz.prog 31 #[.pointer (some ⟨g, 0, none⟩)] w fun e w' => ∃ A n c q, e = .returned (.slice A n c) ∧ n ≤ 1300 ∧ 0 ≤ q ∧ q ≤ 30000 ∧ CS w0 w g s q (.slice A n c) w' := by
 have hu30 := Tryz.underlying30
 have hu28 := Tryz.underlying28
 obtain ⟨xs, q, e1, hl, ho, q0, q1⟩ := some_some hs 1000
 obtain ⟨t, ht, tl⟩ := deep_some 3 (by omega) 10 (by omega) xs hl ho 0
 have tl : t.length ≤ 1290 := tl
 have c1 := spec_l4Some.calls _ g s 0 xs q w0 w hI hB e1
 have ht : Aside0 (spec_l5Of.f xs 0 = some t) := ⟨ht⟩
 have z := Aside0.mk hB.size
 have Q : Aside0 (0 ≤ q ∧ q ≤ 20000) := ⟨q0, q1⟩
 have hs := Aside0.mk hs
 clear e1 hl ho q0 q1 hI hB
 go_enter Tryz.func31, Tryz.ntmps31
 go_wp2_with fail
 refine c1.mono ?_
 clear c1
 rintro e w1 ⟨v, rfl, N1, i1, b1, k1⟩
 obtain ⟨A1, c1, rfl⟩ := Kd.N_slice N1
 go_wp2_with fail
 refine (spec_l5Of.calls A1 c1 xs 0 t w1 (Kd.N_reads' N1).2.2 (Kd.N_reads' N1).2.1 ht.out).mono ?_
 rintro e w2 ⟨v, rfl, r2, b2⟩
 obtain ⟨A, c, rfl⟩ := Kd.R_slice r2
 have C : CS w0 w g s q (.slice A t.length c) w2 := ⟨⟨t, Kd.R_lower (Kd.R_mono (ok' := fun k => k ≠ g) (IsS98.apart (i1.below b2) r2 (by decide)) (fun k hk => hk.2)) k1.1⟩, i1.below b2, b1.trans (b2.mono b1.size), k1.trans (KeepBut.of_below b2 g none) (.inl rfl), z.out⟩
 clear N1 i1 b1 k1 r2 b2 ht
 have C := Aside0.mk C
 have tl := Aside0.mk tl
 generalize t.length = n at C tl ⊢
 by_cases hz : n = 0
 ·have d : ((n : Int) == 0) = true := by simp [hz]
  clear hz
  go_wp2
  go_ret
  exact ⟨_, _, _, _, rfl, by have := tl.out; omega, Q.out.1, by have := Q.out; omega, C.out⟩
 have d : ((n : Int) == 0) = false := by simp [hz]
 have hz := Aside0.mk hz
 go_wp2_with fail
 refine (C.out.pick (n : Int) hs.out Q.out.1 (by have := Q.out; omega)).mono ?_
 rintro e w3 ⟨a, rfl, ha, C3⟩
 replace C := Aside0.mk C3
 clear C3
 have a0 : decide (0 ≤ a) = true := by simp; omega
 have a1 : decide (a < (n : Int)) = true := by simp; have := hz.out; omega
 have ha : Aside0 (0 ≤ a ∧ a < (n : Int)) := ⟨by simpa using a0, by simpa using a1⟩
 go_wp2_with fail
 refine (C.out.pick 30 hs.out (by have := Q.out; omega) (by have := Q.out; omega)).mono ?_
 rintro e w4 ⟨v, rfl, -, C3⟩
 replace C := Aside0.mk C3
 clear C3 d
 by_cases v0 : v = 0
 ·have d0 : (v == 0) = true := by simpa using v0
  clear v0
  go_wp2_with fail
  refine (C.out.num (n := 5) (l := [0, 9, 1, 5, 8]) rfl (show 5 ≤ 1000 by decide) (show 0 < 5 by decide) hs.out (by have := Q.out; omega) (by have := Q.out; omega)).mono ?_
  rintro e w5 ⟨x, rfl, C3⟩
  obtain ⟨G, rfl, fz, cl, s0, s1, s2⟩ := C3.el a ha.out.1 ha.out.2
  obtain ⟨u0, cl0⟩ : ∃ u : Int, w5.cell? ⟨G, a.toNat * 4, none⟩ = some (.int .i64 u) := cl 0 (by omega)
  have fz0 : w5.frozen? ⟨G, a.toNat * 4, none⟩ = false := fz 0
  have C := Aside0.mk (s0 x)
  clear C3 fz cl s0 s1 s2
  go_wp2
  go_ret
  exact ⟨_, _, _, _, rfl, by have := tl.out; omega, by have := Q.out; omega, by have := Q.out; omega, C.out⟩
 have d0 : (v == 0) = false := by simpa using v0
 clear v0
 by_cases v1 : v = 1
 ·have d1 : (v == 1) = true := by simpa using v1
  clear v1
  have w1_ : wrap64 ((n : Int) + 1) = (n : Int) + 1 := wrap_id (by omega) (by have := tl.out; omega)
  have w2_ : wrap64 (a + 1) = a + 1 := wrap_id (by have := ha.out; omega) (by have := ha.out; have := tl.out; omega)
  go_wp2_with fail
  refine (C.out.num (n := 5) (l := [0, -1, (n : Int), (n : Int) + 1, a + 1]) rfl (show 5 ≤ 1000 by decide) (show 0 < 5 by decide) hs.out (by have := Q.out; omega) (by have := Q.out; omega)).mono ?_
  rintro e w5 ⟨x, rfl, C3⟩
  obtain ⟨G, rfl, fz, cl, s0, s1, s2⟩ := C3.el a ha.out.1 ha.out.2
  obtain ⟨u1, cl1⟩ : ∃ u : Int, w5.cell? ⟨G, a.toNat * 4 + 1, none⟩ = some (.int .i64 u) := cl 1 (by omega)
  have fz1 : w5.frozen? ⟨G, a.toNat * 4 + 1, none⟩ = false := fz 1
  have C := Aside0.mk (s1 x)
  clear C3 fz cl s0 s1 s2
  go_wp2
  go_ret
  exact ⟨_, _, _, _, rfl, by have := tl.out; omega, by have := Q.out; omega, by have := Q.out; omega, C.out⟩
 have d1 : (v == 1) = false := by simpa using v1
 clear v1
 by_cases v2 : v = 2
 ·have d2 : (v == 2) = true := by simpa using v2
  clear v2
  have C3 := C.out
  obtain ⟨l, R⟩ := C3.r
  obtain rfl := (Kd.R_reads' R).1
  have hnc := (Kd.R_reads' R).2.1
  have a2 := ha.out
  obtain ⟨G, cap, e, -, -, -⟩ := Kd.R_form R (by omega)
  injection e with e1 _ e3
  subst e1; subst e3
  have w1_ : wrap64 (a + 1) = a + 1 := wrap_id (by omega) (by have := tl.out; omega)
  have e59 : (a + 1).toNat = a.toNat + 1 := by omega
  have RR := Aside0.mk R
  have sz := C3.k.1
  have q1 : a ≤ (c : Int) := by omega
  have q2 : a + 1 ≤ (l.length : Int) := by omega
  have q3 : 0 ≤ a + 1 := by omega
  clear R hnc a2
  clear C
  go_upto_region 11 with (fail)
  go_wp2_with fail
  replace C3 := C3.below (below_drew1 (Below.refl _ _))
  replace RR := Aside0.mk (Kd.R_below RR.out (below_drew1 (Below.refl _ _)))
  replace sz : w.heap.size ≤ w4.drew.heap.size := sz
  refine start_ (n := 9) (S := fun w' => True) (ds := []) #[F_, F_, F_, F_, F_, F_, F_, F_, F_] (by kernel_rfl) rfl rfl (trivial) (fun hHeld => ?_)
  refine pu_ 0 45 ?_
  refine pu_ 1 46 ?_
  refine pu_ 2 47 ?_
  refine pu_ 3 48 ?_
  refine pu_ 4 49 ?_
  refine pu_ 5 50 ?_
  refine pu_ 6 51 ?_
  refine on_ 7 (some 52) fun K hK => ?_
  refine Kd.R_delete_step k30 w.heap.size (by rfl) (.tmp 47) (.tmp 51) 23 30 rfl Tryz.underlying23 (by kernel_rfl) (g := G) (n := l.length) (c := c) (k := a.toNat) rfl rfl (by simp only [Option.map_some, Addr.add, Nat.zero_add]; rfl) rfl RR.out (by omega) (Below.refl _ _) sz ?_
  intro w9 ho hb hg
  have C := Aside0.mk (C3.gr hg ⟨_, ho⟩)
  refine hK.out _ _ (trivial) (fun hHeld => ?_)
  clear hK K
  refine norm_ (a' := ?_) ?_ ?_
  rotate_left
  ·show Act.put _ (some 52) _ = _
   simp only [Act.put, sA_, sB_, sC_, i64_w, i32_w]
   rfl
  refine pu_ 8 3 ?_
  refine done_ (by kernel_rfl) ?_
  clear hHeld
  generalize (ite (c = a.toNat + 1) _ _ : Option Addr) = A5
  go_wp2
  go_ret
  exact ⟨_, _, _, _, rfl, by have := tl.out; omega, by have := Q.out; omega, by have := Q.out; omega, C.out⟩
 have d2 : (v == 2) = false := by simpa using v2
 clear v2
 by_cases v3 : v = 3
 ·have d3 : (v == 3) = true := by simpa using v3
  clear v3
  obtain ⟨x, y, r, hr, r0, r1⟩ := bent_addr hs.out 10 (q + 1 + 1) (by have := Q.out; omega) (by have := Q.out; omega)
  have r0 := Aside0.mk r0
  have r1 := Aside0.mk r1
  go_wp2_with fail
  refine (spec_l2AddrBent.calls _ g s (q + 1 + 1) x y r w0 w4 C.out.i C.out.b hr).mono ?_
  rintro e w5 ⟨rfl, i5, b5, k5⟩
  have C3 := C.out.call i5 b5 k5
  clear i5 b5 k5 hr
  obtain ⟨G, rfl, fz, cl, s0, s1, s2⟩ := C3.el a ha.out.1 ha.out.2
  obtain ⟨u2, cl2⟩ : ∃ u : Int, w5.cell? ⟨G, a.toNat * 4 + 2, none⟩ = some (.int .i64 u) := cl 2 (by omega)
  have fz2 : w5.frozen? ⟨G, a.toNat * 4 + 2, none⟩ = false := fz 2
  obtain ⟨u3, cl3⟩ : ∃ u : Int, w5.cell? ⟨G, a.toNat * 4 + 3, none⟩ = some (.int .i64 u) := cl 3 (by omega)
  have fz3 : w5.frozen? ⟨G, a.toNat * 4 + 3, none⟩ = false := fz 3
  have C := Aside0.mk (s2 x y)
  clear C3 fz cl s0 s1 s2
  go_wp2
  go_ret
  exact ⟨_, _, _, _, rfl, by have := tl.out; omega, r0.out, by have := Q.out; have := r1.out; omega, C.out⟩
 have d3 : (v == 3) = false := by simpa using v3
 clear v3
 by_cases v4 : v = 4
 ·have d4 : (v == 4) = true := by simpa using v4
  clear v4
  go_wp2_with fail
  refine (C.out.pick (n : Int) hs.out (by have := Q.out; omega) (by have := Q.out; omega)).mono ?_
  rintro e w5 ⟨y, rfl, -, C3⟩
  obtain ⟨l, R⟩ := C3.r
  obtain rfl := (Kd.R_reads' R).1
  have R := Aside0.mk R
  have C := Aside0.mk C3
  clear C3
  go_wp2_with ((with_reducible refine gate_builtin (b := .append) (xs := #[.tmp 63, .tmp 69]) rfl ?_); at_builtin; refine Kd.R_append k30 w.heap.size rfl (.tmp 63) (.tmp 69) 23 30 (.agg #[(.int .i64 0), (.int .i64 0), (.int .i64 0), (.int .i64 0)]) 32 rfl Tryz.underlying23 info30 rfl (by decide) (by omega) (.slice A l.length c) l (⟨8, y, (⟨0, 0⟩ : S28)⟩ : S30) [.int .i64 8, .int .i64 y, .int .i64 0, .int .i64 0] (fun k => k ≠ g) (fun _ => False) rfl rfl (k30_mkM _ _ _ (⟨8, y, (⟨0, 0⟩ : S28)⟩ : S30)) (fun _ hk => hk.elim) (fun k hk e => by have := C.out.i.lt; omega) R.out (Below.refl _ _) C.out.k.1 (by have := tl.out; omega) ?_; intro v9 w9 ho hb hg hat; have C9 := Aside0.mk (C.out.gr hg ⟨_, ho⟩); obtain ⟨A9, n9, c9, rfl⟩ := C9.out.slice; have hn9 : Aside0 (n9 = l.length + 1) := ⟨(Kd.R_reads' ho).1.trans (by simp)⟩; clear ho hb hg hat)
  go_ret
  exact ⟨_, _, _, _, rfl, by have := tl.out; have := hn9.out; omega, by have := Q.out; omega, by have := Q.out; omega, C9.out⟩
 have d4 : (v == 4) = false := by simpa using v4
 clear v4
 go_wp2
 go_ret
 exact ⟨_, _, _, _, rfl, by have := tl.out; omega, by have := Q.out; omega, by have := Q.out; omega, C.out⟩
end Go.Proofs.YtjamfddhcigchaaGreatDoor.Lc
namespace Go.Proofs.YtjamfddhcigchaaGreatDoor.Dm
open Go.RowKit  Go.Proofs.YtjamfddhcigchaaGreatDoor.Gz Go.Proofs.YtjamfddhcigchaaGreatDoor.Gq Go.Proofs.YtjamfddhcigchaaGreatDoor.Hx Go.Proofs.YtjamfddhcigchaaGreatDoor.HFnCodeRun Go.Proofs.YtjamfddhcigchaaGreatDoorW.PrintWords Go.Proofs.YtjamfddhcigchaaGreatDoorW.PrintLast Go.Proofs.YtjamfddhcigchaaGreatDoorW.PrintMore
set_option linter.unusedVariables false
set_option linter.unusedSimpArgs false
def R6 (W : World) (base x c : Nat) : Prop := ∃ l, Kd.R (Kd.int .i64) 3 W base (fun _ => True) (.slice (some ⟨x, 0, none⟩) 6 c) l
theorem R6.keep {w0 W W' : World} {g base x c : Nat} {s : List Int} {q : Int} (h : R6 W base x c) (hI : IsS98 w0 W g s q) (k : KeepBut W W' g none) : R6 W' base x c := by
 obtain ⟨l, h⟩ := h
 have hne := IsS98.own_ne hI h (by decide)
 exact ⟨l, R_int_ok (Kd.R_keep (R_int_ok (ok' := fun k => k ≠ g) h (fun b hb e => hne (by rw [hb, e]))) k (fun _ e => e)) (fun _ _ => trivial)⟩
theorem R6.below {W W' : World} {base x c : Nat} (h : R6 W base x c) (k : Below W.heap.size W W') : R6 W' base x c := by
 obtain ⟨l, h⟩ := h
 exact ⟨l, Kd.R_below h k⟩
theorem own_eq {x c b y : Nat} (hb : (Value.slice (some ⟨x, 0, none⟩) 6 c).ownBlock = some b) (e : b = y) : y = x := by
 have : x = b := by simpa [Value.ownBlock] using hb
 omega
theorem R6.set {W : World} {base x c : Nat} (h : R6 W base x c) (y j : Nat) (n : Int) : R6 (W.setCell ⟨y, j, none⟩ (.int .i64 n)) base x c := by
 obtain ⟨l, h⟩ := h
 by_cases e : y = x
 ·subst e
  have k := Kd.R_putn h (j : Int) n
  rw [Int.toNat_natCast] at k
  exact ⟨_, k⟩
 ·exact ⟨l, R_int_ok (Kd.R_far (p := ⟨y, j, none⟩) (R_int_ok (ok' := fun k => k ≠ y) h (fun b hb e2 => e (own_eq hb e2))) (fun _ e => e) (.int .i64 n)) (fun _ _ => trivial)⟩
theorem R6.at_ {W : World} {base x c : Nat} (h : R6 W base x c) (j : Nat) (hj : j < 6) : (∃ v, W.cell? ⟨x, j, none⟩ = some (.int .i64 v)) ∧ W.frozen? ⟨x, j, none⟩ = false := by
 obtain ⟨l, h⟩ := h
 obtain ⟨a, b⟩ := Kd.R_celln 0 h (j : Int) (by omega) (by omega)
 rw [Int.toNat_natCast] at a b
 exact ⟨⟨_, a⟩, b⟩
theorem R6.typ {W : World} {base x c : Nat} (h : R6 W base x c) : base ≤ x ∧ ∃ cells, W.heap[x]? = some (.cells cells 3 (0, 0)) := by
 obtain ⟨l, h⟩ := h
 exact ⟨Kd.R_base h x rfl, Kd.R_typed h x rfl⟩
theorem form6 {W : World} {base : Nat} {ok : Nat → Prop} {v : Value} (h : Kd.R (Kd.int .i64) 3 W base ok v (List.replicate 6 0)) : ∃ x c, v = .slice (some ⟨x, 0, none⟩) 6 c := by
 obtain ⟨inner, ho⟩ := Kd.R_own h
 rcases ho.2 with ⟨e, e2⟩ | ⟨x, cap, cur, e, _⟩
 ·exact absurd e2 (by decide)
 ·exact ⟨x, cap, e⟩
theorem keep_m {w W : World} {g z i : Nat} (h : KeepBut w W g none) (hz : w.heap.size ≤ z) (a : Value) : KeepBut w (W.setCell ⟨z, i, none⟩ a) g none :=
 ⟨by simpa using h.1, fun k hk hg hr => (Below.heap_setCell W ⟨z, i, none⟩ a k (by show k ≠ z; omega)).trans (h.2 k hk hg hr)⟩
theorem R6.far {W : World} {base x c z i : Nat} {cs : Array Value} (h : R6 W base x c) (hz : W.heap[z]? = some (.cells cs 33 (0, 0))) (u : Value) : R6 (W.setCell ⟨z, i, none⟩ u) base x c := by
 obtain ⟨_, cells, ht⟩ := h.typ
 obtain ⟨l, h⟩ := h
 have ne : x ≠ z := fun e => by subst e; rw [ht] at hz; injection hz with hz; injection hz with _ hz; exact absurd hz (by decide)
 exact ⟨l, R_int_ok (Kd.R_far (p := ⟨z, i, none⟩) (R_int_ok (ok' := fun k => k ≠ z) h (fun b hb e => ne (own_eq hb e).symm)) (fun _ e => e) u) (fun _ _ => trivial)⟩
theorem R6.st3 {W : World} {base x c z : Nat} {cs : Array Value} (h : R6 W base x c) (hz : W.heap[z]? = some (.cells cs 33 (0, 0))) (u v t : Value) : R6 (((W.setCell ⟨z, 0, none⟩ u).setCell ⟨z, 1, none⟩ v).setCell ⟨z, 2, none⟩ t) base x c :=
 ((h.far hz u).far (blk_put hz 0 u rfl) v).far (blk_put (blk_put hz 0 u rfl) 1 v rfl) t
structure LM (w0 w : World) (g z z3 x0 x1 x2 c0 c1 c2 : Nat) (s : List Int) (q : Int) (W : World) : Prop where
 hz : W.heap[z]? = some (.cells Z3 33 (0, 0))
 h3 : W.heap[z3]? = some (.cells #[.slice (some ⟨x0, 0, none⟩) 6 c0, .slice (some ⟨x1, 0, none⟩) 6 c1, .slice (some ⟨x2, 0, none⟩) 6 c2] 33 (0, 0))
 r0 : R6 W w.heap.size x0 c0
 r1 : R6 W w.heap.size x1 c1
 r2 : R6 W w.heap.size x2 c2
 gw : g < w.heap.size
 zw : w.heap.size ≤ z
 z3w : w.heap.size ≤ z3
 w0w : w0.heap.size ≤ w.heap.size
 i : IsS98 w0 W g s q
 b : Below w0.heap.size w0 W
 k : KeepBut w W g none
section
variable {w0 w : World} {g z z3 x0 x1 x2 c0 c1 c2 : Nat} {s : List Int} {q q' : Int} {W W' : World}
theorem LM.call (h : LM w0 w g z z3 x0 x1 x2 c0 c1 c2 s q W) (i : IsS98 w0 W' g s q') (b : Below w0.heap.size w0 W') (k : KeepBut W W' g none) : LM w0 w g z z3 x0 x1 x2 c0 c1 c2 s q' W' :=
 ⟨k.blk h.hz (by have := h.gw; have := h.zw; omega) (by simp), k.blk h.h3 (by have := h.gw; have := h.z3w; omega) (by simp), h.r0.keep h.i k, h.r1.keep h.i k, h.r2.keep h.i k, h.gw, h.zw, h.z3w, h.w0w, i, b, h.k.trans k (.inl rfl)⟩
theorem LM.below (h : LM w0 w g z z3 x0 x1 x2 c0 c1 c2 s q W) (k : Below W.heap.size W W') : LM w0 w g z z3 x0 x1 x2 c0 c1 c2 s q W' := h.call (h.i.below k) (h.b.trans (k.mono h.b.size)) (KeepBut.of_below k g none)
theorem LM.set (h : LM w0 w g z z3 x0 x1 x2 c0 c1 c2 s q W) {y c : Nat} (r : R6 W w.heap.size y c) (j : Nat) (n : Int) : LM w0 w g z z3 x0 x1 x2 c0 c1 c2 s q (W.setCell ⟨y, j, none⟩ (.int .i64 n)) := by
 obtain ⟨hb0, cells, ht⟩ := r.typ
 have ne : ∀ {b : Nat} {cs : Array Value}, W.heap[b]? = some (.cells cs 33 (0, 0)) → b ≠ y := fun hb e => by subst e; rw [ht] at hb; injection hb with hb; injection hb with _ hb; exact absurd hb (by decide)
 refine ⟨blk_far (p := ⟨y, j, none⟩) h.hz (ne h.hz) _, blk_far (p := ⟨y, j, none⟩) h.h3 (ne h.h3) _, h.r0.set y j n, h.r1.set y j n, h.r2.set y j n, h.gw, h.zw, h.z3w, h.w0w, IsS98.far (p := ⟨y, j, none⟩) h.i (IsS98.ne_blk h.i ht (by decide)) _, below_set h.b (by have := h.w0w; omega), ?_⟩
 exact ⟨by simpa using h.k.1, fun k hk hg hr => (Below.heap_setCell W ⟨y, j, none⟩ (.int .i64 n) k (by show k ≠ y; omega)).trans (h.k.2 k hk hg hr)⟩
theorem LM.num (h : LM w0 w g z z3 x0 x1 x2 c0 c1 c2 s q W) {y n : Nat} {l : List Int} {cs : Array Value} (hn : n = l.length) (hb : W.heap[y]? = some (.cells cs 3 (0, 0))) (e : cs = (l.map (Value.int .i64)).toArray) (hl : l.length ≤ 1000) (h0 : 0 < l.length) (hs : Byt s) (q0 : 0 ≤ q) (q1 : q ≤ 1000000) :
  Calls Tryz.prog 35 #[.pointer (some ⟨g, 0, none⟩), .slice (some ⟨y, 0, none⟩) n n] W fun e w' => (∃ v, e = .returned (.int .i64 v)) ∧ LM w0 w g z z3 x0 x1 x2 c0 c1 c2 s (q + 1) w' := by
 subst hn
 obtain ⟨v, hv, _⟩ := num_some hs 10 q l h0 q0 (by omega)
 have hC : Kd.C (Kd.int .i64) W (some ⟨y, 0, none⟩) l.length l := C_of_cells hl (fun i hi => by
  rw [Nat.zero_add, blk_cell hb, e, List.getElem?_toArray, List.getElem?_map, List.getElem?_eq_getElem hi]; rfl)
 refine (spec_l12Rd_num.calls _ g s q _ _ l v _ w0 W h.i h.b hC (Nat.le_refl _) (fun ad e _ => by cases e; exact fun e => (IsS98.ne_blk h.i hb (by decide)) e.symm) hv).mono ?_
 rintro e w' ⟨rfl, i, b, k⟩
 exact ⟨⟨_, rfl⟩, h.call i b k⟩
end
set_option maxRecDepth 100000 in
set_option maxHeartbeats 6400000 in
theorem l2Mem_any (g : Nat) (s : List Int) (q : Int) (w0 w : World) (hI : IsS98 w0 w g s q) (hB : Below w0.heap.size w0 w) (hs : Byt s) (h0 : 0 ≤ q) (h1 : q ≤ 900000) :
  Calls Tryz.prog 60 #[.pointer (some ⟨g, 0, none⟩)] w fun e w' => ∃ x0 x1 x2 c0 c1 c2, e = .returned (.agg #[.slice (some ⟨x0, 0, none⟩) 6 c0, .slice (some ⟨x1, 0, none⟩) 6 c1, .slice (some ⟨x2, 0, none⟩) 6 c2]) ∧ R6 w' w.heap.size x0 c0 ∧ R6 w' w.heap.size x1 c1 ∧ R6 w' w.heap.size x2 c2 ∧ x0 ≠ x1 ∧ x2 ≠ x1 ∧ IsS98 w0 w' g s (q + 12) ∧ Below w0.heap.size w0 w' ∧ KeepBut w w' g none := by
 have hu33 := Tryz.underlying33
 have hu31 := Tryz.underlying31
 have hg := IsS98.lt hI
 have sw := hB.size
 have kz := below_alloc (Below.refl w.heap.size w) (.cells #[.slice none 0 0, .slice none 0 0, .slice none 0 0] 33)
 have bz := heap_alloc_new w (.cells #[.slice none 0 0, .slice none 0 0, .slice none 0 0] 33)
 have cm := Gw.openC
 go_enter Tryz.func60, Tryz.ntmps60
 go_wp2_with fail
 refine (cm _).mono ?_
 rintro e w1 ⟨v0, v1, v2, rfl, r0, r1, r2, e0, -, e2, b1⟩
 clear cm
 generalize w.alloc _ = wz at kz bz r0 r1 r2 b1
 have szz : w.heap.size < wz.heap.size := blk_lt bz
 replace bz := blk_below bz b1
 have b2 := kz.trans (b1.mono kz.size)
 obtain ⟨x0, c0, rfl⟩ := form6 r0
 obtain ⟨x1, c1, rfl⟩ := form6 r1
 obtain ⟨x2, c2, rfl⟩ := form6 r2
 have n01 : x0 ≠ x1 := fun e => e0 x0 rfl (by rw [e]; rfl)
 have n21 : x2 ≠ x1 := fun e => e2 x1 rfl (by rw [← e]; rfl)
 go_upto_region 2 with (fail)
 have kb := below_alloc (Below.refl w1.heap.size w1) (.cells #[.slice (some ⟨x0, 0, none⟩) 6 c0, .slice (some ⟨x1, 0, none⟩) 6 c1, .slice (some ⟨x2, 0, none⟩) 6 c2] 33)
 have b3 := heap_alloc_new w1 (.cells #[.slice (some ⟨x0, 0, none⟩) 6 c0, .slice (some ⟨x1, 0, none⟩) 6 c1, .slice (some ⟨x2, 0, none⟩) 6 c2] 33)
 have bb := b2.trans (kb.mono b2.size)
 have hT : LM w0 w g w.heap.size w1.heap.size x0 x1 x2 c0 c1 c2 s q _ := ⟨blk_below bz kb, b3, R6.below ⟨_, R_int_ok (Kd.R_lower r0 kz.size) (fun _ _ => trivial)⟩ kb, R6.below ⟨_, R_int_ok (Kd.R_lower r1 kz.size) (fun _ _ => trivial)⟩ kb, R6.below ⟨_, R_int_ok (Kd.R_lower r2 kz.size) (fun _ _ => trivial)⟩ kb, hg, Nat.le_refl _, b2.size, sw, hI.below bb, hB.trans (bb.mono sw), KeepBut.of_below bb g none⟩
 clear r0 r1 r2 b1 b2 b3 bz kb bb kz e0 e2 szz hI hB
 generalize w1.alloc _ = w2 at hT ⊢
 generalize w1.heap.size = z3 at hT ⊢
 obtain ⟨z, hz⟩ : ∃ z, w.heap.size = z := ⟨_, rfl⟩
 have hT : LM w0 w g z z3 x0 x1 x2 c0 c1 c2 s q w2 := by rw [← hz]; exact hT
 rw [hz]
 go_wp2_with fail
 go_loopw [4] (fun vi wr => ∃ j : Nat, j ≤ 4 ∧ vi = .int .i64 (j : Int) ∧ Aside0 (LM w0 w g z z3 x0 x1 x2 c0 c1 c2 s (q + 3 * (j : Int)) wr)) (fun vi _ => 4 - (intOf vi).toNat)
 case atStart => exact ⟨0, by omega, rfl, ⟨by simpa using hT⟩⟩
 case round =>
  clear hT
  obtain ⟨j, hj, rfl, hT0⟩ := hrel
  have hT := hT0.out
  clear hT0
  by_cases hj4 : j < 4
  ·have d2 : decide ((j : Int) < 4) = true := by simp; omega
   have hj6' : Aside0 (j < 6) := ⟨by omega⟩
   have hjm : (j : Int) < 6 := by omega
   have w1_ : wrap64 ((j : Int) + 1) = ((j + 1 : Nat) : Int) := by unfold wrap64; omega
   go_wp2_with fail
   replace hT : LM w0 w g z z3 x0 x1 x2 c0 c1 c2 s _ wr.drew := hT.below (below_drew1 (Below.refl _ _))
   refine start_ (n := 8) (S := fun w' => w'.cell? ⟨z3, 0, none⟩ = some (.slice (some ⟨x0, 0, none⟩) 6 c0)) (ds := [7]) #[F_, F_, F_, F_, F_, F_, F_, F_] (by kernel_rfl) rfl rfl (((blk_cell hT.h3 0).trans rfl)) (fun hHeld => ?_)
   refine pu_ 0 10 ?_
   refine pu_ 2 12 ?_
   refine pu_ 3 13 ?_
   refine take_ (i := 1) (N := some 11) (v := ?_) (a' := ?_) #[T_, T_, T_, T_, F_, F_, F_, F_] rfl rfl (by kernel_rfl) (fun _ _ _ h => h) (Or.inl ⟨by rfl, ?_⟩) hHeld ?_ ?_
   rotate_left
   ·intro w' s0
    go_simp
    with_reducible rfl
   rotate_left
   ·simp only [Act.put, sA_, sB_, sC_, i64_w, i32_w]
    rfl
   refine on_ 4 (some 14) fun K hK => ?_
   generalize wr.drew = wv at hT hHeld ⊢
   refine value_ (w1 := ?_) (v := ?_) (by rfl) rfl ?_ ?_
   rotate_left 2
   ·go_simp
    constructor
    ·rfl
    ·rfl
   have hb_ := heap_alloc_new wv (.cells #[.int .i64 0, .int .i64 0, .int .i64 1, .int .i64 1, .int .i64 2, .int .i64 5, .int .i64 (-1)] 3)
   replace hT := hT.below (below_alloc (Below.refl _ _) (.cells #[.int .i64 0, .int .i64 0, .int .i64 1, .int .i64 1, .int .i64 2, .int .i64 5, .int .i64 (-1)] 3))
   generalize wv.alloc (.cells #[.int .i64 0, .int .i64 0, .int .i64 1, .int .i64 1, .int .i64 2, .int .i64 5, .int .i64 (-1)] 3) = wu at hT hb_ ⊢
   generalize wv.heap.size = y_ at hb_ ⊢
   refine hK.out _ _ (((blk_cell hT.h3 0).trans rfl)) (fun hHeld => ?_)
   clear hK K
   refine norm_ (a' := ?_) ?_ ?_
   rotate_left
   ·show Act.put _ (some 14) _ = _
    simp only [Act.put, sA_, sB_, sC_, i64_w, i32_w]
    rfl
   refine on_ 5 (some 15) fun K hK => ?_
   refine goes_ Tryz.func35 (by kernel_rfl) rfl #[.pointer (some ⟨g, 0, none⟩), .slice (some ⟨y_, 0, none⟩) 7 7] (by rfl) rfl rfl (by simp only [List.map_toArray, List.map_cons, List.map_nil]; rfl) ?_
   with_reducible refine (hT.num (n := 7) (l := [0, 0, 1, 1, 2, 5, (-1)]) rfl hb_ rfl (by decide) (by decide) hs (by omega) (by omega)).mono ?_
   rintro e wn ⟨⟨vn, rfl⟩, hT2⟩
   refine ⟨_, rfl, ?_⟩
   replace hT := hT2
   clear hT2 hb_
   refine hK.out _ _ (((blk_cell hT.h3 0).trans rfl)) (fun hHeld => ?_)
   clear hK K
   refine norm_ (a' := ?_) ?_ ?_
   rotate_left
   ·show Act.put _ (some 15) _ = _
    simp only [Act.put, sA_, sB_, sC_, i64_w, i32_w]
    rfl
   refine pu_ 6 16 ?_
   refine la_ 7 none fun K hK => ?_
   obtain ⟨⟨vo, xc⟩, xf⟩ := hT.r0.at_ j hj6'.out
   refine skip_ (w1 := ?_) (by rfl) rfl ?_ ?_
   rotate_left
   ·go_simp
    rfl
   refine hK.out _ _ ?_
   clear hK K
   refine done_ (by kernel_rfl) ?_
   clear hHeld xc xf
   replace hT := hT.set hT.r0 j vn
   generalize wn.setCell _ _ = wa at hT ⊢
   clear vo
   go_wp2_with fail
   replace hT : LM w0 w g z z3 x0 x1 x2 c0 c1 c2 s _ wa.drew := hT.below (below_drew1 (Below.refl _ _))
   refine start_ (n := 8) (S := fun w' => w'.cell? ⟨z3, 1, none⟩ = some (.slice (some ⟨x1, 0, none⟩) 6 c1)) (ds := [7]) #[F_, F_, F_, F_, F_, F_, F_, F_] (by kernel_rfl) rfl rfl (((blk_cell hT.h3 1).trans rfl)) (fun hHeld => ?_)
   refine pu_ 0 17 ?_
   refine pu_ 2 19 ?_
   refine pu_ 3 20 ?_
   refine take_ (i := 1) (N := some 18) (v := ?_) (a' := ?_) #[T_, T_, T_, T_, F_, F_, F_, F_] rfl rfl (by kernel_rfl) (fun _ _ _ h => h) (Or.inl ⟨by rfl, ?_⟩) hHeld ?_ ?_
   rotate_left
   ·intro w' s0
    go_simp
    with_reducible rfl
   rotate_left
   ·simp only [Act.put, sA_, sB_, sC_, i64_w, i32_w]
    rfl
   refine on_ 4 (some 21) fun K hK => ?_
   generalize wa.drew = wv at hT hHeld ⊢
   refine value_ (w1 := ?_) (v := ?_) (by rfl) rfl ?_ ?_
   rotate_left 2
   ·go_simp
    constructor
    ·rfl
    ·rfl
   have hb_ := heap_alloc_new wv (.cells #[.int .i64 0, .int .i64 0, .int .i64 1, .int .i64 3] 3)
   replace hT := hT.below (below_alloc (Below.refl _ _) (.cells #[.int .i64 0, .int .i64 0, .int .i64 1, .int .i64 3] 3))
   generalize wv.alloc (.cells #[.int .i64 0, .int .i64 0, .int .i64 1, .int .i64 3] 3) = wu at hT hb_ ⊢
   generalize wv.heap.size = y_ at hb_ ⊢
   refine hK.out _ _ (((blk_cell hT.h3 1).trans rfl)) (fun hHeld => ?_)
   clear hK K
   refine norm_ (a' := ?_) ?_ ?_
   rotate_left
   ·show Act.put _ (some 21) _ = _
    simp only [Act.put, sA_, sB_, sC_, i64_w, i32_w]
    rfl
   refine on_ 5 (some 22) fun K hK => ?_
   refine goes_ Tryz.func35 (by kernel_rfl) rfl #[.pointer (some ⟨g, 0, none⟩), .slice (some ⟨y_, 0, none⟩) 4 4] (by rfl) rfl rfl (by simp only [List.map_toArray, List.map_cons, List.map_nil]; rfl) ?_
   with_reducible refine (hT.num (n := 4) (l := [0, 0, 1, 3]) rfl hb_ rfl (by decide) (by decide) hs (by omega) (by omega)).mono ?_
   rintro e wn ⟨⟨vn, rfl⟩, hT2⟩
   refine ⟨_, rfl, ?_⟩
   replace hT := hT2
   clear hT2 hb_
   refine hK.out _ _ (((blk_cell hT.h3 1).trans rfl)) (fun hHeld => ?_)
   clear hK K
   refine norm_ (a' := ?_) ?_ ?_
   rotate_left
   ·show Act.put _ (some 22) _ = _
    simp only [Act.put, sA_, sB_, sC_, i64_w, i32_w]
    rfl
   refine pu_ 6 23 ?_
   refine la_ 7 none fun K hK => ?_
   obtain ⟨⟨vo, xc⟩, xf⟩ := hT.r1.at_ j hj6'.out
   refine skip_ (w1 := ?_) (by rfl) rfl ?_ ?_
   rotate_left
   ·go_simp
    rfl
   refine hK.out _ _ ?_
   clear hK K
   refine done_ (by kernel_rfl) ?_
   clear hHeld xc xf
   replace hT := hT.set hT.r1 j vn
   generalize wn.setCell _ _ = wb at hT ⊢
   clear vo
   go_wp2_with fail
   replace hT : LM w0 w g z z3 x0 x1 x2 c0 c1 c2 s _ wb.drew := hT.below (below_drew1 (Below.refl _ _))
   refine start_ (n := 8) (S := fun w' => w'.cell? ⟨z3, 2, none⟩ = some (.slice (some ⟨x2, 0, none⟩) 6 c2)) (ds := [7]) #[F_, F_, F_, F_, F_, F_, F_, F_] (by kernel_rfl) rfl rfl (((blk_cell hT.h3 2).trans rfl)) (fun hHeld => ?_)
   refine pu_ 0 24 ?_
   refine pu_ 2 26 ?_
   refine pu_ 3 27 ?_
   refine take_ (i := 1) (N := some 25) (v := ?_) (a' := ?_) #[T_, T_, T_, T_, F_, F_, F_, F_] rfl rfl (by kernel_rfl) (fun _ _ _ h => h) (Or.inl ⟨by rfl, ?_⟩) hHeld ?_ ?_
   rotate_left
   ·intro w' s0
    go_simp
    with_reducible rfl
   rotate_left
   ·simp only [Act.put, sA_, sB_, sC_, i64_w, i32_w]
    rfl
   refine on_ 4 (some 28) fun K hK => ?_
   generalize wb.drew = wv at hT hHeld ⊢
   refine value_ (w1 := ?_) (v := ?_) (by rfl) rfl ?_ ?_
   rotate_left 2
   ·go_simp
    constructor
    ·rfl
    ·rfl
   have hb_ := heap_alloc_new wv (.cells #[.int .i64 0, .int .i64 0, .int .i64 1, .int .i64 2, .int .i64 7, .int .i64 1000000] 3)
   replace hT := hT.below (below_alloc (Below.refl _ _) (.cells #[.int .i64 0, .int .i64 0, .int .i64 1, .int .i64 2, .int .i64 7, .int .i64 1000000] 3))
   generalize wv.alloc (.cells #[.int .i64 0, .int .i64 0, .int .i64 1, .int .i64 2, .int .i64 7, .int .i64 1000000] 3) = wu at hT hb_ ⊢
   generalize wv.heap.size = y_ at hb_ ⊢
   refine hK.out _ _ (((blk_cell hT.h3 2).trans rfl)) (fun hHeld => ?_)
   clear hK K
   refine norm_ (a' := ?_) ?_ ?_
   rotate_left
   ·show Act.put _ (some 28) _ = _
    simp only [Act.put, sA_, sB_, sC_, i64_w, i32_w]
    rfl
   refine on_ 5 (some 29) fun K hK => ?_
   refine goes_ Tryz.func35 (by kernel_rfl) rfl #[.pointer (some ⟨g, 0, none⟩), .slice (some ⟨y_, 0, none⟩) 6 6] (by rfl) rfl rfl (by simp only [List.map_toArray, List.map_cons, List.map_nil]; rfl) ?_
   with_reducible refine (hT.num (n := 6) (l := [0, 0, 1, 2, 7, 1000000]) rfl hb_ rfl (by decide) (by decide) hs (by omega) (by omega)).mono ?_
   rintro e wn ⟨⟨vn, rfl⟩, hT2⟩
   refine ⟨_, rfl, ?_⟩
   replace hT := hT2
   clear hT2 hb_
   refine hK.out _ _ (((blk_cell hT.h3 2).trans rfl)) (fun hHeld => ?_)
   clear hK K
   refine norm_ (a' := ?_) ?_ ?_
   rotate_left
   ·show Act.put _ (some 29) _ = _
    simp only [Act.put, sA_, sB_, sC_, i64_w, i32_w]
    rfl
   refine pu_ 6 30 ?_
   refine la_ 7 none fun K hK => ?_
   obtain ⟨⟨vo, xc⟩, xf⟩ := hT.r2.at_ j hj6'.out
   refine skip_ (w1 := ?_) (by rfl) rfl ?_ ?_
   rotate_left
   ·go_simp
    rfl
   refine hK.out _ _ ?_
   clear hK K
   refine done_ (by kernel_rfl) ?_
   clear hHeld xc xf
   replace hT := hT.set hT.r2 j vn
   generalize wn.setCell _ _ = wc at hT ⊢
   clear vo
   go_wp2
   rw [show ((j : Int) + 1) = ((j + 1 : Nat) : Int) by omega]
   refine ⟨⟨j + 1, by omega, rfl, ⟨by rw [show q + 3 * ((j + 1 : Nat) : Int) = q + 3 * (j : Int) + 1 + 1 + 1 by omega]; exact hT⟩⟩, ?_⟩
   simp only [intOf]
   omega
  ·have d2 : decide ((j : Int) < 4) = false := by simp; omega
   obtain rfl : j = 4 := by omega
   replace hT : LM w0 w g z z3 x0 x1 x2 c0 c1 c2 s (q + 12) wr := hT
   have i0 : wr.cell? ⟨z3, 0, none⟩ = some (.slice (some ⟨x0, 0, none⟩) 6 c0) := (blk_cell hT.h3 0).trans rfl
   have i1 : wr.cell? ⟨z3, 1, none⟩ = some (.slice (some ⟨x1, 0, none⟩) 6 c1) := (blk_cell hT.h3 1).trans rfl
   have i2 : wr.cell? ⟨z3, 2, none⟩ = some (.slice (some ⟨x2, 0, none⟩) 6 c2) := (blk_cell hT.h3 2).trans rfl
   have y0 : wr.cell? ⟨z, 0, none⟩ = some (.slice none 0 0) := (blk_cell hT.hz 0).trans rfl
   have y1 : wr.cell? ⟨z, 1, none⟩ = some (.slice none 0 0) := (blk_cell hT.hz 1).trans rfl
   have y2 : wr.cell? ⟨z, 2, none⟩ = some (.slice none 0 0) := (blk_cell hT.hz 2).trans rfl
   have j0 : wr.frozen? ⟨z, 0, none⟩ = false := blk_frozen hT.hz 0
   have j1 : wr.frozen? ⟨z, 1, none⟩ = false := blk_frozen hT.hz 1
   have j2 : wr.frozen? ⟨z, 2, none⟩ = false := blk_frozen hT.hz 2
   have hzz := res_store hT.hz (.slice (some ⟨x0, 0, none⟩) 6 c0) (.slice (some ⟨x1, 0, none⟩) 6 c1) (.slice (some ⟨x2, 0, none⟩) 6 c2)
   have hw := Nat.le_trans hT.w0w hT.zw
   have gz : g ≠ z := by have := hT.gw; have := hT.zw; omega
   go_wp2
   refine bodyPost_ret (results_cell_row rfl _ _ z 33 #[.slice (some ⟨x0, 0, none⟩) 6 c0, .slice (some ⟨x1, 0, none⟩) 6 c1, .slice (some ⟨x2, 0, none⟩) 6 c2] (0, 0) _ rfl hzz Tryz.underlying33 rfl (by kernel_rfl)) rfl ?_
   rw [← hz]
   have F := fun {x c : Nat} (h : R6 wr w.heap.size x c) => (h.st3 hT.hz (.slice (some ⟨x0, 0, none⟩) 6 c0) (.slice (some ⟨x1, 0, none⟩) 6 c1) (.slice (some ⟨x2, 0, none⟩) 6 c2) : R6 _ w.heap.size x c)
   rw [← hz] at F
   exact ⟨x0, x1, x2, c0, c1, c2, rfl, F hT.r0, F hT.r1, F hT.r2, n01, n21, IsS98.far (IsS98.far (IsS98.far hT.i (p := ⟨w.heap.size, 0, none⟩) (hz ▸ gz) _) (p := ⟨w.heap.size, 1, none⟩) (hz ▸ gz) _) (p := ⟨w.heap.size, 2, none⟩) (hz ▸ gz) _, below_set (below_set (below_set hT.b (hz ▸ hw)) (hz ▸ hw)) (hz ▸ hw), keep_m (keep_m (keep_m hT.k (Nat.le_refl _) _) (Nat.le_refl _) _) (Nat.le_refl _) _⟩
end Go.Proofs.YtjamfddhcigchaaGreatDoor.Dm
namespace Go.Proofs.YtjamfddhcigchaaGreatDoor.Da
open Go.RowKit  Go.Proofs.YtjamfddhcigchaaGreatDoor.Gz Go.Proofs.YtjamfddhcigchaaGreatDoor.Gq Go.Proofs.YtjamfddhcigchaaGreatDoor.Hx Go.Proofs.YtjamfddhcigchaaGreatDoor.Hy Go.Proofs.YtjamfddhcigchaaGreatDoor.HFnCodeRun Go.Proofs.YtjamfddhcigchaaGreatDoorW.PrintWords Go.Proofs.YtjamfddhcigchaaGreatDoorW.PrintLast Go.Proofs.YtjamfddhcigchaaGreatDoorW.PrintMore
set_option linter.unusedVariables false
set_option linter.unusedSimpArgs false
def Rd (W : World) (v : Value) : Prop := ∃ (l : List Int) (base : Nat), Kd.R (Kd.int .i64) 3 W base (fun _ => True) v l
theorem rd_of {W : World} {base : Nat} {ok : Nat → Prop} {v : Value} {l : List Int} (h : Kd.R (Kd.int .i64) 3 W base ok v l) : Rd W v := ⟨l, base, R_int_ok h (fun _ _ => trivial)⟩
theorem Rd.keep {w0 W W' : World} {g : Nat} {s : List Int} {q : Int} {v : Value} (h : Rd W v) (hI : IsS98 w0 W g s q) (k : KeepBut W W' g none) : Rd W' v := by
 obtain ⟨l, base, h⟩ := h
 have hne := IsS98.own_ne hI h (by decide)
 exact rd_of (Kd.R_keep (R_int_ok (ok' := fun k => k ≠ g) h (fun b hb e => hne (by rw [hb, e]))) k (fun _ e => e))
theorem Rd.below {W W' : World} {v : Value} (h : Rd W v) (k : Below W.heap.size W W') : Rd W' v := by
 obtain ⟨l, base, h⟩ := h
 exact ⟨l, base, Kd.R_below h k⟩
theorem Rd.far {W : World} {z i : Nat} {v : Value} {cs : Array Value} (h : Rd W v) (hz : W.heap[z]? = some (.cells cs 33 (0, 0))) (u : Value) : Rd (W.setCell ⟨z, i, none⟩ u) v := by
 obtain ⟨l, base, h⟩ := h
 have hne : ∀ b, v.ownBlock = some b → b ≠ z := fun b hb e => by
  obtain ⟨cells, hc⟩ := Kd.R_typed h b hb
  subst e
  rw [hz] at hc
  injection hc with hc
  injection hc with _ hc
  exact absurd hc (by decide)
 exact rd_of (Kd.R_far (p := ⟨z, i, none⟩) (R_int_ok (ok' := fun k => k ≠ z) h hne) (fun _ e => e) u)
theorem Rd.C {W : World} {v : Value} (h : Rd W v) : ∃ (l : List Int) (A : Option Addr) (c : Nat), v = .slice A l.length c ∧ l.length ≤ c ∧ Kd.C (Kd.int .i64) W A l.length l := by
 obtain ⟨l, base, h⟩ := h
 obtain ⟨A, c, e, hl, hC⟩ := Kd.R_reads h
 exact ⟨l, A, c, e, hl, hC⟩
theorem Rd.st3 {W : World} {z : Nat} {v : Value} {cs : Array Value} (h : Rd W v) (hz : W.heap[z]? = some (.cells cs 33 (0, 0))) (a b c : Value) : Rd (((W.setCell ⟨z, 0, none⟩ a).setCell ⟨z, 1, none⟩ b).setCell ⟨z, 2, none⟩ c) v :=
 ((h.far hz a).far (blk_put hz 0 a rfl) b).far (blk_put (blk_put hz 0 a rfl) 1 b rfl) c
theorem isS_st3 {w0 W : World} {g z : Nat} {s : List Int} {q : Int} (h : IsS98 w0 W g s q) (ne : g ≠ z) (a b c : Value) : IsS98 w0 (((W.setCell ⟨z, 0, none⟩ a).setCell ⟨z, 1, none⟩ b).setCell ⟨z, 2, none⟩ c) g s q := IsS98.far (IsS98.far (IsS98.far h ne a) ne b) ne c
theorem keep_st {w W : World} {g z i : Nat} (h : KeepBut w W g none) (hz : w.heap.size ≤ z) (a : Value) : KeepBut w (W.setCell ⟨z, i, none⟩ a) g none :=
 ⟨by simpa using h.1, fun k hk hg hr => (Below.heap_setCell W ⟨z, i, none⟩ a k (by show k ≠ z; omega)).trans (h.2 k hk hg hr)⟩
theorem keep_st3 {w W : World} {g z : Nat} (h : KeepBut w W g none) (hz : w.heap.size ≤ z) (a b c : Value) : KeepBut w (((W.setCell ⟨z, 0, none⟩ a).setCell ⟨z, 1, none⟩ b).setCell ⟨z, 2, none⟩ c) g none := keep_st (keep_st (keep_st h hz a) hz b) hz c
theorem Rd.own {W : World} {v : Value} (h : Rd W v) : v.ownBlock = none ∨ ∃ x n c, v = .slice (some ⟨x, 0, none⟩) n c := by
 obtain ⟨l, base, h⟩ := h
 obtain ⟨inner, ho⟩ := Kd.R_own h
 rcases ho.2 with ⟨e, _⟩ | ⟨x, cap, cur, e, _⟩
 ·rw [e]; exact .inl rfl
 ·exact .inr ⟨x, _, cap, e⟩
theorem Rd.seti {W : World} {v : Value} (h : Rd W v) (x : Nat) (n : Int) : Rd (W.setCell ⟨x, 0, none⟩ (.int .i64 n)) v := by
 have hown := h.own
 obtain ⟨l, base, h⟩ := h
 by_cases e : v.ownBlock = some x
 ·rcases hown with h0 | ⟨y, m, c, rfl⟩
  ·rw [h0] at e; cases e
  ·obtain rfl : y = x := by simpa [Value.ownBlock] using e
   have := Kd.R_putn h 0 n
   exact rd_of this
 ·exact rd_of (Kd.R_far (p := ⟨x, 0, none⟩) (R_int_ok (ok' := fun k => k ≠ x) h (fun b hb e2 => e (by rw [hb, e2]))) (fun _ e => e) (.int .i64 n))
theorem Rd.take2 {W : World} {A : Option Addr} {c : Nat} (h : Rd W (.slice A 6 c)) : 6 ≤ c ∧ Rd W (.slice A 2 c) := by
 obtain ⟨l, base, h⟩ := h
 obtain ⟨hn, hc, _⟩ := Kd.R_reads' h
 exact ⟨hc, ⟨_, base, Kd.R_take h (m := 2) (by omega)⟩⟩
theorem Rd.at0 {W : World} {A : Option Addr} {c : Nat} (h : Rd W (.slice A 6 c)) : ∃ x v, A = some ⟨x, 0, none⟩ ∧ W.cell? ⟨x, 0, none⟩ = some (.int .i64 v) ∧ W.frozen? ⟨x, 0, none⟩ = false ∧ ∃ cells, W.heap[x]? = some (.cells cells 3 (0, 0)) := by
 have hown := h.own
 obtain ⟨l, base, h⟩ := h
 rcases hown with h0 | ⟨x, m, c2, e⟩
 ·obtain ⟨hn, hc, hr⟩ := Kd.R_reads' h
  obtain ⟨ad, rfl, _⟩ := Kd.at_int hr 0 (by omega) (by omega)
  cases h0
 ·injection e with e1 e2 e3
  subst e1
  obtain ⟨a, b⟩ := Kd.R_celln 0 h (0 : Int) (by omega) (by omega)
  exact ⟨x, _, rfl, a, b, Kd.R_typed h x rfl⟩
set_option maxRecDepth 100000 in
set_option maxHeartbeats 6400000 in
theorem bent_all (g : Nat) (s : List Int) (q : Int) (w0 w : World) (hI : IsS98 w0 w g s q) (hB : Below w0.heap.size w0 w) (hs : Byt s) (h0q : 0 ≤ q) (h1q : q ≤ 900000) (K : Nat) (v : Int) (hp : spec_l12Rd_pick.f K s (q + 12) 30 = some (v, q + 12 + 1)) :
  Calls Tryz.prog 34 #[.pointer (some ⟨g, 0, none⟩)] w fun e w' => ∃ v0 v1 v2, e = .returned (.agg #[v0, v1, v2]) ∧ Rd w' v0 ∧ Rd w' v1 ∧ Rd w' v2 ∧ IsS98 w0 w' g s (q + 12 + 1) ∧ Below w0.heap.size w0 w' ∧ KeepBut w w' g none := by
 have hu33 := Tryz.underlying33
 have hu31 := Tryz.underlying31
 have hg := IsS98.lt hI
 have sw := hB.size
 have kz := KeepBut.of_below (below_alloc (Below.refl w.heap.size w) (.cells #[.slice none 0 0, .slice none 0 0, .slice none 0 0] 33)) g none
 have bz := heap_alloc_new w (.cells #[.slice none 0 0, .slice none 0 0, .slice none 0 0] 33)
 have cm := Dm.l2Mem_any g s q w0 _ (hI.alloc (.cells #[.slice none 0 0, .slice none 0 0, .slice none 0 0] 33)) (below_alloc hB _) hs h0q h1q
 have hp' := Aside0.mk hp
 clear hp
 go_enter Tryz.func34, Tryz.ntmps34
 go_wp2_with fail
 refine cm.mono ?_
 rintro e w1 ⟨x0, x1, x2, c0, c1, c2, rfl, r0, r1, r2, n01, n21, i1, b1, k1⟩
 clear cm
 generalize w.alloc _ = wz at kz bz k1 r0 r1 r2
 have szz : w.heap.size < wz.heap.size := blk_lt bz
 have bz1 := k1.blk bz (by omega) (by simp)
 have kk := kz.trans k1 (.inl rfl)
 have e0 : ∀ k, (Value.slice (some ⟨x0, 0, none⟩) 6 c0).ownBlock = some k → some k ≠ (Value.slice (some ⟨x1, 0, none⟩) 6 c1).ownBlock := fun k hk e => n01 (by rw [← hk] at e; simpa [Value.ownBlock] using e)
 have e2 : ∀ k, (Value.slice (some ⟨x2, 0, none⟩) 6 c2).ownBlock = some k → some k ≠ (Value.slice (some ⟨x1, 0, none⟩) 6 c1).ownBlock := fun k hk e => n21 (by rw [← hk] at e; simpa [Value.ownBlock] using e)
 have eb : ∀ k, (Value.slice (some ⟨x1, 0, none⟩) 6 c1).ownBlock = some k → wz.heap.size ≤ k := fun k hk => by obtain ⟨l, h⟩ := r1; exact Kd.R_base h k hk
 have m2b : ∀ k, (Value.slice (some ⟨x2, 0, none⟩) 6 c2).ownBlock = some k → wz.heap.size ≤ k := fun k hk => by obtain ⟨l, h⟩ := r2; exact Kd.R_base h k hk
 have m0 : Rd w1 (.slice (some ⟨x0, 0, none⟩) 6 c0) := by obtain ⟨l, h⟩ := r0; exact rd_of h
 have m1 : Rd w1 (.slice (some ⟨x1, 0, none⟩) 6 c1) := by obtain ⟨l, h⟩ := r1; exact rd_of h
 have m2 : Rd w1 (.slice (some ⟨x2, 0, none⟩) 6 c2) := by obtain ⟨l, h⟩ := r2; exact rd_of h
 clear r0 r1 r2 kz bz n01 n21
 generalize (some (⟨x0, 0, none⟩ : Addr)) = A0 at *
 generalize (some (⟨x1, 0, none⟩ : Addr)) = A1 at *
 generalize (some (⟨x2, 0, none⟩ : Addr)) = A2 at *
 have s1 := k1.1
 go_upto_region 2 with (fail)
 have kb := Below.refl w1.heap.size w1 |> fun x => below_alloc x (.cells #[.slice A0 6 c0, .slice A1 6 c1, .slice A2 6 c2] 33)
 have b3 := heap_alloc_new w1 (.cells #[.slice A0 6 c0, .slice A1 6 c1, .slice A2 6 c2] 33)
 replace bz1 := blk_below bz1 kb
 replace i1 := i1.below kb
 replace b1 := b1.trans (kb.mono b1.size)
 replace m0 := m0.below kb
 replace m1 := m1.below kb
 replace m2 := m2.below kb
 replace kk := kk.trans (KeepBut.of_below kb g none) (.inl rfl)
 obtain ⟨z, hz⟩ : ∃ z, w.heap.size = z := ⟨_, rfl⟩
 obtain ⟨z3, hz3⟩ : ∃ z, w1.heap.size = z := ⟨_, rfl⟩
 rw [hz] at bz1 ⊢
 rw [hz3] at b3 ⊢
 have z3g : z ≠ z3 ∧ g ≠ z3 ∧ g ≠ z ∧ w0.heap.size ≤ z ∧ w0.heap.size ≤ z3 := by have := i1.lt; omega
 clear kb k1
 generalize w1.alloc (Obj.cells _ 33) = w2 at b3 bz1 i1 b1 m0 m1 m2 kk ⊢
 go_wp2_with fail
 refine (spec_l12Rd_pick.calls K g s (q + 12) 30 v (q + 12 + 1) w0 w2 i1 b1 hp'.out).mono ?_
 rintro e w3 ⟨rfl, i3, b_3, k3⟩
 replace b3 := k3.blk b3 (Ne.symm z3g.2.1) (by simp)
 replace bz1 := k3.blk bz1 (Ne.symm z3g.2.2.1) (by simp)
 replace m0 := m0.keep i1 k3
 replace m1 := m1.keep i1 k3
 replace m2 := m2.keep i1 k3
 have kk3 := kk.trans k3 (.inl rfl)
 clear i1 b1 kk k3
 by_cases h0 : v = 0
 ·have d0 : (v == 0) = true := by simpa using h0
  clear h0
  obtain ⟨hc6, m0'⟩ := m0.take2
  have hc2 : 2 ≤ c0 := by omega
  have i0 : w3.cell? ⟨z3, 0, none⟩ = some (.slice A0 6 c0) := (blk_cell b3 0).trans rfl
  have j0 := blk_frozen b3 0
  go_upto_region 9 with (fail)
  clear i0 j0 m0 hc6 hc2
  replace m0 := m0'.far (i := 0) b3 (.slice A0 2 c0)
  replace m1 := m1.far (i := 0) b3 (.slice A0 2 c0)
  replace m2 := m2.far (i := 0) b3 (.slice A0 2 c0)
  have i3_ := IsS98.far (p := ⟨z3, 0, none⟩) i3 z3g.2.1 (.slice A0 2 c0)
  replace bz1 := blk_far (p := ⟨z3, 0, none⟩) bz1 z3g.1 (.slice A0 2 c0)
  replace b_3 := below_set (j := 0) (v := .slice A0 2 c0) b_3 z3g.2.2.2.2
  replace kk3 := keep_st (i := 0) kk3 (show w.heap.size ≤ z3 by omega) (.slice A0 2 c0)
  replace b3 := blk_put b3 0 (.slice A0 2 c0) rfl
  clear m0' i3
  generalize w3.setCell _ _ = wf at m0 m1 m2 i3_ bz1 b_3 kk3 b3 ⊢
  have i0 : wf.cell? ⟨z3, 0, none⟩ = some (.slice A0 2 c0) := (blk_cell b3 0).trans rfl
  have i1 : wf.cell? ⟨z3, 1, none⟩ = some (.slice A1 6 c1) := (blk_cell b3 1).trans rfl
  have i2 : wf.cell? ⟨z3, 2, none⟩ = some (.slice A2 6 c2) := (blk_cell b3 2).trans rfl
  have y0 : wf.cell? ⟨z, 0, none⟩ = some (.slice none 0 0) := (blk_cell bz1 0).trans rfl
  have y1 : wf.cell? ⟨z, 1, none⟩ = some (.slice none 0 0) := (blk_cell bz1 1).trans rfl
  have y2 : wf.cell? ⟨z, 2, none⟩ = some (.slice none 0 0) := (blk_cell bz1 2).trans rfl
  have j0 : wf.frozen? ⟨z, 0, none⟩ = false := blk_frozen bz1 0
  have j1 : wf.frozen? ⟨z, 1, none⟩ = false := blk_frozen bz1 1
  have j2 : wf.frozen? ⟨z, 2, none⟩ = false := blk_frozen bz1 2
  have hzz := res_store bz1 (.slice A0 2 c0) (.slice A1 6 c1) (.slice A2 6 c2)
  go_wp2
  refine bodyPost_ret (results_cell_row rfl _ _ z 33 #[.slice A0 2 c0, .slice A1 6 c1, .slice A2 6 c2] (0, 0) _ rfl hzz Tryz.underlying33 rfl (by kernel_rfl)) rfl ⟨_, _, _, rfl, Rd.st3 m0 bz1 _ _ _, Rd.st3 m1 bz1 _ _ _, Rd.st3 m2 bz1 _ _ _, isS_st3 i3_ z3g.2.2.1 _ _ _, below_set (below_set (below_set b_3 z3g.2.2.2.1) z3g.2.2.2.1) z3g.2.2.2.1, keep_st3 kk3 (by omega) _ _ _⟩
 by_cases h0' : v = 1
 ·have d0 : (v == 0) = false := by simp; omega
  have d1 : (v == 1) = true := by simpa using h0'
  clear h0 h0'
  obtain ⟨x, u, rfl, x0, f0, cells, xt⟩ := m2.at0
  have i2 : w3.cell? ⟨z3, 2, none⟩ = some (.slice (some ⟨x, 0, none⟩) 6 c2) := (blk_cell b3 2).trans rfl
  go_upto_region 9 with (fail)
  have ne := fun {b : Nat} {cs : Array Value} {t : TypeId} (hb : w3.heap[b]? = some (.cells cs t (0, 0))) (ht : t ≠ 3) => (fun e => by subst e; rw [xt] at hb; injection hb with hb; injection hb with _ hb; exact ht hb.symm : b ≠ x)
  have bx : w.heap.size ≤ x := by have h := m2b x (by simp [Value.ownBlock]); omega
  have gx : g ≠ x := IsS98.ne_blk i3 xt (by decide)
  have z3x := ne b3 (by decide)
  have zx := ne bz1 (by decide)
  clear i2 x0 f0 xt ne
  replace m0 := m0.seti x 1000001
  replace m1 := m1.seti x 1000001
  replace m2 := m2.seti x 1000001
  have i3_ := IsS98.far (p := ⟨x, 0, none⟩) i3 gx (.int .i64 1000001)
  replace bz1 := blk_far (p := ⟨x, 0, none⟩) bz1 zx (.int .i64 1000001)
  replace b3 := blk_far (p := ⟨x, 0, none⟩) b3 z3x (.int .i64 1000001)
  replace b_3 := below_set (j := 0) (v := .int .i64 1000001) b_3 (show w0.heap.size ≤ x by omega)
  replace kk3 := keep_st (i := 0) kk3 bx (.int .i64 1000001)
  clear i3
  generalize w3.setCell _ _ = wf at m0 m1 m2 i3_ bz1 b_3 kk3 b3 ⊢
  have i0 : wf.cell? ⟨z3, 0, none⟩ = some (.slice A0 6 c0) := (blk_cell b3 0).trans rfl
  have i1 : wf.cell? ⟨z3, 1, none⟩ = some (.slice A1 6 c1) := (blk_cell b3 1).trans rfl
  have i2 : wf.cell? ⟨z3, 2, none⟩ = some (.slice (some ⟨x, 0, none⟩) 6 c2) := (blk_cell b3 2).trans rfl
  have y0 : wf.cell? ⟨z, 0, none⟩ = some (.slice none 0 0) := (blk_cell bz1 0).trans rfl
  have y1 : wf.cell? ⟨z, 1, none⟩ = some (.slice none 0 0) := (blk_cell bz1 1).trans rfl
  have y2 : wf.cell? ⟨z, 2, none⟩ = some (.slice none 0 0) := (blk_cell bz1 2).trans rfl
  have j0 : wf.frozen? ⟨z, 0, none⟩ = false := blk_frozen bz1 0
  have j1 : wf.frozen? ⟨z, 1, none⟩ = false := blk_frozen bz1 1
  have j2 : wf.frozen? ⟨z, 2, none⟩ = false := blk_frozen bz1 2
  have hzz := res_store bz1 (.slice A0 6 c0) (.slice A1 6 c1) (.slice (some ⟨x, 0, none⟩) 6 c2)
  go_wp2
  refine bodyPost_ret (results_cell_row rfl _ _ z 33 #[.slice A0 6 c0, .slice A1 6 c1, .slice (some ⟨x, 0, none⟩) 6 c2] (0, 0) _ rfl hzz Tryz.underlying33 rfl (by kernel_rfl)) rfl ⟨_, _, _, rfl, Rd.st3 m0 bz1 _ _ _, Rd.st3 m1 bz1 _ _ _, Rd.st3 m2 bz1 _ _ _, isS_st3 i3_ z3g.2.2.1 _ _ _, below_set (below_set (below_set b_3 z3g.2.2.2.1) z3g.2.2.2.1) z3g.2.2.2.1, keep_st3 kk3 (by omega) _ _ _⟩
 by_cases h1' : v = 2
 ·have d0 : (v == 0) = false := by simp; omega
  have d1 : (v == 1) = false := by simp; omega
  have d2 : (v == 2) = true := by simpa using h1'
  clear h0 h0' h1'
  have i1 : w3.cell? ⟨z3, 1, none⟩ = some (.slice A1 6 c1) := (blk_cell b3 1).trans rfl
  have j1 := blk_frozen b3 1
  have i3_ := Aside0.mk i3
  obtain ⟨l1, bs, hR⟩ := m1
  have hn := (Kd.R_reads' hR).1
  have hR' := Aside0.mk (Kd.R_lower hR (Nat.zero_le bs))
  have m0' := Aside0.mk m0
  have m2' := Aside0.mk m2
  have b3' := Aside0.mk b3
  have bz' := Aside0.mk bz1
  have b3_ := Aside0.mk b_3
  have kk' := Aside0.mk kk3
  have e0' := Aside0.mk e0
  have e2' := Aside0.mk e2
  have eb' := Aside0.mk eb
  have zz' := Aside0.mk z3g
  have sz' : Aside0 (w.heap.size ≤ wz.heap.size ∧ w.heap.size ≤ z3 ∧ w0.heap.size ≤ wz.heap.size) := ⟨by omega⟩
  have hzz' : Aside0 (w.heap.size ≤ z) := ⟨by omega⟩
  have hn' := Aside0.mk hn
  clear hR m0 m2 b3 bz1 b_3 kk3 e0 e2 eb z3g i3 hn szz s1 hz hz3 sw hg hI hB
  have ne3 : Aside0 (some z3 ≠ (Value.slice A1 6 c1).ownBlock) := ⟨Kd.N_ne (Kd.R_N hR'.out) b3'.out (by decide)⟩
  have nez : Aside0 (some z ≠ (Value.slice A1 6 c1).ownBlock) := ⟨Kd.N_ne (Kd.R_N hR'.out) bz'.out (by decide)⟩
  go_upto_region 9 with ((with_reducible refine gate_builtin (b := .append) (xs := #[.tmp 22, .tmp 23]) rfl ?_); at_builtin; refine Kd.R_append (Kd.int .i64) 0 rfl (.tmp 22) (.tmp 23) 31 3 (.int .i64 0) 8 rfl Tryz.underlying31 Gz.info3 rfl (by decide) (by omega) (.slice A1 6 c1) l1 0 [.int .i64 0] (fun _ => True) (fun _ => False) rfl rfl ?aP (fun _ hk => hk.elim) (fun _ _ => trivial) ?aO (Below.refl _ _) (Nat.zero_le _) ?aL ?_; (case aP => exact rfl); (case aO => exact hR'.out); (case aL => have := hn'.out; omega); intro v1 w4 ho hb hg hat; obtain ⟨A4, c4, rfl⟩ := Kd.R_slice ho; have b4 := blk_grown b3'.out hg ne3.out; have i1 : w4.cell? ⟨z3, 1, none⟩ = some (.slice A1 6 c1) := (blk_cell b4 1).trans rfl; have j1 := blk_frozen b4 1)
  clear i1 j1
  have bz1 := blk_grown bz'.out hg nez.out
  have i3 := IsS98.grown i3_.out hg (IsS98.own_ne i3_.out hR'.out (by decide))
  have hz := hzz'.out
  have m1 : Rd w4 (.slice A4 (l1.length + 1) c4) := by have h := rd_of ho; rwa [List.length_append] at h
  have m0 : Rd w4 (.slice A0 6 c0) := by
   obtain ⟨l, bs, h⟩ := m0'.out
   exact rd_of (Kd.R_grown2 h rfl hg (fun k hk hk2 => e0'.out k hk2.symm hk.symm))
  have m2 : Rd w4 (.slice A2 6 c2) := by
   obtain ⟨l, bs, h⟩ := m2'.out
   exact rd_of (Kd.R_grown2 h rfl hg (fun k hk hk2 => e2'.out k hk2.symm hk.symm))
  have z3g := zz'.out
  have sz := sz'.out
  have kk3 := kk'.out.trans (KeepBut.of_grown hg g) (by
   rcases A1 with _ | ⟨x, _, _⟩
   ·exact .inl rfl
   ·exact .inr ⟨x, rfl, Nat.le_trans sz.1 (eb'.out x rfl)⟩)
  have sl := b3_.out.size
  have b_3 := pw_below_grown b3_.out _ sl hg (fun k hk => by have h := eb'.out k hk; omega)
  replace m0 := m0.far (i := 1) b4 (.slice A4 (l1.length + 1) c4)
  replace m1 := m1.far (i := 1) b4 (.slice A4 (l1.length + 1) c4)
  replace m2 := m2.far (i := 1) b4 (.slice A4 (l1.length + 1) c4)
  have i3_ := IsS98.far (p := ⟨z3, 1, none⟩) i3 z3g.2.1 (.slice A4 (l1.length + 1) c4)
  replace bz1 := blk_far (p := ⟨z3, 1, none⟩) bz1 z3g.1 (.slice A4 (l1.length + 1) c4)
  replace b_3 := below_set (j := 1) (v := .slice A4 (l1.length + 1) c4) b_3 z3g.2.2.2.2
  replace kk3 := keep_st (i := 1) kk3 (show w.heap.size ≤ z3 by omega) (.slice A4 (l1.length + 1) c4)
  have b3 := blk_put b4 1 (.slice A4 (l1.length + 1) c4) rfl
  clear i3 b4 b3'
  generalize w4.setCell _ _ = wf at m0 m1 m2 i3_ bz1 b_3 kk3 b3 ⊢
  have i0 : wf.cell? ⟨z3, 0, none⟩ = some (.slice A0 6 c0) := (blk_cell b3 0).trans rfl
  have i1 : wf.cell? ⟨z3, 1, none⟩ = some (.slice A4 (l1.length + 1) c4) := (blk_cell b3 1).trans rfl
  have i2 : wf.cell? ⟨z3, 2, none⟩ = some (.slice A2 6 c2) := (blk_cell b3 2).trans rfl
  have y0 : wf.cell? ⟨z, 0, none⟩ = some (.slice none 0 0) := (blk_cell bz1 0).trans rfl
  have y1 : wf.cell? ⟨z, 1, none⟩ = some (.slice none 0 0) := (blk_cell bz1 1).trans rfl
  have y2 : wf.cell? ⟨z, 2, none⟩ = some (.slice none 0 0) := (blk_cell bz1 2).trans rfl
  have j0 : wf.frozen? ⟨z, 0, none⟩ = false := blk_frozen bz1 0
  have j1 : wf.frozen? ⟨z, 1, none⟩ = false := blk_frozen bz1 1
  have j2 : wf.frozen? ⟨z, 2, none⟩ = false := blk_frozen bz1 2
  have hzz := res_store bz1 (.slice A0 6 c0) (.slice A4 (l1.length + 1) c4) (.slice A2 6 c2)
  go_wp2
  refine bodyPost_ret (results_cell_row rfl _ _ z 33 #[.slice A0 6 c0, .slice A4 (l1.length + 1) c4, .slice A2 6 c2] (0, 0) _ rfl hzz Tryz.underlying33 rfl (by kernel_rfl)) rfl ⟨_, _, _, rfl, Rd.st3 m0 bz1 _ _ _, Rd.st3 m1 bz1 _ _ _, Rd.st3 m2 bz1 _ _ _, isS_st3 i3_ z3g.2.2.1 _ _ _, below_set (below_set (below_set b_3 z3g.2.2.2.1) z3g.2.2.2.1) z3g.2.2.2.1, keep_st3 kk3 (by omega) _ _ _⟩
 have d0 : (v == 0) = false := by simp; omega
 have d1 : (v == 1) = false := by simp; omega
 have d2 : (v == 2) = false := by simp; omega
 go_upto_region 9 with (fail)
 have i3_ := i3
 clear i3
 have i0 : w3.cell? ⟨z3, 0, none⟩ = some (.slice A0 6 c0) := (blk_cell b3 0).trans rfl
 have i1 : w3.cell? ⟨z3, 1, none⟩ = some (.slice A1 6 c1) := (blk_cell b3 1).trans rfl
 have i2 : w3.cell? ⟨z3, 2, none⟩ = some (.slice A2 6 c2) := (blk_cell b3 2).trans rfl
 have y0 : w3.cell? ⟨z, 0, none⟩ = some (.slice none 0 0) := (blk_cell bz1 0).trans rfl
 have y1 : w3.cell? ⟨z, 1, none⟩ = some (.slice none 0 0) := (blk_cell bz1 1).trans rfl
 have y2 : w3.cell? ⟨z, 2, none⟩ = some (.slice none 0 0) := (blk_cell bz1 2).trans rfl
 have j0 : w3.frozen? ⟨z, 0, none⟩ = false := blk_frozen bz1 0
 have j1 : w3.frozen? ⟨z, 1, none⟩ = false := blk_frozen bz1 1
 have j2 : w3.frozen? ⟨z, 2, none⟩ = false := blk_frozen bz1 2
 have hzz := res_store bz1 (.slice A0 6 c0) (.slice A1 6 c1) (.slice A2 6 c2)
 go_wp2
 refine bodyPost_ret (results_cell_row rfl _ _ z 33 #[.slice A0 6 c0, .slice A1 6 c1, .slice A2 6 c2] (0, 0) _ rfl hzz Tryz.underlying33 rfl (by kernel_rfl)) rfl ⟨_, _, _, rfl, Rd.st3 m0 bz1 _ _ _, Rd.st3 m1 bz1 _ _ _, Rd.st3 m2 bz1 _ _ _, isS_st3 i3_ z3g.2.2.1 _ _ _, below_set (below_set (below_set b_3 z3g.2.2.2.1) z3g.2.2.2.1) z3g.2.2.2.1, keep_st3 kk3 (by omega) _ _ _⟩
theorem bent_any (g : Nat) (s : List Int) (q : Int) (w0 w : World) (hI : IsS98 w0 w g s q) (hB : Below w0.heap.size w0 w) (hs : Byt s) (h0 : 0 ≤ q) (h1 : q ≤ 900000) :
  Calls Tryz.prog 34 #[.pointer (some ⟨g, 0, none⟩)] w fun e w' => ∃ v0 v1 v2, e = .returned (.agg #[v0, v1, v2]) ∧ Rd w' v0 ∧ Rd w' v1 ∧ Rd w' v2 ∧ IsS98 w0 w' g s (q + 12 + 1) ∧ Below w0.heap.size w0 w' ∧ KeepBut w w' g none := by
 obtain ⟨v, hv, _⟩ := pick_some hs 15 (q + 12) 30 (by omega) (by omega)
 exact bent_all g s q w0 w hI hB hs h0 (by omega) 16 v hv
theorem results_dr {P : Program} {fn : Func} {p u v : Tmp} {ty : TypeId} (h : fn.results = #[.cell p ty, .tmp u, .tmp v]) (tmps : Array Value) (w : World) (g : Nat) (t : TypeId) (cs : Array Value) (fr : Nat × Nat) (d : TypeDesc)
  (hp : tmps.getD p undef = .pointer (some ⟨g, 0, none⟩)) (hg : w.heap[g]? = some (.cells cs t fr))
  (hu : P.underlying ty = some d) (hd : (match d with | .struct _ | .array _ _ => true | _ => false) = true) (hi : (P.info? ty).map (·.size) = some cs.size) :
  (results fn tmps).run P w = .ok (.tuple #[.agg cs, tmps.getD u undef, tmps.getD v undef]) w := by
 have hp' : tmps[p]?.getD undef = .pointer (some ⟨g, 0, none⟩) := by simpa using hp
 simp [results, h, hp', asAddr, run_loadVar_row w g t ty cs fr d hg hu hd hi]
def fuels : List Int := [100, 100, 5, 0, 1, 101, -1]
set_option maxRecDepth 100000 in
set_option maxHeartbeats 6400000 in
theorem drawRun_any (A0 : Option Addr) (c0 : Nat) (l0 : List Int) (w : World) (hr0 : Kd.C (Kd.int .u8) w A0 l0.length l0) (hc0 : l0.length ≤ c0) (hby : Byt l0) :
  Calls Tryz.prog 11 #[.slice A0 l0.length c0] w fun e w' => ∃ u0 u1 u2 u3 pp ff, e = .returned (.tuple #[.agg #[u0, u1, u2], u3, .int .i64 ff]) ∧ Rd w' u0 ∧ Rd w' u1 ∧ Rd w' u2 ∧ Kd.R k30 30 w' w.heap.size (fun _ => True) u3 pp ∧ pp.length ≤ 1300 ∧ ff ∈ fuels ∧ Below w.heap.size w w' := by
 have hu33 := Tryz.underlying33
 obtain ⟨l1, ho, hb1⟩ := open_some hby
 have kz := below_alloc (Below.refl w.heap.size w) (.cells #[.slice none 0 0, .slice none 0 0, .slice none 0 0] 33)
 have bz := heap_alloc_new w (.cells #[.slice none 0 0, .slice none 0 0, .slice none 0 0] 33)
 have co := spec_l12Open.calls A0 c0 l0 l1 0 w _ kz hr0 hc0 ho
 clear hr0 hc0 ho
 go_enter Tryz.func11, Tryz.ntmps11
 go_wp2_with fail
 refine co.mono ?_
 rintro e w1 ⟨g, rfl, s1, b1, bb⟩
 clear co
 have gne : g ≠ w.heap.size := fun e => by
  have h := blk_below bz bb
  exact IsS98.ne_blk s1 h (by decide) e
 replace bz := blk_below bz bb
 clear kz bb
 generalize w.alloc _ = wz at *
 go_wp2_with fail
 refine (Lc.l5Code_any g l1 w w1 s1 b1 hb1).mono ?_
 rintro e w2 ⟨A3, n3, x3, q, rfl, pl, q0, q1, ⟨ps, r3⟩, i2, b2, k2, -⟩
 obtain rfl := (Kd.R_reads' r3).1
 have pl := Aside0.mk pl
 obtain ⟨ff, hf, hff⟩ := num_some hb1 10 (q + 12 + 1) fuels (by decide) (by omega) (by omega)
 have hf' := Aside0.mk hf
 clear hf
 replace bz := k2.blk bz (Ne.symm gne) (by simp)
 have r3 := Kd.R_lower r3 b1.size
 clear s1 b1 k2
 go_wp2_with fail
 refine (bent_any g l1 q w w2 i2 b2 hb1 q0 (by omega)).mono ?_
 rintro e w3 ⟨u0, u1, u2, rfl, m0, m1, m2, i3, b3, k3⟩
 have r3 := Kd.R_keep r3 k3 (fun _ e => e)
 replace bz := k3.blk bz (Ne.symm gne) (by simp)
 clear i2 b2 k3
 obtain ⟨L0, B0, x0, rfl, -, -⟩ := m0.C
 obtain ⟨L1, B1, x1, rfl, -, -⟩ := m1.C
 obtain ⟨L2, B2, x2, rfl, -, -⟩ := m2.C
 obtain ⟨z, hz⟩ : ∃ z, w.heap.size = z := ⟨_, rfl⟩
 have hz' : Aside0 (w.heap.size ≤ z) := ⟨by omega⟩
 rw [hz] at bz gne
 go_wp2_with fail
 have ka := below_alloc (Below.refl w3.heap.size w3) (.cells #[.int .i64 100, .int .i64 100, .int .i64 5, .int .i64 0, .int .i64 1, .int .i64 101, .int .i64 (-1)] 3)
 have ba := heap_alloc_new w3 (.cells #[.int .i64 100, .int .i64 100, .int .i64 5, .int .i64 0, .int .i64 1, .int .i64 101, .int .i64 (-1)] 3)
 have gx : w3.heap.size ≠ g := by have := i3.lt; omega
 replace m0 := m0.below ka
 replace m1 := m1.below ka
 replace m2 := m2.below ka
 replace r3 := Kd.R_below r3 ka
 replace i3 := i3.below ka
 replace bz := blk_below bz ka
 replace b3 := b3.trans (ka.mono b3.size)
 generalize w3.alloc _ = w4 at m0 m1 m2 r3 i3 bz b3 ba ⊢
 generalize w3.heap.size = y at ba gx ⊢
 have hC : Kd.C (Kd.int .i64) w4 (some ⟨y, 0, none⟩) fuels.length fuels := C_of_cells (by decide) (fun i hi => by
  rw [Nat.zero_add, blk_cell ba]
  match i, hi with
  | 0, _ => rfl
  | 1, _ => rfl
  | 2, _ => rfl
  | 3, _ => rfl
  | 4, _ => rfl
  | 5, _ => rfl
  | 6, _ => rfl)
 refine (spec_l12Rd_num.calls _ g l1 _ (some ⟨y, 0, none⟩) 7 fuels ff _ w w4 i3 b3 hC (by decide) (fun ad e _ => by cases e; exact gx) hf'.out).mono ?_
 rintro e w5 ⟨rfl, i5, b5, k5⟩
 replace bz := k5.blk bz (Ne.symm gne) (by simp)
 replace m0 := m0.keep i3 k5
 replace m1 := m1.keep i3 k5
 replace m2 := m2.keep i3 k5
 replace r3 := Kd.R_keep (Kd.R_mono (ok' := fun k => k ≠ g) r3 (fun _ e => e)) k5 (fun _ e => e)
 clear i3 b3 k5 ba hC gx
 have y0 : w5.cell? ⟨z, 0, none⟩ = some (.slice none 0 0) := (blk_cell bz 0).trans rfl
 have y1 : w5.cell? ⟨z, 1, none⟩ = some (.slice none 0 0) := (blk_cell bz 1).trans rfl
 have y2 : w5.cell? ⟨z, 2, none⟩ = some (.slice none 0 0) := (blk_cell bz 2).trans rfl
 have j0 : w5.frozen? ⟨z, 0, none⟩ = false := blk_frozen bz 0
 have j1 : w5.frozen? ⟨z, 1, none⟩ = false := blk_frozen bz 1
 have j2 : w5.frozen? ⟨z, 2, none⟩ = false := blk_frozen bz 2
 have hzz := res_store bz (.slice B0 L0.length x0) (.slice B1 L1.length x1) (.slice B2 L2.length x2)
 have r4 : Kd.R k30 30 w5 w.heap.size (fun k => k ≠ z) (.slice A3 ps.length x3) ps := Kd.R_mono (Kd.R_types r3 bz (by decide)) (fun k hk => hk.2)
 have r5 := Kd.R_far (p := ⟨z, 2, none⟩) (Kd.R_far (p := ⟨z, 1, none⟩) (Kd.R_far (p := ⟨z, 0, none⟩) r4 (fun _ e => e) (.slice B0 L0.length x0)) (fun _ e => e) (.slice B1 L1.length x1)) (fun _ e => e) (.slice B2 L2.length x2)
 have q := hz'.out
 go_wp2
 refine bodyPost_ret (results_dr rfl _ _ z 33 #[.slice B0 L0.length x0, .slice B1 L1.length x1, .slice B2 L2.length x2] (0, 0) _ rfl hzz Tryz.underlying33 rfl (by kernel_rfl)) rfl ⟨_, _, _, _, _, _, rfl, Rd.st3 m0 bz _ _ _, Rd.st3 m1 bz _ _ _, Rd.st3 m2 bz _ _ _, Kd.R_mono r5 (fun _ _ => trivial), pl.out, hff, below_set (below_set (below_set b5 q) q) q⟩
end Go.Proofs.YtjamfddhcigchaaGreatDoor.Da
