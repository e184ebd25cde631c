/- The law FnMem returns true for every code: a store changes exactly one place. No condition. -/
import Derived.Test.YtlgogdpnakbhiaaTFnMemHFnMemx8
namespace Go.Proofs.Ytlgogdpnakbhiaa.Pure
open Go.RowKit Go.Proofs.Ytlgogdpnakbhiaa.HFnMem Go.Proofs.YtlgogdpnakbhiaaW.PrintWords Go.Proofs.YtlgogdpnakbhiaaW.PrintLast
set_option linter.unusedVariables false
set_option linter.unusedSimpArgs false
theorem wrap_id {x : Int} (h1 : -9223372036854775808 ≤ x) (h2 : x ≤ 9223372036854775807) : wrap64 x = x := by
  unfold wrap64; omega
theorem xor_i64_nat (a b : Nat) (ha : a < 9223372036854775808) (hb : b < 9223372036854775808) :
    Go.bits .xor .i64 (a : Int) (b : Int) = ((a ^^^ b : Nat) : Int) := by
  have hx : a ^^^ b < 2 ^ 63 := Nat.xor_lt_two_pow (by omega) (by omega)
  have h1 : (BitVec.ofInt 64 (a : Int)).toNat = a := by
    rw [BitVec.ofInt_natCast, BitVec.toNat_ofNat]; exact Nat.mod_eq_of_lt (by omega)
  have h2 : (BitVec.ofInt 64 (b : Int)).toNat = b := by
    rw [BitVec.ofInt_natCast, BitVec.toNat_ofNat]; exact Nat.mod_eq_of_lt (by omega)
  show IntKind.i64.wrap ((BitVec.ofInt 64 (a : Int) ^^^ BitVec.ofInt 64 (b : Int)).toNat : Int) = _
  rw [BitVec.toNat_xor, h1, h2, IntKind.wrap_i64]
  omega
theorem xor_i64_nonneg (x y : Int) (hx : 0 ≤ x) (hx' : x < 9223372036854775808) (hy : 0 ≤ y) (hy' : y < 9223372036854775808) :
    0 ≤ Go.bits .xor .i64 x y := by
  obtain ⟨a, rfl⟩ := Int.eq_ofNat_of_zero_le hx
  obtain ⟨b, rfl⟩ := Int.eq_ofNat_of_zero_le hy
  rw [xor_i64_nat a b (by omega) (by omega)]
  exact Int.natCast_nonneg _
def Byt (l : List Int) : Prop := ∀ x ∈ l, 0 ≤ x ∧ x ≤ 255
theorem rd_byt {l : List Int} (h : Byt l) (i : Int) : 0 ≤ rd l i ∧ rd l i ≤ 255 := by
  unfold rd
  by_cases hi : i.toNat < l.length
  · rw [List.getD_eq_getElem?_getD, List.getElem?_eq_getElem hi]; exact h _ (List.getElem_mem hi)
  · rw [List.getD_eq_getElem?_getD, List.getElem?_eq_none (by omega)]; simp
theorem tmod_bd {a b : Int} (ha : 0 ≤ a) (hb : 0 < b) : 0 ≤ Int.tmod a b ∧ Int.tmod a b < b := by
  rw [Int.tmod_eq_emod_of_nonneg ha]
  exact ⟨Int.emod_nonneg _ (by omega), Int.emod_lt_of_pos _ hb⟩
theorem tdiv_bd {a b : Int} (ha : 0 ≤ a) (hb : 0 < b) : 0 ≤ Int.tdiv a b ∧ Int.tdiv a b ≤ a := by
  rw [Int.tdiv_eq_ediv_of_nonneg ha]
  exact ⟨Int.ediv_nonneg ha (by omega), Int.ediv_le_self _ ha⟩
/-- What one pick gives: a number from 0 on, below n where n is at least 1; the place goes one on. -/
theorem pick_some {l : List Int} (h : Byt l) (k : Nat) (p n : Int) (hp : 0 ≤ p) (hp' : p ≤ 1000000000000) :
    ∃ r, spec_l12Rd_pick.f (k + 1) l p n = some (r, p + 1) ∧ 0 ≤ r ∧ (r < n ∨ (n < 1 ∧ r = 0)) := by
  have hw : wrap64 (p + 1) = p + 1 := wrap_id (by omega) (by omega)
  have hw2 : wrap64 (p + 1 - 1) = p := by rw [wrap_id (by omega) (by omega)]; omega
  unfold spec_l12Rd_pick.f
  by_cases hn : n < 1
  · refine ⟨0, ?_, by omega, .inr ⟨hn, rfl⟩⟩
    rw [if_pos hn]; simp only [spec_l12Rd_pick.j0, if_true]; rw [hw]
  · rw [if_neg hn]
    by_cases hl : (l.length : Int) = 0
    · refine ⟨0, ?_, by omega, .inl (by omega)⟩
      have e : ((l.length : Int) == 0) = true := by simpa using hl
      rw [e]; simp only [spec_l12Rd_pick.j0, if_true]; rw [hw]
    · have e : ((l.length : Int) == 0) = false := by simpa using hl
      have hn0 : ¬ n = 0 := by omega
      rw [e]; simp only [spec_l12Rd_pick.j0]
      rw [if_neg (by simp), hw, hw2]
      by_cases hlt : p < (l.length : Int)
      · rw [if_pos hlt, if_pos hp, if_neg hn0]
        have hb := rd_byt h p
        rw [wrap_id (x := rd l p) (by omega) (by omega)]
        have ht := tmod_bd (a := rd l p) (b := n) hb.1 (by omega)
        exact ⟨_, rfl, ht.1, .inl ht.2⟩
      · have hL : 0 < (l.length : Int) := by omega
        have ht1 := tmod_bd (a := p) (b := (l.length : Int)) hp hL
        have e7 : wrap64 (p * 7) = p * 7 := wrap_id (by omega) (by omega)
        have e73 : wrap64 (p * 7 + 3) = p * 7 + 3 := wrap_id (by omega) (by omega)
        have ht2 := tmod_bd (a := p * 7 + 3) (b := (l.length : Int)) (by omega) hL
        rw [if_neg hlt, if_neg hl, if_pos ht1.1, if_pos ht1.2, e7, e73, if_pos ht2.1, if_pos ht2.2, if_neg hn0]
        have hb1 := rd_byt h (Int.tmod p (l.length : Int))
        have hb2 := rd_byt h (Int.tmod (p * 7 + 3) (l.length : Int))
        have hd := tdiv_bd (a := p) (b := (l.length : Int)) hp hL
        generalize rd l (Int.tmod p (l.length : Int)) = A at hb1 ⊢
        generalize rd l (Int.tmod (p * 7 + 3) (l.length : Int)) = B at hb2 ⊢
        generalize Int.tdiv p (l.length : Int) = D at hd ⊢
        rw [wrap_id (x := A) (by omega) (by omega), wrap_id (x := B) (by omega) (by omega), wrap_id (x := D) (by omega) (by omega), wrap_id (x := A * 131) (by omega) (by omega), wrap_id (x := B * 1117) (by omega) (by omega), wrap_id (x := p * 29) (by omega) (by omega), wrap_id (x := D * 53) (by omega) (by omega), wrap_id (x := A * 131 + B * 1117) (by omega) (by omega), wrap_id (x := A * 131 + B * 1117 + p * 29) (by omega) (by omega), wrap_id (x := A * 131 + B * 1117 + p * 29 + D * 53) (by omega) (by omega)]
        have hx0 : 0 ≤ A * 131 + B * 1117 + p * 29 + D * 53 := by omega
        have hx1 : A * 131 + B * 1117 + p * 29 + D * 53 < 9223372036854775807 := by omega
        generalize A * 131 + B * 1117 + p * 29 + D * 53 = X at hx0 hx1 ⊢
        have hd2 := tdiv_bd (a := X) (b := 64) hx0 (by omega)
        rw [wrap_id (x := Int.tdiv X 64) (by omega) (by omega)]
        have hnn := xor_i64_nonneg X (Int.tdiv X 64) hx0 (by omega) hd2.1 (by omega)
        have ht := tmod_bd (a := Go.bits .xor .i64 X (Int.tdiv X 64)) (b := n) hnn (by omega)
        exact ⟨_, rfl, ht.1, .inl ht.2⟩
theorem rd_mem {l : List Int} {i : Int} (h0 : 0 ≤ i) (h1 : i < (l.length : Int)) : rd l i ∈ l := by
  unfold rd
  rw [List.getD_eq_getElem?_getD, List.getElem?_eq_getElem (by omega)]; exact List.getElem_mem _
theorem num_some {l : List Int} (h : Byt l) (k : Nat) (p : Int) (xs : List Int) (hx : 0 < xs.length) (hp : 0 ≤ p) (hp' : p ≤ 1000000000000) :
    ∃ r, spec_l12Rd_num.f (k + 1) l p xs = some (r, p + 1) ∧ r ∈ xs := by
  obtain ⟨i, hi, h0, h1⟩ := pick_some h k p (xs.length : Int) hp hp'
  have h1' : i < (xs.length : Int) := by omega
  refine ⟨rd xs i, ?_, rd_mem h0 h1'⟩
  unfold spec_l12Rd_num.f
  rw [hi]; simp only [Option.bind_some]
  rw [if_pos h0, if_pos h1']
theorem byt_of {l : List Int} (h : ∀ x ∈ l, (Lit.int .u8 x).wf = true) : Byt l := by
  intro x hx
  have := h x hx
  simp [Lit.wf, IntKind.min, IntKind.max, IntKind.bits, IntKind.signed] at this
  omega
theorem open_some {l : List Int} (h : Byt l) : ∃ l', spec_l12Open.f l = some (l', 0) ∧ Byt l' := by
  unfold spec_l12Open.f
  by_cases hl : (l.length : Int) > 2000
  · rw [if_pos hl, if_pos (by omega)]
    exact ⟨_, rfl, fun x hx => h x (List.mem_of_mem_take hx)⟩
  · rw [if_neg hl]; exact ⟨l, rfl, h⟩
def I64 (x : Int) : Prop := -9223372036854775808 ≤ x ∧ x ≤ 9223372036854775807
theorem l1Num_some {l : List Int} (h : Byt l) (k : Nat) (p : Int) (hp : 0 ≤ p) (hp' : p ≤ 1000000000000) :
    ∃ r, spec_l1Num.f (k + 1) l p = some (r, p + 1) ∧ I64 r := by
  unfold spec_l1Num.f
  obtain ⟨r, hr, hm⟩ := num_some h k p [0, 1, 2, (-1), 3, 7, 100, 999999, 1000000, (-1000000), 1000001, (-1000007), 9223372036854775807, (-9223372036854775808), 4000000000] (by simp) hp hp'
  refine ⟨r, by rw [hr]; rfl, ?_⟩
  unfold I64
  simp only [List.mem_cons, List.not_mem_nil, or_false] at hm
  omega
theorem rdI (l : List Int) (i : Nat) (h : i < l.length) : rd l (i : Int) = l[i] := by
  unfold rd; rw [Int.toNat_natCast, List.getD_eq_getElem?_getD, List.getElem?_eq_getElem h]; rfl
theorem cut_some (n : Int) : spec_NumCut.f n = some (Hq.cut n) := by
  unfold spec_NumCut.f spec_l1Min.f spec_l1Max.f Hq.cut mn mx
  (repeat' split) <;> simp only [Option.bind_some] <;> (repeat' split) <;> simp only [Option.some.injEq, Option.bind_some] <;> omega
theorem cut_isN (n : Int) : Hm.isN (Hq.cut n) = true := by
  have e : Hq.cut n = if n < -1000000 then -1000000 else if 1000000 < n then 1000000 else n := by unfold Hq.cut mn mx; (repeat' split) <;> omega
  have e2 : Hm.isN (Hq.cut n) = true ↔ (-1000000 ≤ Hq.cut n ∧ Hq.cut n ≤ 1000000) := by simp [Hm.isN]
  rw [e2, e]
  (repeat' split) <;> constructor <;> omega
theorem cut_same (n : Int) : Hq.cut n = n ↔ Hm.isN n = true := by
  have e : Hq.cut n = if n < -1000000 then -1000000 else if 1000000 < n then 1000000 else n := by unfold Hq.cut mn mx; (repeat' split) <;> omega
  have e2 : Hm.isN n = true ↔ (-1000000 ≤ n ∧ n ≤ 1000000) := by simp [Hm.isN]
  rw [e, e2]
  (repeat' split) <;> constructor <;> intros <;> omega
theorem list_loop (x : List Int) (hx : x.length ≤ 1048576) (d : Nat) : ∀ (k i : Nat), i + d = x.length → d < k → spec_l2List.l0 k x (i : Int) = some (decide (x.length = 6) && (x.drop i).all Hm.isN) ∨ (∃ b, spec_l2List.l0 k x (i : Int) = some false ∧ (x.drop i).all Hm.isN = b ∧ b = false) := by
  induction d with
  | zero =>
    intro k i hi hk
    obtain ⟨k, rfl⟩ : ∃ m, k = m + 1 := ⟨k - 1, by omega⟩
    simp only [spec_l2List.l0]
    rw [if_neg (by omega), List.drop_eq_nil_of_le (by omega)]
    left
    by_cases h : x.length = 6
    · simp [h]
    · have : ((x.length : Int) == 6) = false := by simp; omega
      rw [this]; simp [h]
  | succ d ih =>
    intro k i hi hk
    obtain ⟨k, rfl⟩ : ∃ m, k = m + 1 := ⟨k - 1, by omega⟩
    have hil : i < x.length := by omega
    simp only [spec_l2List.l0]
    rw [if_pos (by omega), if_pos (by omega), rdI x i hil, cut_some]
    simp only [Option.bind_some]
    rw [List.drop_eq_getElem_cons hil, List.all_cons]
    by_cases h : Hq.cut x[i] = x[i]
    · rw [if_pos h, (cut_same _).1 h, Bool.true_and, wrap_id (by omega) (by omega)]
      exact ih k (i + 1) (by omega) (by omega)
    · have hn : Hm.isN x[i] = false := by
        cases hq : Hm.isN x[i] with
        | false => rfl
        | true => exact absurd ((cut_same _).2 hq) h
      rw [if_neg h, hn]; right; exact ⟨false, rfl, by simp, rfl⟩
theorem list_some (x : List Int) (hx : x.length ≤ 1048576) (k : Nat) (hk : x.length < k) : spec_l2List.f k x = some (Hm.okL x) := by
  unfold spec_l2List.f Hm.okL
  rcases list_loop x hx x.length k 0 (by omega) (by omega) with h | ⟨b, h, h2, h3⟩
  · exact h
  · subst h3
    simp only [List.drop_zero] at h2
    rw [h2, Bool.and_false]; exact h
theorem specOk_some (a b c : List Int) (ha : a.length ≤ 1048576) (hb : b.length ≤ 1048576) (hc : c.length ≤ 1048576) (k : Nat) (ka : a.length < k) (kb : b.length < k) (kc : c.length < k) : spec_MemOk.f k a b c = some (Hm.okM a b c) := by
  unfold spec_MemOk.f Hm.okM
  rw [list_some a ha k ka, list_some b hb k kb, list_some c hc k kc]; simp only [Option.bind_some]
  cases Hm.okL a <;> cases Hm.okL b <;> rfl
theorem addr_some (k i : Int) : spec_AddrOk.f k i = some (Hn.aOk k i) := by
  unfold spec_AddrOk.f Hn.aOk
  by_cases h1 : k ≥ 1
  · rw [if_pos h1]
    by_cases h2 : k ≤ 3
    · rw [if_pos h2]
      by_cases h3 : i ≥ 0
      · rw [if_pos h3]; simp [h2, (by omega : 1 ≤ k), (by omega : 0 ≤ i)]
      · rw [if_neg h3]; simp [(by omega : ¬ 0 ≤ i)]
    · rw [if_neg h2]; simp [h2]
  · rw [if_neg h1]; simp [(by omega : ¬ 1 ≤ k)]
theorem copy_some (a b c : List Int) (ha : a.length ≤ 1048576) (hb : b.length ≤ 1048576) (hc : c.length ≤ 1048576) : spec_l2Copy.f a b c = some (a, b, c) := by
  unfold spec_l2Copy.f
  simp only [Option.bind_some, List.nil_append, List.length_nil, Nat.zero_add]
  rw [if_pos (by omega), if_pos (by omega), if_pos (by omega)]
theorem specPut_some (a b c : List Int) (j i n : Int) (ha : a.length ≤ 1048576) (hb : b.length ≤ 1048576) (hc : c.length ≤ 1048576) (k : Nat) (ka : a.length < k) (kb : b.length < k) (kc : c.length < k) : spec_MemPut.f k a b c j i n = some (Hq.pL a b c 1 a j i n, Hq.pL a b c 2 b j i n, Hq.pL a b c 3 c j i n) := by
  unfold spec_MemPut.f Hq.pL
  rw [specOk_some a b c ha hb hc k ka kb kc, addr_some, copy_some a b c ha hb hc]
  cases hk : Hm.okM a b c with
  | false => rfl
  | true =>
    obtain ⟨l0, l1, l2⟩ := Hq.okM_len hk
    simp only [Option.bind_some, if_true]
    cases hA : Hn.aOk j i with
    | false =>
      have hp : Hq.pOk j i = false := by simp [Hq.pOk, hA]
      rw [Hq.pT_no hp, Hq.pT_no hp, Hq.pT_no hp]; rfl
    | true =>
      simp only [if_true]
      have hi := hA
      simp only [Hn.aOk, Bool.and_eq_true, decide_eq_true_eq] at hi
      obtain ⟨h1, h2, h3, h4⟩ := hi
      unfold spec_l2Put.f
      rw [cut_some]; simp only [Option.bind_some]
      rcases (by omega : j = 1 ∨ j = 2 ∨ j = 3) with rfl | rfl | rfl
      · rw [if_neg (by omega), if_neg (by omega)]
        have hp : Hq.pOk 1 i = false := by simp [Hq.pOk]
        rw [Hq.pT_no hp, Hq.pT_no hp, Hq.pT_no hp]; rfl
      · rw [if_pos rfl, if_pos h3, if_pos (by omega)]
        have hp : Hq.pOk 2 i = true := by rw [Hq.pOk, hA]; rfl
        simp [Hq.pT, hp]
      · rw [if_neg (by omega), if_pos rfl, if_pos h3, if_pos (by omega)]
        have hp : Hq.pOk 3 i = true := by rw [Hq.pOk, hA]; rfl
        simp [Hq.pT, hp]
theorem pL_len {a b c l : List Int} {j t i n : Int} {m : Nat} (h : l.length ≤ m) : (Hq.pL a b c t l j i n).length ≤ m := by
  unfold Hq.pL; split
  · rw [Hq.pT_len]; exact h
  · simp
theorem pT_all {l : List Int} {t j i n : Int} (h : l.all Hm.isN = true) : (Hq.pT t l j i n).all Hm.isN = true := by
  unfold Hq.pT; split
  · rw [List.all_eq_true] at h ⊢
    intro x hx
    rcases List.mem_or_eq_of_mem_set hx with h2 | h2
    · exact h x h2
    · rw [h2]; exact cut_isN n
  · exact h
theorem pT_okL {l : List Int} {t j i n : Int} (h : Hm.okL l = true) : Hm.okL (Hq.pT t l j i n) = true := by
  simp only [Hm.okL, Bool.and_eq_true, decide_eq_true_eq] at h ⊢
  exact ⟨by rw [Hq.pT_len]; exact h.1, pT_all h.2⟩
theorem pL_ok {a b c : List Int} {j i n : Int} (h : Hm.okM a b c = true) : Hm.okM (Hq.pL a b c 1 a j i n) (Hq.pL a b c 2 b j i n) (Hq.pL a b c 3 c j i n) = true := by
  have e : ∀ t l, Hq.pL a b c t l j i n = Hq.pT t l j i n := fun t l => by unfold Hq.pL; rw [if_pos h]
  rw [e, e, e]
  simp only [Hm.okM, Bool.and_eq_true] at h ⊢
  exact ⟨⟨pT_okL h.1.1, pT_okL h.1.2⟩, pT_okL h.2⟩
theorem eq_loop (x : List Int) (hl : x.length ≤ 1048576) (d : Nat) : ∀ (k i : Nat), i + d = x.length → d < k → slices_Equal_int_int.l0 k x x (x.length : Int) (i : Int) = some true := by
  induction d with
  | zero =>
    intro k i hi hk
    obtain ⟨k, rfl⟩ : ∃ m, k = m + 1 := ⟨k - 1, by omega⟩
    simp only [slices_Equal_int_int.l0]
    rw [if_neg (by omega)]
  | succ d ih =>
    intro k i hi hk
    obtain ⟨k, rfl⟩ : ∃ m, k = m + 1 := ⟨k - 1, by omega⟩
    simp only [slices_Equal_int_int.l0]
    rw [if_pos (by omega), if_pos (by omega), if_pos (by omega), if_pos (by omega)]
    simp only [if_true]
    rw [wrap_id (by omega) (by omega)]
    exact ih k (i + 1) (by omega) (by omega)
theorem same_self (a b c : List Int) (ha : a.length ≤ 1048576) (hb : b.length ≤ 1048576) (hc : c.length ≤ 1048576) (k : Nat) (ka : a.length < k) (kb : b.length < k) (kc : c.length < k) : impl_MemSame.f k a b c a b c = some true := by
  have e : ∀ x : List Int, x.length ≤ 1048576 → x.length < k → slices_Equal_int_int.f k x x = some true := fun x hx hk => by
    unfold slices_Equal_int_int.f
    rw [if_pos rfl]; exact eq_loop x hx x.length k 0 (by omega) hk
  unfold impl_MemSame.f
  rw [e a ha ka, e b hb kb, e c hc kc]; rfl
theorem rd_set {l : List Int} {i t : Int} (v : Int) (hi : 0 ≤ i) (hi2 : i < (l.length : Int)) (ht : 0 ≤ t) : rd (l.set t.toNat v) i = if i = t then v else rd l i := by
  unfold rd
  rw [List.getD_eq_getElem?_getD, List.getD_eq_getElem?_getD, List.getElem?_set]
  by_cases h : i = t
  · subst h; rw [if_pos rfl, if_pos rfl, if_pos (by omega)]; rfl
  · rw [if_neg h, if_neg (by omega)]
theorem rd_pT {l : List Int} {t J I n i : Int} (hl : l.length = 6) (h1 : 1 ≤ t) (h2 : t ≤ 3) (h3 : 0 ≤ i) (h4 : i < 6) : rd (Hq.pT t l J I n) i = if ((t == J && (i == I)) && (t != 1)) = true then Hq.cut n else rd l i := by
  have hA : Hn.aOk t i = true := by simp [Hn.aOk, h1, h2, h3, h4]
  unfold Hq.pT
  by_cases hc : (Hq.pOk J I && (J == t)) = true
  · rw [if_pos hc]
    simp only [Hq.pOk, Hn.aOk, Bool.and_eq_true, decide_eq_true_eq, bne_iff_ne, ne_eq, beq_iff_eq] at hc
    obtain ⟨⟨⟨q1, q2, q3, q4⟩, q5⟩, rfl⟩ := hc
    rw [rd_set _ h3 (by omega) q3]
    by_cases hi : i = I
    · subst hi; simp [q5]
    · simp [hi]
  · rw [if_neg hc, if_neg]
    intro hx
    apply hc
    simp only [Bool.and_eq_true, beq_iff_eq, bne_iff_ne, ne_eq] at hx
    obtain ⟨⟨rfl, rfl⟩, hx⟩ := hx
    simp only [Hq.pOk, hA, Bool.and_eq_true, bne_iff_ne, ne_eq, beq_iff_eq, and_true, true_and]
    exact hx
theorem memLoop_some {l : List Int} (h : Byt l) (d : Nat) : ∀ (k : Nat) (i p : Int) (a b c : List Int), i = 4 - (d : Int) → d ≤ 4 → 0 ≤ p → p + 3 * d ≤ 1000000000000 → d + 1 < k → a.length = 6 → b.length = 6 → c.length = 6 →
    ∃ a' b' c', spec_l2Mem.l0 k i l p a b c = some (a', b', c', p + 3 * d) ∧ a'.length = 6 ∧ b'.length = 6 ∧ c'.length = 6 := by
  induction d with
  | zero =>
    intro k i p a b c hi hd hp hp' hk ha hb hc
    obtain ⟨k, rfl⟩ : ∃ m, k = m + 1 := ⟨k - 1, by omega⟩
    simp only [spec_l2Mem.l0]
    rw [if_neg (by omega)]
    exact ⟨a, b, c, by simp, ha, hb, hc⟩
  | succ d ih =>
    intro k i p a b c hi hd hp hp' hk ha hb hc
    obtain ⟨k, rfl⟩ : ∃ m, k = m + 1 := ⟨k - 1, by omega⟩
    simp only [spec_l2Mem.l0]
    obtain ⟨k, rfl⟩ : ∃ m, k = m + 1 := ⟨k - 1, by omega⟩
    obtain ⟨r0, h0, _⟩ := num_some h k p [0, 0, 1, 1, 2, 5, (-1)] (by simp) hp (by omega)
    obtain ⟨r1, h1, _⟩ := num_some h k (p + 1) [0, 0, 1, 3] (by simp) (by omega) (by omega)
    obtain ⟨r2, h2, _⟩ := num_some h k (p + 1 + 1) [0, 0, 1, 2, 7, 1000000] (by simp) (by omega) (by omega)
    rw [if_pos (by omega), h0]; simp only [Option.bind_some]
    rw [if_pos (by omega), if_pos (by omega), h1]; simp only [Option.bind_some]
    rw [if_pos (by omega), h2]; simp only [Option.bind_some]
    rw [if_pos (by omega), wrap_id (by omega) (by omega)]
    obtain ⟨a', b', c', hr, q⟩ := ih (k + 1) (i + 1) (p + 1 + 1 + 1) (a.set i.toNat r0) (b.set i.toNat r1) (c.set i.toNat r2) (by omega) (by omega) (by omega) (by omega) (by omega) (by simpa using ha) (by simpa using hb) (by simpa using hc)
    refine ⟨a', b', c', ?_, q⟩
    rw [hr]
    have e : p + 1 + 1 + 1 + 3 * (d : Int) = p + 3 * ((d + 1 : Nat) : Int) := by omega
    rw [e]
theorem memDraw_some {l : List Int} (h : Byt l) (k : Nat) (p : Int) (hp : 0 ≤ p) (hp' : p ≤ 1000000) : ∃ a b c, spec_l2Mem.f (k + 6) l p = some (a, b, c, p + 12) ∧ a.length = 6 ∧ b.length = 6 ∧ c.length = 6 := by
  unfold spec_l2Mem.f spec_MemOpen.f
  rw [if_pos (by omega)]; simp only [Option.bind_some]
  exact memLoop_some h 4 (k + 6) 0 p _ _ _ (by omega) (by omega) hp (by omega) (by omega) (by simp) (by simp) (by simp)
theorem memBent_some {l : List Int} (h : Byt l) (k : Nat) (p : Int) (hp : 0 ≤ p) (hp' : p ≤ 1000000) : ∃ a b c, spec_l2MemBent.f (k + 6) l p = some (a, b, c, p + 12 + 1) ∧ a.length ≤ 7 ∧ b.length ≤ 7 ∧ c.length ≤ 7 := by
  unfold spec_l2MemBent.f
  obtain ⟨a, b, c, hm, ha, hb, hc⟩ := memDraw_some h k p hp hp'
  rw [hm]; simp only [Option.bind_some]
  obtain ⟨r, hr, _⟩ := pick_some h (k + 5) (p + 12) 30 (by omega) (by omega)
  rw [hr]; simp only [Option.bind_some]
  by_cases h0 : r = 0
  · rw [if_pos h0, if_pos (by omega)]
    refine ⟨_, _, _, rfl, ?_, ?_, ?_⟩ <;> (try simp only [List.length_take, List.length_set, List.length_append, List.length_singleton]) <;> omega
  rw [if_neg h0]
  by_cases h1 : r = 1
  · rw [if_pos h1, if_pos (by omega)]
    refine ⟨_, _, _, rfl, ?_, ?_, ?_⟩ <;> (try simp only [List.length_take, List.length_set, List.length_append, List.length_singleton]) <;> omega
  rw [if_neg h1]
  by_cases h2 : r = 2
  · rw [if_pos h2, if_pos (by omega)]
    refine ⟨_, _, _, rfl, ?_, ?_, ?_⟩ <;> (try simp only [List.length_take, List.length_set, List.length_append, List.length_singleton]) <;> omega
  rw [if_neg h2]
  refine ⟨_, _, _, rfl, ?_, ?_, ?_⟩ <;> omega
theorem addrBent_some {l : List Int} (h : Byt l) (k : Nat) (p : Int) (hp : 0 ≤ p) (hp' : p ≤ 1000000) : ∃ j i q, spec_l2AddrBent.f (k + 1) l p = some (j, i, q) ∧ p ≤ q ∧ q ≤ p + 10 := by
  unfold spec_l2AddrBent.f spec_l2Addr.f
  obtain ⟨r0, h0, b0, c0⟩ := pick_some h k p 3 hp (by omega)
  obtain ⟨r1, h1, b1, c1⟩ := pick_some h k (p + 1) 3 (by omega) (by omega)
  obtain ⟨r2, h2, b2, c2⟩ := pick_some h k (p + 1 + 1) 16 (by omega) (by omega)
  obtain ⟨r3, h3, _⟩ := num_some h k (p + 1 + 1 + 1) [0, 4, (-1)] (by simp) (by omega) (by omega)
  obtain ⟨r4, h4, _⟩ := num_some h k (p + 1 + 1 + 1) [(-1), 6, 5] (by simp) (by omega) (by omega)
  rw [h0]; simp only [Option.bind_some]
  rw [h1]; simp only [Option.bind_some]
  rw [h2]; simp only [Option.bind_some]
  rw [h3, h4]; simp only [Option.bind_some]
  (repeat' split) <;> (refine ⟨_, _, _, rfl, ?_, ?_⟩ <;> omega)
theorem drawPut_some {l : List Int} (h : Byt l) (k : Nat) : ∃ a b c j i n, spec_DrawMemPut.f (k + 6) l = some (a, b, c, j, i, n) ∧ a.length ≤ 7 ∧ b.length ≤ 7 ∧ c.length ≤ 7 := by
  obtain ⟨l', ho, h'⟩ := open_some h
  unfold spec_DrawMemPut.f
  rw [ho]; simp only [Option.bind_some]
  obtain ⟨a, b, c, hm, q⟩ := memBent_some h' k 0 (by omega) (by omega)
  rw [hm]; simp only [Option.bind_some]
  obtain ⟨j, i, p, ha, p1, p2⟩ := addrBent_some h' (k + 5) (0 + 12 + 1) (by omega) (by omega)
  rw [ha]; simp only [Option.bind_some]
  obtain ⟨n, hn, _⟩ := l1Num_some h' (k + 5) p (by omega) (by omega)
  rw [hn]; simp only [Option.bind_some]
  exact ⟨a, b, c, j, i, n, rfl, q⟩
theorem addr_impl (k i : Int) : impl_AddrOk.f k i = some (Hn.aOk k i) := addr_some k i
theorem get_put {a b c : List Int} {J I n j i : Int} (hk : Hm.okM a b c = true) (h1 : 1 ≤ j) (h2 : j ≤ 3) (h3 : 0 ≤ i) (h4 : i < 6) :
    Hn.gM (Hq.pL a b c 1 a J I n) (Hq.pL a b c 2 b J I n) (Hq.pL a b c 3 c J I n) j i = if ((j == J && (i == I)) && (j != 1)) = true then Hq.cut n else Hn.gM a b c j i := by
  have hA : Hn.aOk j i = true := by simp [Hn.aOk, h1, h2, h3, h4]
  obtain ⟨l0, l1, l2⟩ := Hq.okM_len hk
  have e : ∀ t l, Hq.pL a b c t l J I n = Hq.pT t l J I n := fun t l => by unfold Hq.pL; rw [if_pos hk]
  unfold Hn.gM
  rw [pL_ok hk, hk, hA, e, e, e]
  simp only [Bool.and_self, if_true]
  rcases (by omega : j = 1 ∨ j = 2 ∨ j = 3) with rfl | rfl | rfl
  · exact rd_pT l0 h1 h2 h3 h4
  · exact rd_pT l1 h1 h2 h3 h4
  · exact rd_pT l2 h1 h2 h3 h4
section
variable (n : Int) (a b c p q r : List Int) (J I : Int)
def Held : Prop := ∀ j i, 1 ≤ j → j ≤ 3 → 0 ≤ i → i < 6 → Hn.gM p q r j i = if ((j == J && (i == I)) && (j != 1)) = true then Hq.cut n else Hn.gM a b c j i
theorem l0_4 (HO : Hm.okM p q r = true) (k : Nat) : laws_FnMem.l0 (k + 1) n 4 a b c J I p q r = some true := by
  simp only [laws_FnMem.l0]
  rw [if_neg (by omega)]
  simp only [impl_MemOk.f, Option.bind_some, HO]
theorem l1_ok (HG : Held n a b c p q r J I) (j : Int) (h1 : 1 ≤ j) (h2 : j ≤ 3) (K : Nat) (next : ∀ k, K ≤ k → laws_FnMem.l0 k n (j + 1) a b c J I p q r = some true) (d : Nat) : ∀ (k : Nat) (i : Int), i + d = 6 → 0 ≤ i → K + 2 * d + 1 ≤ k → laws_FnMem.l1 k n j i a b c J I p q r = some true := by
  induction d with
  | zero =>
    intro k i hi h0 hk
    obtain ⟨k, rfl⟩ : ∃ m, k = m + 1 := ⟨k - 1, by omega⟩
    simp only [laws_FnMem.l1]
    rw [if_neg (by omega), wrap_id (by omega) (by omega)]
    exact next k (by omega)
  | succ d ih =>
    intro k i hi h0 hk
    obtain ⟨k, rfl⟩ : ∃ m, k = m + 1 + 1 := ⟨k - 2, by omega⟩
    simp only [laws_FnMem.l1]
    have hg := HG j i h1 h2 h0 (by omega)
    have hn := ih k (i + 1) (by omega) (by omega) (by omega)
    rw [if_pos (by omega)]
    simp only [impl_MemGet.f, Option.bind_some]
    cases hc : (j == J && (i == I)) with
    | true =>
      rw [hc, Bool.true_and] at hg
      rw [if_pos rfl]
      simp only [laws_FnMem.j3, impl_MemGet.f, impl_NumCut.f, Option.bind_some]
      cases hj : (j != 1) with
      | true =>
        rw [hj, if_pos rfl] at hg
        rw [if_pos rfl, hg, wrap_id (by omega) (by omega), if_pos (show Hq.cut n = mn (mx n (-1000000)) 1000000 from rfl)]; exact hn
      | false =>
        rw [hj, if_neg (by simp)] at hg
        rw [if_neg (by simp), hg, wrap_id (by omega) (by omega), if_pos rfl]; exact hn
    | false =>
      rw [hc, Bool.false_and, if_neg (by simp)] at hg
      rw [if_neg (by simp)]
      simp only [laws_FnMem.j3, impl_MemGet.f, Option.bind_some]
      rw [if_neg (by simp), hg, wrap_id (by omega) (by omega), if_pos rfl]; exact hn
theorem l0_step (HG : Held n a b c p q r J I) (j : Int) (h1 : 1 ≤ j) (h2 : j ≤ 3) (K : Nat) (next : ∀ k, K ≤ k → laws_FnMem.l0 k n (j + 1) a b c J I p q r = some true) : ∀ k, K + 14 ≤ k → laws_FnMem.l0 k n j a b c J I p q r = some true := by
  intro k hk
  obtain ⟨k, rfl⟩ : ∃ m, k = m + 1 := ⟨k - 1, by omega⟩
  simp only [laws_FnMem.l0]
  rw [if_pos h2]
  exact l1_ok n a b c p q r J I HG j h1 h2 K next 6 k 0 (by omega) (by omega) (by omega)
theorem l0_1 (HO : Hm.okM p q r = true) (HG : Held n a b c p q r J I) (k : Nat) (hk : 43 ≤ k) : laws_FnMem.l0 k n 1 a b c J I p q r = some true :=
  l0_step n a b c p q r J I HG 1 (by omega) (by omega) 29 (l0_step n a b c p q r J I HG 2 (by omega) (by omega) 15 (l0_step n a b c p q r J I HG 3 (by omega) (by omega) 1 (fun k hk => by obtain ⟨k, rfl⟩ : ∃ m, k = m + 1 := ⟨k - 1, by omega⟩; exact l0_4 n a b c p q r J I HO k))) k hk
end
theorem j0_ok (k : Nat) (n : Int) (a b c : List Int) (J I : Int) (ha : a.length ≤ 7) (hb : b.length ≤ 7) (hc : c.length ≤ 7) : laws_FnMem.j0 (k + 51) n false a b c J I (Hq.pL a b c 1 a J I n) (Hq.pL a b c 2 b J I n) (Hq.pL a b c 3 c J I n) = some true := by
  simp only [laws_FnMem.j0]
  rw [if_neg (by simp), specOk_some a b c (by omega) (by omega) (by omega) _ (by omega) (by omega) (by omega)]; simp only [Option.bind_some]
  cases hk : Hm.okM a b c with
  | true =>
    rw [if_pos rfl]
    exact l0_1 n a b c _ _ _ J I (pL_ok hk) (fun j i h1 h2 h3 h4 => get_put hk h1 h2 h3 h4) _ (by omega)
  | false =>
    rw [if_neg (by simp)]
    simp [Hq.pL, Hn.gM, hk, impl_MemGet.f]
theorem FnMem : laws_FnMem.Pure := by
  intro l0 _ _ hb
  refine ⟨60, ?_⟩
  unfold laws_FnMem.f
  by_cases hl : (l0.length : Int) > 1048576
  · rw [if_pos hl]
  rw [if_neg hl]
  obtain ⟨a, b, c, j, i, n, hd, ha, hb, hc⟩ := drawPut_some (byt_of hb) 54
  rw [hd]; simp only [Option.bind_some, impl_MemPut.f]
  rw [specPut_some a b c j i n (by omega) (by omega) (by omega) 60 (by omega) (by omega) (by omega)]; simp only [Option.bind_some]
  rw [same_self _ _ _ (pL_len (by omega)) (pL_len (by omega)) (pL_len (by omega)) 60 (Nat.lt_of_le_of_lt (pL_len ha) (by omega)) (Nat.lt_of_le_of_lt (pL_len hb) (by omega)) (Nat.lt_of_le_of_lt (pL_len hc) (by omega))]; simp only [Option.bind_some, if_true, impl_MemOk.f]
  rw [specOk_some a b c (by omega) (by omega) (by omega) 60 (by omega) (by omega) (by omega), addr_impl, addr_some]; simp only [Option.bind_some, bne_self_eq_false, Bool.false_eq_true, if_false]
  exact j0_ok 9 n a b c j i ha hb hc
end Go.Proofs.Ytlgogdpnakbhiaa.Pure
