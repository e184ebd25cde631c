/- The law FnMemTwo returns true for every two codes: stores to different places commute. No condition. -/
import Derived.Test.YtlgogdpnakbhiaaTFnMemTwoHFnMemTwox1
import Derived.Test.YtlgogdpnakbhiaaTFnMemTwoHFnMemTwox7
import Derived.Test.YtlgogdpnakbhiaaTFnMemTwoHFnMemTwox4
import Derived.WalkKit
import Derived.KernelRfl
import Derived.WalkLawsBesides
import Derived.WalkSpells
import Derived.Below
import Derived.Deep.RegionHeld
namespace Go.Proofs.Ytlgogdpnakbhiaa.MyFnMemTwo
open Go.RowKit Go.Proofs.Ytlgogdpnakbhiaa.HFnMemTwo Go.Proofs.YtlgogdpnakbhiaaW.PrintWords Go.Proofs.YtlgogdpnakbhiaaW.PrintLast Go.Proofs.YtlgogdpnakbhiaaW.PrintMore
set_option linter.unusedVariables false
set_option linter.unusedSimpArgs false
theorem wrap_id {x : Int} (h1 : -9223372036854775808 ≤ x) (h2 : x ≤ 9223372036854775807) : wrap64 x = x := by
  unfold wrap64; omega
theorem xor_i64_nat (a b : Nat) (ha : a < 9223372036854775808) (hb : b < 9223372036854775808) :
    Go.bits .xor .i64 (a : Int) (b : Int) = ((a ^^^ b : Nat) : Int) := by
  have hx : a ^^^ b < 2 ^ 63 := Nat.xor_lt_two_pow (by omega) (by omega)
  have h1 : (BitVec.ofInt 64 (a : Int)).toNat = a := by
    rw [BitVec.ofInt_natCast, BitVec.toNat_ofNat]; exact Nat.mod_eq_of_lt (by omega)
  have h2 : (BitVec.ofInt 64 (b : Int)).toNat = b := by
    rw [BitVec.ofInt_natCast, BitVec.toNat_ofNat]; exact Nat.mod_eq_of_lt (by omega)
  show IntKind.i64.wrap ((BitVec.ofInt 64 (a : Int) ^^^ BitVec.ofInt 64 (b : Int)).toNat : Int) = _
  rw [BitVec.toNat_xor, h1, h2, IntKind.wrap_i64]
  omega
theorem xor_i64_nonneg (x y : Int) (hx : 0 ≤ x) (hx' : x < 9223372036854775808) (hy : 0 ≤ y) (hy' : y < 9223372036854775808) :
    0 ≤ Go.bits .xor .i64 x y := by
  obtain ⟨a, rfl⟩ := Int.eq_ofNat_of_zero_le hx
  obtain ⟨b, rfl⟩ := Int.eq_ofNat_of_zero_le hy
  rw [xor_i64_nat a b (by omega) (by omega)]
  exact Int.natCast_nonneg _
def Byt (l : List Int) : Prop := ∀ x ∈ l, 0 ≤ x ∧ x ≤ 255
theorem rd_byt {l : List Int} (h : Byt l) (i : Int) : 0 ≤ rd l i ∧ rd l i ≤ 255 := by
  unfold rd
  by_cases hi : i.toNat < l.length
  · rw [List.getD_eq_getElem?_getD, List.getElem?_eq_getElem hi]; exact h _ (List.getElem_mem hi)
  · rw [List.getD_eq_getElem?_getD, List.getElem?_eq_none (by omega)]; simp
theorem tmod_bd {a b : Int} (ha : 0 ≤ a) (hb : 0 < b) : 0 ≤ Int.tmod a b ∧ Int.tmod a b < b := by
  rw [Int.tmod_eq_emod_of_nonneg ha]
  exact ⟨Int.emod_nonneg _ (by omega), Int.emod_lt_of_pos _ hb⟩
theorem tdiv_bd {a b : Int} (ha : 0 ≤ a) (hb : 0 < b) : 0 ≤ Int.tdiv a b ∧ Int.tdiv a b ≤ a := by
  rw [Int.tdiv_eq_ediv_of_nonneg ha]
  exact ⟨Int.ediv_nonneg ha (by omega), Int.ediv_le_self _ ha⟩
/-- What one pick gives: a number from 0 on, below n where n is at least 1; the place goes one on. -/
theorem pick_some {l : List Int} (h : Byt l) (k : Nat) (p n : Int) (hp : 0 ≤ p) (hp' : p ≤ 1000000000000) :
    ∃ r, spec_l12Rd_pick.f (k + 1) l p n = some (r, p + 1) ∧ 0 ≤ r ∧ (r < n ∨ (n < 1 ∧ r = 0)) := by
  have hw : wrap64 (p + 1) = p + 1 := wrap_id (by omega) (by omega)
  have hw2 : wrap64 (p + 1 - 1) = p := by rw [wrap_id (by omega) (by omega)]; omega
  unfold spec_l12Rd_pick.f
  by_cases hn : n < 1
  · refine ⟨0, ?_, by omega, .inr ⟨hn, rfl⟩⟩
    rw [if_pos hn]; simp only [spec_l12Rd_pick.j0, if_true]; rw [hw]
  · rw [if_neg hn]
    by_cases hl : (l.length : Int) = 0
    · refine ⟨0, ?_, by omega, .inl (by omega)⟩
      have e : ((l.length : Int) == 0) = true := by simpa using hl
      rw [e]; simp only [spec_l12Rd_pick.j0, if_true]; rw [hw]
    · have e : ((l.length : Int) == 0) = false := by simpa using hl
      have hn0 : ¬ n = 0 := by omega
      rw [e]; simp only [spec_l12Rd_pick.j0]
      rw [if_neg (by simp), hw, hw2]
      by_cases hlt : p < (l.length : Int)
      · rw [if_pos hlt, if_pos hp, if_neg hn0]
        have hb := rd_byt h p
        rw [wrap_id (x := rd l p) (by omega) (by omega)]
        have ht := tmod_bd (a := rd l p) (b := n) hb.1 (by omega)
        exact ⟨_, rfl, ht.1, .inl ht.2⟩
      · have hL : 0 < (l.length : Int) := by omega
        have ht1 := tmod_bd (a := p) (b := (l.length : Int)) hp hL
        have e7 : wrap64 (p * 7) = p * 7 := wrap_id (by omega) (by omega)
        have e73 : wrap64 (p * 7 + 3) = p * 7 + 3 := wrap_id (by omega) (by omega)
        have ht2 := tmod_bd (a := p * 7 + 3) (b := (l.length : Int)) (by omega) hL
        rw [if_neg hlt, if_neg hl, if_pos ht1.1, if_pos ht1.2, e7, e73, if_pos ht2.1, if_pos ht2.2, if_neg hn0]
        have hb1 := rd_byt h (Int.tmod p (l.length : Int))
        have hb2 := rd_byt h (Int.tmod (p * 7 + 3) (l.length : Int))
        have hd := tdiv_bd (a := p) (b := (l.length : Int)) hp hL
        generalize rd l (Int.tmod p (l.length : Int)) = A at hb1 ⊢
        generalize rd l (Int.tmod (p * 7 + 3) (l.length : Int)) = B at hb2 ⊢
        generalize Int.tdiv p (l.length : Int) = D at hd ⊢
        rw [wrap_id (x := A) (by omega) (by omega), wrap_id (x := B) (by omega) (by omega), wrap_id (x := D) (by omega) (by omega), wrap_id (x := A * 131) (by omega) (by omega), wrap_id (x := B * 1117) (by omega) (by omega), wrap_id (x := p * 29) (by omega) (by omega), wrap_id (x := D * 53) (by omega) (by omega), wrap_id (x := A * 131 + B * 1117) (by omega) (by omega), wrap_id (x := A * 131 + B * 1117 + p * 29) (by omega) (by omega), wrap_id (x := A * 131 + B * 1117 + p * 29 + D * 53) (by omega) (by omega)]
        have hx0 : 0 ≤ A * 131 + B * 1117 + p * 29 + D * 53 := by omega
        have hx1 : A * 131 + B * 1117 + p * 29 + D * 53 < 9223372036854775807 := by omega
        generalize A * 131 + B * 1117 + p * 29 + D * 53 = X at hx0 hx1 ⊢
        have hd2 := tdiv_bd (a := X) (b := 64) hx0 (by omega)
        rw [wrap_id (x := Int.tdiv X 64) (by omega) (by omega)]
        have hnn := xor_i64_nonneg X (Int.tdiv X 64) hx0 (by omega) hd2.1 (by omega)
        have ht := tmod_bd (a := Go.bits .xor .i64 X (Int.tdiv X 64)) (b := n) hnn (by omega)
        exact ⟨_, rfl, ht.1, .inl ht.2⟩
theorem rd_mem {l : List Int} {i : Int} (h0 : 0 ≤ i) (h1 : i < (l.length : Int)) : rd l i ∈ l := by
  unfold rd
  rw [List.getD_eq_getElem?_getD, List.getElem?_eq_getElem (by omega)]; exact List.getElem_mem _
theorem num_some {l : List Int} (h : Byt l) (k : Nat) (p : Int) (xs : List Int) (hx : 0 < xs.length) (hp : 0 ≤ p) (hp' : p ≤ 1000000000000) :
    ∃ r, spec_l12Rd_num.f (k + 1) l p xs = some (r, p + 1) ∧ r ∈ xs := by
  obtain ⟨i, hi, h0, h1⟩ := pick_some h k p (xs.length : Int) hp hp'
  have h1' : i < (xs.length : Int) := by omega
  refine ⟨rd xs i, ?_, rd_mem h0 h1'⟩
  unfold spec_l12Rd_num.f
  rw [hi]; simp only [Option.bind_some]
  rw [if_pos h0, if_pos h1']
theorem byt_of {l : List Int} (h : ∀ x ∈ l, (Lit.int .u8 x).wf = true) : Byt l := by
  intro x hx
  have := h x hx
  simp [Lit.wf, IntKind.min, IntKind.max, IntKind.bits, IntKind.signed] at this
  omega
theorem open_some {l : List Int} (h : Byt l) : ∃ l', spec_l12Open.f l = some (l', 0) ∧ Byt l' := by
  unfold spec_l12Open.f
  by_cases hl : (l.length : Int) > 2000
  · rw [if_pos hl, if_pos (by omega)]
    exact ⟨_, rfl, fun x hx => h x (List.mem_of_mem_take hx)⟩
  · rw [if_neg hl]; exact ⟨l, rfl, h⟩
def I64 (x : Int) : Prop := -9223372036854775808 ≤ x ∧ x ≤ 9223372036854775807
theorem l1Num_some {l : List Int} (h : Byt l) (k : Nat) (p : Int) (hp : 0 ≤ p) (hp' : p ≤ 1000000000000) :
    ∃ r, spec_l1Num.f (k + 1) l p = some (r, p + 1) ∧ I64 r := by
  unfold spec_l1Num.f
  obtain ⟨r, hr, hm⟩ := num_some h k p [0, 1, 2, (-1), 3, 7, 100, 999999, 1000000, (-1000000), 1000001, (-1000007), 9223372036854775807, (-9223372036854775808), 4000000000] (by simp) hp hp'
  refine ⟨r, by rw [hr]; rfl, ?_⟩
  unfold I64
  simp only [List.mem_cons, List.not_mem_nil, or_false] at hm
  omega
theorem rdI (l : List Int) (i : Nat) (h : i < l.length) : rd l (i : Int) = l[i] := by
  unfold rd; rw [Int.toNat_natCast, List.getD_eq_getElem?_getD, List.getElem?_eq_getElem h]; rfl
theorem cut_some (n : Int) : spec_NumCut.f n = some (Hq.cut n) := by
  unfold spec_NumCut.f spec_l1Min.f spec_l1Max.f Hq.cut mn mx
  (repeat' split) <;> simp only [Option.bind_some] <;> (repeat' split) <;> simp only [Option.some.injEq, Option.bind_some] <;> omega
theorem cut_isN (n : Int) : Hm.isN (Hq.cut n) = true := by
  have e : Hq.cut n = if n < -1000000 then -1000000 else if 1000000 < n then 1000000 else n := by unfold Hq.cut mn mx; (repeat' split) <;> omega
  have e2 : Hm.isN (Hq.cut n) = true ↔ (-1000000 ≤ Hq.cut n ∧ Hq.cut n ≤ 1000000) := by simp [Hm.isN]
  rw [e2, e]
  (repeat' split) <;> constructor <;> omega
theorem cut_same (n : Int) : Hq.cut n = n ↔ Hm.isN n = true := by
  have e : Hq.cut n = if n < -1000000 then -1000000 else if 1000000 < n then 1000000 else n := by unfold Hq.cut mn mx; (repeat' split) <;> omega
  have e2 : Hm.isN n = true ↔ (-1000000 ≤ n ∧ n ≤ 1000000) := by simp [Hm.isN]
  rw [e, e2]
  (repeat' split) <;> constructor <;> intros <;> omega
theorem list_loop (x : List Int) (hx : x.length ≤ 1048576) (d : Nat) : ∀ (k i : Nat), i + d = x.length → d < k → spec_l2List.l0 k x (i : Int) = some (decide (x.length = 6) && (x.drop i).all Hm.isN) ∨ (∃ b, spec_l2List.l0 k x (i : Int) = some false ∧ (x.drop i).all Hm.isN = b ∧ b = false) := by
  induction d with
  | zero =>
    intro k i hi hk
    obtain ⟨k, rfl⟩ : ∃ m, k = m + 1 := ⟨k - 1, by omega⟩
    simp only [spec_l2List.l0]
    rw [if_neg (by omega), List.drop_eq_nil_of_le (by omega)]
    left
    by_cases h : x.length = 6
    · simp [h]
    · have : ((x.length : Int) == 6) = false := by simp; omega
      rw [this]; simp [h]
  | succ d ih =>
    intro k i hi hk
    obtain ⟨k, rfl⟩ : ∃ m, k = m + 1 := ⟨k - 1, by omega⟩
    have hil : i < x.length := by omega
    simp only [spec_l2List.l0]
    rw [if_pos (by omega), if_pos (by omega), rdI x i hil, cut_some]
    simp only [Option.bind_some]
    rw [List.drop_eq_getElem_cons hil, List.all_cons]
    by_cases h : Hq.cut x[i] = x[i]
    · rw [if_pos h, (cut_same _).1 h, Bool.true_and, wrap_id (by omega) (by omega)]
      exact ih k (i + 1) (by omega) (by omega)
    · have hn : Hm.isN x[i] = false := by
        cases hq : Hm.isN x[i] with
        | false => rfl
        | true => exact absurd ((cut_same _).2 hq) h
      rw [if_neg h, hn]; right; exact ⟨false, rfl, by simp, rfl⟩
theorem list_some (x : List Int) (hx : x.length ≤ 1048576) (k : Nat) (hk : x.length < k) : spec_l2List.f k x = some (Hm.okL x) := by
  unfold spec_l2List.f Hm.okL
  rcases list_loop x hx x.length k 0 (by omega) (by omega) with h | ⟨b, h, h2, h3⟩
  · exact h
  · subst h3
    simp only [List.drop_zero] at h2
    rw [h2, Bool.and_false]; exact h
theorem specOk_some (a b c : List Int) (ha : a.length ≤ 1048576) (hb : b.length ≤ 1048576) (hc : c.length ≤ 1048576) (k : Nat) (ka : a.length < k) (kb : b.length < k) (kc : c.length < k) : spec_MemOk.f k a b c = some (Hm.okM a b c) := by
  unfold spec_MemOk.f Hm.okM
  rw [list_some a ha k ka, list_some b hb k kb, list_some c hc k kc]; simp only [Option.bind_some]
  cases Hm.okL a <;> cases Hm.okL b <;> rfl
theorem addr_some (k i : Int) : spec_AddrOk.f k i = some (Hn.aOk k i) := by
  unfold spec_AddrOk.f Hn.aOk
  by_cases h1 : k ≥ 1
  · rw [if_pos h1]
    by_cases h2 : k ≤ 3
    · rw [if_pos h2]
      by_cases h3 : i ≥ 0
      · rw [if_pos h3]; simp [h2, (by omega : 1 ≤ k), (by omega : 0 ≤ i)]
      · rw [if_neg h3]; simp [(by omega : ¬ 0 ≤ i)]
    · rw [if_neg h2]; simp [h2]
  · rw [if_neg h1]; simp [(by omega : ¬ 1 ≤ k)]
theorem copy_some (a b c : List Int) (ha : a.length ≤ 1048576) (hb : b.length ≤ 1048576) (hc : c.length ≤ 1048576) : spec_l2Copy.f a b c = some (a, b, c) := by
  unfold spec_l2Copy.f
  simp only [Option.bind_some, List.nil_append, List.length_nil, Nat.zero_add]
  rw [if_pos (by omega), if_pos (by omega), if_pos (by omega)]
theorem specPut_some (a b c : List Int) (j i n : Int) (ha : a.length ≤ 1048576) (hb : b.length ≤ 1048576) (hc : c.length ≤ 1048576) (k : Nat) (ka : a.length < k) (kb : b.length < k) (kc : c.length < k) : spec_MemPut.f k a b c j i n = some (Hq.pL a b c 1 a j i n, Hq.pL a b c 2 b j i n, Hq.pL a b c 3 c j i n) := by
  unfold spec_MemPut.f Hq.pL
  rw [specOk_some a b c ha hb hc k ka kb kc, addr_some, copy_some a b c ha hb hc]
  cases hk : Hm.okM a b c with
  | false => rfl
  | true =>
    obtain ⟨l0, l1, l2⟩ := Hq.okM_len hk
    simp only [Option.bind_some, if_true]
    cases hA : Hn.aOk j i with
    | false =>
      have hp : Hq.pOk j i = false := by simp [Hq.pOk, hA]
      rw [Hq.pT_no hp, Hq.pT_no hp, Hq.pT_no hp]; rfl
    | true =>
      simp only [if_true]
      have hi := hA
      simp only [Hn.aOk, Bool.and_eq_true, decide_eq_true_eq] at hi
      obtain ⟨h1, h2, h3, h4⟩ := hi
      unfold spec_l2Put.f
      rw [cut_some]; simp only [Option.bind_some]
      rcases (by omega : j = 1 ∨ j = 2 ∨ j = 3) with rfl | rfl | rfl
      · rw [if_neg (by omega), if_neg (by omega)]
        have hp : Hq.pOk 1 i = false := by simp [Hq.pOk]
        rw [Hq.pT_no hp, Hq.pT_no hp, Hq.pT_no hp]; rfl
      · rw [if_pos rfl, if_pos h3, if_pos (by omega)]
        have hp : Hq.pOk 2 i = true := by rw [Hq.pOk, hA]; rfl
        simp [Hq.pT, hp]
      · rw [if_neg (by omega), if_pos rfl, if_pos h3, if_pos (by omega)]
        have hp : Hq.pOk 3 i = true := by rw [Hq.pOk, hA]; rfl
        simp [Hq.pT, hp]
theorem pL_len {a b c l : List Int} {j t i n : Int} {m : Nat} (h : l.length ≤ m) : (Hq.pL a b c t l j i n).length ≤ m := by
  unfold Hq.pL; split
  · rw [Hq.pT_len]; exact h
  · simp
theorem pT_all {l : List Int} {t j i n : Int} (h : l.all Hm.isN = true) : (Hq.pT t l j i n).all Hm.isN = true := by
  unfold Hq.pT; split
  · rw [List.all_eq_true] at h ⊢
    intro x hx
    rcases List.mem_or_eq_of_mem_set hx with h2 | h2
    · exact h x h2
    · rw [h2]; exact cut_isN n
  · exact h
theorem pT_okL {l : List Int} {t j i n : Int} (h : Hm.okL l = true) : Hm.okL (Hq.pT t l j i n) = true := by
  simp only [Hm.okL, Bool.and_eq_true, decide_eq_true_eq] at h ⊢
  exact ⟨by rw [Hq.pT_len]; exact h.1, pT_all h.2⟩
theorem pL_ok {a b c : List Int} {j i n : Int} (h : Hm.okM a b c = true) : Hm.okM (Hq.pL a b c 1 a j i n) (Hq.pL a b c 2 b j i n) (Hq.pL a b c 3 c j i n) = true := by
  have e : ∀ t l, Hq.pL a b c t l j i n = Hq.pT t l j i n := fun t l => by unfold Hq.pL; rw [if_pos h]
  rw [e, e, e]
  simp only [Hm.okM, Bool.and_eq_true] at h ⊢
  exact ⟨⟨pT_okL h.1.1, pT_okL h.1.2⟩, pT_okL h.2⟩
theorem eq_loop (x : List Int) (hl : x.length ≤ 1048576) (d : Nat) : ∀ (k i : Nat), i + d = x.length → d < k → slices_Equal_int_int.l0 k x x (x.length : Int) (i : Int) = some true := by
  induction d with
  | zero =>
    intro k i hi hk
    obtain ⟨k, rfl⟩ : ∃ m, k = m + 1 := ⟨k - 1, by omega⟩
    simp only [slices_Equal_int_int.l0]
    rw [if_neg (by omega)]
  | succ d ih =>
    intro k i hi hk
    obtain ⟨k, rfl⟩ : ∃ m, k = m + 1 := ⟨k - 1, by omega⟩
    simp only [slices_Equal_int_int.l0]
    rw [if_pos (by omega), if_pos (by omega), if_pos (by omega), if_pos (by omega)]
    simp only [if_true]
    rw [wrap_id (by omega) (by omega)]
    exact ih k (i + 1) (by omega) (by omega)
theorem same_self (a b c : List Int) (ha : a.length ≤ 1048576) (hb : b.length ≤ 1048576) (hc : c.length ≤ 1048576) (k : Nat) (ka : a.length < k) (kb : b.length < k) (kc : c.length < k) : impl_MemSame.f k a b c a b c = some true := by
  have e : ∀ x : List Int, x.length ≤ 1048576 → x.length < k → slices_Equal_int_int.f k x x = some true := fun x hx hk => by
    unfold slices_Equal_int_int.f
    rw [if_pos rfl]; exact eq_loop x hx x.length k 0 (by omega) hk
  unfold impl_MemSame.f
  rw [e a ha ka, e b hb kb, e c hc kc]; rfl
theorem memLoop_some {l : List Int} (h : Byt l) (d : Nat) : ∀ (k : Nat) (i p : Int) (a b c : List Int), i = 4 - (d : Int) → d ≤ 4 → 0 ≤ p → p + 3 * d ≤ 1000000000000 → d + 1 < k → a.length = 6 → b.length = 6 → c.length = 6 →
    ∃ a' b' c', spec_l2Mem.l0 k i l p a b c = some (a', b', c', p + 3 * d) ∧ a'.length = 6 ∧ b'.length = 6 ∧ c'.length = 6 := by
  induction d with
  | zero =>
    intro k i p a b c hi hd hp hp' hk ha hb hc
    obtain ⟨k, rfl⟩ : ∃ m, k = m + 1 := ⟨k - 1, by omega⟩
    simp only [spec_l2Mem.l0]
    rw [if_neg (by omega)]
    exact ⟨a, b, c, by simp, ha, hb, hc⟩
  | succ d ih =>
    intro k i p a b c hi hd hp hp' hk ha hb hc
    obtain ⟨k, rfl⟩ : ∃ m, k = m + 1 := ⟨k - 1, by omega⟩
    simp only [spec_l2Mem.l0]
    obtain ⟨k, rfl⟩ : ∃ m, k = m + 1 := ⟨k - 1, by omega⟩
    obtain ⟨r0, h0, _⟩ := num_some h k p [0, 0, 1, 1, 2, 5, (-1)] (by simp) hp (by omega)
    obtain ⟨r1, h1, _⟩ := num_some h k (p + 1) [0, 0, 1, 3] (by simp) (by omega) (by omega)
    obtain ⟨r2, h2, _⟩ := num_some h k (p + 1 + 1) [0, 0, 1, 2, 7, 1000000] (by simp) (by omega) (by omega)
    rw [if_pos (by omega), h0]; simp only [Option.bind_some]
    rw [if_pos (by omega), if_pos (by omega), h1]; simp only [Option.bind_some]
    rw [if_pos (by omega), h2]; simp only [Option.bind_some]
    rw [if_pos (by omega), wrap_id (by omega) (by omega)]
    obtain ⟨a', b', c', hr, q⟩ := ih (k + 1) (i + 1) (p + 1 + 1 + 1) (a.set i.toNat r0) (b.set i.toNat r1) (c.set i.toNat r2) (by omega) (by omega) (by omega) (by omega) (by omega) (by simpa using ha) (by simpa using hb) (by simpa using hc)
    refine ⟨a', b', c', ?_, q⟩
    rw [hr]
    have e : p + 1 + 1 + 1 + 3 * (d : Int) = p + 3 * ((d + 1 : Nat) : Int) := by omega
    rw [e]
theorem memDraw_some {l : List Int} (h : Byt l) (k : Nat) (p : Int) (hp : 0 ≤ p) (hp' : p ≤ 1000000) : ∃ a b c, spec_l2Mem.f (k + 6) l p = some (a, b, c, p + 12) ∧ a.length = 6 ∧ b.length = 6 ∧ c.length = 6 := by
  unfold spec_l2Mem.f spec_MemOpen.f
  rw [if_pos (by omega)]; simp only [Option.bind_some]
  exact memLoop_some h 4 (k + 6) 0 p _ _ _ (by omega) (by omega) hp (by omega) (by omega) (by simp) (by simp) (by simp)
theorem memBent_some {l : List Int} (h : Byt l) (k : Nat) (p : Int) (hp : 0 ≤ p) (hp' : p ≤ 1000000) : ∃ a b c, spec_l2MemBent.f (k + 6) l p = some (a, b, c, p + 12 + 1) ∧ a.length ≤ 7 ∧ b.length ≤ 7 ∧ c.length ≤ 7 := by
  unfold spec_l2MemBent.f
  obtain ⟨a, b, c, hm, ha, hb, hc⟩ := memDraw_some h k p hp hp'
  rw [hm]; simp only [Option.bind_some]
  obtain ⟨r, hr, _⟩ := pick_some h (k + 5) (p + 12) 30 (by omega) (by omega)
  rw [hr]; simp only [Option.bind_some]
  by_cases h0 : r = 0
  · rw [if_pos h0, if_pos (by omega)]
    refine ⟨_, _, _, rfl, ?_, ?_, ?_⟩ <;> (try simp only [List.length_take, List.length_set, List.length_append, List.length_singleton]) <;> omega
  rw [if_neg h0]
  by_cases h1 : r = 1
  · rw [if_pos h1, if_pos (by omega)]
    refine ⟨_, _, _, rfl, ?_, ?_, ?_⟩ <;> (try simp only [List.length_take, List.length_set, List.length_append, List.length_singleton]) <;> omega
  rw [if_neg h1]
  by_cases h2 : r = 2
  · rw [if_pos h2, if_pos (by omega)]
    refine ⟨_, _, _, rfl, ?_, ?_, ?_⟩ <;> (try simp only [List.length_take, List.length_set, List.length_append, List.length_singleton]) <;> omega
  rw [if_neg h2]
  refine ⟨_, _, _, rfl, ?_, ?_, ?_⟩ <;> omega
theorem addrBent_some {l : List Int} (h : Byt l) (k : Nat) (p : Int) (hp : 0 ≤ p) (hp' : p ≤ 1000000) : ∃ j i q, spec_l2AddrBent.f (k + 1) l p = some (j, i, q) ∧ p ≤ q ∧ q ≤ p + 10 := by
  unfold spec_l2AddrBent.f spec_l2Addr.f
  obtain ⟨r0, h0, b0, c0⟩ := pick_some h k p 3 hp (by omega)
  obtain ⟨r1, h1, b1, c1⟩ := pick_some h k (p + 1) 3 (by omega) (by omega)
  obtain ⟨r2, h2, b2, c2⟩ := pick_some h k (p + 1 + 1) 16 (by omega) (by omega)
  obtain ⟨r3, h3, _⟩ := num_some h k (p + 1 + 1 + 1) [0, 4, (-1)] (by simp) (by omega) (by omega)
  obtain ⟨r4, h4, _⟩ := num_some h k (p + 1 + 1 + 1) [(-1), 6, 5] (by simp) (by omega) (by omega)
  rw [h0]; simp only [Option.bind_some]
  rw [h1]; simp only [Option.bind_some]
  rw [h2]; simp only [Option.bind_some]
  rw [h3, h4]; simp only [Option.bind_some]
  (repeat' split) <;> (refine ⟨_, _, _, rfl, ?_, ?_⟩ <;> omega)
theorem drawPut_some {l : List Int} (h : Byt l) (k : Nat) : ∃ a b c j i n, spec_DrawMemPut.f (k + 6) l = some (a, b, c, j, i, n) ∧ a.length ≤ 7 ∧ b.length ≤ 7 ∧ c.length ≤ 7 := by
  obtain ⟨l', ho, h'⟩ := open_some h
  unfold spec_DrawMemPut.f
  rw [ho]; simp only [Option.bind_some]
  obtain ⟨a, b, c, hm, q⟩ := memBent_some h' k 0 (by omega) (by omega)
  rw [hm]; simp only [Option.bind_some]
  obtain ⟨j, i, p, ha, p1, p2⟩ := addrBent_some h' (k + 5) (0 + 12 + 1) (by omega) (by omega)
  rw [ha]; simp only [Option.bind_some]
  obtain ⟨n, hn, _⟩ := l1Num_some h' (k + 5) p (by omega) (by omega)
  rw [hn]; simp only [Option.bind_some]
  exact ⟨a, b, c, j, i, n, rfl, q⟩
theorem pT_twice (t : Int) (l : List Int) (J I n m : Int) : Hq.pT t (Hq.pT t l J I n) J I m = Hq.pT t l J I m := by
  unfold Hq.pT
  by_cases hc : (Hq.pOk J I && (J == t)) = true
  · rw [if_pos hc, if_pos hc, if_pos hc, List.set_set]
  · rw [if_neg hc, if_neg hc, if_neg hc]
theorem pT_comm (t : Int) (l : List Int) (J I n J' I' m : Int) (h : (J == J' && (I == I')) = false) : Hq.pT t (Hq.pT t l J I n) J' I' m = Hq.pT t (Hq.pT t l J' I' m) J I n := by
  unfold Hq.pT
  by_cases hc : (Hq.pOk J I && (J == t)) = true
  · by_cases hd : (Hq.pOk J' I' && (J' == t)) = true
    · rw [if_pos hc, if_pos hd, if_pos hd, if_pos hc]
      simp only [Hq.pOk, Hn.aOk, Bool.and_eq_true, decide_eq_true_eq, bne_iff_ne, ne_eq, beq_iff_eq] at hc hd
      have hI : I ≠ I' := by
        intro e
        rw [e, hc.2, hd.2] at h
        simp at h
      exact List.set_comm _ _ (by omega)
    · rw [if_pos hc, if_neg hd, if_neg hd, if_pos hc]
  · by_cases hd : (Hq.pOk J' I' && (J' == t)) = true
    · rw [if_neg hc, if_pos hd, if_neg hc]
    · rw [if_neg hc, if_neg hd, if_neg hc]
theorem pL_no {a b c l : List Int} {t J I n : Int} (h : Hm.okM a b c = false) : Hq.pL a b c t l J I n = [] := by unfold Hq.pL; rw [h]; rfl
theorem pL_yes {a b c l : List Int} {t J I n : Int} (h : Hm.okM a b c = true) : Hq.pL a b c t l J I n = Hq.pT t l J I n := by unfold Hq.pL; rw [h]; rfl
theorem okM_nil : Hm.okM [] [] [] = false := by rfl
theorem pLL_yes {a b c l : List Int} {t J I n J' I' m : Int} (h : Hm.okM a b c = true) : Hq.pL (Hq.pL a b c 1 a J I n) (Hq.pL a b c 2 b J I n) (Hq.pL a b c 3 c J I n) t (Hq.pL a b c t l J I n) J' I' m = Hq.pT t (Hq.pT t l J I n) J' I' m := by
  rw [pL_yes (pL_ok h), pL_yes h]
theorem pLL_no {a b c l : List Int} {t J I n J' I' m : Int} (h : Hm.okM a b c = false) : Hq.pL (Hq.pL a b c 1 a J I n) (Hq.pL a b c 2 b J I n) (Hq.pL a b c 3 c J I n) t (Hq.pL a b c t l J I n) J' I' m = [] := by
  rw [pL_no h, pL_no h, pL_no h, pL_no okM_nil]
theorem twice (a b c l : List Int) (t J I n m : Int) : Hq.pL (Hq.pL a b c 1 a J I n) (Hq.pL a b c 2 b J I n) (Hq.pL a b c 3 c J I n) t (Hq.pL a b c t l J I n) J I m = Hq.pL a b c t l J I m := by
  cases h : Hm.okM a b c with
  | true => rw [pLL_yes h, pL_yes h, pT_twice]
  | false => rw [pLL_no h, pL_no h]
theorem comm (a b c l : List Int) (t J I n J' I' m : Int) (hd : (J == J' && (I == I')) = false) : Hq.pL (Hq.pL a b c 1 a J I n) (Hq.pL a b c 2 b J I n) (Hq.pL a b c 3 c J I n) t (Hq.pL a b c t l J I n) J' I' m = Hq.pL (Hq.pL a b c 1 a J' I' m) (Hq.pL a b c 2 b J' I' m) (Hq.pL a b c 3 c J' I' m) t (Hq.pL a b c t l J' I' m) J I n := by
  cases h : Hm.okM a b c with
  | true => rw [pLL_yes h, pLL_yes h, pT_comm _ _ _ _ _ _ _ _ hd]
  | false => rw [pLL_no h, pLL_no h]
attribute [local go_sem high] eqA38
def R3 (B : Nat) (W : World) (v0 v1 v2 : Value) (a b c : List Int) : Prop := Kd.R (Kd.int .i64) 3 W B (fun _ => True) v0 a ∧ Kd.R (Kd.int .i64) 3 W B (fun _ => True) v1 b ∧ Kd.R (Kd.int .i64) 3 W B (fun _ => True) v2 c
section
variable {B : Nat} {W W' : World} {v0 v1 v2 : Value} {a b c : List Int}
theorem R3.below (h : R3 B W v0 v1 v2 a b c) (hb : Below W.heap.size W W') : R3 B W' v0 v1 v2 a b c := ⟨Kd.R_below h.1 hb, Kd.R_below h.2.1 hb, Kd.R_below h.2.2 hb⟩
theorem R3.alloc (h : R3 B W v0 v1 v2 a b c) (o : Obj) : R3 B (W.alloc o) v0 v1 v2 a b c := h.below ((Below.refl _ _).alloc (Nat.le_refl _) _)
theorem R3.lower {B' : Nat} (h : R3 B W v0 v1 v2 a b c) (hb : B' ≤ B) : R3 B' W v0 v1 v2 a b c := ⟨Kd.R_lower h.1 hb, Kd.R_lower h.2.1 hb, Kd.R_lower h.2.2 hb⟩
theorem R3.of {w : World} (h : Ho.Mem3 w W v0 v1 v2 a b c) : R3 w.heap.size W v0 v1 v2 a b c := ⟨Ho.R_int_ok h.1 (fun _ _ => trivial), Ho.R_int_ok h.2.1 (fun _ _ => trivial), Ho.R_int_ok h.2.2 (fun _ _ => trivial)⟩
theorem R3.set {z j t : Nat} {cells : Array Value} (h : R3 B W v0 v1 v2 a b c) (hz : W.heap[z]? = some (.cells cells t (0, 0))) (ht : t ≠ 3) (u : Value) : R3 B (W.setCell ⟨z, j, none⟩ u) v0 v1 v2 a b c := by
  have h3 : ∀ q, q ∈ 3 :: (Kd.int .i64).E → q ≠ t := by
    intro q hq
    rcases List.mem_cons.1 hq with rfl | h
    · exact fun e => ht e.symm
    · exact absurd (show q ∈ ([] : List Nat) from h) (by simp)
  exact ⟨Kd.R_set h.1 hz h3 j u, Kd.R_set h.2.1 hz h3 j u, Kd.R_set h.2.2 hz h3 j u⟩
end
theorem R3.slices {B : Nat} {W : World} {v0 v1 v2 : Value} {a b c : List Int} (h : R3 B W v0 v1 v2 a b c) : ∃ A0 A1 A2 c0 c1 c2, v0 = .slice A0 a.length c0 ∧ v1 = .slice A1 b.length c1 ∧ v2 = .slice A2 c.length c2 := by
  obtain ⟨A0, c0, rfl, _⟩ := Kd.R_reads h.1
  obtain ⟨A1, c1, rfl, _⟩ := Kd.R_reads h.2.1
  obtain ⟨A2, c2, rfl, _⟩ := Kd.R_reads h.2.2
  exact ⟨A0, A1, A2, c0, c1, c2, rfl, rfl, rfl⟩
abbrev S3 (A0 A1 A2 : Option Addr) (c0 c1 c2 : Nat) (a b c : List Int) (B : Nat) (W : World) : Prop := R3 B W (.slice A0 a.length c0) (.slice A1 b.length c1) (.slice A2 c.length c2) a b c
theorem draw28 (k : Nat) (A : Option Addr) (cc : Nat) (l a b c : List Int) (J I n : Int) (W : World) (hr : Kd.C (Kd.int .u8) W A l.length l) (hc : l.length ≤ cc) (h : spec_DrawMemPut.f k l = some (a, b, c, J, I, n)) :
    Calls Try.prog 28 #[.slice A l.length cc] W fun e w' => ∃ A0 A1 A2 c0 c1 c2, e = .returned (.tuple #[.agg #[.slice A0 a.length c0, .slice A1 b.length c1, .slice A2 c.length c2], .agg #[.int .i64 J, .int .i64 I], .int .i64 n]) ∧ S3 A0 A1 A2 c0 c1 c2 a b c W.heap.size w' ∧ Below W.heap.size W w' := by
  refine (spec_DrawMemPut.calls k A cc l a b c J I n W hr hc h).mono ?_
  rintro e w' ⟨v0, v1, v2, rfl, h0, h1, h2, hb⟩
  have h3 : R3 W.heap.size w' v0 v1 v2 a b c := ⟨Ho.R_int_ok h0 (fun _ _ => trivial), Ho.R_int_ok h1 (fun _ _ => trivial), Ho.R_int_ok h2 (fun _ _ => trivial)⟩
  obtain ⟨A0, A1, A2, c0, c1, c2, rfl, rfl, rfl⟩ := h3.slices
  exact ⟨A0, A1, A2, c0, c1, c2, rfl, h3, hb⟩
theorem put26 (A0 A1 A2 : Option Addr) (c0 c1 c2 : Nat) (a b c p q r : List Int) (J I n : Int) (hp : Hq.pL a b c 1 a J I n = p) (hq : Hq.pL a b c 2 b J I n = q) (hr : Hq.pL a b c 3 c J I n = r) (B : Nat) (W : World) (h : S3 A0 A1 A2 c0 c1 c2 a b c B W) (hB : B ≤ W.heap.size) :
    Calls Try.prog 26 #[.agg #[.slice A0 a.length c0, .slice A1 b.length c1, .slice A2 c.length c2], .agg #[.int .i64 J, .int .i64 I], .int .i64 n] W fun e w' => ∃ A0 A1 A2 c0 c1 c2, e = .returned (.agg #[.slice A0 p.length c0, .slice A1 q.length c1, .slice A2 r.length c2]) ∧ S3 A0 A1 A2 c0 c1 c2 p q r B w' ∧ Below W.heap.size W w' := by
  subst hp hq hr
  refine (Hq.memPut_any A0 A1 A2 c0 c1 c2 a b c J I n W (Kd.R_reads' h.1).2.2 (Kd.R_reads' h.2.1).2.2 (Kd.R_reads' h.2.2).2.2).mono ?_
  rintro e w' ⟨v0, v1, v2, rfl, hM, hb⟩
  have h3 := (R3.of hM).lower hB
  obtain ⟨A0, A1, A2, c0, c1, c2, rfl, rfl, rfl⟩ := h3.slices
  exact ⟨A0, A1, A2, c0, c1, c2, rfl, h3, hb⟩
theorem put25 (k : Nat) (A0 A1 A2 : Option Addr) (c0 c1 c2 : Nat) (a b c p q r : List Int) (J I n : Int) (he : spec_MemPut.f k a b c J I n = some (p, q, r)) (B : Nat) (W : World) (h : S3 A0 A1 A2 c0 c1 c2 a b c B W) (hB : B ≤ W.heap.size) :
    Calls Try.prog 25 #[.agg #[.slice A0 a.length c0, .slice A1 b.length c1, .slice A2 c.length c2], .agg #[.int .i64 J, .int .i64 I], .int .i64 n] W fun e w' => ∃ A0 A1 A2 c0 c1 c2, e = .returned (.agg #[.slice A0 p.length c0, .slice A1 q.length c1, .slice A2 r.length c2]) ∧ S3 A0 A1 A2 c0 c1 c2 p q r B w' ∧ Below W.heap.size W w' := by
  refine (spec_MemPut.calls k A0 c0 a A1 c1 b A2 c2 c J I n p q r W (Kd.R_reads' h.1).2.2 (Kd.R_reads' h.1).2.1 (Kd.R_reads' h.2.1).2.2 (Kd.R_reads' h.2.1).2.1 (Kd.R_reads' h.2.2).2.2 (Kd.R_reads' h.2.2).2.1 he).mono ?_
  rintro e w' ⟨v0, v1, v2, rfl, h0, h1, h2, hb⟩
  have h3 := R3.lower (⟨Ho.R_int_ok h0 (fun _ _ => trivial), Ho.R_int_ok h1 (fun _ _ => trivial), Ho.R_int_ok h2 (fun _ _ => trivial)⟩ : R3 W.heap.size w' v0 v1 v2 p q r) hB
  obtain ⟨A0, A1, A2, c0, c1, c2, rfl, rfl, rfl⟩ := h3.slices
  exact ⟨A0, A1, A2, c0, c1, c2, rfl, h3, hb⟩
theorem same19 (k : Nat) (A0 A1 A2 : Option Addr) (c0 c1 c2 : Nat) (a b c : List Int) (B0 B1 B2 : Option Addr) (d0 d1 d2 : Nat) (a' b' c' : List Int) (ea : a = a') (eb : b = b') (ec : c = c') (he : impl_MemSame.f k a b c a b c = some true) (B B' : Nat) (W : World) (h : S3 A0 A1 A2 c0 c1 c2 a b c B W) (h' : S3 B0 B1 B2 d0 d1 d2 a' b' c' B' W) :
    Calls Try.prog 19 #[.agg #[.slice A0 a.length c0, .slice A1 b.length c1, .slice A2 c.length c2], .agg #[.slice B0 a'.length d0, .slice B1 b'.length d1, .slice B2 c'.length d2]] W fun e w' => e = .returned (.bool true) ∧ Below W.heap.size W w' := by
  subst ea eb ec
  exact impl_MemSame.calls k A0 c0 a A1 c1 b A2 c2 c B0 d0 a B1 d1 b B2 d2 c true W (Kd.R_reads' h.1).2.2 (Kd.R_reads' h.1).2.1 (Kd.R_reads' h.2.1).2.2 (Kd.R_reads' h.2.1).2.1 (Kd.R_reads' h.2.2).2.2 (Kd.R_reads' h.2.2).2.1 (Kd.R_reads' h'.1).2.2 (Kd.R_reads' h'.1).2.1 (Kd.R_reads' h'.2.1).2.2 (Kd.R_reads' h'.2.1).2.1 (Kd.R_reads' h'.2.2).2.2 (Kd.R_reads' h'.2.2).2.1 he
structure M2 (w : World) (g5 g6 g9 : Nat) (A0 A1 A2 : Option Addr) (c0 c1 c2 : Nat) (a b c : List Int) (J I J' I' : Int) (W : World) : Prop where
  h5 : W.heap[g5]? = some (.cells #[.slice A0 a.length c0, .slice A1 b.length c1, .slice A2 c.length c2] 24 (0, 0))
  h6 : W.heap[g6]? = some (.cells #[.int .i64 J, .int .i64 I] 38 (0, 0))
  h9 : W.heap[g9]? = some (.cells #[.int .i64 J', .int .i64 I'] 38 (0, 0))
  m : S3 A0 A1 A2 c0 c1 c2 a b c w.heap.size W
  bel : Below w.heap.size w W
section
variable {w : World} {g5 g6 g9 : Nat} {A0 A1 A2 : Option Addr} {c0 c1 c2 : Nat} {a b c : List Int} {J I J' I' : Int} {W W' : World}
theorem M2.below (h : M2 w g5 g6 g9 A0 A1 A2 c0 c1 c2 a b c J I J' I' W) (hb : Below W.heap.size W W') : M2 w g5 g6 g9 A0 A1 A2 c0 c1 c2 a b c J I J' I' W' := ⟨blk_below h.h5 hb, blk_below h.h6 hb, blk_below h.h9 hb, h.m.below hb, h.bel.trans (hb.mono h.bel.size)⟩
theorem M2.drew (h : M2 w g5 g6 g9 A0 A1 A2 c0 c1 c2 a b c J I J' I' W) : M2 w g5 g6 g9 A0 A1 A2 c0 c1 c2 a b c J I J' I' W.drew := h.below (below_drew1 (Below.refl _ _))
theorem M2.alloc (h : M2 w g5 g6 g9 A0 A1 A2 c0 c1 c2 a b c J I J' I' W) (o : Obj) : M2 w g5 g6 g9 A0 A1 A2 c0 c1 c2 a b c J I J' I' (W.alloc o) := h.below ((Below.refl _ _).alloc (Nat.le_refl _) _)
theorem M2.x50 (h : M2 w g5 g6 g9 A0 A1 A2 c0 c1 c2 a b c J I J' I' W) : W.cell? ⟨g5, 0, none⟩ = some (.slice A0 a.length c0) := (blk_cell h.h5 0).trans rfl
theorem M2.x51 (h : M2 w g5 g6 g9 A0 A1 A2 c0 c1 c2 a b c J I J' I' W) : W.cell? ⟨g5, 1, none⟩ = some (.slice A1 b.length c1) := (blk_cell h.h5 1).trans rfl
theorem M2.x52 (h : M2 w g5 g6 g9 A0 A1 A2 c0 c1 c2 a b c J I J' I' W) : W.cell? ⟨g5, 2, none⟩ = some (.slice A2 c.length c2) := (blk_cell h.h5 2).trans rfl
theorem M2.x60 (h : M2 w g5 g6 g9 A0 A1 A2 c0 c1 c2 a b c J I J' I' W) : W.cell? ⟨g6, 0, none⟩ = some (.int .i64 J) := (blk_cell h.h6 0).trans rfl
theorem M2.x61 (h : M2 w g5 g6 g9 A0 A1 A2 c0 c1 c2 a b c J I J' I' W) : W.cell? ⟨g6, 1, none⟩ = some (.int .i64 I) := (blk_cell h.h6 1).trans rfl
theorem M2.x90 (h : M2 w g5 g6 g9 A0 A1 A2 c0 c1 c2 a b c J I J' I' W) : W.cell? ⟨g9, 0, none⟩ = some (.int .i64 J') := (blk_cell h.h9 0).trans rfl
theorem M2.x91 (h : M2 w g5 g6 g9 A0 A1 A2 c0 c1 c2 a b c J I J' I' W) : W.cell? ⟨g9, 1, none⟩ = some (.int .i64 I') := (blk_cell h.h9 1).trans rfl
theorem M2.far (h : M2 w g5 g6 g9 A0 A1 A2 c0 c1 c2 a b c J I J' I' W) {z : Nat} {cells : Array Value} (hz : W.heap[z]? = some (.cells cells 24 (0, 0))) (n5 : g5 < z) (n6 : g6 < z) (n9 : g9 < z) (nz : w.heap.size ≤ z) (j : Nat) (u : Value) : M2 w g5 g6 g9 A0 A1 A2 c0 c1 c2 a b c J I J' I' (W.setCell ⟨z, j, none⟩ u) :=
  ⟨blk_far h.h5 (Nat.ne_of_lt n5) u, blk_far h.h6 (Nat.ne_of_lt n6) u, blk_far h.h9 (Nat.ne_of_lt n9) u, h.m.set hz (by decide) u, below_set h.bel nz⟩
end
structure N2 (w : World) (g5 g6 g9 : Nat) (A0 A1 A2 : Option Addr) (c0 c1 c2 : Nat) (a b c : List Int) (J I J' I' : Int) (z : Nat) (Y0 Y1 Y2 : Option Addr) (y0 y1 y2 : Nat) (p q r : List Int) (W : World) : Prop where
  M : M2 w g5 g6 g9 A0 A1 A2 c0 c1 c2 a b c J I J' I' W
  h11 : W.heap[z]? = some (.cells #[.slice Y0 p.length y0, .slice Y1 q.length y1, .slice Y2 r.length y2] 24 (0, 0))
  y : S3 Y0 Y1 Y2 y0 y1 y2 p q r w.heap.size W
section
variable {w : World} {g5 g6 g9 : Nat} {A0 A1 A2 : Option Addr} {c0 c1 c2 : Nat} {a b c : List Int} {J I J' I' : Int} {z : Nat} {Y0 Y1 Y2 : Option Addr} {y0 y1 y2 : Nat} {p q r : List Int} {W W' : World}
theorem N2.below (h : N2 w g5 g6 g9 A0 A1 A2 c0 c1 c2 a b c J I J' I' z Y0 Y1 Y2 y0 y1 y2 p q r W) (hb : Below W.heap.size W W') : N2 w g5 g6 g9 A0 A1 A2 c0 c1 c2 a b c J I J' I' z Y0 Y1 Y2 y0 y1 y2 p q r W' := ⟨h.M.below hb, blk_below h.h11 hb, h.y.below hb⟩
theorem N2.drew (h : N2 w g5 g6 g9 A0 A1 A2 c0 c1 c2 a b c J I J' I' z Y0 Y1 Y2 y0 y1 y2 p q r W) : N2 w g5 g6 g9 A0 A1 A2 c0 c1 c2 a b c J I J' I' z Y0 Y1 Y2 y0 y1 y2 p q r W.drew := h.below (below_drew1 (Below.refl _ _))
theorem N2.xz0 (h : N2 w g5 g6 g9 A0 A1 A2 c0 c1 c2 a b c J I J' I' z Y0 Y1 Y2 y0 y1 y2 p q r W) : W.cell? ⟨z, 0, none⟩ = some (.slice Y0 p.length y0) := (blk_cell h.h11 0).trans rfl
theorem N2.xz1 (h : N2 w g5 g6 g9 A0 A1 A2 c0 c1 c2 a b c J I J' I' z Y0 Y1 Y2 y0 y1 y2 p q r W) : W.cell? ⟨z, 1, none⟩ = some (.slice Y1 q.length y1) := (blk_cell h.h11 1).trans rfl
theorem N2.xz2 (h : N2 w g5 g6 g9 A0 A1 A2 c0 c1 c2 a b c J I J' I' z Y0 Y1 Y2 y0 y1 y2 p q r W) : W.cell? ⟨z, 2, none⟩ = some (.slice Y2 r.length y2) := (blk_cell h.h11 2).trans rfl
end
set_option maxRecDepth 100000 in
set_option maxHeartbeats 25600000 in
theorem main (A A' : Option Addr) (cc cc' : Nat) (l l' a b c a' b' c' : List Int) (J I n J' I' n' : Int) (k k' : Nat) (w : World) (hl : ¬ (l.length : Int) > 1048576) (hl' : ¬ (l'.length : Int) > 1048576)
    (hr : Kd.C (Kd.int .u8) w A l.length l) (hc : l.length ≤ cc) (hr' : Kd.C (Kd.int .u8) w A' l'.length l') (hc' : l'.length ≤ cc') (hd : spec_DrawMemPut.f k l = some (a, b, c, J, I, n)) (hd' : spec_DrawMemPut.f k' l' = some (a', b', c', J', I', n')) (ha : a.length ≤ 7) (hb : b.length ≤ 7) (hcc : c.length ≤ 7) :
    Calls Try.prog 9 #[.slice A l.length cc, .slice A' l'.length cc'] w fun e w' => e = .returned (.bool true) ∧ Below w.heap.size w w' := by
  have t1 : decide (1048576 < (l.length : Int)) = false := by simpa using hl
  have t2 : decide (1048576 < (l'.length : Int)) = false := by simpa using hl'
  have g1 := draw28 k A cc l a b c J I n w hr hc hd
  have g2 := fun W hW => draw28 k' A' cc' l' a' b' c' J' I' n' W hW hc' hd'
  clear hl hl' hd hd' hr hc
  have hu24 := Try.underlying24
  have hu38 := Try.underlying38
  go_enter Try.func9, Try.ntmps9
  go_wp2_with fail
  refine g1.mono ?_
  rintro e w1 ⟨A0, A1, A2, c0, c1, c2, rfl, hm, hb1⟩
  clear g1
  go_wp2_with fail
  have q0 : (w1.alloc (Obj.cells #[.slice A0 a.length c0, .slice A1 b.length c1, .slice A2 c.length c2] 24)).heap.size = w1.heap.size + 1 := Hm.alloc_size _ _
  have q1 : ((w1.alloc (Obj.cells #[.slice A0 a.length c0, .slice A1 b.length c1, .slice A2 c.length c2] 24)).alloc (Obj.cells #[.int .i64 J, .int .i64 I] 38)).heap.size = w1.heap.size + 1 + 1 := (Hm.alloc_size _ _).trans (congrArg (· + 1) q0)
  have k5 : ((w1.alloc (Obj.cells #[.slice A0 a.length c0, .slice A1 b.length c1, .slice A2 c.length c2] 24)).alloc (Obj.cells #[.int .i64 J, .int .i64 I] 38)).heap[w1.heap.size]? = some (.cells #[.slice A0 a.length c0, .slice A1 b.length c1, .slice A2 c.length c2] 24 (0, 0)) := blk_alloc (heap_alloc_new _ _) _
  have k6 : ((w1.alloc (Obj.cells #[.slice A0 a.length c0, .slice A1 b.length c1, .slice A2 c.length c2] 24)).alloc (Obj.cells #[.int .i64 J, .int .i64 I] 38)).heap[w1.heap.size + 1]? = some (.cells #[.int .i64 J, .int .i64 I] 38 (0, 0)) := by rw [← q0]; exact heap_alloc_new _ _
  have km : S3 A0 A1 A2 c0 c1 c2 a b c w.heap.size ((w1.alloc (Obj.cells #[.slice A0 a.length c0, .slice A1 b.length c1, .slice A2 c.length c2] 24)).alloc (Obj.cells #[.int .i64 J, .int .i64 I] 38)) := (hm.alloc _).alloc _
  have kb : Below w.heap.size w ((w1.alloc (Obj.cells #[.slice A0 a.length c0, .slice A1 b.length c1, .slice A2 c.length c2] 24)).alloc (Obj.cells #[.int .i64 J, .int .i64 I] 38)) := (hb1.alloc hb1.size _).alloc (Nat.le_trans hb1.size (by rw [q0]; exact Nat.le_succ _)) _
  have h5 : w.heap.size ≤ w1.heap.size := hb1.size
  generalize (w1.alloc (Obj.cells _ 24)).alloc (Obj.cells _ 38) = w2 at k5 k6 km kb q1 ⊢
  obtain ⟨g5, hg5⟩ : ∃ g, w1.heap.size = g := ⟨_, rfl⟩
  rw [hg5] at k5 k6 h5 q1 ⊢
  obtain ⟨g6, hg6⟩ : ∃ g, g5 + 1 = g := ⟨_, rfl⟩
  rw [hg6] at k6 q1 ⊢
  have h6 : w.heap.size ≤ g6 := by omega
  clear hm hb1 q0 hg5
  refine (g2 _ (Kd.C_below hr' kb)).mono ?_
  rintro e w3 ⟨B0, B1, B2, d0, d1, d2, rfl, hm', hb3⟩
  have m5 := blk_below k5 hb3
  have m6 := blk_below k6 hb3
  have mm := km.below hb3
  have mb := kb.trans (hb3.mono kb.size)
  have ms : g6 < w3.heap.size := by have := hb3.size; omega
  clear g2 k5 k6 km kb hb3 hm' hr' q1
  obtain ⟨P, hP⟩ : ∃ q, Hq.pL a b c 1 a J I n = q := ⟨_, rfl⟩
  obtain ⟨Q, hQ⟩ : ∃ q, Hq.pL a b c 2 b J I n = q := ⟨_, rfl⟩
  obtain ⟨R, hR⟩ : ∃ q, Hq.pL a b c 3 c J I n = q := ⟨_, rfl⟩
  obtain ⟨P2, hP2⟩ : ∃ q, Hq.pL P Q R 1 P J' I' n' = q := ⟨_, rfl⟩
  obtain ⟨Q2, hQ2⟩ : ∃ q, Hq.pL P Q R 2 Q J' I' n' = q := ⟨_, rfl⟩
  obtain ⟨R2, hR2⟩ : ∃ q, Hq.pL P Q R 3 R J' I' n' = q := ⟨_, rfl⟩
  have f0 : P.length ≤ 7 := hP ▸ pL_len ha
  have f1 : Q.length ≤ 7 := hQ ▸ pL_len hb
  have f2 : R.length ≤ 7 := hR ▸ pL_len hcc
  have f3 : P2.length ≤ 7 := hP2 ▸ pL_len f0
  have f4 : Q2.length ≤ 7 := hQ2 ▸ pL_len f1
  have f5 : R2.length ≤ 7 := hR2 ▸ pL_len f2
  have e25 : spec_MemPut.f 20 a b c J I n = some (P, Q, R) := by rw [specPut_some a b c J I n (by omega) (by omega) (by omega) 20 (by omega) (by omega) (by omega), hP, hQ, hR]
  have e25' : spec_MemPut.f 20 P Q R J' I' n' = some (P2, Q2, R2) := by rw [specPut_some P Q R J' I' n' (by omega) (by omega) (by omega) 20 (by omega) (by omega) (by omega), hP2, hQ2, hR2]
  have e19 : impl_MemSame.f 20 P2 Q2 R2 P2 Q2 R2 = some true := same_self _ _ _ (by omega) (by omega) (by omega) 20 (by omega) (by omega) (by omega)
  have e19' : impl_MemSame.f 20 P Q R P Q R = some true := same_self _ _ _ (by omega) (by omega) (by omega) 20 (by omega) (by omega) (by omega)
  have tw0 : Hq.pL P Q R 1 P J I n = P := by rw [← hP, ← hQ, ← hR]; exact twice a b c a 1 J I n n
  have tw1 : Hq.pL P Q R 2 Q J I n = Q := by rw [← hP, ← hQ, ← hR]; exact twice a b c b 2 J I n n
  have tw2 : Hq.pL P Q R 3 R J I n = R := by rw [← hP, ← hQ, ← hR]; exact twice a b c c 3 J I n n
  have hyes : (J == J' && (I == I')) = true → Hq.pL a b c 1 a J' I' n' = P2 ∧ Hq.pL a b c 2 b J' I' n' = Q2 ∧ Hq.pL a b c 3 c J' I' n' = R2 := by
    intro hs
    simp only [Bool.and_eq_true, beq_iff_eq] at hs
    obtain ⟨rfl, rfl⟩ := hs
    rw [← hP2, ← hQ2, ← hR2, ← hP, ← hQ, ← hR]
    exact ⟨(twice a b c a 1 J I n n').symm, (twice a b c b 2 J I n n').symm, (twice a b c c 3 J I n n').symm⟩
  have hno : (J == J' && (I == I')) = false → ∃ V0 V1 V2, Hq.pL a b c 1 a J' I' n' = V0 ∧ Hq.pL a b c 2 b J' I' n' = V1 ∧ Hq.pL a b c 3 c J' I' n' = V2 ∧ Hq.pL V0 V1 V2 1 V0 J I n = P2 ∧ Hq.pL V0 V1 V2 2 V1 J I n = Q2 ∧ Hq.pL V0 V1 V2 3 V2 J I n = R2 := by
    intro hs
    refine ⟨_, _, _, rfl, rfl, rfl, ?_⟩
    rw [← hP2, ← hQ2, ← hR2, ← hP, ← hQ, ← hR]
    exact ⟨(comm a b c a 1 J I n J' I' n' hs).symm, (comm a b c b 2 J I n J' I' n' hs).symm, (comm a b c c 3 J I n J' I' n' hs).symm⟩
  clear f0 f1 f2 f3 f4 f5 ha hb hcc
  go_wp2_with fail
  have q0 : (w3.alloc (Obj.cells #[.slice B0 a'.length d0, .slice B1 b'.length d1, .slice B2 c'.length d2] 24)).heap.size = w3.heap.size + 1 := Hm.alloc_size _ _
  have hM : M2 w g5 g6 (w3.heap.size + 1) A0 A1 A2 c0 c1 c2 a b c J I J' I' ((w3.alloc (Obj.cells #[.slice B0 a'.length d0, .slice B1 b'.length d1, .slice B2 c'.length d2] 24)).alloc (Obj.cells #[.int .i64 J', .int .i64 I'] 38)) :=
    ⟨blk_alloc (blk_alloc m5 _) _, blk_alloc (blk_alloc m6 _) _, by rw [← q0]; exact heap_alloc_new _ _, (mm.alloc _).alloc _, (mb.alloc mb.size _).alloc (Nat.le_trans mb.size (by rw [q0]; exact Nat.le_succ _)) _⟩
  generalize (w3.alloc (Obj.cells _ 24)).alloc (Obj.cells _ 38) = w4 at hM ⊢
  generalize w3.heap.size + 1 = g9 at hM ⊢
  clear m5 m6 mm mb ms q0
  have hM0 := hM.drew
  refine start_ (n := 9) (S := fun w' => w'.cell? ⟨g5, 0, none⟩ = some (.slice A0 a.length c0) ∧ w'.cell? ⟨g5, 1, none⟩ = some (.slice A1 b.length c1) ∧ w'.cell? ⟨g5, 2, none⟩ = some (.slice A2 c.length c2) ∧ w'.cell? ⟨g6, 0, none⟩ = some (.int .i64 J) ∧ w'.cell? ⟨g6, 1, none⟩ = some (.int .i64 I) ∧ w'.cell? ⟨g9, 0, none⟩ = some (.int .i64 J') ∧ w'.cell? ⟨g9, 1, none⟩ = some (.int .i64 I') ∧ M2 w g5 g6 g9 A0 A1 A2 c0 c1 c2 a b c J I J' I' w') (ds := []) #[false, false, false, false, false, false, false, false, false] (by kernel_rfl) rfl rfl ⟨hM0.x50, hM0.x51, hM0.x52, hM0.x60, hM0.x61, hM0.x90, hM0.x91, hM0⟩ (fun hHeld => ?_)
  refine pure_ (i := 2) (N := some 34) (v := ?_) (a' := ?_) #[false, false, true, false, false, false, false, false, false] rfl rfl (by kernel_rfl) (fun _ _ _ h => h) (Or.inl ⟨by rfl, ?_⟩) ?_ ?_
  rotate_left
  · intro w'
    go_simp
    with_reducible rfl
  rotate_left
  · simp only [Act.put, List.setIfInBounds_toArray, List.set_cons_zero, List.set_cons_succ, i64_w, i32_w]
    rfl
  refine pure_ (i := 5) (N := some 37) (v := ?_) (a' := ?_) #[false, false, true, false, false, true, false, false, false] rfl rfl (by kernel_rfl) (fun _ _ _ h => h) (Or.inl ⟨by rfl, ?_⟩) ?_ ?_
  rotate_left
  · intro w'
    go_simp
    with_reducible rfl
  rotate_left
  · simp only [Act.put, List.setIfInBounds_toArray, List.set_cons_zero, List.set_cons_succ, i64_w, i32_w]
    rfl
  refine take_ (i := 0) (N := some 32) (v := ?_) (a' := ?_) #[true, false, true, false, false, true, false, false, false] rfl rfl (by kernel_rfl) (fun _ _ _ h => h) (Or.inl ⟨by rfl, ?_⟩) hHeld ?_ ?_
  rotate_left
  · rintro w' ⟨s0, s1, s2, s3, s4, s5, s6, s7⟩
    go_simp
    with_reducible rfl
  rotate_left
  · simp only [Act.put, List.setIfInBounds_toArray, List.set_cons_zero, List.set_cons_succ, i64_w, i32_w]
    rfl
  refine take_ (i := 1) (N := some 33) (v := ?_) (a' := ?_) #[true, true, true, false, false, true, false, false, false] rfl rfl (by kernel_rfl) (fun _ _ _ h => h) (Or.inl ⟨by rfl, ?_⟩) hHeld ?_ ?_
  rotate_left
  · rintro w' ⟨s0, s1, s2, s3, s4, s5, s6, s7⟩
    go_simp
    with_reducible rfl
  rotate_left
  · simp only [Act.put, List.setIfInBounds_toArray, List.set_cons_zero, List.set_cons_succ, i64_w, i32_w]
    rfl
  refine take_ (i := 4) (N := some 36) (v := ?_) (a' := ?_) #[true, true, true, false, true, true, false, false, false] rfl rfl (by kernel_rfl) (fun _ _ _ h => h) (Or.inl ⟨by rfl, ?_⟩) hHeld ?_ ?_
  rotate_left
  · rintro w' ⟨s0, s1, s2, s3, s4, s5, s6, s7⟩
    go_simp
    with_reducible rfl
  rotate_left
  · simp only [Act.put, List.setIfInBounds_toArray, List.set_cons_zero, List.set_cons_succ, i64_w, i32_w]
    rfl
  refine join_ (σ := Value × Value × Nat) 1 #[true, true, true, true, true, true, true, true, false] (fun s_ => [(35, s_.1), (38, s_.2.1), (11, .pointer (some ⟨s_.2.2, 0, none⟩))]) (fun s_ w' => M2 w g5 g6 g9 A0 A1 A2 c0 c1 c2 a b c J I J' I' w' ∧ (∃ Y0 Y1 Y2 y0 y1 y2, s_.2.1 = .agg #[.slice Y0 P2.length y0, .slice Y1 Q2.length y1, .slice Y2 R2.length y2] ∧ S3 Y0 Y1 Y2 y0 y1 y2 P2 Q2 R2 w.heap.size w') ∧ w'.heap[s_.2.2]? = some (.cells #[.slice none 0 0, .slice none 0 0, .slice none 0 0] 24 (0, 0)) ∧ w.heap.size ≤ s_.2.2 ∧ g5 < s_.2.2 ∧ g6 < s_.2.2 ∧ g9 < s_.2.2) ?_ ?_
  rotate_left
  · intro hCont
    refine two_ (i := 3) (j := 7) (Ni := some 35) (Nj := some 11) #[true, true, true, true, true, true, false, false, false] #[true, true, true, false, true, true, false, true, false] rfl rfl rfl rfl (by kernel_rfl) (by decide) (by decide) (fun K hK => ?_) (fun K hK => ?_)
    · skip
      refine goes_ Try.func26 (by kernel_rfl) rfl #[.agg #[.slice A0 a.length c0, .slice A1 b.length c1, .slice A2 c.length c2], .agg #[.int .i64 J, .int .i64 I], .int .i64 n] (by rfl) rfl rfl (by simp only [List.map_toArray, List.map_cons, List.map_nil]; rfl) ?_
      with_reducible refine (put26 A0 A1 A2 c0 c1 c2 a b c P Q R J I n hP hQ hR w.heap.size _ hHeld.2.2.2.2.2.2.2.m hHeld.2.2.2.2.2.2.2.bel.size).mono ?_
      rintro e wx ⟨X0, X1, X2, x0, x1, x2, rfl, hx, hbx⟩
      refine ⟨_, rfl, ?_⟩
      have hMx := hHeld.2.2.2.2.2.2.2.below hbx
      refine hK.out _ _ ⟨hMx.x50, hMx.x51, hMx.x52, hMx.x60, hMx.x61, hMx.x90, hMx.x91, hMx⟩ (fun hHeld => ?_)
      clear hK K
      refine norm_ (a' := ?_) ?_ ?_
      rotate_left
      · show Act.put _ (some 35) _ = _
        simp only [Act.put, List.setIfInBounds_toArray, List.set_cons_zero, List.set_cons_succ, i64_w, i32_w]
        rfl
      refine two_ (i := 6) (j := 7) (Ni := some 38) (Nj := some 11) #[true, true, true, true, true, true, true, false, false] #[true, true, true, true, true, true, false, true, false] rfl rfl rfl rfl (by kernel_rfl) (by decide) (by decide) (fun K hK => ?_) (fun K hK => ?_)
      · skip
        refine goes_ Try.func26 (by kernel_rfl) rfl #[.agg #[.slice X0 P.length x0, .slice X1 Q.length x1, .slice X2 R.length x2], .agg #[.int .i64 J', .int .i64 I'], .int .i64 n'] (by rfl) rfl rfl (by simp only [List.map_toArray, List.map_cons, List.map_nil]; rfl) ?_
        with_reducible refine (put26 X0 X1 X2 x0 x1 x2 P Q R P2 Q2 R2 J' I' n' hP2 hQ2 hR2 w.heap.size _ hx hHeld.2.2.2.2.2.2.2.bel.size).mono ?_
        rintro e wy ⟨Y0, Y1, Y2, y0, y1, y2, rfl, hy, hby⟩
        refine ⟨_, rfl, ?_⟩
        have hMy := hHeld.2.2.2.2.2.2.2.below hby
        refine hK.out _ _ ⟨hMy.x50, hMy.x51, hMy.x52, hMy.x60, hMy.x61, hMy.x90, hMy.x91, hMy⟩ (fun hHeld => ?_)
        clear hK K
        refine norm_ (a' := ?_) ?_ ?_
        rotate_left
        · show Act.put _ (some 38) _ = _
          simp only [Act.put, List.setIfInBounds_toArray, List.set_cons_zero, List.set_cons_succ, i64_w, i32_w]
          rfl
        refine one_ (i := 7) (N := some 11) #[true, true, true, true, true, true, true, true, false] rfl rfl (by kernel_rfl) (by decide) (fun K hK => ?_)
        refine value_ (w1 := ?_) (v := ?_) (by rfl) rfl ?_ ?_
        rotate_left 2
        · go_simp
          constructor
          · rfl
          · rfl
        have hMz := hHeld.2.2.2.2.2.2.2
        have gz : w.heap.size ≤ wy.heap.size ∧ g5 < wy.heap.size ∧ g6 < wy.heap.size ∧ g9 < wy.heap.size := ⟨hMz.bel.size, blk_lt hMz.h5, blk_lt hMz.h6, blk_lt hMz.h9⟩
        have hz := heap_alloc_new (wy) (Obj.cells #[.slice none 0 0, .slice none 0 0, .slice none 0 0] 24)
        have hy := hy.alloc (Obj.cells #[.slice none 0 0, .slice none 0 0, .slice none 0 0] 24)
        replace hMz := hMz.alloc (Obj.cells #[.slice none 0 0, .slice none 0 0, .slice none 0 0] 24)
        obtain ⟨zz, hzz⟩ : ∃ q, wy.heap.size = q := ⟨_, rfl⟩
        rw [hzz] at gz hz ⊢
        generalize wy.alloc (Obj.cells #[.slice none 0 0, .slice none 0 0, .slice none 0 0] 24) = wz at hz hMz hy ⊢
        refine hK.out _ _ ⟨hMz.x50, hMz.x51, hMz.x52, hMz.x60, hMz.x61, hMz.x90, hMz.x91, hMz⟩ (fun hHeld => ?_)
        clear hK K
        refine norm_ (a' := ?_) ?_ ?_
        rotate_left
        · show Act.put _ (some 11) _ = _
          simp only [Act.put, List.setIfInBounds_toArray, List.set_cons_zero, List.set_cons_succ, i64_w, i32_w]
          rfl
        exact norm_ (by simp only [putAll, Act.put, List.setIfInBounds_toArray, List.set_cons_zero, List.set_cons_succ]) (hCont (.agg #[.slice X0 P.length x0, .slice X1 Q.length x1, .slice X2 R.length x2], .agg #[.slice Y0 P2.length y0, .slice Y1 Q2.length y1, .slice Y2 R2.length y2], zz) _ ⟨hHeld.2.2.2.2.2.2.2, ⟨Y0, Y1, Y2, y0, y1, y2, rfl, hy⟩, hz, gz⟩)
      · skip
        refine value_ (w1 := ?_) (v := ?_) (by rfl) rfl ?_ ?_
        rotate_left 2
        · go_simp
          constructor
          · rfl
          · rfl
        have hMz := hHeld.2.2.2.2.2.2.2
        have gz : w.heap.size ≤ wx.heap.size ∧ g5 < wx.heap.size ∧ g6 < wx.heap.size ∧ g9 < wx.heap.size := ⟨hMz.bel.size, blk_lt hMz.h5, blk_lt hMz.h6, blk_lt hMz.h9⟩
        have hz := heap_alloc_new (wx) (Obj.cells #[.slice none 0 0, .slice none 0 0, .slice none 0 0] 24)
        have hx := hx.alloc (Obj.cells #[.slice none 0 0, .slice none 0 0, .slice none 0 0] 24)
        replace hMz := hMz.alloc (Obj.cells #[.slice none 0 0, .slice none 0 0, .slice none 0 0] 24)
        obtain ⟨zz, hzz⟩ : ∃ q, wx.heap.size = q := ⟨_, rfl⟩
        rw [hzz] at gz hz ⊢
        generalize wx.alloc (Obj.cells #[.slice none 0 0, .slice none 0 0, .slice none 0 0] 24) = wz at hz hMz hx ⊢
        refine hK.out _ _ ⟨hMz.x50, hMz.x51, hMz.x52, hMz.x60, hMz.x61, hMz.x90, hMz.x91, hMz⟩ (fun hHeld => ?_)
        clear hK K
        refine norm_ (a' := ?_) ?_ ?_
        rotate_left
        · show Act.put _ (some 11) _ = _
          simp only [Act.put, List.setIfInBounds_toArray, List.set_cons_zero, List.set_cons_succ, i64_w, i32_w]
          rfl
        refine one_ (i := 6) (N := some 38) #[true, true, true, true, true, true, true, true, false] rfl rfl (by kernel_rfl) (by decide) (fun K hK => ?_)
        refine goes_ Try.func26 (by kernel_rfl) rfl #[.agg #[.slice X0 P.length x0, .slice X1 Q.length x1, .slice X2 R.length x2], .agg #[.int .i64 J', .int .i64 I'], .int .i64 n'] (by rfl) rfl rfl (by simp only [List.map_toArray, List.map_cons, List.map_nil]; rfl) ?_
        with_reducible refine (put26 X0 X1 X2 x0 x1 x2 P Q R P2 Q2 R2 J' I' n' hP2 hQ2 hR2 w.heap.size _ hx hHeld.2.2.2.2.2.2.2.bel.size).mono ?_
        rintro e wy ⟨Y0, Y1, Y2, y0, y1, y2, rfl, hy, hby⟩
        refine ⟨_, rfl, ?_⟩
        have hz := blk_below hz hby
        have hMy := hHeld.2.2.2.2.2.2.2.below hby
        refine hK.out _ _ ⟨hMy.x50, hMy.x51, hMy.x52, hMy.x60, hMy.x61, hMy.x90, hMy.x91, hMy⟩ (fun hHeld => ?_)
        clear hK K
        refine norm_ (a' := ?_) ?_ ?_
        rotate_left
        · show Act.put _ (some 38) _ = _
          simp only [Act.put, List.setIfInBounds_toArray, List.set_cons_zero, List.set_cons_succ, i64_w, i32_w]
          rfl
        exact norm_ (by simp only [putAll, Act.put, List.setIfInBounds_toArray, List.set_cons_zero, List.set_cons_succ]) (hCont (.agg #[.slice X0 P.length x0, .slice X1 Q.length x1, .slice X2 R.length x2], .agg #[.slice Y0 P2.length y0, .slice Y1 Q2.length y1, .slice Y2 R2.length y2], zz) _ ⟨hHeld.2.2.2.2.2.2.2, ⟨Y0, Y1, Y2, y0, y1, y2, rfl, hy⟩, hz, gz⟩)
    · skip
      refine value_ (w1 := ?_) (v := ?_) (by rfl) rfl ?_ ?_
      rotate_left 2
      · go_simp
        constructor
        · rfl
        · rfl
      have gz : w.heap.size ≤ w4.heap.size ∧ g5 < w4.heap.size ∧ g6 < w4.heap.size ∧ g9 < w4.heap.size := ⟨hM.bel.size, blk_lt hM.h5, blk_lt hM.h6, blk_lt hM.h9⟩
      have hz : (w4.alloc (Obj.cells #[.slice none 0 0, .slice none 0 0, .slice none 0 0] 24)).drew.heap[w4.heap.size]? = some (.cells #[.slice none 0 0, .slice none 0 0, .slice none 0 0] 24 (0, 0)) := heap_alloc_new w4 (Obj.cells #[.slice none 0 0, .slice none 0 0, .slice none 0 0] 24)
      have hMz := (hM.alloc (Obj.cells #[.slice none 0 0, .slice none 0 0, .slice none 0 0] 24)).drew
      generalize (w4.alloc (Obj.cells #[.slice none 0 0, .slice none 0 0, .slice none 0 0] 24)).drew = wz at hz hMz ⊢
      generalize w4.heap.size = zz at gz hz ⊢
      refine hK.out _ _ ⟨hMz.x50, hMz.x51, hMz.x52, hMz.x60, hMz.x61, hMz.x90, hMz.x91, hMz⟩ (fun hHeld => ?_)
      clear hK K
      refine norm_ (a' := ?_) ?_ ?_
      rotate_left
      · show Act.put _ (some 11) _ = _
        simp only [Act.put, List.setIfInBounds_toArray, List.set_cons_zero, List.set_cons_succ, i64_w, i32_w]
        rfl
      refine one_ (i := 3) (N := some 35) #[true, true, true, true, true, true, false, true, false] rfl rfl (by kernel_rfl) (by decide) (fun K hK => ?_)
      refine goes_ Try.func26 (by kernel_rfl) rfl #[.agg #[.slice A0 a.length c0, .slice A1 b.length c1, .slice A2 c.length c2], .agg #[.int .i64 J, .int .i64 I], .int .i64 n] (by rfl) rfl rfl (by simp only [List.map_toArray, List.map_cons, List.map_nil]; rfl) ?_
      with_reducible refine (put26 A0 A1 A2 c0 c1 c2 a b c P Q R J I n hP hQ hR w.heap.size _ hHeld.2.2.2.2.2.2.2.m hHeld.2.2.2.2.2.2.2.bel.size).mono ?_
      rintro e wx ⟨X0, X1, X2, x0, x1, x2, rfl, hx, hbx⟩
      refine ⟨_, rfl, ?_⟩
      have hz := blk_below hz hbx
      have hMx := hHeld.2.2.2.2.2.2.2.below hbx
      refine hK.out _ _ ⟨hMx.x50, hMx.x51, hMx.x52, hMx.x60, hMx.x61, hMx.x90, hMx.x91, hMx⟩ (fun hHeld => ?_)
      clear hK K
      refine norm_ (a' := ?_) ?_ ?_
      rotate_left
      · show Act.put _ (some 35) _ = _
        simp only [Act.put, List.setIfInBounds_toArray, List.set_cons_zero, List.set_cons_succ, i64_w, i32_w]
        rfl
      refine one_ (i := 6) (N := some 38) #[true, true, true, true, true, true, true, true, false] rfl rfl (by kernel_rfl) (by decide) (fun K hK => ?_)
      refine goes_ Try.func26 (by kernel_rfl) rfl #[.agg #[.slice X0 P.length x0, .slice X1 Q.length x1, .slice X2 R.length x2], .agg #[.int .i64 J', .int .i64 I'], .int .i64 n'] (by rfl) rfl rfl (by simp only [List.map_toArray, List.map_cons, List.map_nil]; rfl) ?_
      with_reducible refine (put26 X0 X1 X2 x0 x1 x2 P Q R P2 Q2 R2 J' I' n' hP2 hQ2 hR2 w.heap.size _ hx hHeld.2.2.2.2.2.2.2.bel.size).mono ?_
      rintro e wy ⟨Y0, Y1, Y2, y0, y1, y2, rfl, hy, hby⟩
      refine ⟨_, rfl, ?_⟩
      have hz := blk_below hz hby
      have hMy := hHeld.2.2.2.2.2.2.2.below hby
      refine hK.out _ _ ⟨hMy.x50, hMy.x51, hMy.x52, hMy.x60, hMy.x61, hMy.x90, hMy.x91, hMy⟩ (fun hHeld => ?_)
      clear hK K
      refine norm_ (a' := ?_) ?_ ?_
      rotate_left
      · show Act.put _ (some 38) _ = _
        simp only [Act.put, List.setIfInBounds_toArray, List.set_cons_zero, List.set_cons_succ, i64_w, i32_w]
        rfl
      exact norm_ (by simp only [putAll, Act.put, List.setIfInBounds_toArray, List.set_cons_zero, List.set_cons_succ]) (hCont (.agg #[.slice X0 P.length x0, .slice X1 Q.length x1, .slice X2 R.length x2], .agg #[.slice Y0 P2.length y0, .slice Y1 Q2.length y1, .slice Y2 R2.length y2], zz) _ ⟨hHeld.2.2.2.2.2.2.2, ⟨Y0, Y1, Y2, y0, y1, y2, rfl, hy⟩, hz, gz⟩)
  rintro ⟨s1, s2, z⟩ w5 ⟨hM5, ⟨Y0, Y1, Y2, y0, y1, y2, hs2, hy⟩, hz, nz, n5, n6, n9⟩
  obtain rfl : s2 = _ := hs2
  replace hz : w5.heap[z]? = some (.cells #[.slice none 0 0, .slice none 0 0, .slice none 0 0] 24 (0, 0)) := hz
  replace nz : w.heap.size ≤ z := nz
  replace n5 : g5 < z := n5
  replace n6 : g6 < z := n6
  replace n9 : g9 < z := n9
  have hHeld : w5.cell? ⟨g5, 0, none⟩ = some (.slice A0 a.length c0) ∧ w5.cell? ⟨g5, 1, none⟩ = some (.slice A1 b.length c1) ∧ w5.cell? ⟨g5, 2, none⟩ = some (.slice A2 c.length c2) ∧ w5.cell? ⟨g6, 0, none⟩ = some (.int .i64 J) ∧ w5.cell? ⟨g6, 1, none⟩ = some (.int .i64 I) ∧ w5.cell? ⟨g9, 0, none⟩ = some (.int .i64 J') ∧ w5.cell? ⟨g9, 1, none⟩ = some (.int .i64 I') ∧ M2 w g5 g6 g9 A0 A1 A2 c0 c1 c2 a b c J I J' I' w5 := ⟨hM5.x50, hM5.x51, hM5.x52, hM5.x60, hM5.x61, hM5.x90, hM5.x91, hM5⟩
  refine norm_ (a' := ?_) ?_ ?_
  rotate_left
  · simp only [putAll, Act.put, List.setIfInBounds_toArray, List.set_cons_zero, List.set_cons_succ]
    rfl
  refine one_ (i := 8) (N := none) #[true, true, true, true, true, true, true, true, true] rfl rfl (by kernel_rfl) (by decide) (fun K hK => ?_)
  refine skip_ (w1 := ?_) (by rfl) rfl ?_ ?_
  rotate_left
  · skip
    have i0 := (blk_cell hz 0).trans rfl
    have i1 := (blk_cell hz 1).trans rfl
    have i2 := (blk_cell hz 2).trans rfl
    have j0 := blk_frozen hz 0
    have j1 := blk_frozen hz 1
    have j2 := blk_frozen hz 2
    go_simp
    rfl
  have hz1 := blk_put hz 0 (.slice Y0 P2.length y0) rfl
  have hz2 := blk_put hz1 1 (.slice Y1 Q2.length y1) rfl
  have hz3 := blk_put hz2 2 (.slice Y2 R2.length y2) rfl
  have hM6 := ((hM5.far hz n5 n6 n9 nz 0 (.slice Y0 P2.length y0)).far hz1 n5 n6 n9 nz 1 (.slice Y1 Q2.length y1)).far hz2 n5 n6 n9 nz 2 (.slice Y2 R2.length y2)
  have hy6 := ((hy.set (j := 0) hz (by decide) (.slice Y0 P2.length y0)).set (j := 1) hz1 (by decide) (.slice Y1 Q2.length y1)).set (j := 2) hz2 (by decide) (.slice Y2 R2.length y2)
  replace hz3 : (((w5.setCell ⟨z, 0, none⟩ (.slice Y0 P2.length y0)).setCell ⟨z, 1, none⟩ (.slice Y1 Q2.length y1)).setCell ⟨z, 2, none⟩ (.slice Y2 R2.length y2)).heap[z]? = some (.cells #[.slice Y0 P2.length y0, .slice Y1 Q2.length y1, .slice Y2 R2.length y2] 24 (0, 0)) := hz3
  generalize (((w5.setCell ⟨z, 0, none⟩ (.slice Y0 P2.length y0)).setCell ⟨z, 1, none⟩ (.slice Y1 Q2.length y1)).setCell ⟨z, 2, none⟩ (.slice Y2 R2.length y2)) = w6 at hz3 hM6 hy6 ⊢
  refine hK.out _ _ ⟨hM6.x50, hM6.x51, hM6.x52, hM6.x60, hM6.x61, hM6.x90, hM6.x91, hM6⟩ (fun hHeld => ?_)
  clear hK K
  refine done_ (by kernel_rfl) ?_
  have hN : N2 w g5 g6 g9 A0 A1 A2 c0 c1 c2 a b c J I J' I' z Y0 Y1 Y2 y0 y1 y2 P2 Q2 R2 w6 := ⟨hM6, hz3, hy6⟩
  clear hHeld hM5 hM6 hy6 hz3 hy hz
  have hN0 := hN.drew
  go_wp2_with fail
  refine start_ (n := 10) (S := fun w' => w'.cell? ⟨g5, 0, none⟩ = some (.slice A0 a.length c0) ∧ w'.cell? ⟨g5, 1, none⟩ = some (.slice A1 b.length c1) ∧ w'.cell? ⟨g5, 2, none⟩ = some (.slice A2 c.length c2) ∧ w'.cell? ⟨g6, 0, none⟩ = some (.int .i64 J) ∧ w'.cell? ⟨g6, 1, none⟩ = some (.int .i64 I) ∧ w'.cell? ⟨g9, 0, none⟩ = some (.int .i64 J') ∧ w'.cell? ⟨g9, 1, none⟩ = some (.int .i64 I') ∧ w'.cell? ⟨z, 0, none⟩ = some (.slice Y0 P2.length y0) ∧ w'.cell? ⟨z, 1, none⟩ = some (.slice Y1 Q2.length y1) ∧ w'.cell? ⟨z, 2, none⟩ = some (.slice Y2 R2.length y2) ∧ N2 w g5 g6 g9 A0 A1 A2 c0 c1 c2 a b c J I J' I' z Y0 Y1 Y2 y0 y1 y2 P2 Q2 R2 w') (ds := []) #[false, false, false, false, false, false, false, false, false, false] (by kernel_rfl) rfl rfl ⟨hN0.M.x50, hN0.M.x51, hN0.M.x52, hN0.M.x60, hN0.M.x61, hN0.M.x90, hN0.M.x91, hN0.xz0, hN0.xz1, hN0.xz2, hN0⟩ (fun hHeld => ?_)
  refine pure_ (i := 3) (N := some 42) (v := ?_) (a' := ?_) #[false, false, false, true, false, false, false, false, false, false] rfl rfl (by kernel_rfl) (fun _ _ _ h => h) (Or.inl ⟨by rfl, ?_⟩) ?_ ?_
  rotate_left
  · intro w'
    go_simp
    with_reducible rfl
  rotate_left
  · simp only [Act.put, List.setIfInBounds_toArray, List.set_cons_zero, List.set_cons_succ, i64_w, i32_w]
    rfl
  refine pure_ (i := 6) (N := some 45) (v := ?_) (a' := ?_) #[false, false, false, true, false, false, true, false, false, false] rfl rfl (by kernel_rfl) (fun _ _ _ h => h) (Or.inl ⟨by rfl, ?_⟩) ?_ ?_
  rotate_left
  · intro w'
    go_simp
    with_reducible rfl
  rotate_left
  · simp only [Act.put, List.setIfInBounds_toArray, List.set_cons_zero, List.set_cons_succ, i64_w, i32_w]
    rfl
  refine take_ (i := 0) (N := some 39) (v := ?_) (a' := ?_) #[true, false, false, true, false, false, true, false, false, false] rfl rfl (by kernel_rfl) (fun _ _ _ h => h) (Or.inl ⟨by rfl, ?_⟩) hHeld ?_ ?_
  rotate_left
  · rintro w' ⟨s0, s1, s2, s3, s4, s5, s6, s7, s8, s9, s10⟩
    go_simp
    with_reducible rfl
  rotate_left
  · simp only [Act.put, List.setIfInBounds_toArray, List.set_cons_zero, List.set_cons_succ, i64_w, i32_w]
    rfl
  refine take_ (i := 1) (N := some 40) (v := ?_) (a' := ?_) #[true, true, false, true, false, false, true, false, false, false] rfl rfl (by kernel_rfl) (fun _ _ _ h => h) (Or.inl ⟨by rfl, ?_⟩) hHeld ?_ ?_
  rotate_left
  · rintro w' ⟨s0, s1, s2, s3, s4, s5, s6, s7, s8, s9, s10⟩
    go_simp
    with_reducible rfl
  rotate_left
  · simp only [Act.put, List.setIfInBounds_toArray, List.set_cons_zero, List.set_cons_succ, i64_w, i32_w]
    rfl
  refine take_ (i := 2) (N := some 41) (v := ?_) (a' := ?_) #[true, true, true, true, false, false, true, false, false, false] rfl rfl (by kernel_rfl) (fun _ _ _ h => h) (Or.inl ⟨by rfl, ?_⟩) hHeld ?_ ?_
  rotate_left
  · rintro w' ⟨s0, s1, s2, s3, s4, s5, s6, s7, s8, s9, s10⟩
    go_simp
    with_reducible rfl
  rotate_left
  · simp only [Act.put, List.setIfInBounds_toArray, List.set_cons_zero, List.set_cons_succ, i64_w, i32_w]
    rfl
  refine take_ (i := 5) (N := some 44) (v := ?_) (a' := ?_) #[true, true, true, true, false, true, true, false, false, false] rfl rfl (by kernel_rfl) (fun _ _ _ h => h) (Or.inl ⟨by rfl, ?_⟩) hHeld ?_ ?_
  rotate_left
  · rintro w' ⟨s0, s1, s2, s3, s4, s5, s6, s7, s8, s9, s10⟩
    go_simp
    with_reducible rfl
  rotate_left
  · simp only [Act.put, List.setIfInBounds_toArray, List.set_cons_zero, List.set_cons_succ, i64_w, i32_w]
    rfl
  refine one_ (i := 4) (N := some 43) #[true, true, true, true, true, true, true, false, false, false] rfl rfl (by kernel_rfl) (by decide) (fun K hK => ?_)
  refine goes_ Try.func25 (by kernel_rfl) rfl #[.agg #[.slice A0 a.length c0, .slice A1 b.length c1, .slice A2 c.length c2], .agg #[.int .i64 J, .int .i64 I], .int .i64 n] (by rfl) rfl rfl (by simp only [List.map_toArray, List.map_cons, List.map_nil]; rfl) ?_
  with_reducible refine (put25 20 A0 A1 A2 c0 c1 c2 a b c P Q R J I n e25 w.heap.size _ hHeld.2.2.2.2.2.2.2.2.2.2.M.m hHeld.2.2.2.2.2.2.2.2.2.2.M.bel.size).mono ?_
  rintro e wa ⟨X0, X1, X2, x0, x1, x2, rfl, hx, hba⟩
  refine ⟨_, rfl, ?_⟩
  have waN := hHeld.2.2.2.2.2.2.2.2.2.2.below hba
  refine hK.out _ _ ⟨waN.M.x50, waN.M.x51, waN.M.x52, waN.M.x60, waN.M.x61, waN.M.x90, waN.M.x91, waN.xz0, waN.xz1, waN.xz2, waN⟩ (fun hHeld => ?_)
  clear hK K
  refine norm_ (a' := ?_) ?_ ?_
  rotate_left
  · show Act.put _ (some 43) _ = _
    simp only [Act.put, List.setIfInBounds_toArray, List.set_cons_zero, List.set_cons_succ, i64_w, i32_w]
    rfl
  refine one_ (i := 7) (N := some 46) #[true, true, true, true, true, true, true, true, false, false] rfl rfl (by kernel_rfl) (by decide) (fun K hK => ?_)
  refine goes_ Try.func25 (by kernel_rfl) rfl #[.agg #[.slice X0 P.length x0, .slice X1 Q.length x1, .slice X2 R.length x2], .agg #[.int .i64 J', .int .i64 I'], .int .i64 n'] (by rfl) rfl rfl (by simp only [List.map_toArray, List.map_cons, List.map_nil]; rfl) ?_
  with_reducible refine (put25 20 X0 X1 X2 x0 x1 x2 P Q R P2 Q2 R2 J' I' n' e25' w.heap.size _ hx hHeld.2.2.2.2.2.2.2.2.2.2.M.bel.size).mono ?_
  rintro e wb ⟨U0, U1, U2, u0, u1, u2, rfl, hu, hbb⟩
  refine ⟨_, rfl, ?_⟩
  have wbN := hHeld.2.2.2.2.2.2.2.2.2.2.below hbb
  refine hK.out _ _ ⟨wbN.M.x50, wbN.M.x51, wbN.M.x52, wbN.M.x60, wbN.M.x61, wbN.M.x90, wbN.M.x91, wbN.xz0, wbN.xz1, wbN.xz2, wbN⟩ (fun hHeld => ?_)
  clear hK K
  refine norm_ (a' := ?_) ?_ ?_
  rotate_left
  · show Act.put _ (some 46) _ = _
    simp only [Act.put, List.setIfInBounds_toArray, List.set_cons_zero, List.set_cons_succ, i64_w, i32_w]
    rfl
  refine one_ (i := 8) (N := some 47) #[true, true, true, true, true, true, true, true, true, false] rfl rfl (by kernel_rfl) (by decide) (fun K hK => ?_)
  refine goes_ Try.func19 (by kernel_rfl) rfl #[.agg #[.slice Y0 P2.length y0, .slice Y1 Q2.length y1, .slice Y2 R2.length y2], .agg #[.slice U0 P2.length u0, .slice U1 Q2.length u1, .slice U2 R2.length u2]] (by rfl) rfl rfl (by simp only [List.map_toArray, List.map_cons, List.map_nil]; rfl) ?_
  with_reducible refine (same19 20 Y0 Y1 Y2 y0 y1 y2 P2 Q2 R2 U0 U1 U2 u0 u1 u2 P2 Q2 R2 rfl rfl rfl e19 w.heap.size w.heap.size _ hHeld.2.2.2.2.2.2.2.2.2.2.y hu).mono ?_
  rintro e wc ⟨rfl, hbc⟩
  refine ⟨_, rfl, ?_⟩
  have wcN := hHeld.2.2.2.2.2.2.2.2.2.2.below hbc
  refine hK.out _ _ ⟨wcN.M.x50, wcN.M.x51, wcN.M.x52, wcN.M.x60, wcN.M.x61, wcN.M.x90, wcN.M.x91, wcN.xz0, wcN.xz1, wcN.xz2, wcN⟩ (fun hHeld => ?_)
  clear hK K
  refine norm_ (a' := ?_) ?_ ?_
  rotate_left
  · show Act.put _ (some 47) _ = _
    simp only [Act.put, List.setIfInBounds_toArray, List.set_cons_zero, List.set_cons_succ, i64_w, i32_w]
    rfl
  refine pure_ (i := 9) (N := some 48) (v := ?_) (a' := ?_) #[true, true, true, true, true, true, true, true, true, true] rfl rfl (by kernel_rfl) (fun _ _ _ h => h) (Or.inl ⟨by rfl, ?_⟩) ?_ ?_
  rotate_left
  · intro w'
    go_simp
    with_reducible rfl
  rotate_left
  · simp only [Act.put, List.setIfInBounds_toArray, List.set_cons_zero, List.set_cons_succ, i64_w, i32_w]
    rfl
  refine done_ (by kernel_rfl) ?_
  have hN := hHeld.2.2.2.2.2.2.2.2.2.2
  clear hHeld hN0
  have i60 := hN.M.x60
  have i61 := hN.M.x61
  have i90 := hN.M.x90
  have i91 := hN.M.x91
  obtain ⟨t, ht⟩ : ∃ t, (J == J' && (I == I')) = t := ⟨_, rfl⟩
  cases t with
  | true =>
    obtain ⟨hV0, hV1, hV2⟩ := hyes ht
    clear hyes hno
    go_wp2_with fail
    clear i60 i61 i90 i91
    have hN0 := hN.drew
    refine start_ (n := 7) (S := fun w' => w'.cell? ⟨g5, 0, none⟩ = some (.slice A0 a.length c0) ∧ w'.cell? ⟨g5, 1, none⟩ = some (.slice A1 b.length c1) ∧ w'.cell? ⟨g5, 2, none⟩ = some (.slice A2 c.length c2) ∧ w'.cell? ⟨g6, 0, none⟩ = some (.int .i64 J) ∧ w'.cell? ⟨g6, 1, none⟩ = some (.int .i64 I) ∧ w'.cell? ⟨g9, 0, none⟩ = some (.int .i64 J') ∧ w'.cell? ⟨g9, 1, none⟩ = some (.int .i64 I') ∧ w'.cell? ⟨z, 0, none⟩ = some (.slice Y0 P2.length y0) ∧ w'.cell? ⟨z, 1, none⟩ = some (.slice Y1 Q2.length y1) ∧ w'.cell? ⟨z, 2, none⟩ = some (.slice Y2 R2.length y2) ∧ N2 w g5 g6 g9 A0 A1 A2 c0 c1 c2 a b c J I J' I' z Y0 Y1 Y2 y0 y1 y2 P2 Q2 R2 w') (ds := []) #[false, false, false, false, false, false, false] (by kernel_rfl) rfl rfl ⟨hN0.M.x50, hN0.M.x51, hN0.M.x52, hN0.M.x60, hN0.M.x61, hN0.M.x90, hN0.M.x91, hN0.xz0, hN0.xz1, hN0.xz2, hN0⟩ (fun hHeld => ?_)
    refine pure_ (i := 3) (N := some 55) (v := ?_) (a' := ?_) #[false, false, false, true, false, false, false] rfl rfl (by kernel_rfl) (fun _ _ _ h => h) (Or.inl ⟨by rfl, ?_⟩) ?_ ?_
    rotate_left
    · intro w'
      go_simp
      with_reducible rfl
    rotate_left
    · simp only [Act.put, List.setIfInBounds_toArray, List.set_cons_zero, List.set_cons_succ, i64_w, i32_w]
      rfl
    refine take_ (i := 0) (N := some 52) (v := ?_) (a' := ?_) #[true, false, false, true, false, false, false] rfl rfl (by kernel_rfl) (fun _ _ _ h => h) (Or.inl ⟨by rfl, ?_⟩) hHeld ?_ ?_
    rotate_left
    · rintro w' ⟨s0, s1, s2, s3, s4, s5, s6, s7, s8, s9, s10⟩
      go_simp
      with_reducible rfl
    rotate_left
    · simp only [Act.put, List.setIfInBounds_toArray, List.set_cons_zero, List.set_cons_succ, i64_w, i32_w]
      rfl
    refine take_ (i := 1) (N := some 53) (v := ?_) (a' := ?_) #[true, true, false, true, false, false, false] rfl rfl (by kernel_rfl) (fun _ _ _ h => h) (Or.inl ⟨by rfl, ?_⟩) hHeld ?_ ?_
    rotate_left
    · rintro w' ⟨s0, s1, s2, s3, s4, s5, s6, s7, s8, s9, s10⟩
      go_simp
      with_reducible rfl
    rotate_left
    · simp only [Act.put, List.setIfInBounds_toArray, List.set_cons_zero, List.set_cons_succ, i64_w, i32_w]
      rfl
    refine take_ (i := 2) (N := some 54) (v := ?_) (a' := ?_) #[true, true, true, true, false, false, false] rfl rfl (by kernel_rfl) (fun _ _ _ h => h) (Or.inl ⟨by rfl, ?_⟩) hHeld ?_ ?_
    rotate_left
    · rintro w' ⟨s0, s1, s2, s3, s4, s5, s6, s7, s8, s9, s10⟩
      go_simp
      with_reducible rfl
    rotate_left
    · simp only [Act.put, List.setIfInBounds_toArray, List.set_cons_zero, List.set_cons_succ, i64_w, i32_w]
      rfl
    refine one_ (i := 4) (N := some 56) #[true, true, true, true, true, false, false] rfl rfl (by kernel_rfl) (by decide) (fun K hK => ?_)
    refine goes_ Try.func26 (by kernel_rfl) rfl #[.agg #[.slice A0 a.length c0, .slice A1 b.length c1, .slice A2 c.length c2], .agg #[.int .i64 J', .int .i64 I'], .int .i64 n'] (by rfl) rfl rfl (by simp only [List.map_toArray, List.map_cons, List.map_nil]; rfl) ?_
    with_reducible refine (put26 A0 A1 A2 c0 c1 c2 a b c P2 Q2 R2 J' I' n' hV0 hV1 hV2 w.heap.size _ hHeld.2.2.2.2.2.2.2.2.2.2.M.m hHeld.2.2.2.2.2.2.2.2.2.2.M.bel.size).mono ?_
    rintro e wd ⟨X0, X1, X2, x0, x1, x2, rfl, hx', hbd⟩
    refine ⟨_, rfl, ?_⟩
    have wdN := hHeld.2.2.2.2.2.2.2.2.2.2.below hbd
    refine hK.out _ _ ⟨wdN.M.x50, wdN.M.x51, wdN.M.x52, wdN.M.x60, wdN.M.x61, wdN.M.x90, wdN.M.x91, wdN.xz0, wdN.xz1, wdN.xz2, wdN⟩ (fun hHeld => ?_)
    clear hK K
    refine norm_ (a' := ?_) ?_ ?_
    rotate_left
    · show Act.put _ (some 56) _ = _
      simp only [Act.put, List.setIfInBounds_toArray, List.set_cons_zero, List.set_cons_succ, i64_w, i32_w]
      rfl
    refine one_ (i := 5) (N := some 57) #[true, true, true, true, true, true, false] rfl rfl (by kernel_rfl) (by decide) (fun K hK => ?_)
    refine goes_ Try.func19 (by kernel_rfl) rfl #[.agg #[.slice Y0 P2.length y0, .slice Y1 Q2.length y1, .slice Y2 R2.length y2], .agg #[.slice X0 P2.length x0, .slice X1 Q2.length x1, .slice X2 R2.length x2]] (by rfl) rfl rfl (by simp only [List.map_toArray, List.map_cons, List.map_nil]; rfl) ?_
    with_reducible refine (same19 20 Y0 Y1 Y2 y0 y1 y2 P2 Q2 R2 X0 X1 X2 x0 x1 x2 P2 Q2 R2 rfl rfl rfl e19 w.heap.size w.heap.size _ hHeld.2.2.2.2.2.2.2.2.2.2.y hx').mono ?_
    rintro e we ⟨rfl, hbe⟩
    refine ⟨_, rfl, ?_⟩
    have weN := hHeld.2.2.2.2.2.2.2.2.2.2.below hbe
    refine hK.out _ _ ⟨weN.M.x50, weN.M.x51, weN.M.x52, weN.M.x60, weN.M.x61, weN.M.x90, weN.M.x91, weN.xz0, weN.xz1, weN.xz2, weN⟩ (fun hHeld => ?_)
    clear hK K
    refine norm_ (a' := ?_) ?_ ?_
    rotate_left
    · show Act.put _ (some 57) _ = _
      simp only [Act.put, List.setIfInBounds_toArray, List.set_cons_zero, List.set_cons_succ, i64_w, i32_w]
      rfl
    refine pure_ (i := 6) (N := some 4) (v := ?_) (a' := ?_) #[true, true, true, true, true, true, true] rfl rfl (by kernel_rfl) (fun _ _ _ h => h) (Or.inl ⟨by rfl, ?_⟩) ?_ ?_
    rotate_left
    · intro w'
      go_simp
      with_reducible rfl
    rotate_left
    · simp only [Act.put, List.setIfInBounds_toArray, List.set_cons_zero, List.set_cons_succ, i64_w, i32_w]
      rfl
    refine done_ (by kernel_rfl) ?_
    have hN9 := hHeld.2.2.2.2.2.2.2.2.2.2
    clear hHeld
    go_wp2
    go_ret
    exact ⟨rfl, hN9.M.bel⟩
  | false =>
    obtain ⟨V0, V1, V2, hV0, hV1, hV2, hP3, hQ3, hR3⟩ := hno ht
    clear hyes hno
    go_wp2_with fail
    clear i60 i61 i90 i91
    have hN0 := hN.drew
    refine start_ (n := 24) (S := fun w' => w'.cell? ⟨g5, 0, none⟩ = some (.slice A0 a.length c0) ∧ w'.cell? ⟨g5, 1, none⟩ = some (.slice A1 b.length c1) ∧ w'.cell? ⟨g5, 2, none⟩ = some (.slice A2 c.length c2) ∧ w'.cell? ⟨g6, 0, none⟩ = some (.int .i64 J) ∧ w'.cell? ⟨g6, 1, none⟩ = some (.int .i64 I) ∧ w'.cell? ⟨g9, 0, none⟩ = some (.int .i64 J') ∧ w'.cell? ⟨g9, 1, none⟩ = some (.int .i64 I') ∧ w'.cell? ⟨z, 0, none⟩ = some (.slice Y0 P2.length y0) ∧ w'.cell? ⟨z, 1, none⟩ = some (.slice Y1 Q2.length y1) ∧ w'.cell? ⟨z, 2, none⟩ = some (.slice Y2 R2.length y2) ∧ N2 w g5 g6 g9 A0 A1 A2 c0 c1 c2 a b c J I J' I' z Y0 Y1 Y2 y0 y1 y2 P2 Q2 R2 w') (ds := []) #[false, false, false, false, false, false, false, false, false, false, false, false, false, false, false, false, false, false, false, false, false, false, false, false] (by kernel_rfl) rfl rfl ⟨hN0.M.x50, hN0.M.x51, hN0.M.x52, hN0.M.x60, hN0.M.x61, hN0.M.x90, hN0.M.x91, hN0.xz0, hN0.xz1, hN0.xz2, hN0⟩ (fun hHeld => ?_)
    refine pure_ (i := 3) (N := some 61) (v := ?_) (a' := ?_) #[false, false, false, true, false, false, false, false, false, false, false, false, false, false, false, false, false, false, false, false, false, false, false, false] rfl rfl (by kernel_rfl) (fun _ _ _ h => h) (Or.inl ⟨by rfl, ?_⟩) ?_ ?_
    rotate_left
    · intro w'
      go_simp
      with_reducible rfl
    rotate_left
    · simp only [Act.put, List.setIfInBounds_toArray, List.set_cons_zero, List.set_cons_succ, i64_w, i32_w]
      rfl
    refine pure_ (i := 6) (N := some 64) (v := ?_) (a' := ?_) #[false, false, false, true, false, false, true, false, false, false, false, false, false, false, false, false, false, false, false, false, false, false, false, false] rfl rfl (by kernel_rfl) (fun _ _ _ h => h) (Or.inl ⟨by rfl, ?_⟩) ?_ ?_
    rotate_left
    · intro w'
      go_simp
      with_reducible rfl
    rotate_left
    · simp only [Act.put, List.setIfInBounds_toArray, List.set_cons_zero, List.set_cons_succ, i64_w, i32_w]
      rfl
    refine take_ (i := 0) (N := some 58) (v := ?_) (a' := ?_) #[true, false, false, true, false, false, true, false, false, false, false, false, false, false, false, false, false, false, false, false, false, false, false, false] rfl rfl (by kernel_rfl) (fun _ _ _ h => h) (Or.inl ⟨by rfl, ?_⟩) hHeld ?_ ?_
    rotate_left
    · rintro w' ⟨s0, s1, s2, s3, s4, s5, s6, s7, s8, s9, s10⟩
      go_simp
      with_reducible rfl
    rotate_left
    · simp only [Act.put, List.setIfInBounds_toArray, List.set_cons_zero, List.set_cons_succ, i64_w, i32_w]
      rfl
    refine take_ (i := 1) (N := some 59) (v := ?_) (a' := ?_) #[true, true, false, true, false, false, true, false, false, false, false, false, false, false, false, false, false, false, false, false, false, false, false, false] rfl rfl (by kernel_rfl) (fun _ _ _ h => h) (Or.inl ⟨by rfl, ?_⟩) hHeld ?_ ?_
    rotate_left
    · rintro w' ⟨s0, s1, s2, s3, s4, s5, s6, s7, s8, s9, s10⟩
      go_simp
      with_reducible rfl
    rotate_left
    · simp only [Act.put, List.setIfInBounds_toArray, List.set_cons_zero, List.set_cons_succ, i64_w, i32_w]
      rfl
    refine take_ (i := 2) (N := some 60) (v := ?_) (a' := ?_) #[true, true, true, true, false, false, true, false, false, false, false, false, false, false, false, false, false, false, false, false, false, false, false, false] rfl rfl (by kernel_rfl) (fun _ _ _ h => h) (Or.inl ⟨by rfl, ?_⟩) hHeld ?_ ?_
    rotate_left
    · rintro w' ⟨s0, s1, s2, s3, s4, s5, s6, s7, s8, s9, s10⟩
      go_simp
      with_reducible rfl
    rotate_left
    · simp only [Act.put, List.setIfInBounds_toArray, List.set_cons_zero, List.set_cons_succ, i64_w, i32_w]
      rfl
    refine take_ (i := 5) (N := some 63) (v := ?_) (a' := ?_) #[true, true, true, true, false, true, true, false, false, false, false, false, false, false, false, false, false, false, false, false, false, false, false, false] rfl rfl (by kernel_rfl) (fun _ _ _ h => h) (Or.inl ⟨by rfl, ?_⟩) hHeld ?_ ?_
    rotate_left
    · rintro w' ⟨s0, s1, s2, s3, s4, s5, s6, s7, s8, s9, s10⟩
      go_simp
      with_reducible rfl
    rotate_left
    · simp only [Act.put, List.setIfInBounds_toArray, List.set_cons_zero, List.set_cons_succ, i64_w, i32_w]
      rfl
    refine one_ (i := 4) (N := some 62) #[true, true, true, true, true, true, true, false, false, false, false, false, false, false, false, false, false, false, false, false, false, false, false, false] rfl rfl (by kernel_rfl) (by decide) (fun K hK => ?_)
    refine goes_ Try.func26 (by kernel_rfl) rfl #[.agg #[.slice A0 a.length c0, .slice A1 b.length c1, .slice A2 c.length c2], .agg #[.int .i64 J', .int .i64 I'], .int .i64 n'] (by rfl) rfl rfl (by simp only [List.map_toArray, List.map_cons, List.map_nil]; rfl) ?_
    with_reducible refine (put26 A0 A1 A2 c0 c1 c2 a b c V0 V1 V2 J' I' n' hV0 hV1 hV2 w.heap.size _ hHeld.2.2.2.2.2.2.2.2.2.2.M.m hHeld.2.2.2.2.2.2.2.2.2.2.M.bel.size).mono ?_
    rintro e wd ⟨X0, X1, X2, x0, x1, x2, rfl, hx', hbd⟩
    refine ⟨_, rfl, ?_⟩
    have wdN := hHeld.2.2.2.2.2.2.2.2.2.2.below hbd
    refine hK.out _ _ ⟨wdN.M.x50, wdN.M.x51, wdN.M.x52, wdN.M.x60, wdN.M.x61, wdN.M.x90, wdN.M.x91, wdN.xz0, wdN.xz1, wdN.xz2, wdN⟩ (fun hHeld => ?_)
    clear hK K
    refine norm_ (a' := ?_) ?_ ?_
    rotate_left
    · show Act.put _ (some 62) _ = _
      simp only [Act.put, List.setIfInBounds_toArray, List.set_cons_zero, List.set_cons_succ, i64_w, i32_w]
      rfl
    refine one_ (i := 7) (N := some 65) #[true, true, true, true, true, true, true, true, false, false, false, false, false, false, false, false, false, false, false, false, false, false, false, false] rfl rfl (by kernel_rfl) (by decide) (fun K hK => ?_)
    refine goes_ Try.func26 (by kernel_rfl) rfl #[.agg #[.slice X0 V0.length x0, .slice X1 V1.length x1, .slice X2 V2.length x2], .agg #[.int .i64 J, .int .i64 I], .int .i64 n] (by rfl) rfl rfl (by simp only [List.map_toArray, List.map_cons, List.map_nil]; rfl) ?_
    with_reducible refine (put26 X0 X1 X2 x0 x1 x2 V0 V1 V2 P2 Q2 R2 J I n hP3 hQ3 hR3 w.heap.size _ hx' hHeld.2.2.2.2.2.2.2.2.2.2.M.bel.size).mono ?_
    rintro e we ⟨U0, U1, U2, u0, u1, u2, rfl, hu', hbe⟩
    refine ⟨_, rfl, ?_⟩
    have weN := hHeld.2.2.2.2.2.2.2.2.2.2.below hbe
    refine hK.out _ _ ⟨weN.M.x50, weN.M.x51, weN.M.x52, weN.M.x60, weN.M.x61, weN.M.x90, weN.M.x91, weN.xz0, weN.xz1, weN.xz2, weN⟩ (fun hHeld => ?_)
    clear hK K
    refine norm_ (a' := ?_) ?_ ?_
    rotate_left
    · show Act.put _ (some 65) _ = _
      simp only [Act.put, List.setIfInBounds_toArray, List.set_cons_zero, List.set_cons_succ, i64_w, i32_w]
      rfl
    refine one_ (i := 8) (N := some 66) #[true, true, true, true, true, true, true, true, true, false, false, false, false, false, false, false, false, false, false, false, false, false, false, false] rfl rfl (by kernel_rfl) (by decide) (fun K hK => ?_)
    refine goes_ Try.func19 (by kernel_rfl) rfl #[.agg #[.slice Y0 P2.length y0, .slice Y1 Q2.length y1, .slice Y2 R2.length y2], .agg #[.slice U0 P2.length u0, .slice U1 Q2.length u1, .slice U2 R2.length u2]] (by rfl) rfl rfl (by simp only [List.map_toArray, List.map_cons, List.map_nil]; rfl) ?_
    with_reducible refine (same19 20 Y0 Y1 Y2 y0 y1 y2 P2 Q2 R2 U0 U1 U2 u0 u1 u2 P2 Q2 R2 rfl rfl rfl e19 w.heap.size w.heap.size _ hHeld.2.2.2.2.2.2.2.2.2.2.y hu').mono ?_
    rintro e wf ⟨rfl, hbf⟩
    refine ⟨_, rfl, ?_⟩
    have wfN := hHeld.2.2.2.2.2.2.2.2.2.2.below hbf
    refine hK.out _ _ ⟨wfN.M.x50, wfN.M.x51, wfN.M.x52, wfN.M.x60, wfN.M.x61, wfN.M.x90, wfN.M.x91, wfN.xz0, wfN.xz1, wfN.xz2, wfN⟩ (fun hHeld => ?_)
    clear hK K
    refine norm_ (a' := ?_) ?_ ?_
    rotate_left
    · show Act.put _ (some 66) _ = _
      simp only [Act.put, List.setIfInBounds_toArray, List.set_cons_zero, List.set_cons_succ, i64_w, i32_w]
      rfl
    refine pure_ (i := 9) (N := some 67) (v := ?_) (a' := ?_) #[true, true, true, true, true, true, true, true, true, true, false, false, false, false, false, false, false, false, false, false, false, false, false, false] rfl rfl (by kernel_rfl) (fun _ _ _ h => h) (Or.inl ⟨by rfl, ?_⟩) ?_ ?_
    rotate_left
    · intro w'
      go_simp
      with_reducible rfl
    rotate_left
    · simp only [Act.put, List.setIfInBounds_toArray, List.set_cons_zero, List.set_cons_succ, i64_w, i32_w]
      rfl
    refine pure_ (i := 12) (N := some 70) (v := ?_) (a' := ?_) #[true, true, true, true, true, true, true, true, true, true, false, false, true, false, false, false, false, false, false, false, false, false, false, false] rfl rfl (by kernel_rfl) (fun _ _ _ h => h) (Or.inl ⟨by rfl, ?_⟩) ?_ ?_
    rotate_left
    · intro w'
      go_simp
      with_reducible rfl
    rotate_left
    · simp only [Act.put, List.setIfInBounds_toArray, List.set_cons_zero, List.set_cons_succ, i64_w, i32_w]
      rfl
    refine pure_ (i := 15) (N := some 73) (v := ?_) (a' := ?_) #[true, true, true, true, true, true, true, true, true, true, false, false, true, false, false, true, false, false, false, false, false, false, false, false] rfl rfl (by kernel_rfl) (fun _ _ _ h => h) (Or.inl ⟨by rfl, ?_⟩) ?_ ?_
    rotate_left
    · intro w'
      go_simp
      with_reducible rfl
    rotate_left
    · simp only [Act.put, List.setIfInBounds_toArray, List.set_cons_zero, List.set_cons_succ, i64_w, i32_w]
      rfl
    refine pure_ (i := 19) (N := some 77) (v := ?_) (a' := ?_) #[true, true, true, true, true, true, true, true, true, true, false, false, true, false, false, true, false, false, false, true, false, false, false, false] rfl rfl (by kernel_rfl) (fun _ _ _ h => h) (Or.inl ⟨by rfl, ?_⟩) ?_ ?_
    rotate_left
    · intro w'
      go_simp
      with_reducible rfl
    rotate_left
    · simp only [Act.put, List.setIfInBounds_toArray, List.set_cons_zero, List.set_cons_succ, i64_w, i32_w]
      rfl
    refine take_ (i := 10) (N := some 68) (v := ?_) (a' := ?_) #[true, true, true, true, true, true, true, true, true, true, true, false, true, false, false, true, false, false, false, true, false, false, false, false] rfl rfl (by kernel_rfl) (fun _ _ _ h => h) (Or.inl ⟨by rfl, ?_⟩) hHeld ?_ ?_
    rotate_left
    · rintro w' ⟨s0, s1, s2, s3, s4, s5, s6, s7, s8, s9, s10⟩
      go_simp
      with_reducible rfl
    rotate_left
    · simp only [Act.put, List.setIfInBounds_toArray, List.set_cons_zero, List.set_cons_succ, i64_w, i32_w]
      rfl
    refine take_ (i := 11) (N := some 69) (v := ?_) (a' := ?_) #[true, true, true, true, true, true, true, true, true, true, true, true, true, false, false, true, false, false, false, true, false, false, false, false] rfl rfl (by kernel_rfl) (fun _ _ _ h => h) (Or.inl ⟨by rfl, ?_⟩) hHeld ?_ ?_
    rotate_left
    · rintro w' ⟨s0, s1, s2, s3, s4, s5, s6, s7, s8, s9, s10⟩
      go_simp
      with_reducible rfl
    rotate_left
    · simp only [Act.put, List.setIfInBounds_toArray, List.set_cons_zero, List.set_cons_succ, i64_w, i32_w]
      rfl
    refine take_ (i := 14) (N := some 72) (v := ?_) (a' := ?_) #[true, true, true, true, true, true, true, true, true, true, true, true, true, false, true, true, false, false, false, true, false, false, false, false] rfl rfl (by kernel_rfl) (fun _ _ _ h => h) (Or.inl ⟨by rfl, ?_⟩) hHeld ?_ ?_
    rotate_left
    · rintro w' ⟨s0, s1, s2, s3, s4, s5, s6, s7, s8, s9, s10⟩
      go_simp
      with_reducible rfl
    rotate_left
    · simp only [Act.put, List.setIfInBounds_toArray, List.set_cons_zero, List.set_cons_succ, i64_w, i32_w]
      rfl
    refine take_ (i := 17) (N := some 75) (v := ?_) (a' := ?_) #[true, true, true, true, true, true, true, true, true, true, true, true, true, false, true, true, false, true, false, true, false, false, false, false] rfl rfl (by kernel_rfl) (fun _ _ _ h => h) (Or.inl ⟨by rfl, ?_⟩) hHeld ?_ ?_
    rotate_left
    · rintro w' ⟨s0, s1, s2, s3, s4, s5, s6, s7, s8, s9, s10⟩
      go_simp
      with_reducible rfl
    rotate_left
    · simp only [Act.put, List.setIfInBounds_toArray, List.set_cons_zero, List.set_cons_succ, i64_w, i32_w]
      rfl
    refine take_ (i := 18) (N := some 76) (v := ?_) (a' := ?_) #[true, true, true, true, true, true, true, true, true, true, true, true, true, false, true, true, false, true, true, true, false, false, false, false] rfl rfl (by kernel_rfl) (fun _ _ _ h => h) (Or.inl ⟨by rfl, ?_⟩) hHeld ?_ ?_
    rotate_left
    · rintro w' ⟨s0, s1, s2, s3, s4, s5, s6, s7, s8, s9, s10⟩
      go_simp
      with_reducible rfl
    rotate_left
    · simp only [Act.put, List.setIfInBounds_toArray, List.set_cons_zero, List.set_cons_succ, i64_w, i32_w]
      rfl
    refine one_ (i := 13) (N := some 71) #[true, true, true, true, true, true, true, true, true, true, true, true, true, true, true, true, false, true, true, true, false, false, false, false] rfl rfl (by kernel_rfl) (by decide) (fun K hK => ?_)
    refine goes_ Try.func26 (by kernel_rfl) rfl #[.agg #[.slice A0 a.length c0, .slice A1 b.length c1, .slice A2 c.length c2], .agg #[.int .i64 J, .int .i64 I], .int .i64 n] (by rfl) rfl rfl (by simp only [List.map_toArray, List.map_cons, List.map_nil]; rfl) ?_
    with_reducible refine (put26 A0 A1 A2 c0 c1 c2 a b c P Q R J I n hP hQ hR w.heap.size _ hHeld.2.2.2.2.2.2.2.2.2.2.M.m hHeld.2.2.2.2.2.2.2.2.2.2.M.bel.size).mono ?_
    rintro e wg ⟨D0, D1, D2, d0, d1, d2, rfl, hd2, hbg⟩
    refine ⟨_, rfl, ?_⟩
    have wgN := hHeld.2.2.2.2.2.2.2.2.2.2.below hbg
    refine hK.out _ _ ⟨wgN.M.x50, wgN.M.x51, wgN.M.x52, wgN.M.x60, wgN.M.x61, wgN.M.x90, wgN.M.x91, wgN.xz0, wgN.xz1, wgN.xz2, wgN⟩ (fun hHeld => ?_)
    clear hK K
    refine norm_ (a' := ?_) ?_ ?_
    rotate_left
    · show Act.put _ (some 71) _ = _
      simp only [Act.put, List.setIfInBounds_toArray, List.set_cons_zero, List.set_cons_succ, i64_w, i32_w]
      rfl
    refine one_ (i := 16) (N := some 74) #[true, true, true, true, true, true, true, true, true, true, true, true, true, true, true, true, true, true, true, true, false, false, false, false] rfl rfl (by kernel_rfl) (by decide) (fun K hK => ?_)
    refine goes_ Try.func26 (by kernel_rfl) rfl #[.agg #[.slice D0 P.length d0, .slice D1 Q.length d1, .slice D2 R.length d2], .agg #[.int .i64 J, .int .i64 I], .int .i64 n] (by rfl) rfl rfl (by simp only [List.map_toArray, List.map_cons, List.map_nil]; rfl) ?_
    with_reducible refine (put26 D0 D1 D2 d0 d1 d2 P Q R P Q R J I n tw0 tw1 tw2 w.heap.size _ hd2 hHeld.2.2.2.2.2.2.2.2.2.2.M.bel.size).mono ?_
    rintro e wh ⟨E0, E1, E2, e0, e1, e2, rfl, he, hbh⟩
    refine ⟨_, rfl, ?_⟩
    have whN := hHeld.2.2.2.2.2.2.2.2.2.2.below hbh
    refine hK.out _ _ ⟨whN.M.x50, whN.M.x51, whN.M.x52, whN.M.x60, whN.M.x61, whN.M.x90, whN.M.x91, whN.xz0, whN.xz1, whN.xz2, whN⟩ (fun hHeld => ?_)
    clear hK K
    refine norm_ (a' := ?_) ?_ ?_
    rotate_left
    · show Act.put _ (some 74) _ = _
      simp only [Act.put, List.setIfInBounds_toArray, List.set_cons_zero, List.set_cons_succ, i64_w, i32_w]
      rfl
    refine one_ (i := 20) (N := some 78) #[true, true, true, true, true, true, true, true, true, true, true, true, true, true, true, true, true, true, true, true, true, false, false, false] rfl rfl (by kernel_rfl) (by decide) (fun K hK => ?_)
    refine goes_ Try.func26 (by kernel_rfl) rfl #[.agg #[.slice A0 a.length c0, .slice A1 b.length c1, .slice A2 c.length c2], .agg #[.int .i64 J, .int .i64 I], .int .i64 n] (by rfl) rfl rfl (by simp only [List.map_toArray, List.map_cons, List.map_nil]; rfl) ?_
    with_reducible refine (put26 A0 A1 A2 c0 c1 c2 a b c P Q R J I n hP hQ hR w.heap.size _ hHeld.2.2.2.2.2.2.2.2.2.2.M.m hHeld.2.2.2.2.2.2.2.2.2.2.M.bel.size).mono ?_
    rintro e wi ⟨F0, F1, F2, f0, f1, f2, rfl, hf, hbi⟩
    refine ⟨_, rfl, ?_⟩
    have wiN := hHeld.2.2.2.2.2.2.2.2.2.2.below hbi
    refine hK.out _ _ ⟨wiN.M.x50, wiN.M.x51, wiN.M.x52, wiN.M.x60, wiN.M.x61, wiN.M.x90, wiN.M.x91, wiN.xz0, wiN.xz1, wiN.xz2, wiN⟩ (fun hHeld => ?_)
    clear hK K
    refine norm_ (a' := ?_) ?_ ?_
    rotate_left
    · show Act.put _ (some 78) _ = _
      simp only [Act.put, List.setIfInBounds_toArray, List.set_cons_zero, List.set_cons_succ, i64_w, i32_w]
      rfl
    refine one_ (i := 21) (N := some 79) #[true, true, true, true, true, true, true, true, true, true, true, true, true, true, true, true, true, true, true, true, true, true, false, false] rfl rfl (by kernel_rfl) (by decide) (fun K hK => ?_)
    refine goes_ Try.func19 (by kernel_rfl) rfl #[.agg #[.slice E0 P.length e0, .slice E1 Q.length e1, .slice E2 R.length e2], .agg #[.slice F0 P.length f0, .slice F1 Q.length f1, .slice F2 R.length f2]] (by rfl) rfl rfl (by simp only [List.map_toArray, List.map_cons, List.map_nil]; rfl) ?_
    with_reducible refine (same19 20 E0 E1 E2 e0 e1 e2 P Q R F0 F1 F2 f0 f1 f2 P Q R rfl rfl rfl e19' w.heap.size w.heap.size _ (he.below hbi) hf).mono ?_
    rintro e wj ⟨rfl, hbj⟩
    refine ⟨_, rfl, ?_⟩
    have wjN := hHeld.2.2.2.2.2.2.2.2.2.2.below hbj
    refine hK.out _ _ ⟨wjN.M.x50, wjN.M.x51, wjN.M.x52, wjN.M.x60, wjN.M.x61, wjN.M.x90, wjN.M.x91, wjN.xz0, wjN.xz1, wjN.xz2, wjN⟩ (fun hHeld => ?_)
    clear hK K
    refine norm_ (a' := ?_) ?_ ?_
    rotate_left
    · show Act.put _ (some 79) _ = _
      simp only [Act.put, List.setIfInBounds_toArray, List.set_cons_zero, List.set_cons_succ, i64_w, i32_w]
      rfl
    refine pure_ (i := 22) (N := some 80) (v := ?_) (a' := ?_) #[true, true, true, true, true, true, true, true, true, true, true, true, true, true, true, true, true, true, true, true, true, true, true, false] rfl rfl (by kernel_rfl) (fun _ _ _ h => h) (Or.inl ⟨by rfl, ?_⟩) ?_ ?_
    rotate_left
    · intro w'
      go_simp
      with_reducible rfl
    rotate_left
    · simp only [Act.put, List.setIfInBounds_toArray, List.set_cons_zero, List.set_cons_succ, i64_w, i32_w]
      rfl
    refine pure_ (i := 23) (N := some 4) (v := ?_) (a' := ?_) #[true, true, true, true, true, true, true, true, true, true, true, true, true, true, true, true, true, true, true, true, true, true, true, true] rfl rfl (by kernel_rfl) (fun _ _ _ h => h) (Or.inl ⟨by rfl, ?_⟩) ?_ ?_
    rotate_left
    · intro w'
      go_simp
      with_reducible rfl
    rotate_left
    · simp only [Act.put, List.setIfInBounds_toArray, List.set_cons_zero, List.set_cons_succ, i64_w, i32_w]
      rfl
    refine done_ (by kernel_rfl) ?_
    have hN9 := hHeld.2.2.2.2.2.2.2.2.2.2
    clear hHeld
    go_wp2
    go_ret
    exact ⟨rfl, hN9.M.bel⟩
set_option maxRecDepth 100000 in
theorem all (A A' : Option Addr) (cc cc' : Nat) (l l' : List Int) (w : World) (hr : Kd.C (Kd.int .u8) w A l.length l) (hc : l.length ≤ cc) (hr' : Kd.C (Kd.int .u8) w A' l'.length l') (hc' : l'.length ≤ cc') (hb : Byt l) (hb' : Byt l') :
    Calls Try.prog 9 #[.slice A l.length cc, .slice A' l'.length cc'] w fun e w' => e = .returned (.bool true) ∧ Below w.heap.size w w' := by
  by_cases h0 : (l.length : Int) > 1048576
  · have t1 : decide (1048576 < (l.length : Int)) = true := by simpa using h0
    clear h0
    go_enter Try.func9, Try.ntmps9
    go_wp2
    go_ret
    exact ⟨rfl, Below.refl _ _⟩
  by_cases h1 : (l'.length : Int) > 1048576
  · have t1 : decide (1048576 < (l.length : Int)) = false := by simpa using h0
    have t2 : decide (1048576 < (l'.length : Int)) = true := by simpa using h1
    clear h0 h1
    go_enter Try.func9, Try.ntmps9
    go_wp2
    go_ret
    exact ⟨rfl, Below.refl _ _⟩
  obtain ⟨a, b, c, J, I, n, hd, ha, hb, hcc⟩ := drawPut_some hb 0
  obtain ⟨a', b', c', J', I', n', hd', _, _, _⟩ := drawPut_some hb' 0
  exact main A A' cc cc' l l' a b c a' b' c' J I n J' I' n' 6 6 w h0 h1 hr hc hr' hc' hd hd' ha hb hcc
theorem walk (a0 : Option Addr) (len0 cap0 : Nat) (z0 : List Int) (a1 : Option Addr) (len1 cap1 : Nat) (z1 : List Int) (w : World) (w0 : (a0 = none ∧ len0 = 0 ∧ cap0 = 0 ∧ z0 = []) ∨ ∃ x, a0 = some x ∧ len0 ≤ cap0 ∧ cap0 ≤ maxLen ∧ z0.length = cap0 ∧ (∀ i, i < z0.length → w.cell? (x.add i) = some (.int .u8 (z0.getD i 0))) ∧ ∀ n ∈ z0, (Lit.int .u8 n).wf = true) (y0 : len0 * 1 ≤ 140737488351232) (w1 : (a1 = none ∧ len1 = 0 ∧ cap1 = 0 ∧ z1 = []) ∨ ∃ x, a1 = some x ∧ len1 ≤ cap1 ∧ cap1 ≤ maxLen ∧ z1.length = cap1 ∧ (∀ i, i < z1.length → w.cell? (x.add i) = some (.int .u8 (z1.getD i 0))) ∧ ∀ n ∈ z1, (Lit.int .u8 n).wf = true) (y1 : len1 * 1 ≤ 140737488351232) :
    Calls Try.prog 9 #[.slice a0 len0 cap0, .slice a1 len1 cap1] w fun e w' => e = .returned (.bool true) ∧ Below w.heap.size w w' := by
  obtain ⟨l0, rfl, hr0, hm0, hw0, hc0⟩ := ReadsInt.ofRowC w0
  obtain ⟨l1, rfl, hr1, hm1, hw1, hc1⟩ := ReadsInt.ofRowC w1
  exact all a0 a1 cap0 cap1 l0 l1 w (Kd.C_of_reads (d := (0 : Int)) (h1 := fun _ => rfl) hr0) hc0 (Kd.C_of_reads (d := (0 : Int)) (h1 := fun _ => rfl) hr1) hc1 (byt_of hw0) (byt_of hw1)
end Go.Proofs.Ytlgogdpnakbhiaa.MyFnMemTwo
