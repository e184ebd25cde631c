/- The law FnBlockBent returns true for every code: malformed blocks are always recognised. No condition. -/
import Derived.Test.YtcigooccnlbkjaaHFnBlockBentx4
namespace Go.Proofs.Ytcigooccnlbkjaa.Pure
open Go.RowKit Go.Proofs.Ytcigooccnlbkjaa.HFnBlockBent Go.Proofs.YtcigooccnlbkjaaW.PrintWords Go.Proofs.YtcigooccnlbkjaaW.PrintLast
set_option linter.unusedVariables false
set_option linter.unusedSimpArgs false
theorem wrap_id {x : Int} (h1 : -9223372036854775808 ≤ x) (h2 : x ≤ 9223372036854775807) : wrap64 x = x := by
  unfold wrap64; omega
theorem xor_i64_nat (a b : Nat) (ha : a < 9223372036854775808) (hb : b < 9223372036854775808) :
    Go.bits .xor .i64 (a : Int) (b : Int) = ((a ^^^ b : Nat) : Int) := by
  have hx : a ^^^ b < 2 ^ 63 := Nat.xor_lt_two_pow (by omega) (by omega)
  have h1 : (BitVec.ofInt 64 (a : Int)).toNat = a := by
    rw [BitVec.ofInt_natCast, BitVec.toNat_ofNat]; exact Nat.mod_eq_of_lt (by omega)
  have h2 : (BitVec.ofInt 64 (b : Int)).toNat = b := by
    rw [BitVec.ofInt_natCast, BitVec.toNat_ofNat]; exact Nat.mod_eq_of_lt (by omega)
  show IntKind.i64.wrap ((BitVec.ofInt 64 (a : Int) ^^^ BitVec.ofInt 64 (b : Int)).toNat : Int) = _
  rw [BitVec.toNat_xor, h1, h2, IntKind.wrap_i64]
  omega
theorem xor_i64_nonneg (x y : Int) (hx : 0 ≤ x) (hx' : x < 9223372036854775808) (hy : 0 ≤ y) (hy' : y < 9223372036854775808) :
    0 ≤ Go.bits .xor .i64 x y := by
  obtain ⟨a, rfl⟩ := Int.eq_ofNat_of_zero_le hx
  obtain ⟨b, rfl⟩ := Int.eq_ofNat_of_zero_le hy
  rw [xor_i64_nat a b (by omega) (by omega)]
  exact Int.natCast_nonneg _
def Byt (l : List Int) : Prop := ∀ x ∈ l, 0 ≤ x ∧ x ≤ 255
theorem rd_byt {l : List Int} (h : Byt l) (i : Int) : 0 ≤ rd l i ∧ rd l i ≤ 255 := by
  unfold rd
  by_cases hi : i.toNat < l.length
  · rw [List.getD_eq_getElem?_getD, List.getElem?_eq_getElem hi]; exact h _ (List.getElem_mem hi)
  · rw [List.getD_eq_getElem?_getD, List.getElem?_eq_none (by omega)]; simp
theorem tmod_bd {a b : Int} (ha : 0 ≤ a) (hb : 0 < b) : 0 ≤ Int.tmod a b ∧ Int.tmod a b < b := by
  rw [Int.tmod_eq_emod_of_nonneg ha]
  exact ⟨Int.emod_nonneg _ (by omega), Int.emod_lt_of_pos _ hb⟩
theorem tdiv_bd {a b : Int} (ha : 0 ≤ a) (hb : 0 < b) : 0 ≤ Int.tdiv a b ∧ Int.tdiv a b ≤ a := by
  rw [Int.tdiv_eq_ediv_of_nonneg ha]
  exact ⟨Int.ediv_nonneg ha (by omega), Int.ediv_le_self _ ha⟩
/-- What one pick gives: a number from 0 on, below n where n is at least 1; the place goes one on. -/
theorem pick_some {l : List Int} (h : Byt l) (k : Nat) (p n : Int) (hp : 0 ≤ p) (hp' : p ≤ 1000000000000) :
    ∃ r, spec_l12Rd_pick.f (k + 1) l p n = some (r, p + 1) ∧ 0 ≤ r ∧ (r < n ∨ (n < 1 ∧ r = 0)) := by
  have hw : wrap64 (p + 1) = p + 1 := wrap_id (by omega) (by omega)
  have hw2 : wrap64 (p + 1 - 1) = p := by rw [wrap_id (by omega) (by omega)]; omega
  unfold spec_l12Rd_pick.f
  by_cases hn : n < 1
  · refine ⟨0, ?_, by omega, .inr ⟨hn, rfl⟩⟩
    rw [if_pos hn]; simp only [spec_l12Rd_pick.j0, if_true]; rw [hw]
  · rw [if_neg hn]
    by_cases hl : (l.length : Int) = 0
    · refine ⟨0, ?_, by omega, .inl (by omega)⟩
      have e : ((l.length : Int) == 0) = true := by simpa using hl
      rw [e]; simp only [spec_l12Rd_pick.j0, if_true]; rw [hw]
    · have e : ((l.length : Int) == 0) = false := by simpa using hl
      have hn0 : ¬ n = 0 := by omega
      rw [e]; simp only [spec_l12Rd_pick.j0]
      rw [if_neg (by simp), hw, hw2]
      by_cases hlt : p < (l.length : Int)
      · rw [if_pos hlt, if_pos hp, if_neg hn0]
        have hb := rd_byt h p
        rw [wrap_id (x := rd l p) (by omega) (by omega)]
        have ht := tmod_bd (a := rd l p) (b := n) hb.1 (by omega)
        exact ⟨_, rfl, ht.1, .inl ht.2⟩
      · have hL : 0 < (l.length : Int) := by omega
        have ht1 := tmod_bd (a := p) (b := (l.length : Int)) hp hL
        have e7 : wrap64 (p * 7) = p * 7 := wrap_id (by omega) (by omega)
        have e73 : wrap64 (p * 7 + 3) = p * 7 + 3 := wrap_id (by omega) (by omega)
        have ht2 := tmod_bd (a := p * 7 + 3) (b := (l.length : Int)) (by omega) hL
        rw [if_neg hlt, if_neg hl, if_pos ht1.1, if_pos ht1.2, e7, e73, if_pos ht2.1, if_pos ht2.2, if_neg hn0]
        have hb1 := rd_byt h (Int.tmod p (l.length : Int))
        have hb2 := rd_byt h (Int.tmod (p * 7 + 3) (l.length : Int))
        have hd := tdiv_bd (a := p) (b := (l.length : Int)) hp hL
        generalize rd l (Int.tmod p (l.length : Int)) = A at hb1 ⊢
        generalize rd l (Int.tmod (p * 7 + 3) (l.length : Int)) = B at hb2 ⊢
        generalize Int.tdiv p (l.length : Int) = D at hd ⊢
        rw [wrap_id (x := A) (by omega) (by omega), wrap_id (x := B) (by omega) (by omega), wrap_id (x := D) (by omega) (by omega), wrap_id (x := A * 131) (by omega) (by omega), wrap_id (x := B * 1117) (by omega) (by omega), wrap_id (x := p * 29) (by omega) (by omega), wrap_id (x := D * 53) (by omega) (by omega), wrap_id (x := A * 131 + B * 1117) (by omega) (by omega), wrap_id (x := A * 131 + B * 1117 + p * 29) (by omega) (by omega), wrap_id (x := A * 131 + B * 1117 + p * 29 + D * 53) (by omega) (by omega)]
        have hx0 : 0 ≤ A * 131 + B * 1117 + p * 29 + D * 53 := by omega
        have hx1 : A * 131 + B * 1117 + p * 29 + D * 53 < 9223372036854775807 := by omega
        generalize A * 131 + B * 1117 + p * 29 + D * 53 = X at hx0 hx1 ⊢
        have hd2 := tdiv_bd (a := X) (b := 64) hx0 (by omega)
        rw [wrap_id (x := Int.tdiv X 64) (by omega) (by omega)]
        have hnn := xor_i64_nonneg X (Int.tdiv X 64) hx0 (by omega) hd2.1 (by omega)
        have ht := tmod_bd (a := Go.bits .xor .i64 X (Int.tdiv X 64)) (b := n) hnn (by omega)
        exact ⟨_, rfl, ht.1, .inl ht.2⟩
theorem rd_mem {l : List Int} {i : Int} (h0 : 0 ≤ i) (h1 : i < (l.length : Int)) : rd l i ∈ l := by
  unfold rd
  rw [List.getD_eq_getElem?_getD, List.getElem?_eq_getElem (by omega)]; exact List.getElem_mem _
theorem num_some {l : List Int} (h : Byt l) (k : Nat) (p : Int) (xs : List Int) (hx : 0 < xs.length) (hp : 0 ≤ p) (hp' : p ≤ 1000000000000) :
    ∃ r, spec_l12Rd_num.f (k + 1) l p xs = some (r, p + 1) ∧ r ∈ xs := by
  obtain ⟨i, hi, h0, h1⟩ := pick_some h k p (xs.length : Int) hp hp'
  have h1' : i < (xs.length : Int) := by omega
  refine ⟨rd xs i, ?_, rd_mem h0 h1'⟩
  unfold spec_l12Rd_num.f
  rw [hi]; simp only [Option.bind_some]
  rw [if_pos h0, if_pos h1']
theorem byt_of {l : List Int} (h : ∀ x ∈ l, (Lit.int .u8 x).wf = true) : Byt l := by
  intro x hx
  have := h x hx
  simp [Lit.wf, IntKind.min, IntKind.max, IntKind.bits, IntKind.signed] at this
  omega
theorem open_some {l : List Int} (h : Byt l) : ∃ l', spec_l12Open.f l = some (l', 0) ∧ Byt l' := by
  unfold spec_l12Open.f
  by_cases hl : (l.length : Int) > 2000
  · rw [if_pos hl, if_pos (by omega)]
    exact ⟨_, rfl, fun x hx => h x (List.mem_of_mem_take hx)⟩
  · rw [if_neg hl]; exact ⟨l, rfl, h⟩
theorem l6N_some (k : Nat) (a n : Int) : spec_l6N.f (k + 1) a n = some (Hb.sizedB a n) := by
  have key : ∀ b : Bool, (b = true ↔ (1 ≤ a ∧ a ≤ 3)) → spec_l6N.j0 (k + 1) n a b = some (Hb.sizedB a n) := by
    intro b hb
    simp only [spec_l6N.j0, Hb.sizedB]
    by_cases h : b = true
    · have h1 := hb.1 h
      rw [if_pos h]
      have e1 : decide (1 ≤ a) = true := by simp; omega
      have e2 : decide (a ≤ 3) = true := by simp; omega
      have e3 : decide (4 ≤ a) = false := by simp; omega
      by_cases hn : n ≥ 0
      · rw [if_pos hn]; have e4 : decide (0 ≤ n) = true := by simpa using hn
        simp [e1, e2, e3, e4]
      · rw [if_neg hn]; have e4 : decide (0 ≤ n) = false := by simpa using hn
        simp [e1, e2, e3, e4]
    · have h1 : ¬ (1 ≤ a ∧ a ≤ 3) := fun x => h (hb.2 x)
      rw [if_neg h]
      have e12 : (decide (1 ≤ a) && decide (a ≤ 3)) = false := by simp; omega
      rw [e12]
      by_cases h4 : a = 4
      · subst h4; simp; rfl
      · rw [if_neg h4]
        by_cases h5 : a = 5
        · subst h5; simp; rfl
        · rw [if_neg h5]
          have e : (decide (4 ≤ a) && decide (a ≤ 5)) = false := by simp; omega
          simp [e]
  unfold spec_l6N.f
  by_cases h1 : a = 1
  · rw [if_pos h1]; exact key _ (by simp [h1])
  · rw [if_neg h1]
    by_cases h2 : a = 2
    · rw [if_pos h2]; exact key _ (by simp [h2])
    · rw [if_neg h2]; exact key _ (by simp; omega)
theorem ok_some (k : Nat) (a n t : Int) (o s : Bool) : spec_BlockOk.f (k + 1) a n o s t = some (Hb.blockOkB a n t) := by
  unfold spec_BlockOk.f
  rw [l6N_some]; simp only [Option.bind_some]
  unfold Hb.blockOkB
  cases hs : Hb.sizedB a n with
  | false => simp
  | true =>
    rw [if_pos rfl]
    have hk : 1 ≤ a ∧ a ≤ 5 := by simp [Hb.sizedB] at hs; omega
    by_cases h1 : t < 0
    · rw [if_pos h1]; have e : Hb.isTimeB t = false := by simp [Hb.isTimeB]; omega
      rw [e]; simp
    · rw [if_neg h1]
      by_cases h2 : t > 1000
      · rw [if_pos h2]; have e : Hb.isTimeB t = false := by simp [Hb.isTimeB]; omega
        rw [e]; simp
      · rw [if_neg h2]; have e : Hb.isTimeB t = true := by simp [Hb.isTimeB]; omega
        rw [e]
        by_cases h3 : t = 0
        · rw [if_pos h3]; simp [h3]
        · rw [if_neg h3]
          rcases (by omega : a = 1 ∨ a = 2 ∨ a = 3 ∨ a = 4 ∨ a = 5) with rfl | rfl | rfl | rfl | rfl <;> simp [h3]
theorem min_some (a b : Int) : spec_l1Min.f a b = some (if a < b then a else b) := by
  unfold spec_l1Min.f; split <;> rfl
theorem delay_some (a b : Int) (c d : Bool) (e : Int) (x : Bool) (dt : Int) : ∃ r, spec_l6Delay.f a b c d e x dt = some r := by
  unfold spec_l6Delay.f; simp only [min_some, Option.bind_some]; (repeat' split) <;> exact ⟨_, rfl⟩
theorem hold_some (a b : Int) (c d : Bool) (e : Int) (x : Bool) (dt : Int) : ∃ r, spec_l6Hold.f a b c d e x dt = some r := by
  unfold spec_l6Hold.f; simp only [min_some, Option.bind_some]; (repeat' split) <;> exact ⟨_, rfl⟩
theorem count_some (a b : Int) (c d : Bool) (e : Int) (x y : Bool) : ∃ r, spec_l6Count.f a b c d e x y = some r := by
  unfold spec_l6Count.f; simp only [min_some, Option.bind_some]; (repeat' split) <;> exact ⟨_, rfl⟩
theorem step_some (a b : Int) (c d : Bool) (e : Int) (x y : Bool) (dt : Int) : ∃ r, spec_l6Step.f a b c d e x y dt = some r := by
  obtain ⟨r1, h1⟩ := delay_some a b c d e x dt
  obtain ⟨r2, h2⟩ := hold_some a b c d e x dt
  obtain ⟨r3, h3⟩ := count_some a b c d e x y
  unfold spec_l6Step.f
  rw [h1, h2, h3]; simp only [Option.bind_some]
  (repeat' split) <;> exact ⟨_, rfl⟩
theorem kind_some {l : List Int} (h : Byt l) (k : Nat) (p : Int) (hp : 0 ≤ p) (hp' : p ≤ 100000000) :
    ∃ a n q, spec_l6Kind.f (k + 1) l p = some (a, n, q) ∧ p ≤ q ∧ q ≤ p + 2 ∧ 1 ≤ a ∧ a ≤ 5 ∧ 0 ≤ n ∧ n ≤ 1000 ∧ (3 < a → n = 0) := by
  obtain ⟨a, ha, a0, a1⟩ := pick_some h k p 5 hp (by omega)
  unfold spec_l6Kind.f
  rw [ha]; simp only [Option.bind_some]
  rw [wrap_id (x := 1 + a) (by omega) (by omega)]
  by_cases h3 : 1 + a > 3
  · rw [if_pos h3]; exact ⟨_, _, _, rfl, by omega, by omega, by omega, by omega, by omega, by omega, fun _ => rfl⟩
  · rw [if_neg h3]
    obtain ⟨n, hn, hm⟩ := num_some h k (p + 1) [0, 1, 2, 3, 5, 1000] (by simp) (by omega) (by omega)
    rw [hn]
    refine ⟨_, _, _, rfl, by omega, by omega, by omega, by omega, ?_, ?_, fun h => by omega⟩
    · simp only [List.mem_cons, List.not_mem_nil, or_false] at hm; omega
    · simp only [List.mem_cons, List.not_mem_nil, or_false] at hm; omega
theorem blockLoop_some {l : List Int} (h : Byt l) (d : Nat) : ∀ (k : Nat) (i p a b : Int) (c e : Bool) (t : Int), 0 ≤ p → p + 4 * d + 10 ≤ 200000000 → 0 ≤ i → i ≤ d → d + 1 < k →
    ∃ r, spec_l6Block.l0 k i l p a b c e t = some r := by
  induction d with
  | zero =>
    intro k i p a b c e t hp hp' hi0 hi hk
    obtain ⟨k, rfl⟩ : ∃ m, k = m + 2 := ⟨k - 2, by omega⟩
    simp only [spec_l6Block.l0]
    rw [if_neg (by omega)]
    obtain ⟨q, hq, _⟩ := pick_some h k p 40 hp (by omega)
    rw [hq]; simp only [Option.bind_some]
    obtain ⟨n1, hn1, _⟩ := num_some h k (p + 1) [0, 6, 4] (by simp) (by omega) (by omega)
    obtain ⟨n2, hn2, _⟩ := num_some h k (p + 1) [(-1), 1001, 1] (by simp) (by omega) (by omega)
    obtain ⟨n3, hn3, _⟩ := num_some h k (p + 1) [(-1), 1000, 1001] (by simp) (by omega) (by omega)
    rw [hn1, hn2, hn3]; simp only [Option.bind_some]
    (repeat' split) <;> exact ⟨_, rfl⟩
  | succ d ih =>
    intro k i p a b c e t hp hp' hi0 hi hk
    obtain ⟨k, rfl⟩ : ∃ m, k = m + 2 := ⟨k - 2, by omega⟩
    simp only [spec_l6Block.l0]
    by_cases hi1 : i > 0
    · rw [if_pos hi1]
      obtain ⟨q1, hq1, _⟩ := pick_some h k p 3 hp (by omega)
      rw [hq1]; simp only [Option.bind_some]
      obtain ⟨q2, hq2, _⟩ := pick_some h k (p + 1) 6 (by omega) (by omega)
      rw [hq2]; simp only [Option.bind_some]
      obtain ⟨q3, hq3, _⟩ := num_some h k (p + 1 + 1) [1, 1, 2, 3, 0, 10, 1000] (by simp) (by omega) (by omega)
      unfold spec_l6Dt.f
      rw [hq3]; simp only [Option.bind_some]
      obtain ⟨r, hr⟩ := step_some a b c e t (decide (q1 > 0)) (q2 == 0) q3
      rw [hr]; simp only [Option.bind_some]
      rw [wrap_id (x := i - 1) (by omega) (by omega)]
      exact ih (k + 1) (i - 1) _ _ _ _ _ _ (by omega) (by omega) (by omega) (by omega) (by omega)
    · rw [if_neg hi1]
      obtain ⟨q, hq, _⟩ := pick_some h k p 40 hp (by omega)
      rw [hq]; simp only [Option.bind_some]
      obtain ⟨n1, hn1, _⟩ := num_some h k (p + 1) [0, 6, 4] (by simp) (by omega) (by omega)
      obtain ⟨n2, hn2, _⟩ := num_some h k (p + 1) [(-1), 1001, 1] (by simp) (by omega) (by omega)
      obtain ⟨n3, hn3, _⟩ := num_some h k (p + 1) [(-1), 1000, 1001] (by simp) (by omega) (by omega)
      rw [hn1, hn2, hn3]; simp only [Option.bind_some]
      (repeat' split) <;> exact ⟨_, rfl⟩
theorem drawBlock_some {l : List Int} (h : Byt l) : ∃ a b c e t, spec_DrawBlockOk.f 8 l = some (a, b, c, e, t) := by
  obtain ⟨l', ho, h'⟩ := open_some h
  unfold spec_DrawBlockOk.f spec_l6Block.f
  rw [ho]; simp only [Option.bind_some]
  obtain ⟨a, n, q, hk, hq1, hq2, _⟩ := kind_some h' 7 0 (by omega) (by omega)
  rw [hk]; simp only [Option.bind_some]
  unfold spec_BlockNew.f
  rw [l6N_some]; simp only [Option.bind_some]
  obtain ⟨i, hi, i0, i1⟩ := pick_some h' 7 q 6 (by omega) (by omega)
  rw [hi]
  cases Hb.sizedB a n <;> simp only [if_true, Bool.false_eq_true, if_false, Option.bind_some]
  · obtain ⟨r, hr⟩ := blockLoop_some h' 6 8 i (q + 1) 0 0 false false 0 (by omega) (by omega) i0 (by omega) (by omega)
    rw [hr]; exact ⟨_, _, _, _, _, rfl⟩
  · obtain ⟨r, hr⟩ := blockLoop_some h' 6 8 i (q + 1) a n false false 0 (by omega) (by omega) i0 (by omega) (by omega)
    rw [hr]; exact ⟨_, _, _, _, _, rfl⟩
theorem drawNew_some {l : List Int} (h : Byt l) (k : Nat) : ∃ a n, spec_DrawBlockNew.f (k + 1) l = some (a, n) ∧ -1 ≤ n ∧ n ≤ 1001 := by
  obtain ⟨l', ho, h'⟩ := open_some h
  unfold spec_DrawBlockNew.f
  rw [ho]; simp only [Option.bind_some]
  obtain ⟨a, n, q, hk, hq1, hq2, _, _, n0, n1, _⟩ := kind_some h' k 0 (by omega) (by omega)
  rw [hk]; simp only [Option.bind_some]
  obtain ⟨i, hi, i0, i1⟩ := pick_some h' k q 6 (by omega) (by omega)
  rw [hi]; simp only [Option.bind_some]
  obtain ⟨j, hj, _⟩ := pick_some h' k (q + 1) 8 (by omega) (by omega)
  rw [hj]; simp only [Option.bind_some]
  obtain ⟨m, hm, hmm⟩ := num_some h' k (q + 1 + 1) [0, 1, (-1), 1000, 1001] (by simp) (by omega) (by omega)
  rw [hm]; simp only [Option.bind_some]
  split
  · exact ⟨_, _, rfl, by simp only [List.mem_cons, List.not_mem_nil, or_false] at hmm; omega, by simp only [List.mem_cons, List.not_mem_nil, or_false] at hmm; omega⟩
  · exact ⟨_, _, rfl, by omega, by omega⟩
theorem ok_top (a n : Int) (h : Hb.blockOkB a n 1001 = true) : False := by simp [Hb.blockOkB, Hb.isTimeB] at h
theorem ok_neg (a t : Int) (h : Hb.blockOkB a (-1) t = true) : False := by simp [Hb.blockOkB, Hb.sizedB] at h
theorem ok_six (n t : Int) (h : Hb.blockOkB 6 n t = true) : False := by simp [Hb.blockOkB, Hb.sizedB] at h
theorem b_false {b : Bool} (h : b = true → False) : b = false := by cases b; rfl; exact (h rfl).elim
theorem j1_ok (k : Nat) (a n : Int) (c e : Bool) (t : Int) : laws_FnBlockBent.j1 (k + 1 + 1) false a n c e t = some true := by
  simp only [laws_FnBlockBent.j1]
  rw [if_neg (by simp), ok_some]; simp only [Option.bind_some, impl_BlockOk.f]
  cases h : Hb.blockOkB a n t with
  | false => simp
  | true =>
    rw [if_pos rfl, b_false (ok_top a n), b_false (ok_neg a t), b_false (ok_six n t)]; simp
theorem j0_ok (k : Nat) (a n : Int) (c e : Bool) (t : Int) (k2 n2 : Int) : laws_FnBlockBent.j0 (k + 1 + 1 + 1) false a n c e t (if Hb.sizedB k2 n2 = true then k2 else 0) (if Hb.sizedB k2 n2 = true then n2 else 0) false false 0 = some true := by
  simp only [laws_FnBlockBent.j0]
  rw [if_neg (by simp)]
  cases hs : Hb.sizedB k2 n2 with
  | false =>
    simp only [Bool.false_eq_true, if_false, if_true]
    exact j1_ok k a n c e t
  | true =>
    have hk : ¬ k2 = 0 := by simp [Hb.sizedB] at hs; omega
    have ho : Hb.blockOkB k2 n2 0 = true := by simp [Hb.blockOkB, hs, Hb.isTimeB]
    simp only [if_true]
    rw [if_neg hk]; simp only [impl_BlockOk.f, Option.bind_some]
    rw [ho]
    simp only [if_true, Bool.false_eq_true, if_false]
    exact j1_ok k a n c e t
theorem FnBlockBent : laws_FnBlockBent.Pure := by
  intro l0 _ _ hb
  refine ⟨8, ?_⟩
  unfold laws_FnBlockBent.f
  by_cases hl : (l0.length : Int) > 1048576
  · rw [if_pos hl]
  rw [if_neg hl]
  obtain ⟨a, n, c, e, t, h1⟩ := drawBlock_some (byt_of hb)
  obtain ⟨k2, n2, h2, _, _⟩ := drawNew_some (byt_of hb) 7
  rw [h1, h2]; simp only [Option.bind_some]
  unfold impl_BlockNew.f impl_sized.f impl_BlockOk.f spec_BlockNew.f
  rw [ok_some, l6N_some]; simp only [Option.bind_some]
  have z : (Hb.blockOkB a n t != Hb.blockOkB a n t) = false := by simp
  have hj := j0_ok 5 a n c e t k2 n2
  cases hs : Hb.sizedB k2 n2 with
  | false =>
    rw [hs] at hj
    simp only [Bool.false_eq_true, if_false, Option.bind_some, z] at hj ⊢
    simpa using hj
  | true =>
    rw [hs] at hj
    simp only [if_true, Option.bind_some, z, Bool.false_eq_true, if_false] at hj ⊢
    simpa using hj
end Go.Proofs.Ytcigooccnlbkjaa.Pure
