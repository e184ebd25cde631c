/- The law FnMemBent returns true for every code: malformed memories are always recognised. No condition. -/
import Derived.Test.YtlgogdpnakbhiaaDoorHFnMemBentx0
import Derived.Test.YtlgogdpnakbhiaaDoorHFnMemBentx1
import Derived.Test.YtlgogdpnakbhiaaDoorHFnMemBentx2
import Derived.Test.YtlgogdpnakbhiaaDoorHFnMemBentx4
import Derived.WalkKit
import Derived.KernelRfl
import Derived.WalkLawsBesides
import Derived.WalkSpells
import Derived.Below
import Derived.Deep.RegionHeld
namespace Go.Proofs.YtlgogdpnakbhiaaDoor.MyFnMemBent
open Go.RowKit Go.Proofs.YtlgogdpnakbhiaaDoor.HFnMemBent Go.Proofs.YtlgogdpnakbhiaaDoorW.PrintWords Go.Proofs.YtlgogdpnakbhiaaDoorW.PrintLast Go.Proofs.YtlgogdpnakbhiaaDoorW.PrintMore
set_option linter.unusedVariables false
set_option linter.unusedSimpArgs false
theorem wrap_id {x : Int} (h1 : -9223372036854775808 ≤ x) (h2 : x ≤ 9223372036854775807) : wrap64 x = x := by
  unfold wrap64; omega
theorem xor_i64_nat (a b : Nat) (ha : a < 9223372036854775808) (hb : b < 9223372036854775808) :
    Go.bits .xor .i64 (a : Int) (b : Int) = ((a ^^^ b : Nat) : Int) := by
  have hx : a ^^^ b < 2 ^ 63 := Nat.xor_lt_two_pow (by omega) (by omega)
  have h1 : (BitVec.ofInt 64 (a : Int)).toNat = a := by
    rw [BitVec.ofInt_natCast, BitVec.toNat_ofNat]; exact Nat.mod_eq_of_lt (by omega)
  have h2 : (BitVec.ofInt 64 (b : Int)).toNat = b := by
    rw [BitVec.ofInt_natCast, BitVec.toNat_ofNat]; exact Nat.mod_eq_of_lt (by omega)
  show IntKind.i64.wrap ((BitVec.ofInt 64 (a : Int) ^^^ BitVec.ofInt 64 (b : Int)).toNat : Int) = _
  rw [BitVec.toNat_xor, h1, h2, IntKind.wrap_i64]
  omega
theorem xor_i64_nonneg (x y : Int) (hx : 0 ≤ x) (hx' : x < 9223372036854775808) (hy : 0 ≤ y) (hy' : y < 9223372036854775808) :
    0 ≤ Go.bits .xor .i64 x y := by
  obtain ⟨a, rfl⟩ := Int.eq_ofNat_of_zero_le hx
  obtain ⟨b, rfl⟩ := Int.eq_ofNat_of_zero_le hy
  rw [xor_i64_nat a b (by omega) (by omega)]
  exact Int.natCast_nonneg _
def Byt (l : List Int) : Prop := ∀ x ∈ l, 0 ≤ x ∧ x ≤ 255
theorem rd_byt {l : List Int} (h : Byt l) (i : Int) : 0 ≤ rd l i ∧ rd l i ≤ 255 := by
  unfold rd
  by_cases hi : i.toNat < l.length
  · rw [List.getD_eq_getElem?_getD, List.getElem?_eq_getElem hi]; exact h _ (List.getElem_mem hi)
  · rw [List.getD_eq_getElem?_getD, List.getElem?_eq_none (by omega)]; simp
theorem tmod_bd {a b : Int} (ha : 0 ≤ a) (hb : 0 < b) : 0 ≤ Int.tmod a b ∧ Int.tmod a b < b := by
  rw [Int.tmod_eq_emod_of_nonneg ha]
  exact ⟨Int.emod_nonneg _ (by omega), Int.emod_lt_of_pos _ hb⟩
theorem tdiv_bd {a b : Int} (ha : 0 ≤ a) (hb : 0 < b) : 0 ≤ Int.tdiv a b ∧ Int.tdiv a b ≤ a := by
  rw [Int.tdiv_eq_ediv_of_nonneg ha]
  exact ⟨Int.ediv_nonneg ha (by omega), Int.ediv_le_self _ ha⟩
/-- What one pick gives: a number from 0 on, below n where n is at least 1; the place goes one on. -/
theorem pick_some {l : List Int} (h : Byt l) (k : Nat) (p n : Int) (hp : 0 ≤ p) (hp' : p ≤ 1000000000000) :
    ∃ r, spec_l12Rd_pick.f (k + 1) l p n = some (r, p + 1) ∧ 0 ≤ r ∧ (r < n ∨ (n < 1 ∧ r = 0)) := by
  have hw : wrap64 (p + 1) = p + 1 := wrap_id (by omega) (by omega)
  have hw2 : wrap64 (p + 1 - 1) = p := by rw [wrap_id (by omega) (by omega)]; omega
  unfold spec_l12Rd_pick.f
  by_cases hn : n < 1
  · refine ⟨0, ?_, by omega, .inr ⟨hn, rfl⟩⟩
    rw [if_pos hn]; simp only [spec_l12Rd_pick.j0, if_true]; rw [hw]
  · rw [if_neg hn]
    by_cases hl : (l.length : Int) = 0
    · refine ⟨0, ?_, by omega, .inl (by omega)⟩
      have e : ((l.length : Int) == 0) = true := by simpa using hl
      rw [e]; simp only [spec_l12Rd_pick.j0, if_true]; rw [hw]
    · have e : ((l.length : Int) == 0) = false := by simpa using hl
      have hn0 : ¬ n = 0 := by omega
      rw [e]; simp only [spec_l12Rd_pick.j0]
      rw [if_neg (by simp), hw, hw2]
      by_cases hlt : p < (l.length : Int)
      · rw [if_pos hlt, if_pos hp, if_neg hn0]
        have hb := rd_byt h p
        rw [wrap_id (x := rd l p) (by omega) (by omega)]
        have ht := tmod_bd (a := rd l p) (b := n) hb.1 (by omega)
        exact ⟨_, rfl, ht.1, .inl ht.2⟩
      · have hL : 0 < (l.length : Int) := by omega
        have ht1 := tmod_bd (a := p) (b := (l.length : Int)) hp hL
        have e7 : wrap64 (p * 7) = p * 7 := wrap_id (by omega) (by omega)
        have e73 : wrap64 (p * 7 + 3) = p * 7 + 3 := wrap_id (by omega) (by omega)
        have ht2 := tmod_bd (a := p * 7 + 3) (b := (l.length : Int)) (by omega) hL
        rw [if_neg hlt, if_neg hl, if_pos ht1.1, if_pos ht1.2, e7, e73, if_pos ht2.1, if_pos ht2.2, if_neg hn0]
        have hb1 := rd_byt h (Int.tmod p (l.length : Int))
        have hb2 := rd_byt h (Int.tmod (p * 7 + 3) (l.length : Int))
        have hd := tdiv_bd (a := p) (b := (l.length : Int)) hp hL
        generalize rd l (Int.tmod p (l.length : Int)) = A at hb1 ⊢
        generalize rd l (Int.tmod (p * 7 + 3) (l.length : Int)) = B at hb2 ⊢
        generalize Int.tdiv p (l.length : Int) = D at hd ⊢
        rw [wrap_id (x := A) (by omega) (by omega), wrap_id (x := B) (by omega) (by omega), wrap_id (x := D) (by omega) (by omega), wrap_id (x := A * 131) (by omega) (by omega), wrap_id (x := B * 1117) (by omega) (by omega), wrap_id (x := p * 29) (by omega) (by omega), wrap_id (x := D * 53) (by omega) (by omega), wrap_id (x := A * 131 + B * 1117) (by omega) (by omega), wrap_id (x := A * 131 + B * 1117 + p * 29) (by omega) (by omega), wrap_id (x := A * 131 + B * 1117 + p * 29 + D * 53) (by omega) (by omega)]
        have hx0 : 0 ≤ A * 131 + B * 1117 + p * 29 + D * 53 := by omega
        have hx1 : A * 131 + B * 1117 + p * 29 + D * 53 < 9223372036854775807 := by omega
        generalize A * 131 + B * 1117 + p * 29 + D * 53 = X at hx0 hx1 ⊢
        have hd2 := tdiv_bd (a := X) (b := 64) hx0 (by omega)
        rw [wrap_id (x := Int.tdiv X 64) (by omega) (by omega)]
        have hnn := xor_i64_nonneg X (Int.tdiv X 64) hx0 (by omega) hd2.1 (by omega)
        have ht := tmod_bd (a := Go.bits .xor .i64 X (Int.tdiv X 64)) (b := n) hnn (by omega)
        exact ⟨_, rfl, ht.1, .inl ht.2⟩
theorem rd_mem {l : List Int} {i : Int} (h0 : 0 ≤ i) (h1 : i < (l.length : Int)) : rd l i ∈ l := by
  unfold rd
  rw [List.getD_eq_getElem?_getD, List.getElem?_eq_getElem (by omega)]; exact List.getElem_mem _
theorem num_some {l : List Int} (h : Byt l) (k : Nat) (p : Int) (xs : List Int) (hx : 0 < xs.length) (hp : 0 ≤ p) (hp' : p ≤ 1000000000000) :
    ∃ r, spec_l12Rd_num.f (k + 1) l p xs = some (r, p + 1) ∧ r ∈ xs := by
  obtain ⟨i, hi, h0, h1⟩ := pick_some h k p (xs.length : Int) hp hp'
  have h1' : i < (xs.length : Int) := by omega
  refine ⟨rd xs i, ?_, rd_mem h0 h1'⟩
  unfold spec_l12Rd_num.f
  rw [hi]; simp only [Option.bind_some]
  rw [if_pos h0, if_pos h1']
theorem byt_of {l : List Int} (h : ∀ x ∈ l, (Lit.int .u8 x).wf = true) : Byt l := by
  intro x hx
  have := h x hx
  simp [Lit.wf, IntKind.min, IntKind.max, IntKind.bits, IntKind.signed] at this
  omega
theorem open_some {l : List Int} (h : Byt l) : ∃ l', spec_l12Open.f l = some (l', 0) ∧ Byt l' := by
  unfold spec_l12Open.f
  by_cases hl : (l.length : Int) > 2000
  · rw [if_pos hl, if_pos (by omega)]
    exact ⟨_, rfl, fun x hx => h x (List.mem_of_mem_take hx)⟩
  · rw [if_neg hl]; exact ⟨l, rfl, h⟩
theorem rdI (l : List Int) (i : Nat) (h : i < l.length) : rd l (i : Int) = l[i] := by
  unfold rd; rw [Int.toNat_natCast, List.getD_eq_getElem?_getD, List.getElem?_eq_getElem h]; rfl
def cutD (n : Int) : Int := mn (mx n (-1000000)) 1000000
theorem cut_some (n : Int) : spec_NumCut.f n = some (cutD n) := by
  unfold spec_NumCut.f spec_l1Min.f spec_l1Max.f cutD mn mx
  (repeat' split) <;> simp only [Option.bind_some] <;> (repeat' split) <;> simp only [Option.some.injEq, Option.bind_some] <;> omega
theorem cut_isN (n : Int) : Hm.isN (cutD n) = true := by
  have e : cutD n = if n < -1000000 then -1000000 else if 1000000 < n then 1000000 else n := by unfold cutD mn mx; (repeat' split) <;> omega
  have e2 : Hm.isN (cutD n) = true ↔ (-1000000 ≤ cutD n ∧ cutD n ≤ 1000000) := by simp [Hm.isN]
  rw [e2, e]
  (repeat' split) <;> constructor <;> omega
theorem cut_same (n : Int) : cutD n = n ↔ Hm.isN n = true := by
  have e : cutD n = if n < -1000000 then -1000000 else if 1000000 < n then 1000000 else n := by unfold cutD mn mx; (repeat' split) <;> omega
  have e2 : Hm.isN n = true ↔ (-1000000 ≤ n ∧ n ≤ 1000000) := by simp [Hm.isN]
  rw [e, e2]
  (repeat' split) <;> constructor <;> intros <;> omega
theorem list_loop (x : List Int) (hx : x.length ≤ 1048576) (d : Nat) : ∀ (k i : Nat), i + d = x.length → d < k → spec_l2List.l0 k x (i : Int) = some (decide (x.length = 6) && (x.drop i).all Hm.isN) ∨ (∃ b, spec_l2List.l0 k x (i : Int) = some false ∧ (x.drop i).all Hm.isN = b ∧ b = false) := by
  induction d with
  | zero =>
    intro k i hi hk
    obtain ⟨k, rfl⟩ : ∃ m, k = m + 1 := ⟨k - 1, by omega⟩
    simp only [spec_l2List.l0]
    rw [if_neg (by omega), List.drop_eq_nil_of_le (by omega)]
    left
    by_cases h : x.length = 6
    · simp [h]
    · have : ((x.length : Int) == 6) = false := by simp; omega
      rw [this]; simp [h]
  | succ d ih =>
    intro k i hi hk
    obtain ⟨k, rfl⟩ : ∃ m, k = m + 1 := ⟨k - 1, by omega⟩
    have hil : i < x.length := by omega
    simp only [spec_l2List.l0]
    rw [if_pos (by omega), if_pos (by omega), rdI x i hil, cut_some]
    simp only [Option.bind_some]
    rw [List.drop_eq_getElem_cons hil, List.all_cons]
    by_cases h : cutD x[i] = x[i]
    · rw [if_pos h, (cut_same _).1 h, Bool.true_and, wrap_id (by omega) (by omega)]
      exact ih k (i + 1) (by omega) (by omega)
    · have hn : Hm.isN x[i] = false := by
        cases hq : Hm.isN x[i] with
        | false => rfl
        | true => exact absurd ((cut_same _).2 hq) h
      rw [if_neg h, hn]; right; exact ⟨false, rfl, by simp, rfl⟩
theorem list_some (x : List Int) (hx : x.length ≤ 1048576) (k : Nat) (hk : x.length < k) : spec_l2List.f k x = some (Hm.okL x) := by
  unfold spec_l2List.f Hm.okL
  rcases list_loop x hx x.length k 0 (by omega) (by omega) with h | ⟨b, h, h2, h3⟩
  · exact h
  · subst h3
    simp only [List.drop_zero] at h2
    rw [h2, Bool.and_false]; exact h
theorem specOk_some (a b c : List Int) (ha : a.length ≤ 1048576) (hb : b.length ≤ 1048576) (hc : c.length ≤ 1048576) (k : Nat) (ka : a.length < k) (kb : b.length < k) (kc : c.length < k) : spec_MemOk.f k a b c = some (Hm.okM a b c) := by
  unfold spec_MemOk.f Hm.okM
  rw [list_some a ha k ka, list_some b hb k kb, list_some c hc k kc]; simp only [Option.bind_some]
  cases Hm.okL a <;> cases Hm.okL b <;> rfl
theorem addr_some (k i : Int) : spec_AddrOk.f k i = some (Hn.aOk k i) := by
  unfold spec_AddrOk.f Hn.aOk
  by_cases h1 : k ≥ 1
  · rw [if_pos h1]
    by_cases h2 : k ≤ 3
    · rw [if_pos h2]
      by_cases h3 : i ≥ 0
      · rw [if_pos h3]; simp [h2, (by omega : 1 ≤ k), (by omega : 0 ≤ i)]
      · rw [if_neg h3]; simp [(by omega : ¬ 0 ≤ i)]
    · rw [if_neg h2]; simp [h2]
  · rw [if_neg h1]; simp [(by omega : ¬ 1 ≤ k)]
theorem memLoop_some {l : List Int} (h : Byt l) (d : Nat) : ∀ (k : Nat) (i p : Int) (a b c : List Int), i = 4 - (d : Int) → d ≤ 4 → 0 ≤ p → p + 3 * d ≤ 1000000000000 → d + 1 < k → a.length = 6 → b.length = 6 → c.length = 6 →
    ∃ a' b' c', spec_l2Mem.l0 k i l p a b c = some (a', b', c', p + 3 * d) ∧ a'.length = 6 ∧ b'.length = 6 ∧ c'.length = 6 := by
  induction d with
  | zero =>
    intro k i p a b c hi hd hp hp' hk ha hb hc
    obtain ⟨k, rfl⟩ : ∃ m, k = m + 1 := ⟨k - 1, by omega⟩
    simp only [spec_l2Mem.l0]
    rw [if_neg (by omega)]
    exact ⟨a, b, c, by simp, ha, hb, hc⟩
  | succ d ih =>
    intro k i p a b c hi hd hp hp' hk ha hb hc
    obtain ⟨k, rfl⟩ : ∃ m, k = m + 1 := ⟨k - 1, by omega⟩
    simp only [spec_l2Mem.l0]
    obtain ⟨k, rfl⟩ : ∃ m, k = m + 1 := ⟨k - 1, by omega⟩
    obtain ⟨r0, h0, _⟩ := num_some h k p [0, 0, 1, 1, 2, 5, (-1)] (by simp) hp (by omega)
    obtain ⟨r1, h1, _⟩ := num_some h k (p + 1) [0, 0, 1, 3] (by simp) (by omega) (by omega)
    obtain ⟨r2, h2, _⟩ := num_some h k (p + 1 + 1) [0, 0, 1, 2, 7, 1000000] (by simp) (by omega) (by omega)
    rw [if_pos (by omega), h0]; simp only [Option.bind_some]
    rw [if_pos (by omega), if_pos (by omega), h1]; simp only [Option.bind_some]
    rw [if_pos (by omega), h2]; simp only [Option.bind_some]
    rw [if_pos (by omega), wrap_id (by omega) (by omega)]
    obtain ⟨a', b', c', hr, q⟩ := ih (k + 1) (i + 1) (p + 1 + 1 + 1) (a.set i.toNat r0) (b.set i.toNat r1) (c.set i.toNat r2) (by omega) (by omega) (by omega) (by omega) (by omega) (by simpa using ha) (by simpa using hb) (by simpa using hc)
    refine ⟨a', b', c', ?_, q⟩
    rw [hr]
    have e : p + 1 + 1 + 1 + 3 * (d : Int) = p + 3 * ((d + 1 : Nat) : Int) := by omega
    rw [e]
theorem memDraw_some {l : List Int} (h : Byt l) (k : Nat) (p : Int) (hp : 0 ≤ p) (hp' : p ≤ 1000000) : ∃ a b c, spec_l2Mem.f (k + 6) l p = some (a, b, c, p + 12) ∧ a.length = 6 ∧ b.length = 6 ∧ c.length = 6 := by
  unfold spec_l2Mem.f spec_MemOpen.f
  rw [if_pos (by omega)]; simp only [Option.bind_some]
  exact memLoop_some h 4 (k + 6) 0 p _ _ _ (by omega) (by omega) hp (by omega) (by omega) (by simp) (by simp) (by simp)
theorem memBent_some {l : List Int} (h : Byt l) (k : Nat) (p : Int) (hp : 0 ≤ p) (hp' : p ≤ 1000000) : ∃ a b c, spec_l2MemBent.f (k + 6) l p = some (a, b, c, p + 12 + 1) ∧ a.length ≤ 7 ∧ b.length ≤ 7 ∧ c.length ≤ 7 := by
  unfold spec_l2MemBent.f
  obtain ⟨a, b, c, hm, ha, hb, hc⟩ := memDraw_some h k p hp hp'
  rw [hm]; simp only [Option.bind_some]
  obtain ⟨r, hr, _⟩ := pick_some h (k + 5) (p + 12) 30 (by omega) (by omega)
  rw [hr]; simp only [Option.bind_some]
  by_cases h0 : r = 0
  · rw [if_pos h0, if_pos (by omega)]
    refine ⟨_, _, _, rfl, ?_, ?_, ?_⟩ <;> (try simp only [List.length_take, List.length_set, List.length_append, List.length_singleton]) <;> omega
  rw [if_neg h0]
  by_cases h1 : r = 1
  · rw [if_pos h1, if_pos (by omega)]
    refine ⟨_, _, _, rfl, ?_, ?_, ?_⟩ <;> (try simp only [List.length_take, List.length_set, List.length_append, List.length_singleton]) <;> omega
  rw [if_neg h1]
  by_cases h2 : r = 2
  · rw [if_pos h2, if_pos (by omega)]
    refine ⟨_, _, _, rfl, ?_, ?_, ?_⟩ <;> (try simp only [List.length_take, List.length_set, List.length_append, List.length_singleton]) <;> omega
  rw [if_neg h2]
  refine ⟨_, _, _, rfl, ?_, ?_, ?_⟩ <;> omega
theorem addrBent_some {l : List Int} (h : Byt l) (k : Nat) (p : Int) (hp : 0 ≤ p) (hp' : p ≤ 1000000) : ∃ j i q, spec_l2AddrBent.f (k + 1) l p = some (j, i, q) ∧ p ≤ q ∧ q ≤ p + 10 := by
  unfold spec_l2AddrBent.f spec_l2Addr.f
  obtain ⟨r0, h0, b0, c0⟩ := pick_some h k p 3 hp (by omega)
  obtain ⟨r1, h1, b1, c1⟩ := pick_some h k (p + 1) 3 (by omega) (by omega)
  obtain ⟨r2, h2, b2, c2⟩ := pick_some h k (p + 1 + 1) 16 (by omega) (by omega)
  obtain ⟨r3, h3, _⟩ := num_some h k (p + 1 + 1 + 1) [0, 4, (-1)] (by simp) (by omega) (by omega)
  obtain ⟨r4, h4, _⟩ := num_some h k (p + 1 + 1 + 1) [(-1), 6, 5] (by simp) (by omega) (by omega)
  rw [h0]; simp only [Option.bind_some]
  rw [h1]; simp only [Option.bind_some]
  rw [h2]; simp only [Option.bind_some]
  rw [h3, h4]; simp only [Option.bind_some]
  (repeat' split) <;> (refine ⟨_, _, _, rfl, ?_, ?_⟩ <;> omega)
theorem okM_len {l0 l1 l2 : List Int} (h : Hm.okM l0 l1 l2 = true) : l0.length = 6 ∧ l1.length = 6 ∧ l2.length = 6 := by
  simp only [Hm.okM, Hm.okL, Bool.and_eq_true, decide_eq_true_eq] at h
  exact ⟨h.1.1.1, h.1.2.1, h.2.1⟩
theorem R_int_ok {k : IntKind} {e : Nat} {w : World} {base : Nat} {ok ok' : Nat → Prop} {v : Value} {xs : List Int} (h : (Kd.int k).R e w base ok v xs) (h2 : ∀ b, v.ownBlock = some b → ok' b) : (Kd.int k).R e w base ok' v xs := ⟨h2, h.2.imp_ (fun _ _ hp => hp)⟩
def R3 (B : Nat) (W : World) (v0 v1 v2 : Value) (a b c : List Int) : Prop := Kd.R (Kd.int .i64) 3 W B (fun _ => True) v0 a ∧ Kd.R (Kd.int .i64) 3 W B (fun _ => True) v1 b ∧ Kd.R (Kd.int .i64) 3 W B (fun _ => True) v2 c
section
variable {B : Nat} {W W' : World} {v0 v1 v2 : Value} {a b c : List Int}
theorem R3.below (h : R3 B W v0 v1 v2 a b c) (hb : Below W.heap.size W W') : R3 B W' v0 v1 v2 a b c := ⟨Kd.R_below h.1 hb, Kd.R_below h.2.1 hb, Kd.R_below h.2.2 hb⟩
theorem R3.drew (h : R3 B W v0 v1 v2 a b c) : R3 B W.drew v0 v1 v2 a b c := h.below (below_drew1 (Below.refl _ _))
theorem R3.alloc (h : R3 B W v0 v1 v2 a b c) (o : Obj) : R3 B (W.alloc o) v0 v1 v2 a b c := h.below ((Below.refl _ _).alloc (Nat.le_refl _) _)
theorem R3.lower {B' : Nat} (h : R3 B W v0 v1 v2 a b c) (hb : B' ≤ B) : R3 B' W v0 v1 v2 a b c := ⟨Kd.R_lower h.1 hb, Kd.R_lower h.2.1 hb, Kd.R_lower h.2.2 hb⟩
theorem R3.set {z j t : Nat} {cells : Array Value} (h : R3 B W v0 v1 v2 a b c) (hz : W.heap[z]? = some (.cells cells t (0, 0))) (ht : t ≠ 3) (u : Value) : R3 B (W.setCell ⟨z, j, none⟩ u) v0 v1 v2 a b c := by
  have h3 : ∀ q, q ∈ 3 :: (Kd.int .i64).E → q ≠ t := by
    intro q hq
    rcases List.mem_cons.1 hq with rfl | h
    · exact fun e => ht e.symm
    · exact absurd (show q ∈ ([] : List Nat) from h) (by simp)
  exact ⟨Kd.R_set h.1 hz h3 j u, Kd.R_set h.2.1 hz h3 j u, Kd.R_set h.2.2 hz h3 j u⟩
end
theorem R3.slices {B : Nat} {W : World} {v0 v1 v2 : Value} {a b c : List Int} (h : R3 B W v0 v1 v2 a b c) : ∃ A0 A1 A2 c0 c1 c2, v0 = .slice A0 a.length c0 ∧ v1 = .slice A1 b.length c1 ∧ v2 = .slice A2 c.length c2 := by
  obtain ⟨A0, c0, rfl, _⟩ := Kd.R_reads h.1
  obtain ⟨A1, c1, rfl, _⟩ := Kd.R_reads h.2.1
  obtain ⟨A2, c2, rfl, _⟩ := Kd.R_reads h.2.2
  exact ⟨A0, A1, A2, c0, c1, c2, rfl, rfl, rfl⟩
abbrev S3 (A0 A1 A2 : Option Addr) (c0 c1 c2 : Nat) (a b c : List Int) (B : Nat) (W : World) : Prop := R3 B W (.slice A0 a.length c0) (.slice A1 b.length c1) (.slice A2 c.length c2) a b c
theorem draw5 (k : Nat) (A : Option Addr) (cc : Nat) (l a b c : List Int) (W : World) (hr : Kd.C (Kd.int .u8) W A l.length l) (hc : l.length ≤ cc) (h : spec_DrawMemOk.f k l = some (a, b, c)) :
    Calls Tryd.prog 5 #[.slice A l.length cc] W fun e w' => ∃ A0 A1 A2 c0 c1 c2, e = .returned (.agg #[.slice A0 a.length c0, .slice A1 b.length c1, .slice A2 c.length c2]) ∧ S3 A0 A1 A2 c0 c1 c2 a b c W.heap.size w' ∧ Below W.heap.size W w' := by
  refine (spec_DrawMemOk.calls k A cc l a b c W hr hc h).mono ?_
  rintro e w' ⟨v0, v1, v2, rfl, h0, h1, h2, hb⟩
  have h3 : R3 W.heap.size w' v0 v1 v2 a b c := ⟨R_int_ok h0 (fun _ _ => trivial), R_int_ok h1 (fun _ _ => trivial), R_int_ok h2 (fun _ _ => trivial)⟩
  obtain ⟨A0, A1, A2, c0, c1, c2, rfl, rfl, rfl⟩ := h3.slices
  exact ⟨A0, A1, A2, c0, c1, c2, rfl, h3, hb⟩
structure E2 (w : World) (g3 g4 : Nat) (A0 A1 A2 : Option Addr) (c0 c1 c2 : Nat) (a b c : List Int) (J I : Int) (W : World) : Prop where
  h3 : W.heap[g3]? = some (.cells #[.slice A0 a.length c0, .slice A1 b.length c1, .slice A2 c.length c2] 25 (0, 0))
  h4 : W.heap[g4]? = some (.cells #[.int .i64 J, .int .i64 I] 28 (0, 0))
  m : S3 A0 A1 A2 c0 c1 c2 a b c w.heap.size W
  bel : Below w.heap.size w W
section
variable {w : World} {g3 g4 : Nat} {A0 A1 A2 : Option Addr} {c0 c1 c2 : Nat} {a b c : List Int} {J I : Int} {W W' : World}
theorem E2.below (h : E2 w g3 g4 A0 A1 A2 c0 c1 c2 a b c J I W) (hb : Below W.heap.size W W') : E2 w g3 g4 A0 A1 A2 c0 c1 c2 a b c J I W' := ⟨blk_below h.h3 hb, blk_below h.h4 hb, h.m.below hb, h.bel.trans (hb.mono h.bel.size)⟩
theorem E2.drew (h : E2 w g3 g4 A0 A1 A2 c0 c1 c2 a b c J I W) : E2 w g3 g4 A0 A1 A2 c0 c1 c2 a b c J I W.drew := h.below (below_drew1 (Below.refl _ _))
theorem E2.alloc (h : E2 w g3 g4 A0 A1 A2 c0 c1 c2 a b c J I W) (o : Obj) : E2 w g3 g4 A0 A1 A2 c0 c1 c2 a b c J I (W.alloc o) := h.below ((Below.refl _ _).alloc (Nat.le_refl _) _)
theorem E2.x30 (h : E2 w g3 g4 A0 A1 A2 c0 c1 c2 a b c J I W) : W.cell? ⟨g3, 0, none⟩ = some (.slice A0 a.length c0) := (blk_cell h.h3 0).trans rfl
theorem E2.x31 (h : E2 w g3 g4 A0 A1 A2 c0 c1 c2 a b c J I W) : W.cell? ⟨g3, 1, none⟩ = some (.slice A1 b.length c1) := (blk_cell h.h3 1).trans rfl
theorem E2.x32 (h : E2 w g3 g4 A0 A1 A2 c0 c1 c2 a b c J I W) : W.cell? ⟨g3, 2, none⟩ = some (.slice A2 c.length c2) := (blk_cell h.h3 2).trans rfl
theorem E2.x40 (h : E2 w g3 g4 A0 A1 A2 c0 c1 c2 a b c J I W) : W.cell? ⟨g4, 0, none⟩ = some (.int .i64 J) := (blk_cell h.h4 0).trans rfl
theorem E2.x41 (h : E2 w g3 g4 A0 A1 A2 c0 c1 c2 a b c J I W) : W.cell? ⟨g4, 1, none⟩ = some (.int .i64 I) := (blk_cell h.h4 1).trans rfl
theorem E2.far (h : E2 w g3 g4 A0 A1 A2 c0 c1 c2 a b c J I W) {z t : Nat} {cells : Array Value} (hz : W.heap[z]? = some (.cells cells t (0, 0))) (ht : t ≠ 3) (n3 : g3 < z) (n4 : g4 < z) (nz : w.heap.size ≤ z) (j : Nat) (u : Value) : E2 w g3 g4 A0 A1 A2 c0 c1 c2 a b c J I (W.setCell ⟨z, j, none⟩ u) :=
  ⟨blk_far h.h3 (Nat.ne_of_lt n3) u, blk_far h.h4 (Nat.ne_of_lt n4) u, h.m.set hz ht u, below_set h.bel nz⟩
end
theorem mOk {B : Nat} {W : World} {A0 A1 A2 : Option Addr} {c0 c1 c2 : Nat} {a b c : List Int} (h : S3 A0 A1 A2 c0 c1 c2 a b c B W) (t : Bool) (ht : Hm.okM a b c = t) : Calls Tryd.prog 7 #[.agg #[.slice A0 a.length c0, .slice A1 b.length c1, .slice A2 c.length c2]] W fun e w' => e = .returned (.bool t) ∧ Below W.heap.size W w' := by
  subst ht
  exact Hm.memOk_any A0 A1 A2 c0 c1 c2 a b c W (Kd.R_reads' h.1).2.2 (Kd.R_reads' h.2.1).2.2 (Kd.R_reads' h.2.2).2.2
theorem sOk {B : Nat} {W : World} {A0 A1 A2 : Option Addr} {c0 c1 c2 : Nat} {a b c : List Int} (h : S3 A0 A1 A2 c0 c1 c2 a b c B W) (t : Bool) (ht : spec_MemOk.f 20 a b c = some t) : Calls Tryd.prog 8 #[.agg #[.slice A0 a.length c0, .slice A1 b.length c1, .slice A2 c.length c2]] W fun e w' => e = .returned (.bool t) ∧ Below W.heap.size W w' :=
  spec_MemOk.calls 20 A0 c0 a A1 c1 b A2 c2 c t W (Kd.R_reads' h.1).2.2 (Kd.R_reads' h.1).2.1 (Kd.R_reads' h.2.1).2.2 (Kd.R_reads' h.2.1).2.1 (Kd.R_reads' h.2.2).2.2 (Kd.R_reads' h.2.2).2.1 ht
theorem iA (J I : Int) (W : World) (t : Bool) (ht : Hn.aOk J I = t) : Calls Tryd.prog 9 #[.agg #[.int .i64 J, .int .i64 I]] W fun e w' => e = .returned (.bool t) ∧ Below W.heap.size W w' := by
  subst ht; exact Hn.addrOk_any J I W
theorem mG {B : Nat} {W : World} {A0 A1 A2 : Option Addr} {c0 c1 c2 : Nat} {a b c : List Int} (h : S3 A0 A1 A2 c0 c1 c2 a b c B W) (hz : Hn.gM a b c 3 0 = 0) : Calls Tryd.prog 12 #[.agg #[.slice A0 a.length c0, .slice A1 b.length c1, .slice A2 c.length c2], .agg #[.int .i64 3, .int .i64 0]] W fun e w' => e = .returned (.int .i64 0) ∧ Below W.heap.size W w' := by
  have := Hn.memGet_any A0 A1 A2 c0 c1 c2 a b c 3 0 W (Kd.R_reads' h.1).2.2 (Kd.R_reads' h.2.1).2.2 (Kd.R_reads' h.2.2).2.2
  rw [hz] at this
  exact this
theorem mOkV {B B' : Nat} {W : World} {A0 A1 V : Option Addr} {c0 c1 cv : Nat} {a b l : List Int} (h0 : Kd.R (Kd.int .i64) 3 W B (fun _ => True) (.slice A0 a.length c0) a) (h1 : Kd.R (Kd.int .i64) 3 W B (fun _ => True) (.slice A1 b.length c1) b) (hv : Kd.R (Kd.int .i64) 3 W B' (fun _ => True) (.slice V 6 cv) l) (hl : l.length = 6) (t : Bool) (ht : Hm.okM a b l = t) : Calls Tryd.prog 7 #[.agg #[.slice A0 a.length c0, .slice A1 b.length c1, .slice V 6 cv]] W fun e w' => e = .returned (.bool t) ∧ Below W.heap.size W w' := by
  subst ht
  have e : Value.slice V 6 cv = .slice V l.length cv := by rw [hl]
  rw [e] at hv ⊢
  exact Hm.memOk_any A0 A1 V c0 c1 cv a b l W (Kd.R_reads' h0).2.2 (Kd.R_reads' h1).2.2 (Kd.R_reads' hv).2.2
theorem mOkD {B : Nat} {W : World} {ga : Nat} {A1 A2 : Option Addr} {c0 c1 c2 cy : Nat} {a b c : List Int} (h : S3 (some ⟨ga, 0, none⟩) A1 A2 c0 c1 c2 a b c B W) (la : a.length = 6) : Calls Tryd.prog 7 #[.agg #[.slice (some ⟨ga, 1, none⟩) 5 cy, .slice A1 b.length c1, .slice A2 c.length c2]] W fun e w' => e = .returned (.bool false) ∧ Below W.heap.size W w' := by
  have hC := Kd.R_reads' h.1
  have hD := Kd.C_drop (m := 1) (c := c0) hC.2.2 (by omega) hC.2.1
  have hc0 := hC.2.1
  rw [if_neg (by omega)] at hD
  have e1 : (a.drop 1).length = 5 := by rw [List.length_drop, la]
  have e2 : Option.map (fun x : Addr => x.add (1 * (Kd.int .i64).sz)) (some ⟨ga, 0, none⟩) = some ⟨ga, 1, none⟩ := rfl
  rw [e2] at hD
  have ht : Hm.okM (a.drop 1) b c = false := by
    have : Hm.okL (a.drop 1) = false := by unfold Hm.okL; rw [e1]; rfl
    unfold Hm.okM; rw [this]; rfl
  have := Hm.memOk_any (some ⟨ga, 1, none⟩) A1 A2 cy c1 c2 (a.drop 1) b c W hD (Kd.R_reads' h.2.1).2.2 (Kd.R_reads' h.2.2).2.2
  rw [ht, e1] at this
  exact this
theorem R_farlt {B n : Nat} {W : World} {v : Value} {l : List Int} (h : Kd.R (Kd.int .i64) 3 W B (fun _ => True) v l) (hn : ∀ k, v.ownBlock = some k → k < n) {p : Addr} (hp : n ≤ p.block) (u : Value) : Kd.R (Kd.int .i64) 3 (W.setCell p u) B (fun _ => True) v l :=
  R_int_ok (Kd.R_far (R_int_ok (ok' := fun k => k < n) h hn) (fun k hk e => by omega) u) (fun _ _ => trivial)
theorem info3 : (Tryd.prog.info? 3).map (fun i => (i.zero, i.size, i.bytes)) = some (some (.int .i64 0), 1, 8) := by kernel_rfl
theorem E2.own {w W' : World} {g3 g4 : Nat} {A0 A1 A2 : Option Addr} {c0 c1 c2 : Nat} {a b c : List Int} {J I : Int} (h : E2 w g3 g4 A0 A1 A2 c0 c1 c2 a b c J I W') (n : Nat) (h0 : ∀ k, (Value.slice A0 a.length c0).ownBlock = some k → k < n) (h1 : ∀ k, (Value.slice A1 b.length c1).ownBlock = some k → k < n) (h2 : ∀ k, (Value.slice A2 c.length c2).ownBlock = some k → k < n) (n3 : g3 < n) (n4 : g4 < n) (nw : w.heap.size ≤ n) {g j : Nat} (hp : n ≤ g) (u : Value) : E2 w g3 g4 A0 A1 A2 c0 c1 c2 a b c J I (W'.setCell ⟨g, j, none⟩ u) :=
  ⟨blk_far h.h3 (by simp; omega) u, blk_far h.h4 (by simp; omega) u, ⟨R_farlt h.m.1 h0 hp u, R_farlt h.m.2.1 h1 hp u, R_farlt h.m.2.2 h2 hp u⟩, below_set h.bel (by omega)⟩
theorem tA (J I : Int) (W : World) (ht : Ha.txt J I = ⟨#[]⟩) : Calls Tryd.prog 11 #[.agg #[.int .i64 J, .int .i64 I]] W fun e w' => e = .returned (.string ⟨#[]⟩) ∧ Below W.heap.size W w' := by
  rw [← ht]; exact Ha.text_any J I W
theorem sA (J I : Int) (W : World) (t : Bool) (ht : spec_AddrOk.f J I = some t) : Calls Tryd.prog 10 #[.agg #[.int .i64 J, .int .i64 I]] W fun e w' => e = .returned (.bool t) ∧ Below W.heap.size W w' := by
  have := spec_AddrOk.calls J I t W ht
  exact this.mono fun _ _ h => ⟨h.1, by first | exact h.2 | exact h.2.below | (obtain ⟨_, m, rfl⟩ := h; exact pw_below_drewN (Below.refl _ _) m) | (have h2 := h.2; rw [h2]; exact Below.refl _ _)⟩
set_option maxRecDepth 100000 in
set_option maxHeartbeats 25600000 in
theorem main_true_true (A : Option Addr) (cc : Nat) (l a b c : List Int) (J I : Int) (k k' : Nat) (w : World) (hl : ¬ (l.length : Int) > 1048576)
    (hr : Kd.C (Kd.int .u8) w A l.length l) (hc : l.length ≤ cc) (hd : spec_DrawMemOk.f k l = some (a, b, c)) (hd' : spec_DrawAddrOk.f k' l = some (J, I))
    (ho : Hm.okM a b c = true) (ho' : spec_MemOk.f 20 a b c = some true) (ha : Hn.aOk J I = true) (ha' : spec_AddrOk.f J I = some true) :
    Calls Tryd.prog 3 #[.slice A l.length cc] w fun e w' => e = .returned (.bool true) ∧ Below w.heap.size w w' := by
  have t1 : decide (1048576 < (l.length : Int)) = false := by simpa using hl
  have g1 := draw5 k A cc l a b c w hr hc hd
  have g2 := fun W hW => spec_DrawAddrOk.calls k' A cc l J I W hW hc hd'
  clear hl hd hd' hc
  have hu25 := Tryd.underlying25
  have hu28 := Tryd.underlying28
  go_enter Tryd.func3, Tryd.ntmps3
  go_wp2_with fail
  refine g1.mono ?_
  rintro e w1 ⟨A0, A1, A2, c0, c1, c2, rfl, hm, hb1⟩
  clear g1
  go_wp2_with fail
  have q0 : (w1.alloc (Obj.cells #[.slice A0 a.length c0, .slice A1 b.length c1, .slice A2 c.length c2] 25)).heap.size = w1.heap.size + 1 := Hm.alloc_size _ _
  have k3 : (w1.alloc (Obj.cells #[.slice A0 a.length c0, .slice A1 b.length c1, .slice A2 c.length c2] 25)).heap[w1.heap.size]? = some (.cells #[.slice A0 a.length c0, .slice A1 b.length c1, .slice A2 c.length c2] 25 (0, 0)) := heap_alloc_new _ _
  have kb : Below w.heap.size w (w1.alloc (Obj.cells #[.slice A0 a.length c0, .slice A1 b.length c1, .slice A2 c.length c2] 25)) := hb1.alloc hb1.size _
  have km := hm.alloc (Obj.cells #[.slice A0 a.length c0, .slice A1 b.length c1, .slice A2 c.length c2] 25)
  generalize w1.alloc (Obj.cells _ 25) = w2 at k3 kb km q0 ⊢
  have h3 : w.heap.size ≤ w1.heap.size := hb1.size
  obtain ⟨g3, hg3⟩ : ∃ g, w1.heap.size = g := ⟨_, rfl⟩
  rw [hg3] at k3 h3 q0 ⊢
  clear hm hb1 hg3
  refine (g2 _ (Kd.C_below hr kb)).mono ?_
  rintro e w3 ⟨rfl, hb3⟩
  have m3 := blk_below k3 hb3
  have mm := km.below hb3
  have mb := kb.trans (hb3.mono kb.size)
  clear g2 k3 km kb hb3 hr q0
  go_wp2_with fail
  have hE : E2 w g3 w3.heap.size A0 A1 A2 c0 c1 c2 a b c J I (w3.alloc (Obj.cells #[.int .i64 J, .int .i64 I] 28)) := ⟨blk_alloc m3 _, heap_alloc_new _ _, mm.alloc _, mb.alloc mb.size _⟩
  have hgl : g3 < w3.heap.size := blk_lt m3
  generalize w3.alloc (Obj.cells _ 28) = w4 at hE ⊢
  generalize w3.heap.size = g4 at hE hgl ⊢
  clear m3 mm mb
  have hE0 := hE.drew
  have nk : ∀ t : Bool, (t != t) = false := fun t => by cases t <;> rfl
  refine start_ (n := 12) (S := fun w' => w'.cell? ⟨g3, 0, none⟩ = some (.slice A0 a.length c0) ∧ w'.cell? ⟨g3, 1, none⟩ = some (.slice A1 b.length c1) ∧ w'.cell? ⟨g3, 2, none⟩ = some (.slice A2 c.length c2) ∧ w'.cell? ⟨g4, 0, none⟩ = some (.int .i64 J) ∧ w'.cell? ⟨g4, 1, none⟩ = some (.int .i64 I) ∧ E2 w g3 g4 A0 A1 A2 c0 c1 c2 a b c J I w') (ds := []) #[false, false, false, false, false, false, false, false, false, false, false, false] (by kernel_rfl) rfl rfl ⟨hE0.x30, hE0.x31, hE0.x32, hE0.x40, hE0.x41, hE0⟩ (fun hHeld => ?_)
  refine take_ (i := 0) (N := some 16) (v := ?_) (a' := ?_) #[true, false, false, false, false, false, false, false, false, false, false, false] rfl rfl (by kernel_rfl) (fun _ _ _ h => h) (Or.inl ⟨by rfl, ?_⟩) hHeld ?_ ?_
  rotate_left
  · rintro w' ⟨s0, s1, s2, s3, s4, s5⟩
    go_simp
    with_reducible rfl
  rotate_left
  · simp only [Act.put, List.setIfInBounds_toArray, List.set_cons_zero, List.set_cons_succ, i64_w, i32_w]
    rfl
  refine take_ (i := 2) (N := some 18) (v := ?_) (a' := ?_) #[true, false, true, false, false, false, false, false, false, false, false, false] rfl rfl (by kernel_rfl) (fun _ _ _ h => h) (Or.inl ⟨by rfl, ?_⟩) hHeld ?_ ?_
  rotate_left
  · rintro w' ⟨s0, s1, s2, s3, s4, s5⟩
    go_simp
    with_reducible rfl
  rotate_left
  · simp only [Act.put, List.setIfInBounds_toArray, List.set_cons_zero, List.set_cons_succ, i64_w, i32_w]
    rfl
  refine one_ (i := 1) (N := some 17) #[true, true, true, false, false, false, false, false, false, false, false, false] rfl rfl (by kernel_rfl) (by decide) (fun K hK => ?_)
  refine goes_ Tryd.func7 (by kernel_rfl) rfl #[.agg #[.slice A0 a.length c0, .slice A1 b.length c1, .slice A2 c.length c2]] (by rfl) rfl rfl (by simp only [List.map_toArray, List.map_cons, List.map_nil]; rfl) ?_
  with_reducible refine (mOk hHeld.2.2.2.2.2.m true ho).mono ?_
  rintro e wa ⟨rfl, hba⟩
  refine ⟨_, rfl, ?_⟩
  have waN := hHeld.2.2.2.2.2.below hba
  refine hK.out _ _ ⟨waN.x30, waN.x31, waN.x32, waN.x40, waN.x41, waN⟩ (fun hHeld => ?_)
  clear hK K
  refine norm_ (a' := ?_) ?_ ?_
  rotate_left
  · show Act.put _ (some 17) _ = _
    simp only [Act.put, List.setIfInBounds_toArray, List.set_cons_zero, List.set_cons_succ, i64_w, i32_w]
    rfl
  refine one_ (i := 3) (N := some 19) #[true, true, true, true, false, false, false, false, false, false, false, false] rfl rfl (by kernel_rfl) (by decide) (fun K hK => ?_)
  refine goes_ Tryd.func8 (by kernel_rfl) rfl #[.agg #[.slice A0 a.length c0, .slice A1 b.length c1, .slice A2 c.length c2]] (by rfl) rfl rfl (by simp only [List.map_toArray, List.map_cons, List.map_nil]; rfl) ?_
  with_reducible refine (sOk hHeld.2.2.2.2.2.m true ho').mono ?_
  rintro e wb ⟨rfl, hbb⟩
  refine ⟨_, rfl, ?_⟩
  have wbN := hHeld.2.2.2.2.2.below hbb
  refine hK.out _ _ ⟨wbN.x30, wbN.x31, wbN.x32, wbN.x40, wbN.x41, wbN⟩ (fun hHeld => ?_)
  clear hK K
  refine norm_ (a' := ?_) ?_ ?_
  rotate_left
  · show Act.put _ (some 19) _ = _
    simp only [Act.put, List.setIfInBounds_toArray, List.set_cons_zero, List.set_cons_succ, i64_w, i32_w]
    rfl
  refine pure_ (i := 4) (N := some 20) (v := ?_) (a' := ?_) #[true, true, true, true, true, false, false, false, false, false, false, false] rfl rfl (by kernel_rfl) (fun _ _ _ h => h) (Or.inl ⟨by rfl, ?_⟩) ?_ ?_
  rotate_left
  · intro w'
    go_simp
    with_reducible rfl
  rotate_left
  · simp only [Act.put, List.setIfInBounds_toArray, List.set_cons_zero, List.set_cons_succ, i64_w, i32_w]
    rfl
  refine pure_ (i := 5) (N := some 21) (v := ?_) (a' := ?_) #[true, true, true, true, true, true, false, false, false, false, false, false] rfl rfl (by kernel_rfl) (fun _ _ _ h => h) (Or.inl ⟨by rfl, ?_⟩) ?_ ?_
  rotate_left
  · intro w'
    go_simp
    with_reducible rfl
  rotate_left
  · simp only [Act.put, List.setIfInBounds_toArray, List.set_cons_zero, List.set_cons_succ, i64_w, i32_w]
    rfl
  refine take_ (i := 6) (N := some 22) (v := ?_) (a' := ?_) #[true, true, true, true, true, true, true, false, false, false, false, false] rfl rfl (by kernel_rfl) (fun _ _ _ h => h) (Or.inl ⟨by rfl, ?_⟩) hHeld ?_ ?_
  rotate_left
  · rintro w' ⟨s0, s1, s2, s3, s4, s5⟩
    go_simp
    with_reducible rfl
  rotate_left
  · simp only [Act.put, List.setIfInBounds_toArray, List.set_cons_zero, List.set_cons_succ, i64_w, i32_w]
    rfl
  refine take_ (i := 8) (N := some 24) (v := ?_) (a' := ?_) #[true, true, true, true, true, true, true, false, true, false, false, false] rfl rfl (by kernel_rfl) (fun _ _ _ h => h) (Or.inl ⟨by rfl, ?_⟩) hHeld ?_ ?_
  rotate_left
  · rintro w' ⟨s0, s1, s2, s3, s4, s5⟩
    go_simp
    with_reducible rfl
  rotate_left
  · simp only [Act.put, List.setIfInBounds_toArray, List.set_cons_zero, List.set_cons_succ, i64_w, i32_w]
    rfl
  refine one_ (i := 7) (N := some 23) #[true, true, true, true, true, true, true, true, true, false, false, false] rfl rfl (by kernel_rfl) (by decide) (fun K hK => ?_)
  refine goes_ Tryd.func9 (by kernel_rfl) rfl #[.agg #[.int .i64 J, .int .i64 I]] (by rfl) rfl rfl (by simp only [List.map_toArray, List.map_cons, List.map_nil]; rfl) ?_
  with_reducible refine (iA J I _ true ha).mono ?_
  rintro e wc ⟨rfl, hbc⟩
  refine ⟨_, rfl, ?_⟩
  have wcN := hHeld.2.2.2.2.2.below hbc
  refine hK.out _ _ ⟨wcN.x30, wcN.x31, wcN.x32, wcN.x40, wcN.x41, wcN⟩ (fun hHeld => ?_)
  clear hK K
  refine norm_ (a' := ?_) ?_ ?_
  rotate_left
  · show Act.put _ (some 23) _ = _
    simp only [Act.put, List.setIfInBounds_toArray, List.set_cons_zero, List.set_cons_succ, i64_w, i32_w]
    rfl
  refine one_ (i := 9) (N := some 25) #[true, true, true, true, true, true, true, true, true, true, false, false] rfl rfl (by kernel_rfl) (by decide) (fun K hK => ?_)
  refine goes_ Tryd.func10 (by kernel_rfl) rfl #[.agg #[.int .i64 J, .int .i64 I]] (by rfl) rfl rfl (by simp only [List.map_toArray, List.map_cons, List.map_nil]; rfl) ?_
  with_reducible refine (sA J I _ true ha').mono ?_
  rintro e wd ⟨rfl, hbd⟩
  refine ⟨_, rfl, ?_⟩
  have wdN := hHeld.2.2.2.2.2.below hbd
  refine hK.out _ _ ⟨wdN.x30, wdN.x31, wdN.x32, wdN.x40, wdN.x41, wdN⟩ (fun hHeld => ?_)
  clear hK K
  refine norm_ (a' := ?_) ?_ ?_
  rotate_left
  · show Act.put _ (some 25) _ = _
    simp only [Act.put, List.setIfInBounds_toArray, List.set_cons_zero, List.set_cons_succ, i64_w, i32_w]
    rfl
  refine pure_ (i := 10) (N := some 26) (v := ?_) (a' := ?_) #[true, true, true, true, true, true, true, true, true, true, true, false] rfl rfl (by kernel_rfl) (fun _ _ _ h => h) (Or.inl ⟨by rfl, ?_⟩) ?_ ?_
  rotate_left
  · intro w'
    go_simp
    with_reducible rfl
  rotate_left
  · simp only [Act.put, List.setIfInBounds_toArray, List.set_cons_zero, List.set_cons_succ, i64_w, i32_w]
    rfl
  refine pure_ (i := 11) (N := some 27) (v := ?_) (a' := ?_) #[true, true, true, true, true, true, true, true, true, true, true, true] rfl rfl (by kernel_rfl) (fun _ _ _ h => h) (Or.inl ⟨by rfl, ?_⟩) ?_ ?_
  rotate_left
  · intro w'
    go_simp
    with_reducible rfl
  rotate_left
  · simp only [Act.put, List.setIfInBounds_toArray, List.set_cons_zero, List.set_cons_succ, i64_w, i32_w]
    rfl
  refine done_ (by kernel_rfl) ?_
  have hE := hHeld.2.2.2.2.2
  clear hHeld hE0
  have i40 := hE.x40
  have i41 := hE.x41
  go_wp2_with fail
  refine (sA J I _ true ha').mono ?_
  rintro e w5 ⟨rfl, hb5⟩
  replace hE := hE.below hb5
  clear i40 i41
  have i40 := hE.x40
  have i41 := hE.x41
  have wj : wrap64 (J + 3) = J + 3 := by
    simp only [Hn.aOk, Bool.and_eq_true, decide_eq_true_eq] at ha
    unfold wrap64; omega
  have wi : wrap64 (I + 6) = I + 6 := by
    simp only [Hn.aOk, Bool.and_eq_true, decide_eq_true_eq] at ha
    unfold wrap64; omega
  have nj : Hn.aOk (J + 3) I = false := by
    cases hA : Hn.aOk (J + 3) I with
    | false => rfl
    | true => simp only [Hn.aOk, Bool.and_eq_true, decide_eq_true_eq] at ha hA; omega
  have ni : Hn.aOk J (I + 6) = false := by
    cases hA : Hn.aOk J (I + 6) with
    | false => rfl
    | true => simp only [Hn.aOk, Bool.and_eq_true, decide_eq_true_eq] at ha hA; omega
  have tx : Ha.txt (J + 3) I = ⟨#[]⟩ := by
    have : Ha.aOk (J + 3) I = false := nj
    unfold Ha.txt; rw [this]; rfl
  go_upto_region 9 with (fail)
  have n5 := heap_alloc_new w5 (Obj.cells #[.int .i64 J, .int .i64 I] 28)
  have v5 : w.heap.size ≤ w5.heap.size ∧ g3 < w5.heap.size ∧ g4 < w5.heap.size := ⟨hE.bel.size, blk_lt hE.h3, blk_lt hE.h4⟩
  replace hE := hE.alloc (Obj.cells #[.int .i64 J, .int .i64 I] 28)
  have s5 := Hm.alloc_size w5 (Obj.cells #[.int .i64 J, .int .i64 I] 28)
  clear i40 i41
  generalize w5.alloc (Obj.cells _ 28) = w6 at n5 hE s5 ⊢
  generalize w5.heap.size = g5 at n5 v5 s5 ⊢
  have i40 := hE.x40
  have i50 : w6.cell? ⟨g5, 0, none⟩ = some (.int .i64 J) := (blk_cell n5 0).trans rfl
  have j50 := blk_frozen n5 0
  go_upto_region 10 with (fail)
  have n5' := blk_put n5 0 (.int .i64 (J + 3)) rfl
  replace hE := hE.far n5 (by decide) v5.2.1 v5.2.2 v5.1 0 (.int .i64 (J + 3))
  have s5' : g5 < (w6.setCell ⟨g5, 0, none⟩ (.int .i64 (J + 3))).heap.size := blk_lt n5'
  replace n5' : (w6.setCell ⟨g5, 0, none⟩ (.int .i64 (J + 3))).heap[g5]? = some (.cells #[.int .i64 (J + 3), .int .i64 I] 28 (0, 0)) := n5'
  clear i40 i50 j50 n5 s5
  generalize w6.setCell _ _ = w7 at n5' hE s5' ⊢
  have i40 := hE.x40
  have i41 := hE.x41
  go_upto_region 11 with (fail)
  have n6 := heap_alloc_new w7 (Obj.cells #[.int .i64 J, .int .i64 I] 28)
  have v6 : w.heap.size ≤ w7.heap.size ∧ g3 < w7.heap.size ∧ g4 < w7.heap.size := ⟨hE.bel.size, blk_lt hE.h3, blk_lt hE.h4⟩
  replace hE := hE.alloc (Obj.cells #[.int .i64 J, .int .i64 I] 28)
  replace n5' := blk_alloc n5' (Obj.cells #[.int .i64 J, .int .i64 I] 28)
  clear i40 i41
  generalize w7.alloc (Obj.cells _ 28) = w8 at n5' n6 hE ⊢
  generalize w7.heap.size = g6 at n6 v6 s5' ⊢
  have i41 := hE.x41
  have i61 : w8.cell? ⟨g6, 1, none⟩ = some (.int .i64 I) := (blk_cell n6 1).trans rfl
  have j61 := blk_frozen n6 1
  go_upto_region 12 with (fail)
  have n6' : (w8.setCell ⟨g6, 1, none⟩ (.int .i64 (I + 6))).heap[g6]? = some (.cells #[.int .i64 J, .int .i64 (I + 6)] 28 (0, 0)) := blk_put n6 1 (.int .i64 (I + 6)) rfl
  replace hE := hE.far n6 (by decide) v6.2.1 v6.2.2 v6.1 1 (.int .i64 (I + 6))
  replace n5' := blk_far n5' (p := ⟨g6, 1, none⟩) (Nat.ne_of_lt s5') (.int .i64 (I + 6))
  clear i41 i61 j61 n6
  generalize w8.setCell _ _ = w9 at n5' n6' hE ⊢
  have i50 : w9.cell? ⟨g5, 0, none⟩ = some (.int .i64 (J + 3)) := (blk_cell n5' 0).trans rfl
  have i51 : w9.cell? ⟨g5, 1, none⟩ = some (.int .i64 I) := (blk_cell n5' 1).trans rfl
  go_wp2_with fail
  refine (iA (J + 3) I _ false nj).mono ?_
  rintro e we ⟨rfl, hbe⟩
  replace hE := hE.below hbe
  replace n5' := blk_below n5' hbe
  replace n6' := blk_below n6' hbe
  clear i50 i51 hbe
  have i60 : we.cell? ⟨g6, 0, none⟩ = some (.int .i64 J) := (blk_cell n6' 0).trans rfl
  have i61 : we.cell? ⟨g6, 1, none⟩ = some (.int .i64 (I + 6)) := (blk_cell n6' 1).trans rfl
  go_wp2_with fail
  refine (iA J (I + 6) _ false ni).mono ?_
  rintro e wf ⟨rfl, hbf⟩
  replace hE := hE.below hbf
  replace n5' := blk_below n5' hbf
  clear i60 i61 hbf n6'
  have i50 : wf.cell? ⟨g5, 0, none⟩ = some (.int .i64 (J + 3)) := (blk_cell n5' 0).trans rfl
  have i51 : wf.cell? ⟨g5, 1, none⟩ = some (.int .i64 I) := (blk_cell n5' 1).trans rfl
  go_wp2_with fail
  refine (tA (J + 3) I _ tx).mono ?_
  rintro e wg ⟨rfl, hbg⟩
  replace hE := hE.below hbg
  clear i50 i51 hbg n5' 
  have i30 := hE.x30
  have i31 := hE.x31
  have i32 := hE.x32
  go_wp2_with fail
  refine (sOk hE.m true ho').mono ?_
  rintro e wh ⟨rfl, hbh⟩
  replace hE := hE.below hbh
  clear i30 i31 i32 hbh
  have i30 := hE.x30
  have i31 := hE.x31
  have i32 := hE.x32
  have hlen := Aside0.mk (okM_len ho)
  obtain ⟨ga, ca, ea, _⟩ := Kd.R_form hE.m.1 (by have := hlen.out.1; omega)
  injection ea with e1_ _ e2_
  subst e1_ e2_
  clear i30
  have i30 := hE.x30
  go_upto_region 17 with (fail)
  have n7 := heap_alloc_new wh (Obj.cells #[.slice (some ⟨ga, 0, none⟩) a.length c0, .slice A1 b.length c1, .slice A2 c.length c2] 25)
  have v7 : w.heap.size ≤ wh.heap.size ∧ g3 < wh.heap.size ∧ g4 < wh.heap.size := ⟨hE.bel.size, blk_lt hE.h3, blk_lt hE.h4⟩
  replace hE := hE.alloc (Obj.cells #[.slice (some ⟨ga, 0, none⟩) a.length c0, .slice A1 b.length c1, .slice A2 c.length c2] 25)
  clear i30 i31 i32
  generalize wh.alloc (Obj.cells _ 25) = wi at n7 hE ⊢
  generalize wh.heap.size = g7 at n7 v7 ⊢
  have i32 := hE.x32
  have hu23 := Tryd.underlying23
  have o0 := Kd.R_lt hE.m.1
  have o1 := Kd.R_lt hE.m.2.1
  have o2 := Kd.R_lt hE.m.2.2
  have l3 := blk_lt hE.h3
  have l4 := blk_lt hE.h4
  have l7 := blk_lt n7
  have lw := hE.bel.size
  go_upto_region 18 with (first | ((with_reducible refine gate_dst (N := 59) rfl ?_); refine Kd.R_lit (Kd.int .i64) _ 3 ?hg (N := 59) ?hd (xs := ([] : List Int)) (inner := []) (ok := fun _ => True) (okp := fun _ => True) ?hr ?hp (fun _ hk => hk) trivial (Below.refl _ _) (Nat.le_refl _) (by simp) ?_; (case hd => rfl); (case hg => rfl); (case hr => first | (go_simp; done) | (go_simp; rfl)); (case hp => exact (Reps.none _ _)); intro v1 wv1 ho1 hbv1 hg1 hn1; clear hg1 hn1; have i32b := (hE.below hbv1).x32) | ((with_reducible refine gate_dst (N := 62) rfl ?_); refine Kd.R_append_rows (Kd.int .i64) (w0 := wi) wi.heap.size (by rfl) (.tmp 59) (.tmp 61) 23 3 (.int .i64 0) 8 rfl Tryd.underlying23 info3 rfl (by decide) (by omega) v1 [] c _ _ _ (fun _ => True) (fun _ => False) rfl rfl ho1 (Kd.C_below (Kd.R_reads' hE.m.2.2).2.2 hbv1) (fun _ _ h => h) (fun _ h => h.elim) (fun _ _ => trivial) hbv1 (below_size hbv1) (by have := hlen.out.2.2; simp; omega) ?_; intro v2 wv2 ho2 hbv2 hg2 hat2; clear hg2 hat2; replace ho2 : Kd.R (Kd.int .i64) 3 wv2 wi.heap.size (fun _ => True) v2 c := ho2; obtain ⟨gv, cv, rfl, gb, gl, cl, hgv⟩ := Kd.R_form ho2 (by have := hlen.out.2.2; omega); rw [hlen.out.2.2] at ho2 ⊢; have n7b := blk_below n7 hbv2; have i72 : wv2.cell? ⟨g7, 2, none⟩ = some (.slice A2 c.length c2) := (blk_cell n7b 2).trans rfl; have j72 := blk_frozen n7b 2))
  have ht25 : ∀ q, q ∈ 3 :: (Kd.int .i64).E → q ≠ 25 := by
    intro q hq
    rcases List.mem_cons.1 hq with rfl | h
    · decide
    · exact absurd (show q ∈ ([] : List Nat) from h) (by simp)
  have hE2 := (hE.below hbv2).far n7b (by decide) v7.2.1 v7.2.2 v7.1 2 (.slice (some ⟨gv, 0, none⟩) 6 cv)
  have n7c := blk_put n7b 2 (.slice (some ⟨gv, 0, none⟩) 6 cv) rfl
  have hv3 := Kd.R_set ho2 n7b ht25 2 (.slice (some ⟨gv, 0, none⟩) 6 cv)
  replace n7c : (wv2.setCell ⟨g7, 2, none⟩ (.slice (some ⟨gv, 0, none⟩) 6 cv)).heap[g7]? = some (.cells #[.slice (some ⟨ga, 0, none⟩) a.length c0, .slice A1 b.length c1, .slice (some ⟨gv, 0, none⟩) 6 cv] 25 (0, 0)) := n7c
  clear ho2 i72 j72 n7b i32 i32b ho1
  generalize wv2.setCell _ _ = wj at hE2 n7c hv3 ⊢
  have i72 : wj.cell? ⟨g7, 2, none⟩ = some (.slice (some ⟨gv, 0, none⟩) 6 cv) := (blk_cell n7c 2).trans rfl
  obtain ⟨hx, hf⟩ := Kd.R_celln 0 hv3 (5 : Int) (by decide) (by decide)
  have hx5 : wj.cell? ⟨gv, 5, none⟩ = some (.int .i64 (rdOf 0 c 5)) := hx
  have hf5 : wj.frozen? ⟨gv, 5, none⟩ = false := hf
  clear hx hf
  go_upto_region 19 with (fail)
  have hv4 : Kd.R (Kd.int .i64) 3 (wj.setCell ⟨gv, 5, none⟩ (.int .i64 (-1000001))) wi.heap.size (fun _ => True) (.slice (some ⟨gv, 0, none⟩) 6 cv) (c.set 5 (-1000001)) := Kd.R_putn hv3 5 (-1000001)
  have hE3 := hE2.own wi.heap.size o0 o1 o2 l3 l4 lw gb (j := 5) (.int .i64 (-1000001))
  have n7d := blk_far n7c (p := ⟨gv, 5, none⟩) (by simp; omega) (.int .i64 (-1000001))
  clear hx5 hf5 i72 hv3 hE2 n7c
  generalize wj.setCell _ _ = wk at hE3 n7d hv4 ⊢
  have i30 := hE3.x30
  have i31 := hE3.x31
  have i32 := hE3.x32
  go_upto_region 20 with (fail)
  have n8 := heap_alloc_new wk (Obj.cells #[.slice (some ⟨ga, 0, none⟩) a.length c0, .slice A1 b.length c1, .slice A2 c.length c2] 25)
  have v8 : w.heap.size ≤ wk.heap.size ∧ g3 < wk.heap.size ∧ g4 < wk.heap.size := ⟨hE3.bel.size, blk_lt hE3.h3, blk_lt hE3.h4⟩
  have w78 := blk_lt n7d
  have hE4 := hE3.alloc (Obj.cells #[.slice (some ⟨ga, 0, none⟩) a.length c0, .slice A1 b.length c1, .slice A2 c.length c2] 25)
  have n7e := blk_alloc n7d (Obj.cells #[.slice (some ⟨ga, 0, none⟩) a.length c0, .slice A1 b.length c1, .slice A2 c.length c2] 25)
  have hv5 := Kd.R_alloc hv4 (Obj.cells #[.slice (some ⟨ga, 0, none⟩) a.length c0, .slice A1 b.length c1, .slice A2 c.length c2] 25)
  clear hE3 n7d hv4 i30 i31 i32
  generalize wk.alloc (Obj.cells _ 25) = wl at n8 hE4 n7e hv5 ⊢
  generalize wk.heap.size = g8 at n8 v8 w78 ⊢
  have i30 := hE4.x30
  have i80 : wl.cell? ⟨g8, 0, none⟩ = some (.slice (some ⟨ga, 0, none⟩) a.length c0) := (blk_cell n8 0).trans rfl
  have j80 := blk_frozen n8 0
  have la := hlen.out.1
  have nc : (c0 = 1) = False := eq_false (by have := (Kd.R_reads' hE4.m.1).2.1; omega)
  go_upto_region 21 with (fail)
  have n8b := blk_put n8 0 (.slice (some ⟨ga, 1, none⟩) 5 (c0 - 1)) rfl
  have hE5 := hE4.far n8 (by decide) v8.2.1 v8.2.2 v8.1 0 (.slice (some ⟨ga, 1, none⟩) 5 (c0 - 1))
  have hv6 := Kd.R_set hv5 n8 ht25 0 (.slice (some ⟨ga, 1, none⟩) 5 (c0 - 1))
  have n7f := blk_far n7e (p := ⟨g8, 0, none⟩) (Nat.ne_of_lt w78) (.slice (some ⟨ga, 1, none⟩) 5 (c0 - 1))
  replace n8b : (wl.setCell ⟨g8, 0, none⟩ (.slice (some ⟨ga, 1, none⟩) 5 (c0 - 1))).heap[g8]? = some (.cells #[.slice (some ⟨ga, 1, none⟩) 5 (c0 - 1), .slice A1 b.length c1, .slice A2 c.length c2] 25 (0, 0)) := n8b
  clear la nc n8 hE4 hv5 n7e i30 i80 j80
  generalize wl.setCell _ _ = wm at n8b hE5 hv6 n7f ⊢
  have hl6 : (c.set 5 (-1000001)).length = 6 := by rw [List.length_set]; exact hlen.out.2.2
  have bad : Hm.okM a b (c.set 5 (-1000001)) = false := by
    have : Hm.okL (c.set 5 (-1000001)) = false := by
      obtain ⟨_, _, lc⟩ := hlen.out
      match c, lc with
      | [x0, x1, x2, x3, x4, x5], _ => simp [Hm.okL, Hm.isN]
    unfold Hm.okM; rw [this]; simp
  have i70 : wm.cell? ⟨g7, 0, none⟩ = some (.slice (some ⟨ga, 0, none⟩) a.length c0) := (blk_cell n7f 0).trans rfl
  have i71 : wm.cell? ⟨g7, 1, none⟩ = some (.slice A1 b.length c1) := (blk_cell n7f 1).trans rfl
  have i72 : wm.cell? ⟨g7, 2, none⟩ = some (.slice (some ⟨gv, 0, none⟩) 6 cv) := (blk_cell n7f 2).trans rfl
  go_wp2_with fail
  refine (mOkV hE5.m.1 hE5.m.2.1 hv6 hl6 false bad).mono ?_
  rintro e wn ⟨rfl, hbn⟩
  replace hE5 := hE5.below hbn
  replace n8b := blk_below n8b hbn
  clear i70 i71 i72 hbn hv6 n7f
  have i80 : wn.cell? ⟨g8, 0, none⟩ = some (.slice (some ⟨ga, 1, none⟩) 5 (c0 - 1)) := (blk_cell n8b 0).trans rfl
  have i81 : wn.cell? ⟨g8, 1, none⟩ = some (.slice A1 b.length c1) := (blk_cell n8b 1).trans rfl
  have i82 : wn.cell? ⟨g8, 2, none⟩ = some (.slice A2 c.length c2) := (blk_cell n8b 2).trans rfl
  go_wp2_with fail
  refine (mOkD hE5.m hlen.out.1).mono ?_
  rintro e wo ⟨rfl, hbo⟩
  have hE6 := hE5.below hbo
  go_wp2
  go_ret
  exact ⟨rfl, hE6.bel⟩
set_option maxRecDepth 100000 in
set_option maxHeartbeats 25600000 in
theorem main_true_false (A : Option Addr) (cc : Nat) (l a b c : List Int) (J I : Int) (k k' : Nat) (w : World) (hl : ¬ (l.length : Int) > 1048576)
    (hr : Kd.C (Kd.int .u8) w A l.length l) (hc : l.length ≤ cc) (hd : spec_DrawMemOk.f k l = some (a, b, c)) (hd' : spec_DrawAddrOk.f k' l = some (J, I))
    (ho : Hm.okM a b c = false) (ho' : spec_MemOk.f 20 a b c = some false) (ha : Hn.aOk J I = true) (ha' : spec_AddrOk.f J I = some true) :
    Calls Tryd.prog 3 #[.slice A l.length cc] w fun e w' => e = .returned (.bool true) ∧ Below w.heap.size w w' := by
  have t1 : decide (1048576 < (l.length : Int)) = false := by simpa using hl
  have g1 := draw5 k A cc l a b c w hr hc hd
  have g2 := fun W hW => spec_DrawAddrOk.calls k' A cc l J I W hW hc hd'
  clear hl hd hd' hc
  have hu25 := Tryd.underlying25
  have hu28 := Tryd.underlying28
  go_enter Tryd.func3, Tryd.ntmps3
  go_wp2_with fail
  refine g1.mono ?_
  rintro e w1 ⟨A0, A1, A2, c0, c1, c2, rfl, hm, hb1⟩
  clear g1
  go_wp2_with fail
  have q0 : (w1.alloc (Obj.cells #[.slice A0 a.length c0, .slice A1 b.length c1, .slice A2 c.length c2] 25)).heap.size = w1.heap.size + 1 := Hm.alloc_size _ _
  have k3 : (w1.alloc (Obj.cells #[.slice A0 a.length c0, .slice A1 b.length c1, .slice A2 c.length c2] 25)).heap[w1.heap.size]? = some (.cells #[.slice A0 a.length c0, .slice A1 b.length c1, .slice A2 c.length c2] 25 (0, 0)) := heap_alloc_new _ _
  have kb : Below w.heap.size w (w1.alloc (Obj.cells #[.slice A0 a.length c0, .slice A1 b.length c1, .slice A2 c.length c2] 25)) := hb1.alloc hb1.size _
  have km := hm.alloc (Obj.cells #[.slice A0 a.length c0, .slice A1 b.length c1, .slice A2 c.length c2] 25)
  generalize w1.alloc (Obj.cells _ 25) = w2 at k3 kb km q0 ⊢
  have h3 : w.heap.size ≤ w1.heap.size := hb1.size
  obtain ⟨g3, hg3⟩ : ∃ g, w1.heap.size = g := ⟨_, rfl⟩
  rw [hg3] at k3 h3 q0 ⊢
  clear hm hb1 hg3
  refine (g2 _ (Kd.C_below hr kb)).mono ?_
  rintro e w3 ⟨rfl, hb3⟩
  have m3 := blk_below k3 hb3
  have mm := km.below hb3
  have mb := kb.trans (hb3.mono kb.size)
  clear g2 k3 km kb hb3 hr q0
  go_wp2_with fail
  have hE : E2 w g3 w3.heap.size A0 A1 A2 c0 c1 c2 a b c J I (w3.alloc (Obj.cells #[.int .i64 J, .int .i64 I] 28)) := ⟨blk_alloc m3 _, heap_alloc_new _ _, mm.alloc _, mb.alloc mb.size _⟩
  have hgl : g3 < w3.heap.size := blk_lt m3
  generalize w3.alloc (Obj.cells _ 28) = w4 at hE ⊢
  generalize w3.heap.size = g4 at hE hgl ⊢
  clear m3 mm mb
  have hE0 := hE.drew
  have nk : ∀ t : Bool, (t != t) = false := fun t => by cases t <;> rfl
  refine start_ (n := 12) (S := fun w' => w'.cell? ⟨g3, 0, none⟩ = some (.slice A0 a.length c0) ∧ w'.cell? ⟨g3, 1, none⟩ = some (.slice A1 b.length c1) ∧ w'.cell? ⟨g3, 2, none⟩ = some (.slice A2 c.length c2) ∧ w'.cell? ⟨g4, 0, none⟩ = some (.int .i64 J) ∧ w'.cell? ⟨g4, 1, none⟩ = some (.int .i64 I) ∧ E2 w g3 g4 A0 A1 A2 c0 c1 c2 a b c J I w') (ds := []) #[false, false, false, false, false, false, false, false, false, false, false, false] (by kernel_rfl) rfl rfl ⟨hE0.x30, hE0.x31, hE0.x32, hE0.x40, hE0.x41, hE0⟩ (fun hHeld => ?_)
  refine take_ (i := 0) (N := some 16) (v := ?_) (a' := ?_) #[true, false, false, false, false, false, false, false, false, false, false, false] rfl rfl (by kernel_rfl) (fun _ _ _ h => h) (Or.inl ⟨by rfl, ?_⟩) hHeld ?_ ?_
  rotate_left
  · rintro w' ⟨s0, s1, s2, s3, s4, s5⟩
    go_simp
    with_reducible rfl
  rotate_left
  · simp only [Act.put, List.setIfInBounds_toArray, List.set_cons_zero, List.set_cons_succ, i64_w, i32_w]
    rfl
  refine take_ (i := 2) (N := some 18) (v := ?_) (a' := ?_) #[true, false, true, false, false, false, false, false, false, false, false, false] rfl rfl (by kernel_rfl) (fun _ _ _ h => h) (Or.inl ⟨by rfl, ?_⟩) hHeld ?_ ?_
  rotate_left
  · rintro w' ⟨s0, s1, s2, s3, s4, s5⟩
    go_simp
    with_reducible rfl
  rotate_left
  · simp only [Act.put, List.setIfInBounds_toArray, List.set_cons_zero, List.set_cons_succ, i64_w, i32_w]
    rfl
  refine one_ (i := 1) (N := some 17) #[true, true, true, false, false, false, false, false, false, false, false, false] rfl rfl (by kernel_rfl) (by decide) (fun K hK => ?_)
  refine goes_ Tryd.func7 (by kernel_rfl) rfl #[.agg #[.slice A0 a.length c0, .slice A1 b.length c1, .slice A2 c.length c2]] (by rfl) rfl rfl (by simp only [List.map_toArray, List.map_cons, List.map_nil]; rfl) ?_
  with_reducible refine (mOk hHeld.2.2.2.2.2.m false ho).mono ?_
  rintro e wa ⟨rfl, hba⟩
  refine ⟨_, rfl, ?_⟩
  have waN := hHeld.2.2.2.2.2.below hba
  refine hK.out _ _ ⟨waN.x30, waN.x31, waN.x32, waN.x40, waN.x41, waN⟩ (fun hHeld => ?_)
  clear hK K
  refine norm_ (a' := ?_) ?_ ?_
  rotate_left
  · show Act.put _ (some 17) _ = _
    simp only [Act.put, List.setIfInBounds_toArray, List.set_cons_zero, List.set_cons_succ, i64_w, i32_w]
    rfl
  refine one_ (i := 3) (N := some 19) #[true, true, true, true, false, false, false, false, false, false, false, false] rfl rfl (by kernel_rfl) (by decide) (fun K hK => ?_)
  refine goes_ Tryd.func8 (by kernel_rfl) rfl #[.agg #[.slice A0 a.length c0, .slice A1 b.length c1, .slice A2 c.length c2]] (by rfl) rfl rfl (by simp only [List.map_toArray, List.map_cons, List.map_nil]; rfl) ?_
  with_reducible refine (sOk hHeld.2.2.2.2.2.m false ho').mono ?_
  rintro e wb ⟨rfl, hbb⟩
  refine ⟨_, rfl, ?_⟩
  have wbN := hHeld.2.2.2.2.2.below hbb
  refine hK.out _ _ ⟨wbN.x30, wbN.x31, wbN.x32, wbN.x40, wbN.x41, wbN⟩ (fun hHeld => ?_)
  clear hK K
  refine norm_ (a' := ?_) ?_ ?_
  rotate_left
  · show Act.put _ (some 19) _ = _
    simp only [Act.put, List.setIfInBounds_toArray, List.set_cons_zero, List.set_cons_succ, i64_w, i32_w]
    rfl
  refine pure_ (i := 4) (N := some 20) (v := ?_) (a' := ?_) #[true, true, true, true, true, false, false, false, false, false, false, false] rfl rfl (by kernel_rfl) (fun _ _ _ h => h) (Or.inl ⟨by rfl, ?_⟩) ?_ ?_
  rotate_left
  · intro w'
    go_simp
    with_reducible rfl
  rotate_left
  · simp only [Act.put, List.setIfInBounds_toArray, List.set_cons_zero, List.set_cons_succ, i64_w, i32_w]
    rfl
  refine pure_ (i := 5) (N := some 21) (v := ?_) (a' := ?_) #[true, true, true, true, true, true, false, false, false, false, false, false] rfl rfl (by kernel_rfl) (fun _ _ _ h => h) (Or.inl ⟨by rfl, ?_⟩) ?_ ?_
  rotate_left
  · intro w'
    go_simp
    with_reducible rfl
  rotate_left
  · simp only [Act.put, List.setIfInBounds_toArray, List.set_cons_zero, List.set_cons_succ, i64_w, i32_w]
    rfl
  refine take_ (i := 6) (N := some 22) (v := ?_) (a' := ?_) #[true, true, true, true, true, true, true, false, false, false, false, false] rfl rfl (by kernel_rfl) (fun _ _ _ h => h) (Or.inl ⟨by rfl, ?_⟩) hHeld ?_ ?_
  rotate_left
  · rintro w' ⟨s0, s1, s2, s3, s4, s5⟩
    go_simp
    with_reducible rfl
  rotate_left
  · simp only [Act.put, List.setIfInBounds_toArray, List.set_cons_zero, List.set_cons_succ, i64_w, i32_w]
    rfl
  refine take_ (i := 8) (N := some 24) (v := ?_) (a' := ?_) #[true, true, true, true, true, true, true, false, true, false, false, false] rfl rfl (by kernel_rfl) (fun _ _ _ h => h) (Or.inl ⟨by rfl, ?_⟩) hHeld ?_ ?_
  rotate_left
  · rintro w' ⟨s0, s1, s2, s3, s4, s5⟩
    go_simp
    with_reducible rfl
  rotate_left
  · simp only [Act.put, List.setIfInBounds_toArray, List.set_cons_zero, List.set_cons_succ, i64_w, i32_w]
    rfl
  refine one_ (i := 7) (N := some 23) #[true, true, true, true, true, true, true, true, true, false, false, false] rfl rfl (by kernel_rfl) (by decide) (fun K hK => ?_)
  refine goes_ Tryd.func9 (by kernel_rfl) rfl #[.agg #[.int .i64 J, .int .i64 I]] (by rfl) rfl rfl (by simp only [List.map_toArray, List.map_cons, List.map_nil]; rfl) ?_
  with_reducible refine (iA J I _ true ha).mono ?_
  rintro e wc ⟨rfl, hbc⟩
  refine ⟨_, rfl, ?_⟩
  have wcN := hHeld.2.2.2.2.2.below hbc
  refine hK.out _ _ ⟨wcN.x30, wcN.x31, wcN.x32, wcN.x40, wcN.x41, wcN⟩ (fun hHeld => ?_)
  clear hK K
  refine norm_ (a' := ?_) ?_ ?_
  rotate_left
  · show Act.put _ (some 23) _ = _
    simp only [Act.put, List.setIfInBounds_toArray, List.set_cons_zero, List.set_cons_succ, i64_w, i32_w]
    rfl
  refine one_ (i := 9) (N := some 25) #[true, true, true, true, true, true, true, true, true, true, false, false] rfl rfl (by kernel_rfl) (by decide) (fun K hK => ?_)
  refine goes_ Tryd.func10 (by kernel_rfl) rfl #[.agg #[.int .i64 J, .int .i64 I]] (by rfl) rfl rfl (by simp only [List.map_toArray, List.map_cons, List.map_nil]; rfl) ?_
  with_reducible refine (sA J I _ true ha').mono ?_
  rintro e wd ⟨rfl, hbd⟩
  refine ⟨_, rfl, ?_⟩
  have wdN := hHeld.2.2.2.2.2.below hbd
  refine hK.out _ _ ⟨wdN.x30, wdN.x31, wdN.x32, wdN.x40, wdN.x41, wdN⟩ (fun hHeld => ?_)
  clear hK K
  refine norm_ (a' := ?_) ?_ ?_
  rotate_left
  · show Act.put _ (some 25) _ = _
    simp only [Act.put, List.setIfInBounds_toArray, List.set_cons_zero, List.set_cons_succ, i64_w, i32_w]
    rfl
  refine pure_ (i := 10) (N := some 26) (v := ?_) (a' := ?_) #[true, true, true, true, true, true, true, true, true, true, true, false] rfl rfl (by kernel_rfl) (fun _ _ _ h => h) (Or.inl ⟨by rfl, ?_⟩) ?_ ?_
  rotate_left
  · intro w'
    go_simp
    with_reducible rfl
  rotate_left
  · simp only [Act.put, List.setIfInBounds_toArray, List.set_cons_zero, List.set_cons_succ, i64_w, i32_w]
    rfl
  refine pure_ (i := 11) (N := some 27) (v := ?_) (a' := ?_) #[true, true, true, true, true, true, true, true, true, true, true, true] rfl rfl (by kernel_rfl) (fun _ _ _ h => h) (Or.inl ⟨by rfl, ?_⟩) ?_ ?_
  rotate_left
  · intro w'
    go_simp
    with_reducible rfl
  rotate_left
  · simp only [Act.put, List.setIfInBounds_toArray, List.set_cons_zero, List.set_cons_succ, i64_w, i32_w]
    rfl
  refine done_ (by kernel_rfl) ?_
  have hE := hHeld.2.2.2.2.2
  clear hHeld hE0
  have i40 := hE.x40
  have i41 := hE.x41
  go_wp2_with fail
  refine (sA J I _ true ha').mono ?_
  rintro e w5 ⟨rfl, hb5⟩
  replace hE := hE.below hb5
  clear i40 i41
  have i40 := hE.x40
  have i41 := hE.x41
  have wj : wrap64 (J + 3) = J + 3 := by
    simp only [Hn.aOk, Bool.and_eq_true, decide_eq_true_eq] at ha
    unfold wrap64; omega
  have wi : wrap64 (I + 6) = I + 6 := by
    simp only [Hn.aOk, Bool.and_eq_true, decide_eq_true_eq] at ha
    unfold wrap64; omega
  have nj : Hn.aOk (J + 3) I = false := by
    cases hA : Hn.aOk (J + 3) I with
    | false => rfl
    | true => simp only [Hn.aOk, Bool.and_eq_true, decide_eq_true_eq] at ha hA; omega
  have ni : Hn.aOk J (I + 6) = false := by
    cases hA : Hn.aOk J (I + 6) with
    | false => rfl
    | true => simp only [Hn.aOk, Bool.and_eq_true, decide_eq_true_eq] at ha hA; omega
  have tx : Ha.txt (J + 3) I = ⟨#[]⟩ := by
    have : Ha.aOk (J + 3) I = false := nj
    unfold Ha.txt; rw [this]; rfl
  go_upto_region 9 with (fail)
  have n5 := heap_alloc_new w5 (Obj.cells #[.int .i64 J, .int .i64 I] 28)
  have v5 : w.heap.size ≤ w5.heap.size ∧ g3 < w5.heap.size ∧ g4 < w5.heap.size := ⟨hE.bel.size, blk_lt hE.h3, blk_lt hE.h4⟩
  replace hE := hE.alloc (Obj.cells #[.int .i64 J, .int .i64 I] 28)
  have s5 := Hm.alloc_size w5 (Obj.cells #[.int .i64 J, .int .i64 I] 28)
  clear i40 i41
  generalize w5.alloc (Obj.cells _ 28) = w6 at n5 hE s5 ⊢
  generalize w5.heap.size = g5 at n5 v5 s5 ⊢
  have i40 := hE.x40
  have i50 : w6.cell? ⟨g5, 0, none⟩ = some (.int .i64 J) := (blk_cell n5 0).trans rfl
  have j50 := blk_frozen n5 0
  go_upto_region 10 with (fail)
  have n5' := blk_put n5 0 (.int .i64 (J + 3)) rfl
  replace hE := hE.far n5 (by decide) v5.2.1 v5.2.2 v5.1 0 (.int .i64 (J + 3))
  have s5' : g5 < (w6.setCell ⟨g5, 0, none⟩ (.int .i64 (J + 3))).heap.size := blk_lt n5'
  replace n5' : (w6.setCell ⟨g5, 0, none⟩ (.int .i64 (J + 3))).heap[g5]? = some (.cells #[.int .i64 (J + 3), .int .i64 I] 28 (0, 0)) := n5'
  clear i40 i50 j50 n5 s5
  generalize w6.setCell _ _ = w7 at n5' hE s5' ⊢
  have i40 := hE.x40
  have i41 := hE.x41
  go_upto_region 11 with (fail)
  have n6 := heap_alloc_new w7 (Obj.cells #[.int .i64 J, .int .i64 I] 28)
  have v6 : w.heap.size ≤ w7.heap.size ∧ g3 < w7.heap.size ∧ g4 < w7.heap.size := ⟨hE.bel.size, blk_lt hE.h3, blk_lt hE.h4⟩
  replace hE := hE.alloc (Obj.cells #[.int .i64 J, .int .i64 I] 28)
  replace n5' := blk_alloc n5' (Obj.cells #[.int .i64 J, .int .i64 I] 28)
  clear i40 i41
  generalize w7.alloc (Obj.cells _ 28) = w8 at n5' n6 hE ⊢
  generalize w7.heap.size = g6 at n6 v6 s5' ⊢
  have i41 := hE.x41
  have i61 : w8.cell? ⟨g6, 1, none⟩ = some (.int .i64 I) := (blk_cell n6 1).trans rfl
  have j61 := blk_frozen n6 1
  go_upto_region 12 with (fail)
  have n6' : (w8.setCell ⟨g6, 1, none⟩ (.int .i64 (I + 6))).heap[g6]? = some (.cells #[.int .i64 J, .int .i64 (I + 6)] 28 (0, 0)) := blk_put n6 1 (.int .i64 (I + 6)) rfl
  replace hE := hE.far n6 (by decide) v6.2.1 v6.2.2 v6.1 1 (.int .i64 (I + 6))
  replace n5' := blk_far n5' (p := ⟨g6, 1, none⟩) (Nat.ne_of_lt s5') (.int .i64 (I + 6))
  clear i41 i61 j61 n6
  generalize w8.setCell _ _ = w9 at n5' n6' hE ⊢
  have i50 : w9.cell? ⟨g5, 0, none⟩ = some (.int .i64 (J + 3)) := (blk_cell n5' 0).trans rfl
  have i51 : w9.cell? ⟨g5, 1, none⟩ = some (.int .i64 I) := (blk_cell n5' 1).trans rfl
  go_wp2_with fail
  refine (iA (J + 3) I _ false nj).mono ?_
  rintro e we ⟨rfl, hbe⟩
  replace hE := hE.below hbe
  replace n5' := blk_below n5' hbe
  replace n6' := blk_below n6' hbe
  clear i50 i51 hbe
  have i60 : we.cell? ⟨g6, 0, none⟩ = some (.int .i64 J) := (blk_cell n6' 0).trans rfl
  have i61 : we.cell? ⟨g6, 1, none⟩ = some (.int .i64 (I + 6)) := (blk_cell n6' 1).trans rfl
  go_wp2_with fail
  refine (iA J (I + 6) _ false ni).mono ?_
  rintro e wf ⟨rfl, hbf⟩
  replace hE := hE.below hbf
  replace n5' := blk_below n5' hbf
  clear i60 i61 hbf n6'
  have i50 : wf.cell? ⟨g5, 0, none⟩ = some (.int .i64 (J + 3)) := (blk_cell n5' 0).trans rfl
  have i51 : wf.cell? ⟨g5, 1, none⟩ = some (.int .i64 I) := (blk_cell n5' 1).trans rfl
  go_wp2_with fail
  refine (tA (J + 3) I _ tx).mono ?_
  rintro e wg ⟨rfl, hbg⟩
  replace hE := hE.below hbg
  clear i50 i51 hbg n5' 
  have i30 := hE.x30
  have i31 := hE.x31
  have i32 := hE.x32
  go_wp2_with fail
  refine (sOk hE.m false ho').mono ?_
  rintro e wh ⟨rfl, hbh⟩
  replace hE := hE.below hbh
  clear i30 i31 i32 hbh
  have i30 := hE.x30
  have i31 := hE.x31
  have i32 := hE.x32
  have gz : Hn.gM a b c 3 0 = 0 := by unfold Hn.gM; rw [ho]; rfl
  go_wp2_with fail
  refine (mG hE.m gz).mono ?_
  rintro e wk ⟨rfl, hbk⟩
  replace hE := hE.below hbk
  go_wp2
  go_ret
  exact ⟨rfl, hE.bel⟩
set_option maxRecDepth 100000 in
set_option maxHeartbeats 25600000 in
theorem main_false_true (A : Option Addr) (cc : Nat) (l a b c : List Int) (J I : Int) (k k' : Nat) (w : World) (hl : ¬ (l.length : Int) > 1048576)
    (hr : Kd.C (Kd.int .u8) w A l.length l) (hc : l.length ≤ cc) (hd : spec_DrawMemOk.f k l = some (a, b, c)) (hd' : spec_DrawAddrOk.f k' l = some (J, I))
    (ho : Hm.okM a b c = true) (ho' : spec_MemOk.f 20 a b c = some true) (ha : Hn.aOk J I = false) (ha' : spec_AddrOk.f J I = some false) :
    Calls Tryd.prog 3 #[.slice A l.length cc] w fun e w' => e = .returned (.bool true) ∧ Below w.heap.size w w' := by
  have t1 : decide (1048576 < (l.length : Int)) = false := by simpa using hl
  have g1 := draw5 k A cc l a b c w hr hc hd
  have g2 := fun W hW => spec_DrawAddrOk.calls k' A cc l J I W hW hc hd'
  clear hl hd hd' hc
  have hu25 := Tryd.underlying25
  have hu28 := Tryd.underlying28
  go_enter Tryd.func3, Tryd.ntmps3
  go_wp2_with fail
  refine g1.mono ?_
  rintro e w1 ⟨A0, A1, A2, c0, c1, c2, rfl, hm, hb1⟩
  clear g1
  go_wp2_with fail
  have q0 : (w1.alloc (Obj.cells #[.slice A0 a.length c0, .slice A1 b.length c1, .slice A2 c.length c2] 25)).heap.size = w1.heap.size + 1 := Hm.alloc_size _ _
  have k3 : (w1.alloc (Obj.cells #[.slice A0 a.length c0, .slice A1 b.length c1, .slice A2 c.length c2] 25)).heap[w1.heap.size]? = some (.cells #[.slice A0 a.length c0, .slice A1 b.length c1, .slice A2 c.length c2] 25 (0, 0)) := heap_alloc_new _ _
  have kb : Below w.heap.size w (w1.alloc (Obj.cells #[.slice A0 a.length c0, .slice A1 b.length c1, .slice A2 c.length c2] 25)) := hb1.alloc hb1.size _
  have km := hm.alloc (Obj.cells #[.slice A0 a.length c0, .slice A1 b.length c1, .slice A2 c.length c2] 25)
  generalize w1.alloc (Obj.cells _ 25) = w2 at k3 kb km q0 ⊢
  have h3 : w.heap.size ≤ w1.heap.size := hb1.size
  obtain ⟨g3, hg3⟩ : ∃ g, w1.heap.size = g := ⟨_, rfl⟩
  rw [hg3] at k3 h3 q0 ⊢
  clear hm hb1 hg3
  refine (g2 _ (Kd.C_below hr kb)).mono ?_
  rintro e w3 ⟨rfl, hb3⟩
  have m3 := blk_below k3 hb3
  have mm := km.below hb3
  have mb := kb.trans (hb3.mono kb.size)
  clear g2 k3 km kb hb3 hr q0
  go_wp2_with fail
  have hE : E2 w g3 w3.heap.size A0 A1 A2 c0 c1 c2 a b c J I (w3.alloc (Obj.cells #[.int .i64 J, .int .i64 I] 28)) := ⟨blk_alloc m3 _, heap_alloc_new _ _, mm.alloc _, mb.alloc mb.size _⟩
  have hgl : g3 < w3.heap.size := blk_lt m3
  generalize w3.alloc (Obj.cells _ 28) = w4 at hE ⊢
  generalize w3.heap.size = g4 at hE hgl ⊢
  clear m3 mm mb
  have hE0 := hE.drew
  have nk : ∀ t : Bool, (t != t) = false := fun t => by cases t <;> rfl
  refine start_ (n := 12) (S := fun w' => w'.cell? ⟨g3, 0, none⟩ = some (.slice A0 a.length c0) ∧ w'.cell? ⟨g3, 1, none⟩ = some (.slice A1 b.length c1) ∧ w'.cell? ⟨g3, 2, none⟩ = some (.slice A2 c.length c2) ∧ w'.cell? ⟨g4, 0, none⟩ = some (.int .i64 J) ∧ w'.cell? ⟨g4, 1, none⟩ = some (.int .i64 I) ∧ E2 w g3 g4 A0 A1 A2 c0 c1 c2 a b c J I w') (ds := []) #[false, false, false, false, false, false, false, false, false, false, false, false] (by kernel_rfl) rfl rfl ⟨hE0.x30, hE0.x31, hE0.x32, hE0.x40, hE0.x41, hE0⟩ (fun hHeld => ?_)
  refine take_ (i := 0) (N := some 16) (v := ?_) (a' := ?_) #[true, false, false, false, false, false, false, false, false, false, false, false] rfl rfl (by kernel_rfl) (fun _ _ _ h => h) (Or.inl ⟨by rfl, ?_⟩) hHeld ?_ ?_
  rotate_left
  · rintro w' ⟨s0, s1, s2, s3, s4, s5⟩
    go_simp
    with_reducible rfl
  rotate_left
  · simp only [Act.put, List.setIfInBounds_toArray, List.set_cons_zero, List.set_cons_succ, i64_w, i32_w]
    rfl
  refine take_ (i := 2) (N := some 18) (v := ?_) (a' := ?_) #[true, false, true, false, false, false, false, false, false, false, false, false] rfl rfl (by kernel_rfl) (fun _ _ _ h => h) (Or.inl ⟨by rfl, ?_⟩) hHeld ?_ ?_
  rotate_left
  · rintro w' ⟨s0, s1, s2, s3, s4, s5⟩
    go_simp
    with_reducible rfl
  rotate_left
  · simp only [Act.put, List.setIfInBounds_toArray, List.set_cons_zero, List.set_cons_succ, i64_w, i32_w]
    rfl
  refine one_ (i := 1) (N := some 17) #[true, true, true, false, false, false, false, false, false, false, false, false] rfl rfl (by kernel_rfl) (by decide) (fun K hK => ?_)
  refine goes_ Tryd.func7 (by kernel_rfl) rfl #[.agg #[.slice A0 a.length c0, .slice A1 b.length c1, .slice A2 c.length c2]] (by rfl) rfl rfl (by simp only [List.map_toArray, List.map_cons, List.map_nil]; rfl) ?_
  with_reducible refine (mOk hHeld.2.2.2.2.2.m true ho).mono ?_
  rintro e wa ⟨rfl, hba⟩
  refine ⟨_, rfl, ?_⟩
  have waN := hHeld.2.2.2.2.2.below hba
  refine hK.out _ _ ⟨waN.x30, waN.x31, waN.x32, waN.x40, waN.x41, waN⟩ (fun hHeld => ?_)
  clear hK K
  refine norm_ (a' := ?_) ?_ ?_
  rotate_left
  · show Act.put _ (some 17) _ = _
    simp only [Act.put, List.setIfInBounds_toArray, List.set_cons_zero, List.set_cons_succ, i64_w, i32_w]
    rfl
  refine one_ (i := 3) (N := some 19) #[true, true, true, true, false, false, false, false, false, false, false, false] rfl rfl (by kernel_rfl) (by decide) (fun K hK => ?_)
  refine goes_ Tryd.func8 (by kernel_rfl) rfl #[.agg #[.slice A0 a.length c0, .slice A1 b.length c1, .slice A2 c.length c2]] (by rfl) rfl rfl (by simp only [List.map_toArray, List.map_cons, List.map_nil]; rfl) ?_
  with_reducible refine (sOk hHeld.2.2.2.2.2.m true ho').mono ?_
  rintro e wb ⟨rfl, hbb⟩
  refine ⟨_, rfl, ?_⟩
  have wbN := hHeld.2.2.2.2.2.below hbb
  refine hK.out _ _ ⟨wbN.x30, wbN.x31, wbN.x32, wbN.x40, wbN.x41, wbN⟩ (fun hHeld => ?_)
  clear hK K
  refine norm_ (a' := ?_) ?_ ?_
  rotate_left
  · show Act.put _ (some 19) _ = _
    simp only [Act.put, List.setIfInBounds_toArray, List.set_cons_zero, List.set_cons_succ, i64_w, i32_w]
    rfl
  refine pure_ (i := 4) (N := some 20) (v := ?_) (a' := ?_) #[true, true, true, true, true, false, false, false, false, false, false, false] rfl rfl (by kernel_rfl) (fun _ _ _ h => h) (Or.inl ⟨by rfl, ?_⟩) ?_ ?_
  rotate_left
  · intro w'
    go_simp
    with_reducible rfl
  rotate_left
  · simp only [Act.put, List.setIfInBounds_toArray, List.set_cons_zero, List.set_cons_succ, i64_w, i32_w]
    rfl
  refine pure_ (i := 5) (N := some 21) (v := ?_) (a' := ?_) #[true, true, true, true, true, true, false, false, false, false, false, false] rfl rfl (by kernel_rfl) (fun _ _ _ h => h) (Or.inl ⟨by rfl, ?_⟩) ?_ ?_
  rotate_left
  · intro w'
    go_simp
    with_reducible rfl
  rotate_left
  · simp only [Act.put, List.setIfInBounds_toArray, List.set_cons_zero, List.set_cons_succ, i64_w, i32_w]
    rfl
  refine take_ (i := 6) (N := some 22) (v := ?_) (a' := ?_) #[true, true, true, true, true, true, true, false, false, false, false, false] rfl rfl (by kernel_rfl) (fun _ _ _ h => h) (Or.inl ⟨by rfl, ?_⟩) hHeld ?_ ?_
  rotate_left
  · rintro w' ⟨s0, s1, s2, s3, s4, s5⟩
    go_simp
    with_reducible rfl
  rotate_left
  · simp only [Act.put, List.setIfInBounds_toArray, List.set_cons_zero, List.set_cons_succ, i64_w, i32_w]
    rfl
  refine take_ (i := 8) (N := some 24) (v := ?_) (a' := ?_) #[true, true, true, true, true, true, true, false, true, false, false, false] rfl rfl (by kernel_rfl) (fun _ _ _ h => h) (Or.inl ⟨by rfl, ?_⟩) hHeld ?_ ?_
  rotate_left
  · rintro w' ⟨s0, s1, s2, s3, s4, s5⟩
    go_simp
    with_reducible rfl
  rotate_left
  · simp only [Act.put, List.setIfInBounds_toArray, List.set_cons_zero, List.set_cons_succ, i64_w, i32_w]
    rfl
  refine one_ (i := 7) (N := some 23) #[true, true, true, true, true, true, true, true, true, false, false, false] rfl rfl (by kernel_rfl) (by decide) (fun K hK => ?_)
  refine goes_ Tryd.func9 (by kernel_rfl) rfl #[.agg #[.int .i64 J, .int .i64 I]] (by rfl) rfl rfl (by simp only [List.map_toArray, List.map_cons, List.map_nil]; rfl) ?_
  with_reducible refine (iA J I _ false ha).mono ?_
  rintro e wc ⟨rfl, hbc⟩
  refine ⟨_, rfl, ?_⟩
  have wcN := hHeld.2.2.2.2.2.below hbc
  refine hK.out _ _ ⟨wcN.x30, wcN.x31, wcN.x32, wcN.x40, wcN.x41, wcN⟩ (fun hHeld => ?_)
  clear hK K
  refine norm_ (a' := ?_) ?_ ?_
  rotate_left
  · show Act.put _ (some 23) _ = _
    simp only [Act.put, List.setIfInBounds_toArray, List.set_cons_zero, List.set_cons_succ, i64_w, i32_w]
    rfl
  refine one_ (i := 9) (N := some 25) #[true, true, true, true, true, true, true, true, true, true, false, false] rfl rfl (by kernel_rfl) (by decide) (fun K hK => ?_)
  refine goes_ Tryd.func10 (by kernel_rfl) rfl #[.agg #[.int .i64 J, .int .i64 I]] (by rfl) rfl rfl (by simp only [List.map_toArray, List.map_cons, List.map_nil]; rfl) ?_
  with_reducible refine (sA J I _ false ha').mono ?_
  rintro e wd ⟨rfl, hbd⟩
  refine ⟨_, rfl, ?_⟩
  have wdN := hHeld.2.2.2.2.2.below hbd
  refine hK.out _ _ ⟨wdN.x30, wdN.x31, wdN.x32, wdN.x40, wdN.x41, wdN⟩ (fun hHeld => ?_)
  clear hK K
  refine norm_ (a' := ?_) ?_ ?_
  rotate_left
  · show Act.put _ (some 25) _ = _
    simp only [Act.put, List.setIfInBounds_toArray, List.set_cons_zero, List.set_cons_succ, i64_w, i32_w]
    rfl
  refine pure_ (i := 10) (N := some 26) (v := ?_) (a' := ?_) #[true, true, true, true, true, true, true, true, true, true, true, false] rfl rfl (by kernel_rfl) (fun _ _ _ h => h) (Or.inl ⟨by rfl, ?_⟩) ?_ ?_
  rotate_left
  · intro w'
    go_simp
    with_reducible rfl
  rotate_left
  · simp only [Act.put, List.setIfInBounds_toArray, List.set_cons_zero, List.set_cons_succ, i64_w, i32_w]
    rfl
  refine pure_ (i := 11) (N := some 27) (v := ?_) (a' := ?_) #[true, true, true, true, true, true, true, true, true, true, true, true] rfl rfl (by kernel_rfl) (fun _ _ _ h => h) (Or.inl ⟨by rfl, ?_⟩) ?_ ?_
  rotate_left
  · intro w'
    go_simp
    with_reducible rfl
  rotate_left
  · simp only [Act.put, List.setIfInBounds_toArray, List.set_cons_zero, List.set_cons_succ, i64_w, i32_w]
    rfl
  refine done_ (by kernel_rfl) ?_
  have hE := hHeld.2.2.2.2.2
  clear hHeld hE0
  have i40 := hE.x40
  have i41 := hE.x41
  go_wp2_with fail
  refine (sA J I _ false ha').mono ?_
  rintro e w5 ⟨rfl, hb5⟩
  replace hE := hE.below hb5
  clear i40 i41
  have i40 := hE.x40
  have i41 := hE.x41
  clear i40 i41
  have i30 := hE.x30
  have i31 := hE.x31
  have i32 := hE.x32
  go_wp2_with fail
  refine (sOk hE.m true ho').mono ?_
  rintro e wh ⟨rfl, hbh⟩
  replace hE := hE.below hbh
  clear i30 i31 i32 hbh
  have i30 := hE.x30
  have i31 := hE.x31
  have i32 := hE.x32
  have hlen := Aside0.mk (okM_len ho)
  obtain ⟨ga, ca, ea, _⟩ := Kd.R_form hE.m.1 (by have := hlen.out.1; omega)
  injection ea with e1_ _ e2_
  subst e1_ e2_
  clear i30
  have i30 := hE.x30
  go_upto_region 17 with (fail)
  have n7 := heap_alloc_new wh (Obj.cells #[.slice (some ⟨ga, 0, none⟩) a.length c0, .slice A1 b.length c1, .slice A2 c.length c2] 25)
  have v7 : w.heap.size ≤ wh.heap.size ∧ g3 < wh.heap.size ∧ g4 < wh.heap.size := ⟨hE.bel.size, blk_lt hE.h3, blk_lt hE.h4⟩
  replace hE := hE.alloc (Obj.cells #[.slice (some ⟨ga, 0, none⟩) a.length c0, .slice A1 b.length c1, .slice A2 c.length c2] 25)
  clear i30 i31 i32
  generalize wh.alloc (Obj.cells _ 25) = wi at n7 hE ⊢
  generalize wh.heap.size = g7 at n7 v7 ⊢
  have i32 := hE.x32
  have hu23 := Tryd.underlying23
  have o0 := Kd.R_lt hE.m.1
  have o1 := Kd.R_lt hE.m.2.1
  have o2 := Kd.R_lt hE.m.2.2
  have l3 := blk_lt hE.h3
  have l4 := blk_lt hE.h4
  have l7 := blk_lt n7
  have lw := hE.bel.size
  go_upto_region 18 with (first | ((with_reducible refine gate_dst (N := 59) rfl ?_); refine Kd.R_lit (Kd.int .i64) _ 3 ?hg (N := 59) ?hd (xs := ([] : List Int)) (inner := []) (ok := fun _ => True) (okp := fun _ => True) ?hr ?hp (fun _ hk => hk) trivial (Below.refl _ _) (Nat.le_refl _) (by simp) ?_; (case hd => rfl); (case hg => rfl); (case hr => first | (go_simp; done) | (go_simp; rfl)); (case hp => exact (Reps.none _ _)); intro v1 wv1 ho1 hbv1 hg1 hn1; clear hg1 hn1; have i32b := (hE.below hbv1).x32) | ((with_reducible refine gate_dst (N := 62) rfl ?_); refine Kd.R_append_rows (Kd.int .i64) (w0 := wi) wi.heap.size (by rfl) (.tmp 59) (.tmp 61) 23 3 (.int .i64 0) 8 rfl Tryd.underlying23 info3 rfl (by decide) (by omega) v1 [] c _ _ _ (fun _ => True) (fun _ => False) rfl rfl ho1 (Kd.C_below (Kd.R_reads' hE.m.2.2).2.2 hbv1) (fun _ _ h => h) (fun _ h => h.elim) (fun _ _ => trivial) hbv1 (below_size hbv1) (by have := hlen.out.2.2; simp; omega) ?_; intro v2 wv2 ho2 hbv2 hg2 hat2; clear hg2 hat2; replace ho2 : Kd.R (Kd.int .i64) 3 wv2 wi.heap.size (fun _ => True) v2 c := ho2; obtain ⟨gv, cv, rfl, gb, gl, cl, hgv⟩ := Kd.R_form ho2 (by have := hlen.out.2.2; omega); rw [hlen.out.2.2] at ho2 ⊢; have n7b := blk_below n7 hbv2; have i72 : wv2.cell? ⟨g7, 2, none⟩ = some (.slice A2 c.length c2) := (blk_cell n7b 2).trans rfl; have j72 := blk_frozen n7b 2))
  have ht25 : ∀ q, q ∈ 3 :: (Kd.int .i64).E → q ≠ 25 := by
    intro q hq
    rcases List.mem_cons.1 hq with rfl | h
    · decide
    · exact absurd (show q ∈ ([] : List Nat) from h) (by simp)
  have hE2 := (hE.below hbv2).far n7b (by decide) v7.2.1 v7.2.2 v7.1 2 (.slice (some ⟨gv, 0, none⟩) 6 cv)
  have n7c := blk_put n7b 2 (.slice (some ⟨gv, 0, none⟩) 6 cv) rfl
  have hv3 := Kd.R_set ho2 n7b ht25 2 (.slice (some ⟨gv, 0, none⟩) 6 cv)
  replace n7c : (wv2.setCell ⟨g7, 2, none⟩ (.slice (some ⟨gv, 0, none⟩) 6 cv)).heap[g7]? = some (.cells #[.slice (some ⟨ga, 0, none⟩) a.length c0, .slice A1 b.length c1, .slice (some ⟨gv, 0, none⟩) 6 cv] 25 (0, 0)) := n7c
  clear ho2 i72 j72 n7b i32 i32b ho1
  generalize wv2.setCell _ _ = wj at hE2 n7c hv3 ⊢
  have i72 : wj.cell? ⟨g7, 2, none⟩ = some (.slice (some ⟨gv, 0, none⟩) 6 cv) := (blk_cell n7c 2).trans rfl
  obtain ⟨hx, hf⟩ := Kd.R_celln 0 hv3 (5 : Int) (by decide) (by decide)
  have hx5 : wj.cell? ⟨gv, 5, none⟩ = some (.int .i64 (rdOf 0 c 5)) := hx
  have hf5 : wj.frozen? ⟨gv, 5, none⟩ = false := hf
  clear hx hf
  go_upto_region 19 with (fail)
  have hv4 : Kd.R (Kd.int .i64) 3 (wj.setCell ⟨gv, 5, none⟩ (.int .i64 (-1000001))) wi.heap.size (fun _ => True) (.slice (some ⟨gv, 0, none⟩) 6 cv) (c.set 5 (-1000001)) := Kd.R_putn hv3 5 (-1000001)
  have hE3 := hE2.own wi.heap.size o0 o1 o2 l3 l4 lw gb (j := 5) (.int .i64 (-1000001))
  have n7d := blk_far n7c (p := ⟨gv, 5, none⟩) (by simp; omega) (.int .i64 (-1000001))
  clear hx5 hf5 i72 hv3 hE2 n7c
  generalize wj.setCell _ _ = wk at hE3 n7d hv4 ⊢
  have i30 := hE3.x30
  have i31 := hE3.x31
  have i32 := hE3.x32
  go_upto_region 20 with (fail)
  have n8 := heap_alloc_new wk (Obj.cells #[.slice (some ⟨ga, 0, none⟩) a.length c0, .slice A1 b.length c1, .slice A2 c.length c2] 25)
  have v8 : w.heap.size ≤ wk.heap.size ∧ g3 < wk.heap.size ∧ g4 < wk.heap.size := ⟨hE3.bel.size, blk_lt hE3.h3, blk_lt hE3.h4⟩
  have w78 := blk_lt n7d
  have hE4 := hE3.alloc (Obj.cells #[.slice (some ⟨ga, 0, none⟩) a.length c0, .slice A1 b.length c1, .slice A2 c.length c2] 25)
  have n7e := blk_alloc n7d (Obj.cells #[.slice (some ⟨ga, 0, none⟩) a.length c0, .slice A1 b.length c1, .slice A2 c.length c2] 25)
  have hv5 := Kd.R_alloc hv4 (Obj.cells #[.slice (some ⟨ga, 0, none⟩) a.length c0, .slice A1 b.length c1, .slice A2 c.length c2] 25)
  clear hE3 n7d hv4 i30 i31 i32
  generalize wk.alloc (Obj.cells _ 25) = wl at n8 hE4 n7e hv5 ⊢
  generalize wk.heap.size = g8 at n8 v8 w78 ⊢
  have i30 := hE4.x30
  have i80 : wl.cell? ⟨g8, 0, none⟩ = some (.slice (some ⟨ga, 0, none⟩) a.length c0) := (blk_cell n8 0).trans rfl
  have j80 := blk_frozen n8 0
  have la := hlen.out.1
  have nc : (c0 = 1) = False := eq_false (by have := (Kd.R_reads' hE4.m.1).2.1; omega)
  go_upto_region 21 with (fail)
  have n8b := blk_put n8 0 (.slice (some ⟨ga, 1, none⟩) 5 (c0 - 1)) rfl
  have hE5 := hE4.far n8 (by decide) v8.2.1 v8.2.2 v8.1 0 (.slice (some ⟨ga, 1, none⟩) 5 (c0 - 1))
  have hv6 := Kd.R_set hv5 n8 ht25 0 (.slice (some ⟨ga, 1, none⟩) 5 (c0 - 1))
  have n7f := blk_far n7e (p := ⟨g8, 0, none⟩) (Nat.ne_of_lt w78) (.slice (some ⟨ga, 1, none⟩) 5 (c0 - 1))
  replace n8b : (wl.setCell ⟨g8, 0, none⟩ (.slice (some ⟨ga, 1, none⟩) 5 (c0 - 1))).heap[g8]? = some (.cells #[.slice (some ⟨ga, 1, none⟩) 5 (c0 - 1), .slice A1 b.length c1, .slice A2 c.length c2] 25 (0, 0)) := n8b
  clear la nc n8 hE4 hv5 n7e i30 i80 j80
  generalize wl.setCell _ _ = wm at n8b hE5 hv6 n7f ⊢
  have hl6 : (c.set 5 (-1000001)).length = 6 := by rw [List.length_set]; exact hlen.out.2.2
  have bad : Hm.okM a b (c.set 5 (-1000001)) = false := by
    have : Hm.okL (c.set 5 (-1000001)) = false := by
      obtain ⟨_, _, lc⟩ := hlen.out
      match c, lc with
      | [x0, x1, x2, x3, x4, x5], _ => simp [Hm.okL, Hm.isN]
    unfold Hm.okM; rw [this]; simp
  have i70 : wm.cell? ⟨g7, 0, none⟩ = some (.slice (some ⟨ga, 0, none⟩) a.length c0) := (blk_cell n7f 0).trans rfl
  have i71 : wm.cell? ⟨g7, 1, none⟩ = some (.slice A1 b.length c1) := (blk_cell n7f 1).trans rfl
  have i72 : wm.cell? ⟨g7, 2, none⟩ = some (.slice (some ⟨gv, 0, none⟩) 6 cv) := (blk_cell n7f 2).trans rfl
  go_wp2_with fail
  refine (mOkV hE5.m.1 hE5.m.2.1 hv6 hl6 false bad).mono ?_
  rintro e wn ⟨rfl, hbn⟩
  replace hE5 := hE5.below hbn
  replace n8b := blk_below n8b hbn
  clear i70 i71 i72 hbn hv6 n7f
  have i80 : wn.cell? ⟨g8, 0, none⟩ = some (.slice (some ⟨ga, 1, none⟩) 5 (c0 - 1)) := (blk_cell n8b 0).trans rfl
  have i81 : wn.cell? ⟨g8, 1, none⟩ = some (.slice A1 b.length c1) := (blk_cell n8b 1).trans rfl
  have i82 : wn.cell? ⟨g8, 2, none⟩ = some (.slice A2 c.length c2) := (blk_cell n8b 2).trans rfl
  go_wp2_with fail
  refine (mOkD hE5.m hlen.out.1).mono ?_
  rintro e wo ⟨rfl, hbo⟩
  have hE6 := hE5.below hbo
  go_wp2
  go_ret
  exact ⟨rfl, hE6.bel⟩
set_option maxRecDepth 100000 in
set_option maxHeartbeats 25600000 in
theorem main_false_false (A : Option Addr) (cc : Nat) (l a b c : List Int) (J I : Int) (k k' : Nat) (w : World) (hl : ¬ (l.length : Int) > 1048576)
    (hr : Kd.C (Kd.int .u8) w A l.length l) (hc : l.length ≤ cc) (hd : spec_DrawMemOk.f k l = some (a, b, c)) (hd' : spec_DrawAddrOk.f k' l = some (J, I))
    (ho : Hm.okM a b c = false) (ho' : spec_MemOk.f 20 a b c = some false) (ha : Hn.aOk J I = false) (ha' : spec_AddrOk.f J I = some false) :
    Calls Tryd.prog 3 #[.slice A l.length cc] w fun e w' => e = .returned (.bool true) ∧ Below w.heap.size w w' := by
  have t1 : decide (1048576 < (l.length : Int)) = false := by simpa using hl
  have g1 := draw5 k A cc l a b c w hr hc hd
  have g2 := fun W hW => spec_DrawAddrOk.calls k' A cc l J I W hW hc hd'
  clear hl hd hd' hc
  have hu25 := Tryd.underlying25
  have hu28 := Tryd.underlying28
  go_enter Tryd.func3, Tryd.ntmps3
  go_wp2_with fail
  refine g1.mono ?_
  rintro e w1 ⟨A0, A1, A2, c0, c1, c2, rfl, hm, hb1⟩
  clear g1
  go_wp2_with fail
  have q0 : (w1.alloc (Obj.cells #[.slice A0 a.length c0, .slice A1 b.length c1, .slice A2 c.length c2] 25)).heap.size = w1.heap.size + 1 := Hm.alloc_size _ _
  have k3 : (w1.alloc (Obj.cells #[.slice A0 a.length c0, .slice A1 b.length c1, .slice A2 c.length c2] 25)).heap[w1.heap.size]? = some (.cells #[.slice A0 a.length c0, .slice A1 b.length c1, .slice A2 c.length c2] 25 (0, 0)) := heap_alloc_new _ _
  have kb : Below w.heap.size w (w1.alloc (Obj.cells #[.slice A0 a.length c0, .slice A1 b.length c1, .slice A2 c.length c2] 25)) := hb1.alloc hb1.size _
  have km := hm.alloc (Obj.cells #[.slice A0 a.length c0, .slice A1 b.length c1, .slice A2 c.length c2] 25)
  generalize w1.alloc (Obj.cells _ 25) = w2 at k3 kb km q0 ⊢
  have h3 : w.heap.size ≤ w1.heap.size := hb1.size
  obtain ⟨g3, hg3⟩ : ∃ g, w1.heap.size = g := ⟨_, rfl⟩
  rw [hg3] at k3 h3 q0 ⊢
  clear hm hb1 hg3
  refine (g2 _ (Kd.C_below hr kb)).mono ?_
  rintro e w3 ⟨rfl, hb3⟩
  have m3 := blk_below k3 hb3
  have mm := km.below hb3
  have mb := kb.trans (hb3.mono kb.size)
  clear g2 k3 km kb hb3 hr q0
  go_wp2_with fail
  have hE : E2 w g3 w3.heap.size A0 A1 A2 c0 c1 c2 a b c J I (w3.alloc (Obj.cells #[.int .i64 J, .int .i64 I] 28)) := ⟨blk_alloc m3 _, heap_alloc_new _ _, mm.alloc _, mb.alloc mb.size _⟩
  have hgl : g3 < w3.heap.size := blk_lt m3
  generalize w3.alloc (Obj.cells _ 28) = w4 at hE ⊢
  generalize w3.heap.size = g4 at hE hgl ⊢
  clear m3 mm mb
  have hE0 := hE.drew
  have nk : ∀ t : Bool, (t != t) = false := fun t => by cases t <;> rfl
  refine start_ (n := 12) (S := fun w' => w'.cell? ⟨g3, 0, none⟩ = some (.slice A0 a.length c0) ∧ w'.cell? ⟨g3, 1, none⟩ = some (.slice A1 b.length c1) ∧ w'.cell? ⟨g3, 2, none⟩ = some (.slice A2 c.length c2) ∧ w'.cell? ⟨g4, 0, none⟩ = some (.int .i64 J) ∧ w'.cell? ⟨g4, 1, none⟩ = some (.int .i64 I) ∧ E2 w g3 g4 A0 A1 A2 c0 c1 c2 a b c J I w') (ds := []) #[false, false, false, false, false, false, false, false, false, false, false, false] (by kernel_rfl) rfl rfl ⟨hE0.x30, hE0.x31, hE0.x32, hE0.x40, hE0.x41, hE0⟩ (fun hHeld => ?_)
  refine take_ (i := 0) (N := some 16) (v := ?_) (a' := ?_) #[true, false, false, false, false, false, false, false, false, false, false, false] rfl rfl (by kernel_rfl) (fun _ _ _ h => h) (Or.inl ⟨by rfl, ?_⟩) hHeld ?_ ?_
  rotate_left
  · rintro w' ⟨s0, s1, s2, s3, s4, s5⟩
    go_simp
    with_reducible rfl
  rotate_left
  · simp only [Act.put, List.setIfInBounds_toArray, List.set_cons_zero, List.set_cons_succ, i64_w, i32_w]
    rfl
  refine take_ (i := 2) (N := some 18) (v := ?_) (a' := ?_) #[true, false, true, false, false, false, false, false, false, false, false, false] rfl rfl (by kernel_rfl) (fun _ _ _ h => h) (Or.inl ⟨by rfl, ?_⟩) hHeld ?_ ?_
  rotate_left
  · rintro w' ⟨s0, s1, s2, s3, s4, s5⟩
    go_simp
    with_reducible rfl
  rotate_left
  · simp only [Act.put, List.setIfInBounds_toArray, List.set_cons_zero, List.set_cons_succ, i64_w, i32_w]
    rfl
  refine one_ (i := 1) (N := some 17) #[true, true, true, false, false, false, false, false, false, false, false, false] rfl rfl (by kernel_rfl) (by decide) (fun K hK => ?_)
  refine goes_ Tryd.func7 (by kernel_rfl) rfl #[.agg #[.slice A0 a.length c0, .slice A1 b.length c1, .slice A2 c.length c2]] (by rfl) rfl rfl (by simp only [List.map_toArray, List.map_cons, List.map_nil]; rfl) ?_
  with_reducible refine (mOk hHeld.2.2.2.2.2.m false ho).mono ?_
  rintro e wa ⟨rfl, hba⟩
  refine ⟨_, rfl, ?_⟩
  have waN := hHeld.2.2.2.2.2.below hba
  refine hK.out _ _ ⟨waN.x30, waN.x31, waN.x32, waN.x40, waN.x41, waN⟩ (fun hHeld => ?_)
  clear hK K
  refine norm_ (a' := ?_) ?_ ?_
  rotate_left
  · show Act.put _ (some 17) _ = _
    simp only [Act.put, List.setIfInBounds_toArray, List.set_cons_zero, List.set_cons_succ, i64_w, i32_w]
    rfl
  refine one_ (i := 3) (N := some 19) #[true, true, true, true, false, false, false, false, false, false, false, false] rfl rfl (by kernel_rfl) (by decide) (fun K hK => ?_)
  refine goes_ Tryd.func8 (by kernel_rfl) rfl #[.agg #[.slice A0 a.length c0, .slice A1 b.length c1, .slice A2 c.length c2]] (by rfl) rfl rfl (by simp only [List.map_toArray, List.map_cons, List.map_nil]; rfl) ?_
  with_reducible refine (sOk hHeld.2.2.2.2.2.m false ho').mono ?_
  rintro e wb ⟨rfl, hbb⟩
  refine ⟨_, rfl, ?_⟩
  have wbN := hHeld.2.2.2.2.2.below hbb
  refine hK.out _ _ ⟨wbN.x30, wbN.x31, wbN.x32, wbN.x40, wbN.x41, wbN⟩ (fun hHeld => ?_)
  clear hK K
  refine norm_ (a' := ?_) ?_ ?_
  rotate_left
  · show Act.put _ (some 19) _ = _
    simp only [Act.put, List.setIfInBounds_toArray, List.set_cons_zero, List.set_cons_succ, i64_w, i32_w]
    rfl
  refine pure_ (i := 4) (N := some 20) (v := ?_) (a' := ?_) #[true, true, true, true, true, false, false, false, false, false, false, false] rfl rfl (by kernel_rfl) (fun _ _ _ h => h) (Or.inl ⟨by rfl, ?_⟩) ?_ ?_
  rotate_left
  · intro w'
    go_simp
    with_reducible rfl
  rotate_left
  · simp only [Act.put, List.setIfInBounds_toArray, List.set_cons_zero, List.set_cons_succ, i64_w, i32_w]
    rfl
  refine pure_ (i := 5) (N := some 21) (v := ?_) (a' := ?_) #[true, true, true, true, true, true, false, false, false, false, false, false] rfl rfl (by kernel_rfl) (fun _ _ _ h => h) (Or.inl ⟨by rfl, ?_⟩) ?_ ?_
  rotate_left
  · intro w'
    go_simp
    with_reducible rfl
  rotate_left
  · simp only [Act.put, List.setIfInBounds_toArray, List.set_cons_zero, List.set_cons_succ, i64_w, i32_w]
    rfl
  refine take_ (i := 6) (N := some 22) (v := ?_) (a' := ?_) #[true, true, true, true, true, true, true, false, false, false, false, false] rfl rfl (by kernel_rfl) (fun _ _ _ h => h) (Or.inl ⟨by rfl, ?_⟩) hHeld ?_ ?_
  rotate_left
  · rintro w' ⟨s0, s1, s2, s3, s4, s5⟩
    go_simp
    with_reducible rfl
  rotate_left
  · simp only [Act.put, List.setIfInBounds_toArray, List.set_cons_zero, List.set_cons_succ, i64_w, i32_w]
    rfl
  refine take_ (i := 8) (N := some 24) (v := ?_) (a' := ?_) #[true, true, true, true, true, true, true, false, true, false, false, false] rfl rfl (by kernel_rfl) (fun _ _ _ h => h) (Or.inl ⟨by rfl, ?_⟩) hHeld ?_ ?_
  rotate_left
  · rintro w' ⟨s0, s1, s2, s3, s4, s5⟩
    go_simp
    with_reducible rfl
  rotate_left
  · simp only [Act.put, List.setIfInBounds_toArray, List.set_cons_zero, List.set_cons_succ, i64_w, i32_w]
    rfl
  refine one_ (i := 7) (N := some 23) #[true, true, true, true, true, true, true, true, true, false, false, false] rfl rfl (by kernel_rfl) (by decide) (fun K hK => ?_)
  refine goes_ Tryd.func9 (by kernel_rfl) rfl #[.agg #[.int .i64 J, .int .i64 I]] (by rfl) rfl rfl (by simp only [List.map_toArray, List.map_cons, List.map_nil]; rfl) ?_
  with_reducible refine (iA J I _ false ha).mono ?_
  rintro e wc ⟨rfl, hbc⟩
  refine ⟨_, rfl, ?_⟩
  have wcN := hHeld.2.2.2.2.2.below hbc
  refine hK.out _ _ ⟨wcN.x30, wcN.x31, wcN.x32, wcN.x40, wcN.x41, wcN⟩ (fun hHeld => ?_)
  clear hK K
  refine norm_ (a' := ?_) ?_ ?_
  rotate_left
  · show Act.put _ (some 23) _ = _
    simp only [Act.put, List.setIfInBounds_toArray, List.set_cons_zero, List.set_cons_succ, i64_w, i32_w]
    rfl
  refine one_ (i := 9) (N := some 25) #[true, true, true, true, true, true, true, true, true, true, false, false] rfl rfl (by kernel_rfl) (by decide) (fun K hK => ?_)
  refine goes_ Tryd.func10 (by kernel_rfl) rfl #[.agg #[.int .i64 J, .int .i64 I]] (by rfl) rfl rfl (by simp only [List.map_toArray, List.map_cons, List.map_nil]; rfl) ?_
  with_reducible refine (sA J I _ false ha').mono ?_
  rintro e wd ⟨rfl, hbd⟩
  refine ⟨_, rfl, ?_⟩
  have wdN := hHeld.2.2.2.2.2.below hbd
  refine hK.out _ _ ⟨wdN.x30, wdN.x31, wdN.x32, wdN.x40, wdN.x41, wdN⟩ (fun hHeld => ?_)
  clear hK K
  refine norm_ (a' := ?_) ?_ ?_
  rotate_left
  · show Act.put _ (some 25) _ = _
    simp only [Act.put, List.setIfInBounds_toArray, List.set_cons_zero, List.set_cons_succ, i64_w, i32_w]
    rfl
  refine pure_ (i := 10) (N := some 26) (v := ?_) (a' := ?_) #[true, true, true, true, true, true, true, true, true, true, true, false] rfl rfl (by kernel_rfl) (fun _ _ _ h => h) (Or.inl ⟨by rfl, ?_⟩) ?_ ?_
  rotate_left
  · intro w'
    go_simp
    with_reducible rfl
  rotate_left
  · simp only [Act.put, List.setIfInBounds_toArray, List.set_cons_zero, List.set_cons_succ, i64_w, i32_w]
    rfl
  refine pure_ (i := 11) (N := some 27) (v := ?_) (a' := ?_) #[true, true, true, true, true, true, true, true, true, true, true, true] rfl rfl (by kernel_rfl) (fun _ _ _ h => h) (Or.inl ⟨by rfl, ?_⟩) ?_ ?_
  rotate_left
  · intro w'
    go_simp
    with_reducible rfl
  rotate_left
  · simp only [Act.put, List.setIfInBounds_toArray, List.set_cons_zero, List.set_cons_succ, i64_w, i32_w]
    rfl
  refine done_ (by kernel_rfl) ?_
  have hE := hHeld.2.2.2.2.2
  clear hHeld hE0
  have i40 := hE.x40
  have i41 := hE.x41
  go_wp2_with fail
  refine (sA J I _ false ha').mono ?_
  rintro e w5 ⟨rfl, hb5⟩
  replace hE := hE.below hb5
  clear i40 i41
  have i40 := hE.x40
  have i41 := hE.x41
  clear i40 i41
  have i30 := hE.x30
  have i31 := hE.x31
  have i32 := hE.x32
  go_wp2_with fail
  refine (sOk hE.m false ho').mono ?_
  rintro e wh ⟨rfl, hbh⟩
  replace hE := hE.below hbh
  clear i30 i31 i32 hbh
  have i30 := hE.x30
  have i31 := hE.x31
  have i32 := hE.x32
  have gz : Hn.gM a b c 3 0 = 0 := by unfold Hn.gM; rw [ho]; rfl
  go_wp2_with fail
  refine (mG hE.m gz).mono ?_
  rintro e wk ⟨rfl, hbk⟩
  replace hE := hE.below hbk
  go_wp2
  go_ret
  exact ⟨rfl, hE.bel⟩
theorem drawOk_some {l : List Int} (h : Byt l) (k : Nat) : ∃ a b c, spec_DrawMemOk.f (k + 6) l = some (a, b, c) ∧ a.length ≤ 7 ∧ b.length ≤ 7 ∧ c.length ≤ 7 := by
  obtain ⟨l', ho, h'⟩ := open_some h
  unfold spec_DrawMemOk.f
  rw [ho]; simp only [Option.bind_some]
  obtain ⟨a, b, c, hm, q⟩ := memBent_some h' k 0 (by omega) (by omega)
  rw [hm]; simp only [Option.bind_some]
  exact ⟨a, b, c, rfl, q⟩
theorem drawAddr_some {l : List Int} (h : Byt l) (k : Nat) : ∃ J I, spec_DrawAddrOk.f (k + 1) l = some (J, I) := by
  obtain ⟨l', ho, h'⟩ := open_some h
  unfold spec_DrawAddrOk.f
  rw [ho]; simp only [Option.bind_some]
  obtain ⟨j, i, p, ha, _, _⟩ := addrBent_some h' k 0 (by omega) (by omega)
  rw [ha]; simp only [Option.bind_some]
  exact ⟨j, i, rfl⟩
set_option maxRecDepth 100000 in
theorem all (A : Option Addr) (cc : Nat) (l : List Int) (w : World) (hr : Kd.C (Kd.int .u8) w A l.length l) (hc : l.length ≤ cc) (hb : Byt l) :
    Calls Tryd.prog 3 #[.slice A l.length cc] w fun e w' => e = .returned (.bool true) ∧ Below w.heap.size w w' := by
  by_cases h0 : (l.length : Int) > 1048576
  · have t1 : decide (1048576 < (l.length : Int)) = true := by simpa using h0
    clear h0
    go_enter Tryd.func3, Tryd.ntmps3
    go_wp2
    go_ret
    exact ⟨rfl, Below.refl _ _⟩
  obtain ⟨a, b, c, hd, la, lb, lc⟩ := drawOk_some hb 0
  obtain ⟨J, I, hd'⟩ := drawAddr_some hb 0
  have so := specOk_some a b c (by omega) (by omega) (by omega) 20 (by omega) (by omega) (by omega)
  have sa := addr_some J I
  cases hA : Hn.aOk J I with
  | true =>
    rw [hA] at sa
    cases hO : Hm.okM a b c with
    | true => rw [hO] at so; exact main_true_true A cc l a b c J I _ _ w h0 hr hc hd hd' hO so hA sa
    | false => rw [hO] at so; exact main_true_false A cc l a b c J I _ _ w h0 hr hc hd hd' hO so hA sa
  | false =>
    rw [hA] at sa
    cases hO : Hm.okM a b c with
    | true => rw [hO] at so; exact main_false_true A cc l a b c J I _ _ w h0 hr hc hd hd' hO so hA sa
    | false => rw [hO] at so; exact main_false_false A cc l a b c J I _ _ w h0 hr hc hd hd' hO so hA sa
theorem walk (a0 : Option Addr) (len0 cap0 : Nat) (z0 : List Int) (w : World) (w0 : (a0 = none ∧ len0 = 0 ∧ cap0 = 0 ∧ z0 = []) ∨ ∃ x, a0 = some x ∧ len0 ≤ cap0 ∧ cap0 ≤ maxLen ∧ z0.length = cap0 ∧ (∀ i, i < z0.length → w.cell? (x.add i) = some (.int .u8 (z0.getD i 0))) ∧ ∀ n ∈ z0, (Lit.int .u8 n).wf = true) (y0 : len0 * 1 ≤ 140737488351232) :
    Calls Tryd.prog 3 #[.slice a0 len0 cap0] w fun e w' => e = .returned (.bool true) ∧ Below w.heap.size w w' := by
  obtain ⟨l0, rfl, hr0, hm0, hw0, hc0⟩ := ReadsInt.ofRowC w0
  exact all a0 cap0 l0 w (Kd.C_of_reads (d := (0 : Int)) (h1 := fun _ => rfl) hr0) hc0 (byt_of hw0)
end Go.Proofs.YtlgogdpnakbhiaaDoor.MyFnMemBent
