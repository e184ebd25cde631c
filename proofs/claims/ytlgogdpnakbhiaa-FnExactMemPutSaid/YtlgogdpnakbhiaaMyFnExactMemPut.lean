/- The walk of the law FnExactMemPut: every call of it answers true for memories that its sizes let in. No condition. -/
import Derived.Test.YtlgogdpnakbhiaaHFnExactMemPutx0
import Derived.Test.YtlgogdpnakbhiaaHFnExactMemPutx1
import Derived.Test.YtlgogdpnakbhiaaHFnExactMemPutx2
import Derived.Test.YtlgogdpnakbhiaaHFnExactMemPutx4
import Derived.WalkKit
import Derived.KernelRfl
import Derived.WalkLawsBesides
import Derived.WalkSpells
import Derived.Below
import Derived.Deep.RegionHeld
namespace Go.Proofs.Ytlgogdpnakbhiaa.MyFnExactMemPut
open Go.RowKit Go.Proofs.Ytlgogdpnakbhiaa.HFnExactMemPut Go.Proofs.YtlgogdpnakbhiaaW.PrintWords Go.Proofs.YtlgogdpnakbhiaaW.PrintLast Go.Proofs.YtlgogdpnakbhiaaW.PrintMore
set_option linter.unusedVariables false
set_option linter.unusedSimpArgs false
theorem wrap_id {x : Int} (h1 : -9223372036854775808 ≤ x) (h2 : x ≤ 9223372036854775807) : wrap64 x = x := by
  unfold wrap64; omega
theorem rdI (l : List Int) (i : Nat) (h : i < l.length) : rd l (i : Int) = l[i] := by
  unfold rd; rw [Int.toNat_natCast, List.getD_eq_getElem?_getD, List.getElem?_eq_getElem h]; rfl
theorem cut_some (n : Int) : spec_NumCut.f n = some (Hq.cut n) := by
  unfold spec_NumCut.f spec_l1Min.f spec_l1Max.f Hq.cut mn mx
  (repeat' split) <;> simp only [Option.bind_some] <;> (repeat' split) <;> simp only [Option.some.injEq, Option.bind_some] <;> omega
theorem cut_isN (n : Int) : Hm.isN (Hq.cut n) = true := by
  have e : Hq.cut n = if n < -1000000 then -1000000 else if 1000000 < n then 1000000 else n := by unfold Hq.cut mn mx; (repeat' split) <;> omega
  have e2 : Hm.isN (Hq.cut n) = true ↔ (-1000000 ≤ Hq.cut n ∧ Hq.cut n ≤ 1000000) := by simp [Hm.isN]
  rw [e2, e]
  (repeat' split) <;> constructor <;> omega
theorem cut_same (n : Int) : Hq.cut n = n ↔ Hm.isN n = true := by
  have e : Hq.cut n = if n < -1000000 then -1000000 else if 1000000 < n then 1000000 else n := by unfold Hq.cut mn mx; (repeat' split) <;> omega
  have e2 : Hm.isN n = true ↔ (-1000000 ≤ n ∧ n ≤ 1000000) := by simp [Hm.isN]
  rw [e, e2]
  (repeat' split) <;> constructor <;> intros <;> omega
theorem list_loop (x : List Int) (hx : x.length ≤ 1048576) (d : Nat) : ∀ (k i : Nat), i + d = x.length → d < k → spec_l2List.l0 k x (i : Int) = some (decide (x.length = 6) && (x.drop i).all Hm.isN) ∨ (∃ b, spec_l2List.l0 k x (i : Int) = some false ∧ (x.drop i).all Hm.isN = b ∧ b = false) := by
  induction d with
  | zero =>
    intro k i hi hk
    obtain ⟨k, rfl⟩ : ∃ m, k = m + 1 := ⟨k - 1, by omega⟩
    simp only [spec_l2List.l0]
    rw [if_neg (by omega), List.drop_eq_nil_of_le (by omega)]
    left
    by_cases h : x.length = 6
    · simp [h]
    · have : ((x.length : Int) == 6) = false := by simp; omega
      rw [this]; simp [h]
  | succ d ih =>
    intro k i hi hk
    obtain ⟨k, rfl⟩ : ∃ m, k = m + 1 := ⟨k - 1, by omega⟩
    have hil : i < x.length := by omega
    simp only [spec_l2List.l0]
    rw [if_pos (by omega), if_pos (by omega), rdI x i hil, cut_some]
    simp only [Option.bind_some]
    rw [List.drop_eq_getElem_cons hil, List.all_cons]
    by_cases h : Hq.cut x[i] = x[i]
    · rw [if_pos h, (cut_same _).1 h, Bool.true_and, wrap_id (by omega) (by omega)]
      exact ih k (i + 1) (by omega) (by omega)
    · have hn : Hm.isN x[i] = false := by
        cases hq : Hm.isN x[i] with
        | false => rfl
        | true => exact absurd ((cut_same _).2 hq) h
      rw [if_neg h, hn]; right; exact ⟨false, rfl, by simp, rfl⟩
theorem list_some (x : List Int) (hx : x.length ≤ 1048576) (k : Nat) (hk : x.length < k) : spec_l2List.f k x = some (Hm.okL x) := by
  unfold spec_l2List.f Hm.okL
  rcases list_loop x hx x.length k 0 (by omega) (by omega) with h | ⟨b, h, h2, h3⟩
  · exact h
  · subst h3
    simp only [List.drop_zero] at h2
    rw [h2, Bool.and_false]; exact h
theorem specOk_some (a b c : List Int) (ha : a.length ≤ 1048576) (hb : b.length ≤ 1048576) (hc : c.length ≤ 1048576) (k : Nat) (ka : a.length < k) (kb : b.length < k) (kc : c.length < k) : spec_MemOk.f k a b c = some (Hm.okM a b c) := by
  unfold spec_MemOk.f Hm.okM
  rw [list_some a ha k ka, list_some b hb k kb, list_some c hc k kc]; simp only [Option.bind_some]
  cases Hm.okL a <;> cases Hm.okL b <;> rfl
theorem addr_some (k i : Int) : spec_AddrOk.f k i = some (Hn.aOk k i) := by
  unfold spec_AddrOk.f Hn.aOk
  by_cases h1 : k ≥ 1
  · rw [if_pos h1]
    by_cases h2 : k ≤ 3
    · rw [if_pos h2]
      by_cases h3 : i ≥ 0
      · rw [if_pos h3]; simp [h2, (by omega : 1 ≤ k), (by omega : 0 ≤ i)]
      · rw [if_neg h3]; simp [(by omega : ¬ 0 ≤ i)]
    · rw [if_neg h2]; simp [h2]
  · rw [if_neg h1]; simp [(by omega : ¬ 1 ≤ k)]
theorem copy_some (a b c : List Int) (ha : a.length ≤ 1048576) (hb : b.length ≤ 1048576) (hc : c.length ≤ 1048576) : spec_l2Copy.f a b c = some (a, b, c) := by
  unfold spec_l2Copy.f
  simp only [Option.bind_some, List.nil_append, List.length_nil, Nat.zero_add]
  rw [if_pos (by omega), if_pos (by omega), if_pos (by omega)]
theorem specPut_some (a b c : List Int) (j i n : Int) (ha : a.length ≤ 1048576) (hb : b.length ≤ 1048576) (hc : c.length ≤ 1048576) (k : Nat) (ka : a.length < k) (kb : b.length < k) (kc : c.length < k) : spec_MemPut.f k a b c j i n = some (Hq.pL a b c 1 a j i n, Hq.pL a b c 2 b j i n, Hq.pL a b c 3 c j i n) := by
  unfold spec_MemPut.f Hq.pL
  rw [specOk_some a b c ha hb hc k ka kb kc, addr_some, copy_some a b c ha hb hc]
  cases hk : Hm.okM a b c with
  | false => rfl
  | true =>
    obtain ⟨l0, l1, l2⟩ := Hq.okM_len hk
    simp only [Option.bind_some, if_true]
    cases hA : Hn.aOk j i with
    | false =>
      have hp : Hq.pOk j i = false := by simp [Hq.pOk, hA]
      rw [Hq.pT_no hp, Hq.pT_no hp, Hq.pT_no hp]; rfl
    | true =>
      simp only [if_true]
      have hi := hA
      simp only [Hn.aOk, Bool.and_eq_true, decide_eq_true_eq] at hi
      obtain ⟨h1, h2, h3, h4⟩ := hi
      unfold spec_l2Put.f
      rw [cut_some]; simp only [Option.bind_some]
      rcases (by omega : j = 1 ∨ j = 2 ∨ j = 3) with rfl | rfl | rfl
      · rw [if_neg (by omega), if_neg (by omega)]
        have hp : Hq.pOk 1 i = false := by simp [Hq.pOk]
        rw [Hq.pT_no hp, Hq.pT_no hp, Hq.pT_no hp]; rfl
      · rw [if_pos rfl, if_pos h3, if_pos (by omega)]
        have hp : Hq.pOk 2 i = true := by rw [Hq.pOk, hA]; rfl
        simp [Hq.pT, hp]
      · rw [if_neg (by omega), if_pos rfl, if_pos h3, if_pos (by omega)]
        have hp : Hq.pOk 3 i = true := by rw [Hq.pOk, hA]; rfl
        simp [Hq.pT, hp]
theorem pL_len {a b c l : List Int} {j t i n : Int} {m : Nat} (h : l.length ≤ m) : (Hq.pL a b c t l j i n).length ≤ m := by
  unfold Hq.pL; split
  · rw [Hq.pT_len]; exact h
  · simp
theorem toIntS_loop (l : List Int) (hl : l.length ≤ 1048576) (d : Nat) : ∀ (k i : Nat) (x : List Int), i + d = l.length → x.length = l.length → x.take i = l.take i → d < k →
    laws_toIntS.l0 k l x (i : Int) = some l := by
  induction d with
  | zero =>
    intro k i x hi hx ht hk
    obtain ⟨k, rfl⟩ : ∃ m, k = m + 1 := ⟨k - 1, by omega⟩
    simp only [laws_toIntS.l0]
    rw [if_neg (by omega)]
    have e1 : x.take i = x := List.take_of_length_le (by omega)
    have e2 : l.take i = l := List.take_of_length_le (by omega)
    rw [e1, e2] at ht; rw [ht]
  | succ d ih =>
    intro k i x hi hx ht hk
    obtain ⟨k, rfl⟩ : ∃ m, k = m + 1 := ⟨k - 1, by omega⟩
    simp only [laws_toIntS.l0]
    have hil : i < l.length := by omega
    rw [if_pos (by omega), if_pos (by omega), rdI l i hil]
    rw [if_pos (by omega), wrap_id (by omega) (by omega), Int.toNat_natCast]
    have := ih k (i + 1) (x.set i l[i]) (by omega) (by simpa using hx) (by
      rw [List.take_succ_eq_append_getElem (by simpa using (by omega : i < x.length)), List.take_succ_eq_append_getElem hil, ← ht, List.take_set, List.set_eq_of_length_le (by simp; omega)]
      simp) (by omega)
    exact this
theorem toIntS_some (l : List Int) (hl : l.length ≤ 1048576) (k : Nat) (hk : l.length < k) : laws_toIntS.f k l = some l := by
  unfold laws_toIntS.f
  rw [if_pos (by omega), if_pos (by omega)]
  have := toIntS_loop l hl l.length k 0 (List.replicate ((l.length : Int)).toNat 0) (by omega) (by simp) (by simp) hk
  exact this
theorem eqIntS_loop (x : List Int) (hl : x.length ≤ 1048576) (d : Nat) : ∀ (k i : Nat), i + d = x.length → d < k → laws_eqIntS.l0 k x x (i : Int) = some true := by
  induction d with
  | zero =>
    intro k i hi hk
    obtain ⟨k, rfl⟩ : ∃ m, k = m + 1 := ⟨k - 1, by omega⟩
    simp only [laws_eqIntS.l0]
    rw [if_neg (by omega)]
  | succ d ih =>
    intro k i hi hk
    obtain ⟨k, rfl⟩ : ∃ m, k = m + 1 := ⟨k - 1, by omega⟩
    simp only [laws_eqIntS.l0]
    rw [if_pos (by omega), if_pos (by omega), if_pos (by omega)]
    simp only [if_true]
    rw [wrap_id (by omega) (by omega)]
    exact ih k (i + 1) (by omega) (by omega)
theorem eqIntS_self (x : List Int) (hl : x.length ≤ 1048576) (k : Nat) (hk : x.length < k) : laws_eqIntS.f k x x = some true := by
  unfold laws_eqIntS.f
  rw [if_pos rfl]; exact eqIntS_loop x hl x.length k 0 (by omega) hk
theorem szIntS_le (l : List Int) (a r : Int) (ha : 0 ≤ a) (ha2 : a ≤ 1048576) (hl : l.length ≤ 9223372036854775807) (h : laws_szIntS.f l a = some r) : r < 0 ∨ (r = a - (l.length : Int) ∧ (l.length : Int) ≤ a) := by
  unfold laws_szIntS.f at h
  rw [wrap_id (by omega) (by omega)] at h
  split at h <;> simp only [Option.some.injEq] at h <;> omega
theorem szIntS_some (l : List Int) (a : Int) : ∃ r, laws_szIntS.f l a = some r := by
  unfold laws_szIntS.f; split <;> exact ⟨_, rfl⟩
theorem szMem_le (l m o : List Int) (a : Int) (ha : 0 ≤ a) (ha2 : a ≤ 1048576) (hl : l.length ≤ 9223372036854775807) (hm : m.length ≤ 9223372036854775807) (ho : o.length ≤ 9223372036854775807) : ∃ r, laws_szMem.f l m o a = some r ∧ (r < 0 ∨ ((l.length : Int) ≤ a ∧ (m.length : Int) ≤ a ∧ (o.length : Int) ≤ a ∧ r ≤ a)) := by
  unfold laws_szMem.f
  obtain ⟨r0, e0⟩ := szIntS_some l a
  rw [e0]; simp only [Option.bind_some]
  by_cases c0 : r0 < 0
  · rw [if_pos c0]; exact ⟨-1, rfl, Or.inl (by omega)⟩
  rw [if_neg c0]
  have b0 := szIntS_le l a r0 ha ha2 hl e0
  obtain ⟨r1, e1⟩ := szIntS_some m r0
  rw [e1]; simp only [Option.bind_some]
  by_cases c1 : r1 < 0
  · rw [if_pos c1]; exact ⟨-1, rfl, Or.inl (by omega)⟩
  rw [if_neg c1]
  have b1 := szIntS_le m r0 r1 (by omega) (by omega) hm e1
  obtain ⟨r2, e2⟩ := szIntS_some o r1
  rw [e2]; simp only [Option.bind_some]
  by_cases c2 : r2 < 0
  · rw [if_pos c2]; exact ⟨-1, rfl, Or.inl (by omega)⟩
  rw [if_neg c2]
  have b2 := szIntS_le o r1 r2 (by omega) (by omega) ho e2
  exact ⟨r2, rfl, Or.inr (by omega)⟩
theorem toMem_some (l m o : List Int) (hl : l.length ≤ 1048576) (hm : m.length ≤ 1048576) (ho : o.length ≤ 1048576) : laws_toMem.f 5000000 l m o = some (l, m, o) := by
  unfold laws_toMem.f
  rw [toIntS_some l hl _ (by omega), Option.bind_some, toIntS_some m hm _ (by omega), Option.bind_some, toIntS_some o ho _ (by omega), Option.bind_some]
theorem eqMem_self (l m o : List Int) (hl : l.length ≤ 1048576) (hm : m.length ≤ 1048576) (ho : o.length ≤ 1048576) : laws_eqMem.f 5000000 l m o l m o = some true := by
  unfold laws_eqMem.f
  rw [eqIntS_self l hl _ (by omega), Option.bind_some, if_pos rfl, eqIntS_self m hm _ (by omega), Option.bind_some, if_pos rfl, eqIntS_self o ho _ (by omega), Option.bind_some, if_pos rfl]
def up (a : Int) (n : Nat) : List Int := (List.range n).map (fun t : Nat => a + (t : Int))
theorem up_len (a : Int) (n : Nat) : (up a n).length = n := by simp [up]
theorem up_get (a : Int) (n i : Nat) (h : i < n) : rd (up a n) (i : Int) = a + i := by
  rw [rdI _ _ (by rw [up_len]; exact h)]; simp [up]
theorem mark_loop (a : Int) (n : Nat) (ha : 0 ≤ a) (ha2 : a ≤ 100000000) (hn : n ≤ 1048576) (d : Nat) : ∀ (k i : Nat) (x : List Int) (b : Int), i + d = n → x.length = n → x.take i = up a i → b = a + i → d < k → laws_markIntS.l0 k x b (i : Int) = some (a + n, up a n) := by
  induction d with
  | zero =>
    intro k i x b hi hx ht hb hk
    obtain ⟨k, rfl⟩ : ∃ m, k = m + 1 := ⟨k - 1, by omega⟩
    simp only [laws_markIntS.l0]
    rw [if_neg (by omega)]
    have e1 : x.take i = x := List.take_of_length_le (by omega)
    have e2 : i = n := by omega
    rw [e1] at ht
    rw [hb, ht, e2]
  | succ d ih =>
    intro k i x b hi hx ht hb hk
    obtain ⟨k, rfl⟩ : ∃ m, k = m + 1 := ⟨k - 1, by omega⟩
    simp only [laws_markIntS.l0]
    rw [if_pos (by omega), if_pos (by omega), wrap_id (by omega) (by omega), wrap_id (by omega) (by omega), Int.toNat_natCast]
    have hil : i < x.length := by omega
    have := ih k (i + 1) (x.set i b) (b + 1) (by omega) (by simpa using hx) (by
      rw [List.take_succ_eq_append_getElem (by simpa using hil), List.take_set, List.set_eq_of_length_le (by simp; omega), ht]
      simp [up, List.range_succ, hb]) (by omega) (by omega)
    exact this
theorem mark_some (l : List Int) (a : Int) (ha : 0 ≤ a) (ha2 : a ≤ 100000000) (hl : l.length ≤ 1048576) (k : Nat) (hk : l.length < k) : laws_markIntS.f k l a = some (a + l.length, up a l.length) := by
  unfold laws_markIntS.f
  exact mark_loop a l.length ha ha2 hl l.length k 0 l a (by omega) rfl (by simp [up]) (by simp) hk
theorem held_loop (a : Int) (n : Nat) (ha : 0 ≤ a) (ha2 : a ≤ 100000000) (hn : n ≤ 1048576) (d : Nat) : ∀ (k i : Nat) (b : Int), i + d = n → b = a + i → d < k → laws_heldIntS.l0 k (up a n) b (i : Int) = some (a + n) := by
  induction d with
  | zero =>
    intro k i b hi hb hk
    obtain ⟨k, rfl⟩ : ∃ m, k = m + 1 := ⟨k - 1, by omega⟩
    simp only [laws_heldIntS.l0]
    rw [up_len, if_neg (by omega), hb]
    have e2 : i = n := by omega
    rw [e2]
  | succ d ih =>
    intro k i b hi hb hk
    obtain ⟨k, rfl⟩ : ∃ m, k = m + 1 := ⟨k - 1, by omega⟩
    simp only [laws_heldIntS.l0]
    rw [up_len, if_pos (by omega), if_pos (by omega), up_get a n i (by omega), if_pos hb.symm, wrap_id (by omega) (by omega), wrap_id (by omega) (by omega)]
    exact ih k (i + 1) (b + 1) (by omega) (by omega) (by omega)
theorem held_some (a : Int) (n : Nat) (ha : 0 ≤ a) (ha2 : a ≤ 100000000) (hn : n ≤ 1048576) (k : Nat) (hk : n < k) : laws_heldIntS.f k (up a n) a = some (a + n) := by
  unfold laws_heldIntS.f
  exact held_loop a n ha ha2 hn n k 0 a (by omega) (by simp) hk
theorem markMem_some (l m o : List Int) (hl : l.length ≤ 1048576) (hm : m.length ≤ 1048576) (ho : o.length ≤ 1048576) : laws_markMem.f 5000000 l m o 1 = some (1 + (l.length : Int) + m.length + o.length, up 1 l.length, up (1 + l.length) m.length, up (1 + (l.length : Int) + m.length) o.length) := by
  unfold laws_markMem.f
  rw [mark_some l 1 (by omega) (by omega) hl _ (by omega)]; simp only [Option.bind_some]
  rw [mark_some m _ (by omega) (by omega) hm _ (by omega)]; simp only [Option.bind_some]
  rw [mark_some o _ (by omega) (by omega) ho _ (by omega)]; simp only [Option.bind_some]
theorem heldMem_some (a b c : Nat) (ha : a ≤ 1048576) (hb : b ≤ 1048576) (hc : c ≤ 1048576) : laws_heldMem.f 5000000 (up 1 a) (up (1 + a) b) (up (1 + (a : Int) + b) c) 1 = some (1 + (a : Int) + b + c) := by
  unfold laws_heldMem.f
  rw [held_some 1 a (by omega) (by omega) ha _ (by omega)]; simp only [Option.bind_some]
  rw [if_neg (by omega), held_some _ b (by omega) (by omega) hb _ (by omega)]; simp only [Option.bind_some]
  rw [if_neg (by omega), held_some _ c (by omega) (by omega) hc _ (by omega)]; simp only [Option.bind_some]
  rw [if_neg (by omega)]
def R3 (B : Nat) (W : World) (v0 v1 v2 : Value) (a b c : List Int) : Prop := Kd.R (Kd.int .i64) 3 W B (fun _ => True) v0 a ∧ Kd.R (Kd.int .i64) 3 W B (fun _ => True) v1 b ∧ Kd.R (Kd.int .i64) 3 W B (fun _ => True) v2 c
section
variable {B : Nat} {W W' : World} {v0 v1 v2 : Value} {a b c : List Int}
theorem R3.below (h : R3 B W v0 v1 v2 a b c) (hb : Below W.heap.size W W') : R3 B W' v0 v1 v2 a b c := ⟨Kd.R_below h.1 hb, Kd.R_below h.2.1 hb, Kd.R_below h.2.2 hb⟩
theorem R3.drew (h : R3 B W v0 v1 v2 a b c) : R3 B W.drew v0 v1 v2 a b c := h.below (below_drew1 (Below.refl _ _))
theorem R3.alloc (h : R3 B W v0 v1 v2 a b c) (o : Obj) : R3 B (W.alloc o) v0 v1 v2 a b c := h.below ((Below.refl _ _).alloc (Nat.le_refl _) _)
theorem R3.lower {B' : Nat} (h : R3 B W v0 v1 v2 a b c) (hb : B' ≤ B) : R3 B' W v0 v1 v2 a b c := ⟨Kd.R_lower h.1 hb, Kd.R_lower h.2.1 hb, Kd.R_lower h.2.2 hb⟩
theorem R3.of {w : World} (h : Ho.Mem3 w W v0 v1 v2 a b c) : R3 w.heap.size W v0 v1 v2 a b c := ⟨Ho.R_int_ok h.1 (fun _ _ => trivial), Ho.R_int_ok h.2.1 (fun _ _ => trivial), Ho.R_int_ok h.2.2 (fun _ _ => trivial)⟩
theorem R3.set {z j t : Nat} {cells : Array Value} (h : R3 B W v0 v1 v2 a b c) (hz : W.heap[z]? = some (.cells cells t (0, 0))) (ht : t ≠ 3) (u : Value) : R3 B (W.setCell ⟨z, j, none⟩ u) v0 v1 v2 a b c := by
  have h3 : ∀ q, q ∈ 3 :: (Kd.int .i64).E → q ≠ t := by
    intro q hq
    rcases List.mem_cons.1 hq with rfl | h
    · exact fun e => ht e.symm
    · exact absurd (show q ∈ ([] : List Nat) from h) (by simp)
  exact ⟨Kd.R_set h.1 hz h3 j u, Kd.R_set h.2.1 hz h3 j u, Kd.R_set h.2.2 hz h3 j u⟩
end
theorem R3.slices {B : Nat} {W : World} {v0 v1 v2 : Value} {a b c : List Int} (h : R3 B W v0 v1 v2 a b c) : ∃ A0 A1 A2 c0 c1 c2, v0 = .slice A0 a.length c0 ∧ v1 = .slice A1 b.length c1 ∧ v2 = .slice A2 c.length c2 := by
  obtain ⟨A0, c0, rfl, _⟩ := Kd.R_reads h.1
  obtain ⟨A1, c1, rfl, _⟩ := Kd.R_reads h.2.1
  obtain ⟨A2, c2, rfl, _⟩ := Kd.R_reads h.2.2
  exact ⟨A0, A1, A2, c0, c1, c2, rfl, rfl, rfl⟩
abbrev S3 (A0 A1 A2 : Option Addr) (c0 c1 c2 : Nat) (a b c : List Int) (B : Nat) (W : World) : Prop := R3 B W (.slice A0 a.length c0) (.slice A1 b.length c1) (.slice A2 c.length c2) a b c
def D3 (v0 v1 v2 : Value) : Prop := (∀ k, v0.ownBlock = some k → v1.ownBlock ≠ some k) ∧ (∀ k, v0.ownBlock = some k → v2.ownBlock ≠ some k) ∧ (∀ k, v1.ownBlock = some k → v2.ownBlock ≠ some k)
abbrev M3 (lo : Nat) (W : World) (v0 v1 v2 : Value) (a b c : List Int) : Prop := R3 lo W v0 v1 v2 a b c ∧ D3 v0 v1 v2
theorem M3.mk' {W w' : World} {v0 v1 v2 : Value} {a b c : List Int} (h0 : Kd.R (Kd.int .i64) 3 w' W.heap.size (fun k_ => some k_ ≠ (v1 : Value).ownBlock ∧ some k_ ≠ (v2 : Value).ownBlock) v0 a) (h1 : Kd.R (Kd.int .i64) 3 w' W.heap.size (fun k_ => some k_ ≠ (v0 : Value).ownBlock ∧ some k_ ≠ (v2 : Value).ownBlock) v1 b) (h2 : Kd.R (Kd.int .i64) 3 w' W.heap.size (fun k_ => some k_ ≠ (v0 : Value).ownBlock ∧ some k_ ≠ (v1 : Value).ownBlock) v2 c) : M3 W.heap.size w' v0 v1 v2 a b c :=
  ⟨⟨Ho.R_int_ok h0 (fun _ _ => trivial), Ho.R_int_ok h1 (fun _ _ => trivial), Ho.R_int_ok h2 (fun _ _ => trivial)⟩, fun k hk e => (h0.1 k hk).1 e.symm, fun k hk e => (h0.1 k hk).2 e.symm, fun k hk e => (h1.1 k hk).2 e.symm⟩
theorem to18 (K : Nat) (A0 A1 A2 : Option Addr) (c0 c1 c2 : Nat) (a b c : List Int) (W : World) (hr0 : Kd.C (Kd.int .i64) W A0 a.length a) (hc0 : a.length ≤ c0) (hr1 : Kd.C (Kd.int .i64) W A1 b.length b) (hc1 : b.length ≤ c1) (hr2 : Kd.C (Kd.int .i64) W A2 c.length c) (hc2 : c.length ≤ c2) (h : laws_toMem.f K a b c = some (a, b, c)) :
    Calls Try.prog 18 #[.agg #[.slice A0 a.length c0, .slice A1 b.length c1, .slice A2 c.length c2]] W fun e w' => ∃ A0 A1 A2 c0 c1 c2, e = .returned (.agg #[.slice A0 a.length c0, .slice A1 b.length c1, .slice A2 c.length c2]) ∧ M3 W.heap.size w' (.slice A0 a.length c0) (.slice A1 b.length c1) (.slice A2 c.length c2) a b c ∧ Below W.heap.size W w' := by
  refine (laws_toMem.calls K A0 c0 a A1 c1 b A2 c2 c a b c W hr0 hc0 hr1 hc1 hr2 hc2 h).mono ?_
  rintro e w' ⟨v0, v1, v2, rfl, h0, h1, h2, hb⟩
  have hm := M3.mk' h0 h1 h2
  obtain ⟨A0, A1, A2, c0, c1, c2, rfl, rfl, rfl⟩ := hm.1.slices
  exact ⟨A0, A1, A2, c0, c1, c2, rfl, hm, hb⟩
theorem put26 (v0 v1 v2 : Value) (a b c p q r : List Int) (J I n : Int) (hp : Hq.pL a b c 1 a J I n = p) (hq : Hq.pL a b c 2 b J I n = q) (hr : Hq.pL a b c 3 c J I n = r) (B : Nat) (W : World) (h : R3 B W v0 v1 v2 a b c) :
    Calls Try.prog 26 #[.agg #[v0, v1, v2], .agg #[.int .i64 J, .int .i64 I], .int .i64 n] W fun e w' => ∃ A0 A1 A2 c0 c1 c2, e = .returned (.agg #[.slice A0 p.length c0, .slice A1 q.length c1, .slice A2 r.length c2]) ∧ M3 W.heap.size w' (.slice A0 p.length c0) (.slice A1 q.length c1) (.slice A2 r.length c2) p q r ∧ Below W.heap.size W w' := by
  subst hp hq hr
  obtain ⟨A0, A1, A2, c0, c1, c2, rfl, rfl, rfl⟩ := h.slices
  refine (Hq.memPut_any A0 A1 A2 c0 c1 c2 a b c J I n W (Kd.R_reads' h.1).2.2 (Kd.R_reads' h.2.1).2.2 (Kd.R_reads' h.2.2).2.2).mono ?_
  rintro e w' ⟨v0, v1, v2, rfl, hM, hb⟩
  have hm := M3.mk' hM.1 hM.2.1 hM.2.2
  obtain ⟨A0, A1, A2, c0, c1, c2, rfl, rfl, rfl⟩ := hm.1.slices
  exact ⟨A0, A1, A2, c0, c1, c2, rfl, hm, hb⟩
theorem put25 (K : Nat) (v0 v1 v2 : Value) (a b c p q r : List Int) (J I n : Int) (he : spec_MemPut.f K a b c J I n = some (p, q, r)) (B : Nat) (W : World) (h : R3 B W v0 v1 v2 a b c) :
    Calls Try.prog 25 #[.agg #[v0, v1, v2], .agg #[.int .i64 J, .int .i64 I], .int .i64 n] W fun e w' => ∃ A0 A1 A2 c0 c1 c2, e = .returned (.agg #[.slice A0 p.length c0, .slice A1 q.length c1, .slice A2 r.length c2]) ∧ M3 W.heap.size w' (.slice A0 p.length c0) (.slice A1 q.length c1) (.slice A2 r.length c2) p q r ∧ Below W.heap.size W w' := by
  obtain ⟨A0, A1, A2, c0, c1, c2, rfl, rfl, rfl⟩ := h.slices
  refine (spec_MemPut.calls K A0 c0 a A1 c1 b A2 c2 c J I n p q r W (Kd.R_reads' h.1).2.2 (Kd.R_reads' h.1).2.1 (Kd.R_reads' h.2.1).2.2 (Kd.R_reads' h.2.1).2.1 (Kd.R_reads' h.2.2).2.2 (Kd.R_reads' h.2.2).2.1 he).mono ?_
  rintro e w' ⟨v0, v1, v2, rfl, h0, h1, h2, hb⟩
  have hm := M3.mk' h0 h1 h2
  obtain ⟨A0, A1, A2, c0, c1, c2, rfl, rfl, rfl⟩ := hm.1.slices
  exact ⟨A0, A1, A2, c0, c1, c2, rfl, hm, hb⟩
theorem eq13 (K : Nat) (u0 u1 u2 v0 v1 v2 : Value) (a b c : List Int) (he : laws_eqMem.f K a b c a b c = some true) (B B' : Nat) (W : World) (h : R3 B W u0 u1 u2 a b c) (h' : R3 B' W v0 v1 v2 a b c) :
    Calls Try.prog 13 #[.agg #[u0, u1, u2], .agg #[v0, v1, v2]] W fun e w' => e = .returned (.bool true) ∧ Below W.heap.size W w' := by
  obtain ⟨A0, A1, A2, c0, c1, c2, rfl, rfl, rfl⟩ := h.slices
  obtain ⟨B0, B1, B2, d0, d1, d2, rfl, rfl, rfl⟩ := h'.slices
  exact laws_eqMem.calls K A0 c0 a A1 c1 b A2 c2 c B0 d0 a B1 d1 b B2 d2 c true W (Kd.R_reads' h.1).2.2 (Kd.R_reads' h.1).2.1 (Kd.R_reads' h.2.1).2.2 (Kd.R_reads' h.2.1).2.1 (Kd.R_reads' h.2.2).2.2 (Kd.R_reads' h.2.2).2.1 (Kd.R_reads' h'.1).2.2 (Kd.R_reads' h'.1).2.1 (Kd.R_reads' h'.2.1).2.2 (Kd.R_reads' h'.2.1).2.1 (Kd.R_reads' h'.2.2).2.2 (Kd.R_reads' h'.2.2).2.1 he
def Own3 (v0 v1 v2 : Value) : Nat → Prop := fun k => v0.ownBlock = some k ∨ v1.ownBlock = some k ∨ v2.ownBlock = some k
theorem mark14 (K : Nat) (v0 v1 v2 : Value) (a b c a' b' c' : List Int) (m : Int) (he : laws_markMem.f K a b c 1 = some (m, a', b', c')) (w W : World) (hB : Below w.heap.size w W) (h : R3 w.heap.size W v0 v1 v2 a b c) (hd : D3 v0 v1 v2) :
    Calls Try.prog 14 #[.agg #[v0, v1, v2], .int .i64 1] W fun e w' => e = .returned (.int .i64 m) ∧ R3 w.heap.size w' v0 v1 v2 a' b' c' ∧ Below w.heap.size w w' ∧ Kept W w' (Own3 v0 v1 v2) := by
  refine (laws_markMem.calls K (fun k => v0.ownBlock = some k) v0 a (fun k => v1.ownBlock = some k) v1 b (fun k => v2.ownBlock = some k) v2 c 1 m a' b' c' w W hB (Ho.R_int_ok h.1 (fun _ hk => hk)) hd.1 hd.2.1 (Ho.R_int_ok h.2.1 (fun _ hk => hk)) (fun k hk e => hd.1 k e hk) hd.2.2 (Ho.R_int_ok h.2.2 (fun _ hk => hk)) (fun k hk e => hd.2.1 k e hk) (fun k hk e => hd.2.2 k e hk) he).mono ?_
  rintro e w' ⟨rfl, h0, h1, h2, hb, hk⟩
  exact ⟨rfl, ⟨Ho.R_int_ok h0 (fun _ _ => trivial), Ho.R_int_ok h1 (fun _ _ => trivial), Ho.R_int_ok h2 (fun _ _ => trivial)⟩, hb, hk⟩
theorem held15 (K : Nat) (v0 v1 v2 : Value) (a b c : List Int) (m : Int) (he : laws_heldMem.f K a b c 1 = some m) (B : Nat) (W : World) (h : R3 B W v0 v1 v2 a b c) :
    Calls Try.prog 15 #[.agg #[v0, v1, v2], .int .i64 1] W fun e w' => e = .returned (.int .i64 m) ∧ Below W.heap.size W w' := by
  obtain ⟨A0, A1, A2, c0, c1, c2, rfl, rfl, rfl⟩ := h.slices
  exact laws_heldMem.calls K A0 c0 a A1 c1 b A2 c2 c 1 m W (Kd.R_reads' h.1).2.2 (Kd.R_reads' h.1).2.1 (Kd.R_reads' h.2.1).2.2 (Kd.R_reads' h.2.1).2.1 (Kd.R_reads' h.2.2).2.2 (Kd.R_reads' h.2.2).2.1 he
def Row := Value × List Int × Nat × Nat
structure U (w : World) (g3 g4 : Nat) (B3 B4 : Array Value) (L : List (Nat × Array Value)) (RS : List Row) (W : World) : Prop where
  h3 : W.heap[g3]? = some (.cells B3 29 (0, 0))
  h4 : W.heap[g4]? = some (.cells B4 36 (0, 0))
  hL : ∀ x ∈ L, W.heap[x.1]? = some (.cells x.2 24 (0, 0))
  hR : ∀ x ∈ RS, Kd.R (Kd.int .i64) 3 W w.heap.size (fun k => x.2.2.1 ≤ k ∧ k < x.2.2.2) x.1 x.2.1
  bel : Below w.heap.size w W
section
variable {w : World} {g3 g4 : Nat} {B3 B4 : Array Value} {L : List (Nat × Array Value)} {RS : List Row} {W W' : World}
theorem U.below (h : U w g3 g4 B3 B4 L RS W) (hb : Below W.heap.size W W') : U w g3 g4 B3 B4 L RS W' := ⟨blk_below h.h3 hb, blk_below h.h4 hb, fun x hx => blk_below (h.hL x hx) hb, fun x hx => Kd.R_below (h.hR x hx) hb, h.bel.trans (hb.mono h.bel.size)⟩
theorem U.drew (h : U w g3 g4 B3 B4 L RS W) : U w g3 g4 B3 B4 L RS W.drew := h.below (below_drew1 (Below.refl _ _))
theorem U.alloc (h : U w g3 g4 B3 B4 L RS W) (o : Obj) : U w g3 g4 B3 B4 L RS (W.alloc o) := h.below ((Below.refl _ _).alloc (Nat.le_refl _) _)
theorem U.lt3 (h : U w g3 g4 B3 B4 L RS W) : g3 < W.heap.size := blk_lt h.h3
theorem U.lt4 (h : U w g3 g4 B3 B4 L RS W) : g4 < W.heap.size := blk_lt h.h4
theorem U.ltL (h : U w g3 g4 B3 B4 L RS W) : ∀ x ∈ L, x.1 < W.heap.size := fun x hx => blk_lt (h.hL x hx)
theorem ht24 : ∀ q, q ∈ 3 :: (Kd.int .i64).E → q ≠ 24 := by
  intro q hq
  rcases List.mem_cons.1 hq with rfl | h
  · decide
  · exact absurd (show q ∈ ([] : List Nat) from h) (by simp)
theorem htN (t : Nat) (hn : t ≠ 3) : ∀ q, q ∈ 3 :: (Kd.int .i64).E → q ≠ t := by
  intro q hq
  rcases List.mem_cons.1 hq with rfl | h
  · exact fun e => hn e.symm
  · exact absurd (show q ∈ ([] : List Nat) from h) (by simp)
theorem U.put1 (h : U w g3 g4 B3 B4 L RS W) {z : Nat} {cs : Array Value} (hz : W.heap[z]? = some (.cells cs 24 (0, 0))) (n3 : g3 < z) (n4 : g4 < z) (nL : ∀ x ∈ L, x.1 < z) (nz : w.heap.size ≤ z) (j : Nat) (u : Value) : U w g3 g4 B3 B4 L RS (W.setCell ⟨z, j, none⟩ u) :=
  ⟨blk_far h.h3 (Nat.ne_of_lt n3) u, blk_far h.h4 (Nat.ne_of_lt n4) u, fun x hx => blk_far (h.hL x hx) (Nat.ne_of_lt (nL x hx)) u, fun x hx => Kd.R_set (h.hR x hx) hz ht24 j u, below_set h.bel nz⟩
theorem U.store (h : U w g3 g4 B3 B4 L RS W) {z : Nat} (hz : W.heap[z]? = some (.cells Ho.Z3 24 (0, 0))) (n3 : g3 < z) (n4 : g4 < z) (nL : ∀ x ∈ L, x.1 < z) (nz : w.heap.size ≤ z) (v0 v1 v2 : Value) : U w g3 g4 B3 B4 ((z, #[v0, v1, v2]) :: L) RS (((W.setCell ⟨z, 0, none⟩ v0).setCell ⟨z, 1, none⟩ v1).setCell ⟨z, 2, none⟩ v2) := by
  have hz1 := blk_put hz 0 v0 rfl
  have hz2 := blk_put hz1 1 v1 rfl
  have h3 := ((h.put1 hz n3 n4 nL nz 0 v0).put1 hz1 n3 n4 nL nz 1 v1).put1 hz2 n3 n4 nL nz 2 v2
  refine ⟨h3.h3, h3.h4, fun x hx => ?_, h3.hR, h3.bel⟩
  rcases List.mem_cons.1 hx with rfl | hx
  · exact Ho.res_store hz v0 v1 v2
  · exact h3.hL x hx
theorem R3.store {v0 v1 v2 : Value} {a b c : List Int} (h : R3 w.heap.size W v0 v1 v2 a b c) {z : Nat} (hz : W.heap[z]? = some (.cells Ho.Z3 24 (0, 0))) (u0 u1 u2 : Value) : R3 w.heap.size (((W.setCell ⟨z, 0, none⟩ u0).setCell ⟨z, 1, none⟩ u1).setCell ⟨z, 2, none⟩ u2) v0 v1 v2 a b c :=
  ⟨Ho.R_store h.1 hz _ _ _, Ho.R_store h.2.1 hz _ _ _, Ho.R_store h.2.2 hz _ _ _⟩
theorem U.box (h : U w g3 g4 B3 B4 L RS W) (cs : Array Value) : U w g3 g4 B3 B4 ((W.heap.size, cs) :: L) RS (W.alloc (.cells cs 24 (0, 0))) := by
  have h2 := h.alloc (.cells cs 24 (0, 0))
  refine ⟨h2.h3, h2.h4, fun x hx => ?_, h2.hR, h2.bel⟩
  rcases List.mem_cons.1 hx with rfl | hx
  · exact heap_alloc_new _ _
  · exact h2.hL x hx
theorem U.rows (h : U w g3 g4 B3 B4 L RS W) {v0 v1 v2 : Value} {a b c : List Int} {lo hi : Nat} (hr : R3 w.heap.size W v0 v1 v2 a b c) (hlo : ∀ k, Own3 v0 v1 v2 k → lo ≤ k) (hhi : ∀ k, Own3 v0 v1 v2 k → k < hi) : U w g3 g4 B3 B4 L ((v0, a, lo, hi) :: (v1, b, lo, hi) :: (v2, c, lo, hi) :: RS) W := by
  refine ⟨h.h3, h.h4, h.hL, fun x hx => ?_, h.bel⟩
  rcases List.mem_cons.1 hx with rfl | hx
  · exact Ho.R_int_ok hr.1 (fun k hk => ⟨hlo k (.inl hk), hhi k (.inl hk)⟩)
  rcases List.mem_cons.1 hx with rfl | hx
  · exact Ho.R_int_ok hr.2.1 (fun k hk => ⟨hlo k (.inr (.inl hk)), hhi k (.inr (.inl hk))⟩)
  rcases List.mem_cons.1 hx with rfl | hx
  · exact Ho.R_int_ok hr.2.2 (fun k hk => ⟨hlo k (.inr (.inr hk)), hhi k (.inr (.inr hk))⟩)
  exact h.hR x hx
theorem U.r3 {v0 v1 v2 : Value} {a b c : List Int} {l0 h0 l1 h1 l2 h2 : Nat} (h : U w g3 g4 B3 B4 L RS W) (m0 : (v0, a, l0, h0) ∈ RS) (m1 : (v1, b, l1, h1) ∈ RS) (m2 : (v2, c, l2, h2) ∈ RS) : R3 w.heap.size W v0 v1 v2 a b c :=
  ⟨Ho.R_int_ok (h.hR _ m0) (fun _ _ => trivial), Ho.R_int_ok (h.hR _ m1) (fun _ _ => trivial), Ho.R_int_ok (h.hR _ m2) (fun _ _ => trivial)⟩
theorem R3.ne {B g t : Nat} {v0 v1 v2 : Value} {a b c : List Int} {cs : Array Value} (h : R3 B W v0 v1 v2 a b c) (hg : W.heap[g]? = some (.cells cs t (0, 0))) (ht : t ≠ 3) : ¬ Own3 v0 v1 v2 g := by
  rintro (h1 | h1 | h1)
  · exact ((Kd.R_types h.1 hg (htN t ht)).1 g h1).2 rfl
  · exact ((Kd.R_types h.2.1 hg (htN t ht)).1 g h1).2 rfl
  · exact ((Kd.R_types h.2.2 hg (htN t ht)).1 g h1).2 rfl
theorem R3.lt {B : Nat} {v0 v1 v2 : Value} {a b c : List Int} (h : R3 B W v0 v1 v2 a b c) : ∀ k, Own3 v0 v1 v2 k → k < W.heap.size := by
  rintro k (h1 | h1 | h1)
  · exact Kd.R_lt h.1 k h1
  · exact Kd.R_lt h.2.1 k h1
  · exact Kd.R_lt h.2.2 k h1
theorem R3.ge {B : Nat} {v0 v1 v2 : Value} {a b c : List Int} (h : R3 B W v0 v1 v2 a b c) : ∀ k, Own3 v0 v1 v2 k → B ≤ k := by
  rintro k (h1 | h1 | h1)
  · exact Kd.R_base h.1 k h1
  · exact Kd.R_base h.2.1 k h1
  · exact Kd.R_base h.2.2 k h1
theorem U.kept {RS' : List Row} {S : Nat → Prop} (h : U w g3 g4 B3 B4 L RS W) (hk : Kept W W' S) (hb : Below w.heap.size w W') (n3 : ¬ S g3) (n4 : ¬ S g4) (nL : ∀ x ∈ L, ¬ S x.1) (nR : ∀ x ∈ RS', x ∈ RS ∧ ∀ k, x.2.2.1 ≤ k → k < x.2.2.2 → ¬ S k) : U w g3 g4 B3 B4 L RS' W' :=
  ⟨blk_kept h.h3 hk n3, blk_kept h.h4 hk n4, fun x hx => blk_kept (h.hL x hx) hk (nL x hx), fun x hx => Kd.R_kept (h.hR x (nR x hx).1) hk (fun k hk2 => (nR x hx).2 k hk2.1 hk2.2), hb⟩
end
set_option maxRecDepth 100000 in
set_option maxHeartbeats 25600000 in
theorem main (A0 A1 A2 : Option Addr) (c0 c1 c2 : Nat) (l0 l1 l2 p q r : List Int) (J I n r0 mx_ mg : Int) (x0 x1 x2 y0 y1 y2 : List Int) (KK : Nat) (w : World)
    (hr0 : Kd.C (Kd.int .i64) w A0 l0.length l0) (hc0 : l0.length ≤ c0) (hr1 : Kd.C (Kd.int .i64) w A1 l1.length l1) (hc1 : l1.length ≤ c1) (hr2 : Kd.C (Kd.int .i64) w A2 l2.length l2) (hc2 : l2.length ≤ c2)
    (hsz : laws_szMem.f l0 l1 l2 1048576 = some r0) (hr : decide (r0 < 0) = false) (hto : laws_toMem.f KK l0 l1 l2 = some (l0, l1, l2)) (hsp : spec_MemPut.f KK l0 l1 l2 J I n = some (p, q, r))
    (hp : Hq.pL l0 l1 l2 1 l0 J I n = p) (hq : Hq.pL l0 l1 l2 2 l1 J I n = q) (hrr : Hq.pL l0 l1 l2 3 l2 J I n = r) (heq : laws_eqMem.f KK p q r p q r = some true) (heqx : laws_eqMem.f KK l0 l1 l2 l0 l1 l2 = some true)
    (hmx : laws_markMem.f KK l0 l1 l2 1 = some (mx_, x0, x1, x2)) (hmx0 : decide (mx_ < 0) = false) (hmg : laws_markMem.f KK p q r 1 = some (mg, y0, y1, y2)) (hmg0 : decide (mg < 0) = false) (hhe : laws_heldMem.f KK y0 y1 y2 1 = some mg) :
    Calls Try.prog 7 #[.agg #[.slice A0 l0.length c0, .slice A1 l1.length c1, .slice A2 l2.length c2], .agg #[.int .i64 J, .int .i64 I], .int .i64 n] w fun e w' => e = .returned (.bool true) ∧ Below w.heap.size w w' := by
  have hu24 := Try.underlying24
  have hu29 := Try.underlying29
  have hu36 := Try.underlying36
  have kq : (mg != mg) = false := by simp
  have g16 := fun W h0 h1 h2 => laws_szMem.calls A0 c0 l0 A1 c1 l1 A2 c2 l2 1048576 r0 W h0 hc0 h1 hc1 h2 hc2 hsz
  have g18 := fun W h0 h1 h2 => to18 KK A0 A1 A2 c0 c1 c2 l0 l1 l2 W h0 hc0 h1 hc1 h2 hc2 hto
  have g23 := fun W => laws_toAddr.calls J I J I W rfl
  clear hsz hto
  go_enter Try.func7, Try.ntmps7
  go_wp2_with fail
  have q0 : (w.alloc (Obj.cells #[.slice A0 l0.length c0, .slice A1 l1.length c1, .slice A2 l2.length c2] 29)).heap.size = w.heap.size + 1 := Hm.alloc_size _ _
  have hU : U w w.heap.size (w.heap.size + 1) #[.slice A0 l0.length c0, .slice A1 l1.length c1, .slice A2 l2.length c2] #[.int .i64 J, .int .i64 I] [] [] ((w.alloc (Obj.cells #[.slice A0 l0.length c0, .slice A1 l1.length c1, .slice A2 l2.length c2] 29)).alloc (Obj.cells #[.int .i64 J, .int .i64 I] 36)) :=
    ⟨blk_alloc (heap_alloc_new _ _) _, by rw [← q0]; exact heap_alloc_new _ _, fun x hx => by simp at hx, fun x hx => by simp at hx, ((Below.refl _ _).alloc (Nat.le_refl _) _).alloc (by rw [q0]; exact Nat.le_succ _) _⟩
  generalize (w.alloc (Obj.cells _ 29)).alloc (Obj.cells _ 36) = w1 at hU ⊢
  clear q0
  obtain ⟨g3, hg3⟩ : ∃ g, w.heap.size = g := ⟨_, rfl⟩
  have hU' : U w g3 (g3 + 1) #[.slice A0 l0.length c0, .slice A1 l1.length c1, .slice A2 l2.length c2] #[.int .i64 J, .int .i64 I] [] [] w1 := by rw [← hg3]; exact hU
  clear hU
  rw [hg3]
  obtain ⟨g4, hg4⟩ : ∃ g, g3 + 1 = g := ⟨_, rfl⟩
  rw [hg4] at hU' ⊢
  clear hg3 hg4
  refine (g16 _ (Kd.C_below hr0 hU'.bel) (Kd.C_below hr1 hU'.bel) (Kd.C_below hr2 hU'.bel)).mono ?_
  rintro e w2 ⟨rfl, hb⟩
  have hU := hU'.below hb
  clear hU' hb g16
  go_wp2_with fail
  have hU0 := hU.drew
  obtain ⟨N5, hN_⟩ : ∃ q, w2.heap.size = q := ⟨_, rfl⟩
  have nwN5 : w.heap.size ≤ N5 := hN_ ▸ hU.bel.size
  have hS0 : N5 ≤ w2.drew.heap.size := Nat.le_of_eq hN_.symm
  have hNN5 := Aside0.mk hN_
  clear hN_
  have hU0 := hU.drew
  refine start_ (n := 8) (S := fun w' => N5 ≤ w'.heap.size ∧ w'.cell? ⟨g3, 0, none⟩ = some (.slice A0 l0.length c0) ∧ w'.cell? ⟨g3, 1, none⟩ = some (.slice A1 l1.length c1) ∧ w'.cell? ⟨g3, 2, none⟩ = some (.slice A2 l2.length c2) ∧ w'.cell? ⟨g4, 0, none⟩ = some (.int .i64 J) ∧ w'.cell? ⟨g4, 1, none⟩ = some (.int .i64 I) ∧ U w g3 g4 #[.slice A0 l0.length c0, .slice A1 l1.length c1, .slice A2 l2.length c2] #[.int .i64 J, .int .i64 I] [] [] w') (ds := []) #[false, false, false, false, false, false, false, false] (by kernel_rfl) rfl rfl ⟨hS0, (blk_cell hU0.h3 0).trans rfl, (blk_cell hU0.h3 1).trans rfl, (blk_cell hU0.h3 2).trans rfl, (blk_cell hU0.h4 0).trans rfl, (blk_cell hU0.h4 1).trans rfl, hU0⟩ (fun hHeld => ?_)
  refine pure_ (i := 4) (N := some 24) (v := ?_) (a' := ?_) #[false, false, false, false, true, false, false, false] rfl rfl (by kernel_rfl) (fun _ _ _ h => h) (Or.inl ⟨by rfl, ?_⟩) ?_ ?_
  rotate_left
  · intro w'
    go_simp
    with_reducible rfl
  rotate_left
  · simp only [Act.put, List.setIfInBounds_toArray, List.set_cons_zero, List.set_cons_succ, i64_w, i32_w]
    rfl
  refine take_ (i := 0) (N := some 20) (v := ?_) (a' := ?_) #[true, false, false, false, true, false, false, false] rfl rfl (by kernel_rfl) (fun _ _ _ h => h) (Or.inl ⟨by rfl, ?_⟩) hHeld ?_ ?_
  rotate_left
  · rintro w' ⟨s0, s1, s2, s3, s4, s5, s6⟩
    go_simp
    with_reducible rfl
  rotate_left
  · simp only [Act.put, List.setIfInBounds_toArray, List.set_cons_zero, List.set_cons_succ, i64_w, i32_w]
    rfl
  refine take_ (i := 2) (N := some 22) (v := ?_) (a' := ?_) #[true, false, true, false, true, false, false, false] rfl rfl (by kernel_rfl) (fun _ _ _ h => h) (Or.inl ⟨by rfl, ?_⟩) hHeld ?_ ?_
  rotate_left
  · rintro w' ⟨s0, s1, s2, s3, s4, s5, s6⟩
    go_simp
    with_reducible rfl
  rotate_left
  · simp only [Act.put, List.setIfInBounds_toArray, List.set_cons_zero, List.set_cons_succ, i64_w, i32_w]
    rfl
  refine join_ (σ := Value × Value × Nat) 1 #[true, true, true, true, true, true, true, false] (fun s_ => [(21, s_.1), (23, .agg #[.int .i64 J, .int .i64 I]), (25, s_.2.1), (8, .pointer (some ⟨s_.2.2, 0, none⟩))]) (fun s_ w' => N5 ≤ w'.heap.size ∧ U w g3 g4 #[.slice A0 l0.length c0, .slice A1 l1.length c1, .slice A2 l2.length c2] #[.int .i64 J, .int .i64 I] [] [] w' ∧ (∃ V0 V1 V2 v0 v1 v2, s_.2.1 = .agg #[.slice V0 p.length v0, .slice V1 q.length v1, .slice V2 r.length v2] ∧ M3 N5 w' (.slice V0 p.length v0) (.slice V1 q.length v1) (.slice V2 r.length v2) p q r) ∧ w'.heap[s_.2.2]? = some (.cells Ho.Z3 24 (0, 0)) ∧ w.heap.size ≤ s_.2.2 ∧ g3 < s_.2.2 ∧ g4 < s_.2.2 ∧ ∀ x ∈ ([] : List (Nat × Array Value)), x.1 < s_.2.2) ?_ ?_
  rotate_left
  · intro hCont
    refine two_ (i := 1) (j := 6) (Ni := some 21) (Nj := some 8) #[true, true, true, false, true, false, false, false] #[true, false, true, false, true, false, true, false] rfl rfl rfl rfl (by kernel_rfl) (by decide) (by decide) (fun K hK => ?_) (fun K hK => ?_)
    · skip
      refine goes_ Try.func18 (by kernel_rfl) rfl #[.agg #[.slice A0 l0.length c0, .slice A1 l1.length c1, .slice A2 l2.length c2]] (by rfl) rfl rfl (by simp only [List.map_toArray, List.map_cons, List.map_nil]; rfl) ?_
      with_reducible refine (g18 _ (Kd.C_below hr0 hHeld.2.2.2.2.2.2.bel) (Kd.C_below hr1 hHeld.2.2.2.2.2.2.bel) (Kd.C_below hr2 hHeld.2.2.2.2.2.2.bel)).mono ?_
      rintro e wc1 ⟨X0, X1, X2, x_0, x_1, x_2, rfl, hu, hb1⟩
      refine ⟨_, rfl, ?_⟩
      replace hu : M3 N5 _ _ _ _ _ _ _ := ⟨hu.1.lower hHeld.1, hu.2⟩
      have hU1 := hHeld.2.2.2.2.2.2.below hb1
      refine hK.out _ _ ⟨(Nat.le_trans hHeld.1 hb1.size), (blk_cell hU1.h3 0).trans rfl, (blk_cell hU1.h3 1).trans rfl, (blk_cell hU1.h3 2).trans rfl, (blk_cell hU1.h4 0).trans rfl, (blk_cell hU1.h4 1).trans rfl, hU1⟩ (fun hHeld => ?_)
      clear hK K
      refine norm_ (a' := ?_) ?_ ?_
      rotate_left
      · show Act.put _ (some 21) _ = _
        simp only [Act.put, List.setIfInBounds_toArray, List.set_cons_zero, List.set_cons_succ, i64_w, i32_w]
        rfl
      refine two_ (i := 3) (j := 6) (Ni := some 23) (Nj := some 8) #[true, true, true, true, true, false, false, false] #[true, true, true, false, true, false, true, false] rfl rfl rfl rfl (by kernel_rfl) (by decide) (by decide) (fun K hK => ?_) (fun K hK => ?_)
      · skip
        refine goes_ Try.func23 (by kernel_rfl) rfl #[.agg #[.int .i64 J, .int .i64 I]] (by rfl) rfl rfl (by simp only [List.map_toArray, List.map_cons, List.map_nil]; rfl) ?_
        with_reducible refine (g23 _).mono ?_
        rintro e wc3 ⟨rfl, hb3⟩
        refine ⟨_, rfl, ?_⟩
        replace hu : M3 _ _ _ _ _ _ _ _ := ⟨hu.1.below hb3, hu.2⟩
        have hU3 := hHeld.2.2.2.2.2.2.below hb3
        refine hK.out _ _ ⟨(Nat.le_trans hHeld.1 hb3.size), (blk_cell hU3.h3 0).trans rfl, (blk_cell hU3.h3 1).trans rfl, (blk_cell hU3.h3 2).trans rfl, (blk_cell hU3.h4 0).trans rfl, (blk_cell hU3.h4 1).trans rfl, hU3⟩ (fun hHeld => ?_)
        clear hK K
        refine norm_ (a' := ?_) ?_ ?_
        rotate_left
        · show Act.put _ (some 23) _ = _
          simp only [Act.put, List.setIfInBounds_toArray, List.set_cons_zero, List.set_cons_succ, i64_w, i32_w]
          rfl
        refine two_ (i := 5) (j := 6) (Ni := some 25) (Nj := some 8) #[true, true, true, true, true, true, false, false] #[true, true, true, true, true, false, true, false] rfl rfl rfl rfl (by kernel_rfl) (by decide) (by decide) (fun K hK => ?_) (fun K hK => ?_)
        · skip
          refine goes_ Try.func25 (by kernel_rfl) rfl #[.agg #[.slice X0 l0.length x_0, .slice X1 l1.length x_1, .slice X2 l2.length x_2], .agg #[.int .i64 J, .int .i64 I], .int .i64 n] (by rfl) rfl rfl (by simp only [List.map_toArray, List.map_cons, List.map_nil]; rfl) ?_
          with_reducible refine (put25 KK _ _ _ l0 l1 l2 p q r J I n hsp _ _ hu.1).mono ?_
          rintro e wc5 ⟨Y0, Y1, Y2, y_0, y_1, y_2, rfl, hv, hb5⟩
          refine ⟨_, rfl, ?_⟩
          replace hu : M3 _ _ _ _ _ _ _ _ := ⟨hu.1.below hb5, hu.2⟩
          replace hv : M3 N5 _ _ _ _ _ _ _ := ⟨hv.1.lower hHeld.1, hv.2⟩
          have hU5 := hHeld.2.2.2.2.2.2.below hb5
          refine hK.out _ _ ⟨(Nat.le_trans hHeld.1 hb5.size), (blk_cell hU5.h3 0).trans rfl, (blk_cell hU5.h3 1).trans rfl, (blk_cell hU5.h3 2).trans rfl, (blk_cell hU5.h4 0).trans rfl, (blk_cell hU5.h4 1).trans rfl, hU5⟩ (fun hHeld => ?_)
          clear hK K
          refine norm_ (a' := ?_) ?_ ?_
          rotate_left
          · show Act.put _ (some 25) _ = _
            simp only [Act.put, List.setIfInBounds_toArray, List.set_cons_zero, List.set_cons_succ, i64_w, i32_w]
            rfl
          refine one_ (i := 6) (N := some 8) #[true, true, true, true, true, true, true, false] rfl rfl (by kernel_rfl) (by decide) (fun K hK => ?_)
          refine value_ (w1 := ?_) (v := ?_) (by rfl) rfl ?_ ?_
          rotate_left 2
          · go_simp
            constructor
            · rfl
            · rfl
          have hUz := hHeld.2.2.2.2.2.2
          have gz : w.heap.size ≤ wc5.heap.size ∧ g3 < wc5.heap.size ∧ g4 < wc5.heap.size ∧ ∀ x ∈ ([] : List (Nat × Array Value)), x.1 < wc5.heap.size := ⟨hUz.bel.size, hUz.lt3, hUz.lt4, hUz.ltL⟩
          have hz : (wc5.alloc (Obj.cells #[.slice none 0 0, .slice none 0 0, .slice none 0 0] 24)).heap[wc5.heap.size]? = some (.cells Ho.Z3 24 (0, 0)) := heap_alloc_new wc5 (Obj.cells #[.slice none 0 0, .slice none 0 0, .slice none 0 0] 24)
          replace hUz := hUz.alloc (Obj.cells #[.slice none 0 0, .slice none 0 0, .slice none 0 0] 24)
          have hNz : N5 ≤ (wc5.alloc (Obj.cells #[.slice none 0 0, .slice none 0 0, .slice none 0 0] 24)).heap.size := Nat.le_trans hHeld.1 (Nat.le_trans (Nat.le_succ _) (Nat.le_of_eq (Hm.alloc_size wc5 (Obj.cells #[.slice none 0 0, .slice none 0 0, .slice none 0 0] 24)).symm))
          replace hu : M3 _ _ _ _ _ _ _ _ := ⟨hu.1.alloc (Obj.cells #[.slice none 0 0, .slice none 0 0, .slice none 0 0] 24), hu.2⟩
          replace hv : M3 _ _ _ _ _ _ _ _ := ⟨hv.1.alloc (Obj.cells #[.slice none 0 0, .slice none 0 0, .slice none 0 0] 24), hv.2⟩
          generalize wc5.alloc (Obj.cells #[.slice none 0 0, .slice none 0 0, .slice none 0 0] 24) = wz at hz hUz hNz hu hv ⊢
          generalize wc5.heap.size = zz at gz hz ⊢
          refine hK.out _ _ ⟨hNz, (blk_cell hUz.h3 0).trans rfl, (blk_cell hUz.h3 1).trans rfl, (blk_cell hUz.h3 2).trans rfl, (blk_cell hUz.h4 0).trans rfl, (blk_cell hUz.h4 1).trans rfl, hUz⟩ (fun hHeld => ?_)
          clear hK K
          refine norm_ (a' := ?_) ?_ ?_
          rotate_left
          · show Act.put _ (some 8) _ = _
            simp only [Act.put, List.setIfInBounds_toArray, List.set_cons_zero, List.set_cons_succ, i64_w, i32_w]
            rfl
          exact norm_ (by simp only [putAll, Act.put, List.setIfInBounds_toArray, List.set_cons_zero, List.set_cons_succ]) (hCont (.agg #[.slice X0 l0.length x_0, .slice X1 l1.length x_1, .slice X2 l2.length x_2], .agg #[.slice Y0 p.length y_0, .slice Y1 q.length y_1, .slice Y2 r.length y_2], zz) _ ⟨hHeld.1, hHeld.2.2.2.2.2.2, ⟨Y0, Y1, Y2, y_0, y_1, y_2, rfl, hv⟩, hz, gz⟩)
        · skip
          refine value_ (w1 := ?_) (v := ?_) (by rfl) rfl ?_ ?_
          rotate_left 2
          · go_simp
            constructor
            · rfl
            · rfl
          have hUz := hHeld.2.2.2.2.2.2
          have gz : w.heap.size ≤ wc3.heap.size ∧ g3 < wc3.heap.size ∧ g4 < wc3.heap.size ∧ ∀ x ∈ ([] : List (Nat × Array Value)), x.1 < wc3.heap.size := ⟨hUz.bel.size, hUz.lt3, hUz.lt4, hUz.ltL⟩
          have hz : (wc3.alloc (Obj.cells #[.slice none 0 0, .slice none 0 0, .slice none 0 0] 24)).heap[wc3.heap.size]? = some (.cells Ho.Z3 24 (0, 0)) := heap_alloc_new wc3 (Obj.cells #[.slice none 0 0, .slice none 0 0, .slice none 0 0] 24)
          replace hUz := hUz.alloc (Obj.cells #[.slice none 0 0, .slice none 0 0, .slice none 0 0] 24)
          have hNz : N5 ≤ (wc3.alloc (Obj.cells #[.slice none 0 0, .slice none 0 0, .slice none 0 0] 24)).heap.size := Nat.le_trans hHeld.1 (Nat.le_trans (Nat.le_succ _) (Nat.le_of_eq (Hm.alloc_size wc3 (Obj.cells #[.slice none 0 0, .slice none 0 0, .slice none 0 0] 24)).symm))
          replace hu : M3 _ _ _ _ _ _ _ _ := ⟨hu.1.alloc (Obj.cells #[.slice none 0 0, .slice none 0 0, .slice none 0 0] 24), hu.2⟩
          generalize wc3.alloc (Obj.cells #[.slice none 0 0, .slice none 0 0, .slice none 0 0] 24) = wz at hz hUz hNz hu ⊢
          generalize wc3.heap.size = zz at gz hz ⊢
          refine hK.out _ _ ⟨hNz, (blk_cell hUz.h3 0).trans rfl, (blk_cell hUz.h3 1).trans rfl, (blk_cell hUz.h3 2).trans rfl, (blk_cell hUz.h4 0).trans rfl, (blk_cell hUz.h4 1).trans rfl, hUz⟩ (fun hHeld => ?_)
          clear hK K
          refine norm_ (a' := ?_) ?_ ?_
          rotate_left
          · show Act.put _ (some 8) _ = _
            simp only [Act.put, List.setIfInBounds_toArray, List.set_cons_zero, List.set_cons_succ, i64_w, i32_w]
            rfl
          refine one_ (i := 5) (N := some 25) #[true, true, true, true, true, true, true, false] rfl rfl (by kernel_rfl) (by decide) (fun K hK => ?_)
          refine goes_ Try.func25 (by kernel_rfl) rfl #[.agg #[.slice X0 l0.length x_0, .slice X1 l1.length x_1, .slice X2 l2.length x_2], .agg #[.int .i64 J, .int .i64 I], .int .i64 n] (by rfl) rfl rfl (by simp only [List.map_toArray, List.map_cons, List.map_nil]; rfl) ?_
          with_reducible refine (put25 KK _ _ _ l0 l1 l2 p q r J I n hsp _ _ hu.1).mono ?_
          rintro e wc5 ⟨Y0, Y1, Y2, y_0, y_1, y_2, rfl, hv, hb5⟩
          refine ⟨_, rfl, ?_⟩
          have hz := blk_below hz hb5
          replace hu : M3 _ _ _ _ _ _ _ _ := ⟨hu.1.below hb5, hu.2⟩
          replace hv : M3 N5 _ _ _ _ _ _ _ := ⟨hv.1.lower hHeld.1, hv.2⟩
          have hU5 := hHeld.2.2.2.2.2.2.below hb5
          refine hK.out _ _ ⟨(Nat.le_trans hHeld.1 hb5.size), (blk_cell hU5.h3 0).trans rfl, (blk_cell hU5.h3 1).trans rfl, (blk_cell hU5.h3 2).trans rfl, (blk_cell hU5.h4 0).trans rfl, (blk_cell hU5.h4 1).trans rfl, hU5⟩ (fun hHeld => ?_)
          clear hK K
          refine norm_ (a' := ?_) ?_ ?_
          rotate_left
          · show Act.put _ (some 25) _ = _
            simp only [Act.put, List.setIfInBounds_toArray, List.set_cons_zero, List.set_cons_succ, i64_w, i32_w]
            rfl
          exact norm_ (by simp only [putAll, Act.put, List.setIfInBounds_toArray, List.set_cons_zero, List.set_cons_succ]) (hCont (.agg #[.slice X0 l0.length x_0, .slice X1 l1.length x_1, .slice X2 l2.length x_2], .agg #[.slice Y0 p.length y_0, .slice Y1 q.length y_1, .slice Y2 r.length y_2], zz) _ ⟨hHeld.1, hHeld.2.2.2.2.2.2, ⟨Y0, Y1, Y2, y_0, y_1, y_2, rfl, hv⟩, hz, gz⟩)
      · skip
        refine value_ (w1 := ?_) (v := ?_) (by rfl) rfl ?_ ?_
        rotate_left 2
        · go_simp
          constructor
          · rfl
          · rfl
        have hUz := hHeld.2.2.2.2.2.2
        have gz : w.heap.size ≤ wc1.heap.size ∧ g3 < wc1.heap.size ∧ g4 < wc1.heap.size ∧ ∀ x ∈ ([] : List (Nat × Array Value)), x.1 < wc1.heap.size := ⟨hUz.bel.size, hUz.lt3, hUz.lt4, hUz.ltL⟩
        have hz : (wc1.alloc (Obj.cells #[.slice none 0 0, .slice none 0 0, .slice none 0 0] 24)).heap[wc1.heap.size]? = some (.cells Ho.Z3 24 (0, 0)) := heap_alloc_new wc1 (Obj.cells #[.slice none 0 0, .slice none 0 0, .slice none 0 0] 24)
        replace hUz := hUz.alloc (Obj.cells #[.slice none 0 0, .slice none 0 0, .slice none 0 0] 24)
        have hNz : N5 ≤ (wc1.alloc (Obj.cells #[.slice none 0 0, .slice none 0 0, .slice none 0 0] 24)).heap.size := Nat.le_trans hHeld.1 (Nat.le_trans (Nat.le_succ _) (Nat.le_of_eq (Hm.alloc_size wc1 (Obj.cells #[.slice none 0 0, .slice none 0 0, .slice none 0 0] 24)).symm))
        replace hu : M3 _ _ _ _ _ _ _ _ := ⟨hu.1.alloc (Obj.cells #[.slice none 0 0, .slice none 0 0, .slice none 0 0] 24), hu.2⟩
        generalize wc1.alloc (Obj.cells #[.slice none 0 0, .slice none 0 0, .slice none 0 0] 24) = wz at hz hUz hNz hu ⊢
        generalize wc1.heap.size = zz at gz hz ⊢
        refine hK.out _ _ ⟨hNz, (blk_cell hUz.h3 0).trans rfl, (blk_cell hUz.h3 1).trans rfl, (blk_cell hUz.h3 2).trans rfl, (blk_cell hUz.h4 0).trans rfl, (blk_cell hUz.h4 1).trans rfl, hUz⟩ (fun hHeld => ?_)
        clear hK K
        refine norm_ (a' := ?_) ?_ ?_
        rotate_left
        · show Act.put _ (some 8) _ = _
          simp only [Act.put, List.setIfInBounds_toArray, List.set_cons_zero, List.set_cons_succ, i64_w, i32_w]
          rfl
        refine one_ (i := 3) (N := some 23) #[true, true, true, true, true, false, true, false] rfl rfl (by kernel_rfl) (by decide) (fun K hK => ?_)
        refine goes_ Try.func23 (by kernel_rfl) rfl #[.agg #[.int .i64 J, .int .i64 I]] (by rfl) rfl rfl (by simp only [List.map_toArray, List.map_cons, List.map_nil]; rfl) ?_
        with_reducible refine (g23 _).mono ?_
        rintro e wc3 ⟨rfl, hb3⟩
        refine ⟨_, rfl, ?_⟩
        have hz := blk_below hz hb3
        replace hu : M3 _ _ _ _ _ _ _ _ := ⟨hu.1.below hb3, hu.2⟩
        have hU3 := hHeld.2.2.2.2.2.2.below hb3
        refine hK.out _ _ ⟨(Nat.le_trans hHeld.1 hb3.size), (blk_cell hU3.h3 0).trans rfl, (blk_cell hU3.h3 1).trans rfl, (blk_cell hU3.h3 2).trans rfl, (blk_cell hU3.h4 0).trans rfl, (blk_cell hU3.h4 1).trans rfl, hU3⟩ (fun hHeld => ?_)
        clear hK K
        refine norm_ (a' := ?_) ?_ ?_
        rotate_left
        · show Act.put _ (some 23) _ = _
          simp only [Act.put, List.setIfInBounds_toArray, List.set_cons_zero, List.set_cons_succ, i64_w, i32_w]
          rfl
        refine one_ (i := 5) (N := some 25) #[true, true, true, true, true, true, true, false] rfl rfl (by kernel_rfl) (by decide) (fun K hK => ?_)
        refine goes_ Try.func25 (by kernel_rfl) rfl #[.agg #[.slice X0 l0.length x_0, .slice X1 l1.length x_1, .slice X2 l2.length x_2], .agg #[.int .i64 J, .int .i64 I], .int .i64 n] (by rfl) rfl rfl (by simp only [List.map_toArray, List.map_cons, List.map_nil]; rfl) ?_
        with_reducible refine (put25 KK _ _ _ l0 l1 l2 p q r J I n hsp _ _ hu.1).mono ?_
        rintro e wc5 ⟨Y0, Y1, Y2, y_0, y_1, y_2, rfl, hv, hb5⟩
        refine ⟨_, rfl, ?_⟩
        have hz := blk_below hz hb5
        replace hu : M3 _ _ _ _ _ _ _ _ := ⟨hu.1.below hb5, hu.2⟩
        replace hv : M3 N5 _ _ _ _ _ _ _ := ⟨hv.1.lower hHeld.1, hv.2⟩
        have hU5 := hHeld.2.2.2.2.2.2.below hb5
        refine hK.out _ _ ⟨(Nat.le_trans hHeld.1 hb5.size), (blk_cell hU5.h3 0).trans rfl, (blk_cell hU5.h3 1).trans rfl, (blk_cell hU5.h3 2).trans rfl, (blk_cell hU5.h4 0).trans rfl, (blk_cell hU5.h4 1).trans rfl, hU5⟩ (fun hHeld => ?_)
        clear hK K
        refine norm_ (a' := ?_) ?_ ?_
        rotate_left
        · show Act.put _ (some 25) _ = _
          simp only [Act.put, List.setIfInBounds_toArray, List.set_cons_zero, List.set_cons_succ, i64_w, i32_w]
          rfl
        exact norm_ (by simp only [putAll, Act.put, List.setIfInBounds_toArray, List.set_cons_zero, List.set_cons_succ]) (hCont (.agg #[.slice X0 l0.length x_0, .slice X1 l1.length x_1, .slice X2 l2.length x_2], .agg #[.slice Y0 p.length y_0, .slice Y1 q.length y_1, .slice Y2 r.length y_2], zz) _ ⟨hHeld.1, hHeld.2.2.2.2.2.2, ⟨Y0, Y1, Y2, y_0, y_1, y_2, rfl, hv⟩, hz, gz⟩)
    · skip
      refine value_ (w1 := ?_) (v := ?_) (by rfl) rfl ?_ ?_
      rotate_left 2
      · go_simp
        constructor
        · rfl
        · rfl
      have gz : w.heap.size ≤ w2.heap.size ∧ g3 < w2.heap.size ∧ g4 < w2.heap.size ∧ ∀ x ∈ ([] : List (Nat × Array Value)), x.1 < w2.heap.size := ⟨hU.bel.size, hU.lt3, hU.lt4, hU.ltL⟩
      have hz : (w2.alloc (Obj.cells #[.slice none 0 0, .slice none 0 0, .slice none 0 0] 24)).drew.heap[w2.heap.size]? = some (.cells Ho.Z3 24 (0, 0)) := heap_alloc_new w2 (Obj.cells #[.slice none 0 0, .slice none 0 0, .slice none 0 0] 24)
      have hUz := (hU.alloc (Obj.cells #[.slice none 0 0, .slice none 0 0, .slice none 0 0] 24)).drew
      have hNz : N5 ≤ (w2.alloc (Obj.cells #[.slice none 0 0, .slice none 0 0, .slice none 0 0] 24)).drew.heap.size := Nat.le_trans hHeld.1 (Nat.le_trans (Nat.le_succ _) (Nat.le_of_eq (Hm.alloc_size w2 (Obj.cells #[.slice none 0 0, .slice none 0 0, .slice none 0 0] 24)).symm))
      generalize (w2.alloc (Obj.cells #[.slice none 0 0, .slice none 0 0, .slice none 0 0] 24)).drew = wz at hz hUz hNz ⊢
      generalize w2.heap.size = zz at gz hz ⊢
      refine hK.out _ _ ⟨hNz, (blk_cell hUz.h3 0).trans rfl, (blk_cell hUz.h3 1).trans rfl, (blk_cell hUz.h3 2).trans rfl, (blk_cell hUz.h4 0).trans rfl, (blk_cell hUz.h4 1).trans rfl, hUz⟩ (fun hHeld => ?_)
      clear hK K
      refine norm_ (a' := ?_) ?_ ?_
      rotate_left
      · show Act.put _ (some 8) _ = _
        simp only [Act.put, List.setIfInBounds_toArray, List.set_cons_zero, List.set_cons_succ, i64_w, i32_w]
        rfl
      refine one_ (i := 1) (N := some 21) #[true, true, true, false, true, false, true, false] rfl rfl (by kernel_rfl) (by decide) (fun K hK => ?_)
      refine goes_ Try.func18 (by kernel_rfl) rfl #[.agg #[.slice A0 l0.length c0, .slice A1 l1.length c1, .slice A2 l2.length c2]] (by rfl) rfl rfl (by simp only [List.map_toArray, List.map_cons, List.map_nil]; rfl) ?_
      with_reducible refine (g18 _ (Kd.C_below hr0 hHeld.2.2.2.2.2.2.bel) (Kd.C_below hr1 hHeld.2.2.2.2.2.2.bel) (Kd.C_below hr2 hHeld.2.2.2.2.2.2.bel)).mono ?_
      rintro e wc1 ⟨X0, X1, X2, x_0, x_1, x_2, rfl, hu, hb1⟩
      refine ⟨_, rfl, ?_⟩
      have hz := blk_below hz hb1
      replace hu : M3 N5 _ _ _ _ _ _ _ := ⟨hu.1.lower hHeld.1, hu.2⟩
      have hU1 := hHeld.2.2.2.2.2.2.below hb1
      refine hK.out _ _ ⟨(Nat.le_trans hHeld.1 hb1.size), (blk_cell hU1.h3 0).trans rfl, (blk_cell hU1.h3 1).trans rfl, (blk_cell hU1.h3 2).trans rfl, (blk_cell hU1.h4 0).trans rfl, (blk_cell hU1.h4 1).trans rfl, hU1⟩ (fun hHeld => ?_)
      clear hK K
      refine norm_ (a' := ?_) ?_ ?_
      rotate_left
      · show Act.put _ (some 21) _ = _
        simp only [Act.put, List.setIfInBounds_toArray, List.set_cons_zero, List.set_cons_succ, i64_w, i32_w]
        rfl
      refine one_ (i := 3) (N := some 23) #[true, true, true, true, true, false, true, false] rfl rfl (by kernel_rfl) (by decide) (fun K hK => ?_)
      refine goes_ Try.func23 (by kernel_rfl) rfl #[.agg #[.int .i64 J, .int .i64 I]] (by rfl) rfl rfl (by simp only [List.map_toArray, List.map_cons, List.map_nil]; rfl) ?_
      with_reducible refine (g23 _).mono ?_
      rintro e wc3 ⟨rfl, hb3⟩
      refine ⟨_, rfl, ?_⟩
      have hz := blk_below hz hb3
      replace hu : M3 _ _ _ _ _ _ _ _ := ⟨hu.1.below hb3, hu.2⟩
      have hU3 := hHeld.2.2.2.2.2.2.below hb3
      refine hK.out _ _ ⟨(Nat.le_trans hHeld.1 hb3.size), (blk_cell hU3.h3 0).trans rfl, (blk_cell hU3.h3 1).trans rfl, (blk_cell hU3.h3 2).trans rfl, (blk_cell hU3.h4 0).trans rfl, (blk_cell hU3.h4 1).trans rfl, hU3⟩ (fun hHeld => ?_)
      clear hK K
      refine norm_ (a' := ?_) ?_ ?_
      rotate_left
      · show Act.put _ (some 23) _ = _
        simp only [Act.put, List.setIfInBounds_toArray, List.set_cons_zero, List.set_cons_succ, i64_w, i32_w]
        rfl
      refine one_ (i := 5) (N := some 25) #[true, true, true, true, true, true, true, false] rfl rfl (by kernel_rfl) (by decide) (fun K hK => ?_)
      refine goes_ Try.func25 (by kernel_rfl) rfl #[.agg #[.slice X0 l0.length x_0, .slice X1 l1.length x_1, .slice X2 l2.length x_2], .agg #[.int .i64 J, .int .i64 I], .int .i64 n] (by rfl) rfl rfl (by simp only [List.map_toArray, List.map_cons, List.map_nil]; rfl) ?_
      with_reducible refine (put25 KK _ _ _ l0 l1 l2 p q r J I n hsp _ _ hu.1).mono ?_
      rintro e wc5 ⟨Y0, Y1, Y2, y_0, y_1, y_2, rfl, hv, hb5⟩
      refine ⟨_, rfl, ?_⟩
      have hz := blk_below hz hb5
      replace hu : M3 _ _ _ _ _ _ _ _ := ⟨hu.1.below hb5, hu.2⟩
      replace hv : M3 N5 _ _ _ _ _ _ _ := ⟨hv.1.lower hHeld.1, hv.2⟩
      have hU5 := hHeld.2.2.2.2.2.2.below hb5
      refine hK.out _ _ ⟨(Nat.le_trans hHeld.1 hb5.size), (blk_cell hU5.h3 0).trans rfl, (blk_cell hU5.h3 1).trans rfl, (blk_cell hU5.h3 2).trans rfl, (blk_cell hU5.h4 0).trans rfl, (blk_cell hU5.h4 1).trans rfl, hU5⟩ (fun hHeld => ?_)
      clear hK K
      refine norm_ (a' := ?_) ?_ ?_
      rotate_left
      · show Act.put _ (some 25) _ = _
        simp only [Act.put, List.setIfInBounds_toArray, List.set_cons_zero, List.set_cons_succ, i64_w, i32_w]
        rfl
      exact norm_ (by simp only [putAll, Act.put, List.setIfInBounds_toArray, List.set_cons_zero, List.set_cons_succ]) (hCont (.agg #[.slice X0 l0.length x_0, .slice X1 l1.length x_1, .slice X2 l2.length x_2], .agg #[.slice Y0 p.length y_0, .slice Y1 q.length y_1, .slice Y2 r.length y_2], zz) _ ⟨hHeld.1, hHeld.2.2.2.2.2.2, ⟨Y0, Y1, Y2, y_0, y_1, y_2, rfl, hv⟩, hz, gz⟩)
  rintro ⟨s1, s2, g8⟩ w5 ⟨hN5, hM5, ⟨V0, V1, V2, v0, v1, v2, hs2, hy⟩, hz, nz, n3, n4, nL⟩
  obtain rfl : s2 = _ := hs2
  replace hz : w5.heap[g8]? = some (.cells Ho.Z3 24 (0, 0)) := hz
  replace nz : w.heap.size ≤ g8 := nz
  replace n3 : g3 < g8 := n3
  replace n4 : g4 < g8 := n4
  replace nL : ∀ x ∈ ([] : List (Nat × Array Value)), x.1 < g8 := nL
  have hHeld : N5 ≤ w5.heap.size ∧ w5.cell? ⟨g3, 0, none⟩ = some (.slice A0 l0.length c0) ∧ w5.cell? ⟨g3, 1, none⟩ = some (.slice A1 l1.length c1) ∧ w5.cell? ⟨g3, 2, none⟩ = some (.slice A2 l2.length c2) ∧ w5.cell? ⟨g4, 0, none⟩ = some (.int .i64 J) ∧ w5.cell? ⟨g4, 1, none⟩ = some (.int .i64 I) ∧ U w g3 g4 #[.slice A0 l0.length c0, .slice A1 l1.length c1, .slice A2 l2.length c2] #[.int .i64 J, .int .i64 I] [] [] w5 := ⟨hN5, (blk_cell hM5.h3 0).trans rfl, (blk_cell hM5.h3 1).trans rfl, (blk_cell hM5.h3 2).trans rfl, (blk_cell hM5.h4 0).trans rfl, (blk_cell hM5.h4 1).trans rfl, hM5⟩
  refine norm_ (a' := ?_) ?_ ?_
  rotate_left
  · simp only [putAll, Act.put, List.setIfInBounds_toArray, List.set_cons_zero, List.set_cons_succ]
    rfl
  refine one_ (i := 7) (N := none) #[true, true, true, true, true, true, true, true] rfl rfl (by kernel_rfl) (by decide) (fun K hK => ?_)
  refine skip_ (w1 := ?_) (by rfl) rfl ?_ ?_
  rotate_left
  · skip
    have i0 : w5.cell? ⟨g8, 0, none⟩ = some (.slice none 0 0) := (blk_cell hz 0).trans rfl
    have i1 : w5.cell? ⟨g8, 1, none⟩ = some (.slice none 0 0) := (blk_cell hz 1).trans rfl
    have i2 : w5.cell? ⟨g8, 2, none⟩ = some (.slice none 0 0) := (blk_cell hz 2).trans rfl
    have j0 := blk_frozen hz 0
    have j1 := blk_frozen hz 1
    have j2 := blk_frozen hz 2
    go_simp
    rfl
  have hU6 := hM5.store hz n3 n4 nL nz (.slice V0 p.length v0) (.slice V1 q.length v1) (.slice V2 r.length v2)
  have hy6 := (hy.1.lower nwN5).store hz (.slice V0 p.length v0) (.slice V1 q.length v1) (.slice V2 r.length v2)
  have ho6 := hy.1.ge
  have hd6 := hy.2
  have hN6 : N5 ≤ (((w5.setCell ⟨g8, 0, none⟩ (.slice V0 p.length v0)).setCell ⟨g8, 1, none⟩ (.slice V1 q.length v1)).setCell ⟨g8, 2, none⟩ (.slice V2 r.length v2)).heap.size := Nat.le_trans hN5 (Nat.le_of_eq (by simp only [World.size_setCell]))
  generalize (((w5.setCell ⟨g8, 0, none⟩ (.slice V0 p.length v0)).setCell ⟨g8, 1, none⟩ (.slice V1 q.length v1)).setCell ⟨g8, 2, none⟩ (.slice V2 r.length v2)) = w6 at hU6 hy6 hN6 ⊢
  have hQ6 : U w g3 g4 #[.slice A0 l0.length c0, .slice A1 l1.length c1, .slice A2 l2.length c2] #[.int .i64 J, .int .i64 I] [] [] w6 := ⟨hU6.h3, hU6.h4, fun x hx => hU6.hL x (List.mem_cons_of_mem _ hx), hU6.hR, hU6.bel⟩
  refine hK.out _ _ ⟨hN6, (blk_cell hQ6.h3 0).trans rfl, (blk_cell hQ6.h3 1).trans rfl, (blk_cell hQ6.h3 2).trans rfl, (blk_cell hQ6.h4 0).trans rfl, (blk_cell hQ6.h4 1).trans rfl, hQ6⟩ (fun hHeld => ?_)
  clear hK K
  refine done_ (by kernel_rfl) ?_
  clear hHeld hU0 hU hM5 hQ6 hz hy nz n3 n4 nL hS0 hN5
  obtain ⟨n1, hn1⟩ : ∃ q, w6.heap.size = q := ⟨_, rfl⟩
  have nw1 : w.heap.size ≤ n1 := hn1 ▸ hU6.bel.size
  have hhV : ∀ k, Own3 (.slice V0 p.length v0) (.slice V1 q.length v1) (.slice V2 r.length v2) k → k < n1 := by rw [← hn1]; exact hy6.lt
  have hU := hU6.rows hy6 (lo := 0) (hi := n1) (fun _ _ => Nat.zero_le _) hhV
  clear hU6 hy6 ho6 hd6 hN6
  have i30 : w6.cell? ⟨g3, 0, none⟩ = some (.slice A0 l0.length c0) := (blk_cell hU.h3 0).trans rfl
  have i31 : w6.cell? ⟨g3, 1, none⟩ = some (.slice A1 l1.length c1) := (blk_cell hU.h3 1).trans rfl
  have i32 : w6.cell? ⟨g3, 2, none⟩ = some (.slice A2 l2.length c2) := (blk_cell hU.h3 2).trans rfl
  go_wp2_with fail
  refine (g18 _ (Kd.C_below hr0 hU.bel) (Kd.C_below hr1 hU.bel) (Kd.C_below hr2 hU.bel)).mono ?_
  rintro e w7 ⟨X0, X1, X2, x_0, x_1, x_2, rfl, hx, hb7⟩
  replace hU := hU.below hb7
  clear i30 i31 i32
  go_wp2_with fail
  rw [hn1] at hx
  have hgX : ∀ k, Own3 (.slice X0 l0.length x_0) (.slice X1 l1.length x_1) (.slice X2 l2.length x_2) k → n1 ≤ k := hx.1.ge
  have hdX := hx.2
  have hx9 := (hx.1.lower nw1).alloc (Obj.cells #[.slice X0 l0.length x_0, .slice X1 l1.length x_1, .slice X2 l2.length x_2] 24)
  replace hU := hU.box #[.slice X0 l0.length x_0, .slice X1 l1.length x_1, .slice X2 l2.length x_2]
  have n12 : n1 ≤ (w7.alloc (Obj.cells #[.slice X0 l0.length x_0, .slice X1 l1.length x_1, .slice X2 l2.length x_2] 24)).heap.size := by rw [Hm.alloc_size]; have := hb7.size; omega
  clear hx hb7 hn1
  generalize w7.alloc (Obj.cells _ 24) = w8 at hU hx9 n12 ⊢
  generalize w7.heap.size = g9 at hU ⊢
  obtain ⟨n2, hn2⟩ : ∃ q, w8.heap.size = q := ⟨_, rfl⟩
  rw [hn2] at n12
  have hhX : ∀ k, Own3 (.slice X0 l0.length x_0) (.slice X1 l1.length x_1) (.slice X2 l2.length x_2) k → k < n2 := by rw [← hn2]; exact hx9.lt
  replace hU := hU.rows hx9 hgX hhX
  have hn2a := Aside0.mk hn2
  clear hx9 hn2
  obtain ⟨N7, hN_⟩ : ∃ q, w8.heap.size = q := ⟨_, rfl⟩
  have nwN7 : w.heap.size ≤ N7 := hN_ ▸ hU.bel.size
  have hS0 : N7 ≤ w8.drew.heap.size := Nat.le_of_eq hN_.symm
  have hNN7 := Aside0.mk hN_
  clear hN_
  have hU0 := hU.drew
  refine start_ (n := 7) (S := fun w' => N7 ≤ w'.heap.size ∧ w'.cell? ⟨g9, 0, none⟩ = some (.slice X0 l0.length x_0) ∧ w'.cell? ⟨g9, 1, none⟩ = some (.slice X1 l1.length x_1) ∧ w'.cell? ⟨g9, 2, none⟩ = some (.slice X2 l2.length x_2) ∧ w'.cell? ⟨g4, 0, none⟩ = some (.int .i64 J) ∧ w'.cell? ⟨g4, 1, none⟩ = some (.int .i64 I) ∧ U w g3 g4 #[.slice A0 l0.length c0, .slice A1 l1.length c1, .slice A2 l2.length c2] #[.int .i64 J, .int .i64 I] [(g9, #[.slice X0 l0.length x_0, .slice X1 l1.length x_1, .slice X2 l2.length x_2]), (g8, #[.slice V0 p.length v0, .slice V1 q.length v1, .slice V2 r.length v2])] [(.slice X0 l0.length x_0, l0, n1, n2), (.slice X1 l1.length x_1, l1, n1, n2), (.slice X2 l2.length x_2, l2, n1, n2), (.slice V0 p.length v0, p, 0, n1), (.slice V1 q.length v1, q, 0, n1), (.slice V2 r.length v2, r, 0, n1)] w') (ds := []) #[false, false, false, false, false, false, false] (by kernel_rfl) rfl rfl ⟨hS0, (blk_cell (hU0.hL _ List.mem_cons_self) 0).trans rfl, (blk_cell (hU0.hL _ List.mem_cons_self) 1).trans rfl, (blk_cell (hU0.hL _ List.mem_cons_self) 2).trans rfl, (blk_cell hU0.h4 0).trans rfl, (blk_cell hU0.h4 1).trans rfl, hU0⟩ (fun hHeld => ?_)
  refine pure_ (i := 3) (N := some 31) (v := ?_) (a' := ?_) #[false, false, false, true, false, false, false] rfl rfl (by kernel_rfl) (fun _ _ _ h => h) (Or.inl ⟨by rfl, ?_⟩) ?_ ?_
  rotate_left
  · intro w'
    go_simp
    with_reducible rfl
  rotate_left
  · simp only [Act.put, List.setIfInBounds_toArray, List.set_cons_zero, List.set_cons_succ, i64_w, i32_w]
    rfl
  refine take_ (i := 0) (N := some 28) (v := ?_) (a' := ?_) #[true, false, false, true, false, false, false] rfl rfl (by kernel_rfl) (fun _ _ _ h => h) (Or.inl ⟨by rfl, ?_⟩) hHeld ?_ ?_
  rotate_left
  · rintro w' ⟨s0, s1, s2, s3, s4, s5, s6⟩
    go_simp
    with_reducible rfl
  rotate_left
  · simp only [Act.put, List.setIfInBounds_toArray, List.set_cons_zero, List.set_cons_succ, i64_w, i32_w]
    rfl
  refine take_ (i := 1) (N := some 29) (v := ?_) (a' := ?_) #[true, true, false, true, false, false, false] rfl rfl (by kernel_rfl) (fun _ _ _ h => h) (Or.inl ⟨by rfl, ?_⟩) hHeld ?_ ?_
  rotate_left
  · rintro w' ⟨s0, s1, s2, s3, s4, s5, s6⟩
    go_simp
    with_reducible rfl
  rotate_left
  · simp only [Act.put, List.setIfInBounds_toArray, List.set_cons_zero, List.set_cons_succ, i64_w, i32_w]
    rfl
  refine join_ (σ := Value × Nat) 1 #[true, true, true, true, true, true, false] (fun s_ => [(30, .agg #[.int .i64 J, .int .i64 I]), (32, s_.1), (10, .pointer (some ⟨s_.2, 0, none⟩))]) (fun s_ w' => N7 ≤ w'.heap.size ∧ U w g3 g4 #[.slice A0 l0.length c0, .slice A1 l1.length c1, .slice A2 l2.length c2] #[.int .i64 J, .int .i64 I] [(g9, #[.slice X0 l0.length x_0, .slice X1 l1.length x_1, .slice X2 l2.length x_2]), (g8, #[.slice V0 p.length v0, .slice V1 q.length v1, .slice V2 r.length v2])] [(.slice X0 l0.length x_0, l0, n1, n2), (.slice X1 l1.length x_1, l1, n1, n2), (.slice X2 l2.length x_2, l2, n1, n2), (.slice V0 p.length v0, p, 0, n1), (.slice V1 q.length v1, q, 0, n1), (.slice V2 r.length v2, r, 0, n1)] w' ∧ (∃ G0 G1 G2 g_0 g_1 g_2, s_.1 = .agg #[.slice G0 p.length g_0, .slice G1 q.length g_1, .slice G2 r.length g_2] ∧ M3 N7 w' (.slice G0 p.length g_0) (.slice G1 q.length g_1) (.slice G2 r.length g_2) p q r) ∧ w'.heap[s_.2]? = some (.cells Ho.Z3 24 (0, 0)) ∧ w.heap.size ≤ s_.2 ∧ g3 < s_.2 ∧ g4 < s_.2 ∧ ∀ x ∈ ([(g9, #[.slice X0 l0.length x_0, .slice X1 l1.length x_1, .slice X2 l2.length x_2]), (g8, #[.slice V0 p.length v0, .slice V1 q.length v1, .slice V2 r.length v2])] : List (Nat × Array Value)), x.1 < s_.2) ?_ ?_
  rotate_left
  · intro hCont
    refine two_ (i := 2) (j := 5) (Ni := some 30) (Nj := some 10) #[true, true, true, true, false, false, false] #[true, true, false, true, false, true, false] rfl rfl rfl rfl (by kernel_rfl) (by decide) (by decide) (fun K hK => ?_) (fun K hK => ?_)
    · skip
      refine goes_ Try.func23 (by kernel_rfl) rfl #[.agg #[.int .i64 J, .int .i64 I]] (by rfl) rfl rfl (by simp only [List.map_toArray, List.map_cons, List.map_nil]; rfl) ?_
      with_reducible refine (g23 _).mono ?_
      rintro e wc2 ⟨rfl, hb2⟩
      refine ⟨_, rfl, ?_⟩
      have hU2 := hHeld.2.2.2.2.2.2.below hb2
      refine hK.out _ _ ⟨(Nat.le_trans hHeld.1 hb2.size), (blk_cell (hU2.hL _ List.mem_cons_self) 0).trans rfl, (blk_cell (hU2.hL _ List.mem_cons_self) 1).trans rfl, (blk_cell (hU2.hL _ List.mem_cons_self) 2).trans rfl, (blk_cell hU2.h4 0).trans rfl, (blk_cell hU2.h4 1).trans rfl, hU2⟩ (fun hHeld => ?_)
      clear hK K
      refine norm_ (a' := ?_) ?_ ?_
      rotate_left
      · show Act.put _ (some 30) _ = _
        simp only [Act.put, List.setIfInBounds_toArray, List.set_cons_zero, List.set_cons_succ, i64_w, i32_w]
        rfl
      refine two_ (i := 4) (j := 5) (Ni := some 32) (Nj := some 10) #[true, true, true, true, true, false, false] #[true, true, true, true, false, true, false] rfl rfl rfl rfl (by kernel_rfl) (by decide) (by decide) (fun K hK => ?_) (fun K hK => ?_)
      · skip
        refine goes_ Try.func26 (by kernel_rfl) rfl #[.agg #[.slice X0 l0.length x_0, .slice X1 l1.length x_1, .slice X2 l2.length x_2], .agg #[.int .i64 J, .int .i64 I], .int .i64 n] (by rfl) rfl rfl (by simp only [List.map_toArray, List.map_cons, List.map_nil]; rfl) ?_
        with_reducible refine (put26 _ _ _ l0 l1 l2 p q r J I n hp hq hrr _ _ (hHeld.2.2.2.2.2.2.r3 List.mem_cons_self (List.mem_cons_of_mem _ List.mem_cons_self) (List.mem_cons_of_mem _ (List.mem_cons_of_mem _ List.mem_cons_self)))).mono ?_
        rintro e wc4 ⟨Y0, Y1, Y2, y_0, y_1, y_2, rfl, hv, hb4⟩
        refine ⟨_, rfl, ?_⟩
        replace hv : M3 N7 _ _ _ _ _ _ _ := ⟨hv.1.lower hHeld.1, hv.2⟩
        have hU4 := hHeld.2.2.2.2.2.2.below hb4
        refine hK.out _ _ ⟨(Nat.le_trans hHeld.1 hb4.size), (blk_cell (hU4.hL _ List.mem_cons_self) 0).trans rfl, (blk_cell (hU4.hL _ List.mem_cons_self) 1).trans rfl, (blk_cell (hU4.hL _ List.mem_cons_self) 2).trans rfl, (blk_cell hU4.h4 0).trans rfl, (blk_cell hU4.h4 1).trans rfl, hU4⟩ (fun hHeld => ?_)
        clear hK K
        refine norm_ (a' := ?_) ?_ ?_
        rotate_left
        · show Act.put _ (some 32) _ = _
          simp only [Act.put, List.setIfInBounds_toArray, List.set_cons_zero, List.set_cons_succ, i64_w, i32_w]
          rfl
        refine one_ (i := 5) (N := some 10) #[true, true, true, true, true, true, false] rfl rfl (by kernel_rfl) (by decide) (fun K hK => ?_)
        refine value_ (w1 := ?_) (v := ?_) (by rfl) rfl ?_ ?_
        rotate_left 2
        · go_simp
          constructor
          · rfl
          · rfl
        have hUz := hHeld.2.2.2.2.2.2
        have gz : w.heap.size ≤ wc4.heap.size ∧ g3 < wc4.heap.size ∧ g4 < wc4.heap.size ∧ ∀ x ∈ ([(g9, #[.slice X0 l0.length x_0, .slice X1 l1.length x_1, .slice X2 l2.length x_2]), (g8, #[.slice V0 p.length v0, .slice V1 q.length v1, .slice V2 r.length v2])] : List (Nat × Array Value)), x.1 < wc4.heap.size := ⟨hUz.bel.size, hUz.lt3, hUz.lt4, hUz.ltL⟩
        have hz : (wc4.alloc (Obj.cells #[.slice none 0 0, .slice none 0 0, .slice none 0 0] 24)).heap[wc4.heap.size]? = some (.cells Ho.Z3 24 (0, 0)) := heap_alloc_new wc4 (Obj.cells #[.slice none 0 0, .slice none 0 0, .slice none 0 0] 24)
        replace hUz := hUz.alloc (Obj.cells #[.slice none 0 0, .slice none 0 0, .slice none 0 0] 24)
        have hNz : N7 ≤ (wc4.alloc (Obj.cells #[.slice none 0 0, .slice none 0 0, .slice none 0 0] 24)).heap.size := Nat.le_trans hHeld.1 (Nat.le_trans (Nat.le_succ _) (Nat.le_of_eq (Hm.alloc_size wc4 (Obj.cells #[.slice none 0 0, .slice none 0 0, .slice none 0 0] 24)).symm))
        replace hv : M3 _ _ _ _ _ _ _ _ := ⟨hv.1.alloc (Obj.cells #[.slice none 0 0, .slice none 0 0, .slice none 0 0] 24), hv.2⟩
        generalize wc4.alloc (Obj.cells #[.slice none 0 0, .slice none 0 0, .slice none 0 0] 24) = wz at hz hUz hNz hv ⊢
        generalize wc4.heap.size = zz at gz hz ⊢
        refine hK.out _ _ ⟨hNz, (blk_cell (hUz.hL _ List.mem_cons_self) 0).trans rfl, (blk_cell (hUz.hL _ List.mem_cons_self) 1).trans rfl, (blk_cell (hUz.hL _ List.mem_cons_self) 2).trans rfl, (blk_cell hUz.h4 0).trans rfl, (blk_cell hUz.h4 1).trans rfl, hUz⟩ (fun hHeld => ?_)
        clear hK K
        refine norm_ (a' := ?_) ?_ ?_
        rotate_left
        · show Act.put _ (some 10) _ = _
          simp only [Act.put, List.setIfInBounds_toArray, List.set_cons_zero, List.set_cons_succ, i64_w, i32_w]
          rfl
        exact norm_ (by simp only [putAll, Act.put, List.setIfInBounds_toArray, List.set_cons_zero, List.set_cons_succ]) (hCont (.agg #[.slice Y0 p.length y_0, .slice Y1 q.length y_1, .slice Y2 r.length y_2], zz) _ ⟨hHeld.1, hHeld.2.2.2.2.2.2, ⟨Y0, Y1, Y2, y_0, y_1, y_2, rfl, hv⟩, hz, gz⟩)
      · skip
        refine value_ (w1 := ?_) (v := ?_) (by rfl) rfl ?_ ?_
        rotate_left 2
        · go_simp
          constructor
          · rfl
          · rfl
        have hUz := hHeld.2.2.2.2.2.2
        have gz : w.heap.size ≤ wc2.heap.size ∧ g3 < wc2.heap.size ∧ g4 < wc2.heap.size ∧ ∀ x ∈ ([(g9, #[.slice X0 l0.length x_0, .slice X1 l1.length x_1, .slice X2 l2.length x_2]), (g8, #[.slice V0 p.length v0, .slice V1 q.length v1, .slice V2 r.length v2])] : List (Nat × Array Value)), x.1 < wc2.heap.size := ⟨hUz.bel.size, hUz.lt3, hUz.lt4, hUz.ltL⟩
        have hz : (wc2.alloc (Obj.cells #[.slice none 0 0, .slice none 0 0, .slice none 0 0] 24)).heap[wc2.heap.size]? = some (.cells Ho.Z3 24 (0, 0)) := heap_alloc_new wc2 (Obj.cells #[.slice none 0 0, .slice none 0 0, .slice none 0 0] 24)
        replace hUz := hUz.alloc (Obj.cells #[.slice none 0 0, .slice none 0 0, .slice none 0 0] 24)
        have hNz : N7 ≤ (wc2.alloc (Obj.cells #[.slice none 0 0, .slice none 0 0, .slice none 0 0] 24)).heap.size := Nat.le_trans hHeld.1 (Nat.le_trans (Nat.le_succ _) (Nat.le_of_eq (Hm.alloc_size wc2 (Obj.cells #[.slice none 0 0, .slice none 0 0, .slice none 0 0] 24)).symm))
        generalize wc2.alloc (Obj.cells #[.slice none 0 0, .slice none 0 0, .slice none 0 0] 24) = wz at hz hUz hNz  ⊢
        generalize wc2.heap.size = zz at gz hz ⊢
        refine hK.out _ _ ⟨hNz, (blk_cell (hUz.hL _ List.mem_cons_self) 0).trans rfl, (blk_cell (hUz.hL _ List.mem_cons_self) 1).trans rfl, (blk_cell (hUz.hL _ List.mem_cons_self) 2).trans rfl, (blk_cell hUz.h4 0).trans rfl, (blk_cell hUz.h4 1).trans rfl, hUz⟩ (fun hHeld => ?_)
        clear hK K
        refine norm_ (a' := ?_) ?_ ?_
        rotate_left
        · show Act.put _ (some 10) _ = _
          simp only [Act.put, List.setIfInBounds_toArray, List.set_cons_zero, List.set_cons_succ, i64_w, i32_w]
          rfl
        refine one_ (i := 4) (N := some 32) #[true, true, true, true, true, true, false] rfl rfl (by kernel_rfl) (by decide) (fun K hK => ?_)
        refine goes_ Try.func26 (by kernel_rfl) rfl #[.agg #[.slice X0 l0.length x_0, .slice X1 l1.length x_1, .slice X2 l2.length x_2], .agg #[.int .i64 J, .int .i64 I], .int .i64 n] (by rfl) rfl rfl (by simp only [List.map_toArray, List.map_cons, List.map_nil]; rfl) ?_
        with_reducible refine (put26 _ _ _ l0 l1 l2 p q r J I n hp hq hrr _ _ (hHeld.2.2.2.2.2.2.r3 List.mem_cons_self (List.mem_cons_of_mem _ List.mem_cons_self) (List.mem_cons_of_mem _ (List.mem_cons_of_mem _ List.mem_cons_self)))).mono ?_
        rintro e wc4 ⟨Y0, Y1, Y2, y_0, y_1, y_2, rfl, hv, hb4⟩
        refine ⟨_, rfl, ?_⟩
        have hz := blk_below hz hb4
        replace hv : M3 N7 _ _ _ _ _ _ _ := ⟨hv.1.lower hHeld.1, hv.2⟩
        have hU4 := hHeld.2.2.2.2.2.2.below hb4
        refine hK.out _ _ ⟨(Nat.le_trans hHeld.1 hb4.size), (blk_cell (hU4.hL _ List.mem_cons_self) 0).trans rfl, (blk_cell (hU4.hL _ List.mem_cons_self) 1).trans rfl, (blk_cell (hU4.hL _ List.mem_cons_self) 2).trans rfl, (blk_cell hU4.h4 0).trans rfl, (blk_cell hU4.h4 1).trans rfl, hU4⟩ (fun hHeld => ?_)
        clear hK K
        refine norm_ (a' := ?_) ?_ ?_
        rotate_left
        · show Act.put _ (some 32) _ = _
          simp only [Act.put, List.setIfInBounds_toArray, List.set_cons_zero, List.set_cons_succ, i64_w, i32_w]
          rfl
        exact norm_ (by simp only [putAll, Act.put, List.setIfInBounds_toArray, List.set_cons_zero, List.set_cons_succ]) (hCont (.agg #[.slice Y0 p.length y_0, .slice Y1 q.length y_1, .slice Y2 r.length y_2], zz) _ ⟨hHeld.1, hHeld.2.2.2.2.2.2, ⟨Y0, Y1, Y2, y_0, y_1, y_2, rfl, hv⟩, hz, gz⟩)
    · skip
      refine value_ (w1 := ?_) (v := ?_) (by rfl) rfl ?_ ?_
      rotate_left 2
      · go_simp
        constructor
        · rfl
        · rfl
      have gz : w.heap.size ≤ w8.heap.size ∧ g3 < w8.heap.size ∧ g4 < w8.heap.size ∧ ∀ x ∈ ([(g9, #[.slice X0 l0.length x_0, .slice X1 l1.length x_1, .slice X2 l2.length x_2]), (g8, #[.slice V0 p.length v0, .slice V1 q.length v1, .slice V2 r.length v2])] : List (Nat × Array Value)), x.1 < w8.heap.size := ⟨hU.bel.size, hU.lt3, hU.lt4, hU.ltL⟩
      have hz : (w8.alloc (Obj.cells #[.slice none 0 0, .slice none 0 0, .slice none 0 0] 24)).drew.heap[w8.heap.size]? = some (.cells Ho.Z3 24 (0, 0)) := heap_alloc_new w8 (Obj.cells #[.slice none 0 0, .slice none 0 0, .slice none 0 0] 24)
      have hUz := (hU.alloc (Obj.cells #[.slice none 0 0, .slice none 0 0, .slice none 0 0] 24)).drew
      have hNz : N7 ≤ (w8.alloc (Obj.cells #[.slice none 0 0, .slice none 0 0, .slice none 0 0] 24)).drew.heap.size := Nat.le_trans hHeld.1 (Nat.le_trans (Nat.le_succ _) (Nat.le_of_eq (Hm.alloc_size w8 (Obj.cells #[.slice none 0 0, .slice none 0 0, .slice none 0 0] 24)).symm))
      generalize (w8.alloc (Obj.cells #[.slice none 0 0, .slice none 0 0, .slice none 0 0] 24)).drew = wz at hz hUz hNz ⊢
      generalize w8.heap.size = zz at gz hz ⊢
      refine hK.out _ _ ⟨hNz, (blk_cell (hUz.hL _ List.mem_cons_self) 0).trans rfl, (blk_cell (hUz.hL _ List.mem_cons_self) 1).trans rfl, (blk_cell (hUz.hL _ List.mem_cons_self) 2).trans rfl, (blk_cell hUz.h4 0).trans rfl, (blk_cell hUz.h4 1).trans rfl, hUz⟩ (fun hHeld => ?_)
      clear hK K
      refine norm_ (a' := ?_) ?_ ?_
      rotate_left
      · show Act.put _ (some 10) _ = _
        simp only [Act.put, List.setIfInBounds_toArray, List.set_cons_zero, List.set_cons_succ, i64_w, i32_w]
        rfl
      refine one_ (i := 2) (N := some 30) #[true, true, true, true, false, true, false] rfl rfl (by kernel_rfl) (by decide) (fun K hK => ?_)
      refine goes_ Try.func23 (by kernel_rfl) rfl #[.agg #[.int .i64 J, .int .i64 I]] (by rfl) rfl rfl (by simp only [List.map_toArray, List.map_cons, List.map_nil]; rfl) ?_
      with_reducible refine (g23 _).mono ?_
      rintro e wc2 ⟨rfl, hb2⟩
      refine ⟨_, rfl, ?_⟩
      have hz := blk_below hz hb2
      have hU2 := hHeld.2.2.2.2.2.2.below hb2
      refine hK.out _ _ ⟨(Nat.le_trans hHeld.1 hb2.size), (blk_cell (hU2.hL _ List.mem_cons_self) 0).trans rfl, (blk_cell (hU2.hL _ List.mem_cons_self) 1).trans rfl, (blk_cell (hU2.hL _ List.mem_cons_self) 2).trans rfl, (blk_cell hU2.h4 0).trans rfl, (blk_cell hU2.h4 1).trans rfl, hU2⟩ (fun hHeld => ?_)
      clear hK K
      refine norm_ (a' := ?_) ?_ ?_
      rotate_left
      · show Act.put _ (some 30) _ = _
        simp only [Act.put, List.setIfInBounds_toArray, List.set_cons_zero, List.set_cons_succ, i64_w, i32_w]
        rfl
      refine one_ (i := 4) (N := some 32) #[true, true, true, true, true, true, false] rfl rfl (by kernel_rfl) (by decide) (fun K hK => ?_)
      refine goes_ Try.func26 (by kernel_rfl) rfl #[.agg #[.slice X0 l0.length x_0, .slice X1 l1.length x_1, .slice X2 l2.length x_2], .agg #[.int .i64 J, .int .i64 I], .int .i64 n] (by rfl) rfl rfl (by simp only [List.map_toArray, List.map_cons, List.map_nil]; rfl) ?_
      with_reducible refine (put26 _ _ _ l0 l1 l2 p q r J I n hp hq hrr _ _ (hHeld.2.2.2.2.2.2.r3 List.mem_cons_self (List.mem_cons_of_mem _ List.mem_cons_self) (List.mem_cons_of_mem _ (List.mem_cons_of_mem _ List.mem_cons_self)))).mono ?_
      rintro e wc4 ⟨Y0, Y1, Y2, y_0, y_1, y_2, rfl, hv, hb4⟩
      refine ⟨_, rfl, ?_⟩
      have hz := blk_below hz hb4
      replace hv : M3 N7 _ _ _ _ _ _ _ := ⟨hv.1.lower hHeld.1, hv.2⟩
      have hU4 := hHeld.2.2.2.2.2.2.below hb4
      refine hK.out _ _ ⟨(Nat.le_trans hHeld.1 hb4.size), (blk_cell (hU4.hL _ List.mem_cons_self) 0).trans rfl, (blk_cell (hU4.hL _ List.mem_cons_self) 1).trans rfl, (blk_cell (hU4.hL _ List.mem_cons_self) 2).trans rfl, (blk_cell hU4.h4 0).trans rfl, (blk_cell hU4.h4 1).trans rfl, hU4⟩ (fun hHeld => ?_)
      clear hK K
      refine norm_ (a' := ?_) ?_ ?_
      rotate_left
      · show Act.put _ (some 32) _ = _
        simp only [Act.put, List.setIfInBounds_toArray, List.set_cons_zero, List.set_cons_succ, i64_w, i32_w]
        rfl
      exact norm_ (by simp only [putAll, Act.put, List.setIfInBounds_toArray, List.set_cons_zero, List.set_cons_succ]) (hCont (.agg #[.slice Y0 p.length y_0, .slice Y1 q.length y_1, .slice Y2 r.length y_2], zz) _ ⟨hHeld.1, hHeld.2.2.2.2.2.2, ⟨Y0, Y1, Y2, y_0, y_1, y_2, rfl, hv⟩, hz, gz⟩)
  rintro ⟨s1, g10⟩ w5 ⟨hN5, hM5, ⟨G0, G1, G2, g_0, g_1, g_2, hs2, hy⟩, hz, nz, n3, n4, nL⟩
  obtain rfl : s1 = _ := hs2
  replace hz : w5.heap[g10]? = some (.cells Ho.Z3 24 (0, 0)) := hz
  replace nz : w.heap.size ≤ g10 := nz
  replace n3 : g3 < g10 := n3
  replace n4 : g4 < g10 := n4
  replace nL : ∀ x ∈ ([(g9, #[.slice X0 l0.length x_0, .slice X1 l1.length x_1, .slice X2 l2.length x_2]), (g8, #[.slice V0 p.length v0, .slice V1 q.length v1, .slice V2 r.length v2])] : List (Nat × Array Value)), x.1 < g10 := nL
  have hHeld : N7 ≤ w5.heap.size ∧ w5.cell? ⟨g9, 0, none⟩ = some (.slice X0 l0.length x_0) ∧ w5.cell? ⟨g9, 1, none⟩ = some (.slice X1 l1.length x_1) ∧ w5.cell? ⟨g9, 2, none⟩ = some (.slice X2 l2.length x_2) ∧ w5.cell? ⟨g4, 0, none⟩ = some (.int .i64 J) ∧ w5.cell? ⟨g4, 1, none⟩ = some (.int .i64 I) ∧ U w g3 g4 #[.slice A0 l0.length c0, .slice A1 l1.length c1, .slice A2 l2.length c2] #[.int .i64 J, .int .i64 I] [(g9, #[.slice X0 l0.length x_0, .slice X1 l1.length x_1, .slice X2 l2.length x_2]), (g8, #[.slice V0 p.length v0, .slice V1 q.length v1, .slice V2 r.length v2])] [(.slice X0 l0.length x_0, l0, n1, n2), (.slice X1 l1.length x_1, l1, n1, n2), (.slice X2 l2.length x_2, l2, n1, n2), (.slice V0 p.length v0, p, 0, n1), (.slice V1 q.length v1, q, 0, n1), (.slice V2 r.length v2, r, 0, n1)] w5 := ⟨hN5, (blk_cell (hM5.hL _ List.mem_cons_self) 0).trans rfl, (blk_cell (hM5.hL _ List.mem_cons_self) 1).trans rfl, (blk_cell (hM5.hL _ List.mem_cons_self) 2).trans rfl, (blk_cell hM5.h4 0).trans rfl, (blk_cell hM5.h4 1).trans rfl, hM5⟩
  refine norm_ (a' := ?_) ?_ ?_
  rotate_left
  · simp only [putAll, Act.put, List.setIfInBounds_toArray, List.set_cons_zero, List.set_cons_succ]
    rfl
  refine one_ (i := 6) (N := none) #[true, true, true, true, true, true, true] rfl rfl (by kernel_rfl) (by decide) (fun K hK => ?_)
  refine skip_ (w1 := ?_) (by rfl) rfl ?_ ?_
  rotate_left
  · skip
    have i0 : w5.cell? ⟨g10, 0, none⟩ = some (.slice none 0 0) := (blk_cell hz 0).trans rfl
    have i1 : w5.cell? ⟨g10, 1, none⟩ = some (.slice none 0 0) := (blk_cell hz 1).trans rfl
    have i2 : w5.cell? ⟨g10, 2, none⟩ = some (.slice none 0 0) := (blk_cell hz 2).trans rfl
    have j0 := blk_frozen hz 0
    have j1 := blk_frozen hz 1
    have j2 := blk_frozen hz 2
    go_simp
    rfl
  have hU6 := hM5.store hz n3 n4 nL nz (.slice G0 p.length g_0) (.slice G1 q.length g_1) (.slice G2 r.length g_2)
  have hy6 := (hy.1.lower nwN7).store hz (.slice G0 p.length g_0) (.slice G1 q.length g_1) (.slice G2 r.length g_2)
  have ho6 := hy.1.ge
  have hd6 := hy.2
  have hN6 : N7 ≤ (((w5.setCell ⟨g10, 0, none⟩ (.slice G0 p.length g_0)).setCell ⟨g10, 1, none⟩ (.slice G1 q.length g_1)).setCell ⟨g10, 2, none⟩ (.slice G2 r.length g_2)).heap.size := Nat.le_trans hN5 (Nat.le_of_eq (by simp only [World.size_setCell]))
  generalize (((w5.setCell ⟨g10, 0, none⟩ (.slice G0 p.length g_0)).setCell ⟨g10, 1, none⟩ (.slice G1 q.length g_1)).setCell ⟨g10, 2, none⟩ (.slice G2 r.length g_2)) = w6 at hU6 hy6 hN6 ⊢
  have hQ6 : U w g3 g4 #[.slice A0 l0.length c0, .slice A1 l1.length c1, .slice A2 l2.length c2] #[.int .i64 J, .int .i64 I] [(g9, #[.slice X0 l0.length x_0, .slice X1 l1.length x_1, .slice X2 l2.length x_2]), (g8, #[.slice V0 p.length v0, .slice V1 q.length v1, .slice V2 r.length v2])] [(.slice X0 l0.length x_0, l0, n1, n2), (.slice X1 l1.length x_1, l1, n1, n2), (.slice X2 l2.length x_2, l2, n1, n2), (.slice V0 p.length v0, p, 0, n1), (.slice V1 q.length v1, q, 0, n1), (.slice V2 r.length v2, r, 0, n1)] w6 := ⟨hU6.h3, hU6.h4, fun x hx => hU6.hL x (List.mem_cons_of_mem _ hx), hU6.hR, hU6.bel⟩
  refine hK.out _ _ ⟨hN6, (blk_cell (hQ6.hL _ List.mem_cons_self) 0).trans rfl, (blk_cell (hQ6.hL _ List.mem_cons_self) 1).trans rfl, (blk_cell (hQ6.hL _ List.mem_cons_self) 2).trans rfl, (blk_cell hQ6.h4 0).trans rfl, (blk_cell hQ6.h4 1).trans rfl, hQ6⟩ (fun hHeld => ?_)
  clear hK K
  refine done_ (by kernel_rfl) ?_
  clear hHeld hU0 hU hM5 hQ6 hz hy nz n3 n4 nL hS0 hN5
  have hgG : ∀ k, Own3 (.slice G0 p.length g_0) (.slice G1 q.length g_1) (.slice G2 r.length g_2) k → n2 ≤ k := fun k hk => by have := ho6 k hk; have := hNN7.out; have := hn2a.out; omega
  have hdG := hd6
  obtain ⟨nG, hn3⟩ : ∃ q, w6.heap.size = q := ⟨_, rfl⟩
  have hhG : ∀ k, Own3 (.slice G0 p.length g_0) (.slice G1 q.length g_1) (.slice G2 r.length g_2) k → k < nG := by rw [← hn3]; exact hy6.lt
  have hU := hU6.rows hy6 hgG hhG
  clear hU6 hy6 ho6 hd6 hN6 hn3 hn2a hNN7 hNN5
  have ia0 : w6.cell? ⟨g10, 0, none⟩ = some (.slice G0 p.length g_0) := (blk_cell (hU.hL _ List.mem_cons_self) 0).trans rfl
  have ia1 : w6.cell? ⟨g10, 1, none⟩ = some (.slice G1 q.length g_1) := (blk_cell (hU.hL _ List.mem_cons_self) 1).trans rfl
  have ia2 : w6.cell? ⟨g10, 2, none⟩ = some (.slice G2 r.length g_2) := (blk_cell (hU.hL _ List.mem_cons_self) 2).trans rfl
  have ic0 : w6.cell? ⟨g8, 0, none⟩ = some (.slice V0 p.length v0) := (blk_cell (hU.hL _ (List.mem_cons_of_mem _ (List.mem_cons_of_mem _ List.mem_cons_self))) 0).trans rfl
  have ic1 : w6.cell? ⟨g8, 1, none⟩ = some (.slice V1 q.length v1) := (blk_cell (hU.hL _ (List.mem_cons_of_mem _ (List.mem_cons_of_mem _ List.mem_cons_self))) 1).trans rfl
  have ic2 : w6.cell? ⟨g8, 2, none⟩ = some (.slice V2 r.length v2) := (blk_cell (hU.hL _ (List.mem_cons_of_mem _ (List.mem_cons_of_mem _ List.mem_cons_self))) 2).trans rfl
  go_wp2_with fail
  refine (eq13 KK _ _ _ _ _ _ p q r heq _ _ _ (hU.r3 List.mem_cons_self (List.mem_cons_of_mem _ List.mem_cons_self) (List.mem_cons_of_mem _ (List.mem_cons_of_mem _ List.mem_cons_self))) (hU.r3 (List.mem_cons_of_mem _ (List.mem_cons_of_mem _ (List.mem_cons_of_mem _ (List.mem_cons_of_mem _ (List.mem_cons_of_mem _ (List.mem_cons_of_mem _ List.mem_cons_self)))))) (List.mem_cons_of_mem _ (List.mem_cons_of_mem _ (List.mem_cons_of_mem _ (List.mem_cons_of_mem _ (List.mem_cons_of_mem _ (List.mem_cons_of_mem _ (List.mem_cons_of_mem _ List.mem_cons_self))))))) (List.mem_cons_of_mem _ (List.mem_cons_of_mem _ (List.mem_cons_of_mem _ (List.mem_cons_of_mem _ (List.mem_cons_of_mem _ (List.mem_cons_of_mem _ (List.mem_cons_of_mem _ (List.mem_cons_of_mem _ List.mem_cons_self)))))))))).mono ?_
  rintro e w9 ⟨rfl, hb9⟩
  replace hU := hU.below hb9
  clear ia0 ia1 ia2 ic0 ic1 ic2 hb9
  go_wp2_with fail
  obtain ⟨N10, hN_⟩ : ∃ q, w9.heap.size = q := ⟨_, rfl⟩
  have nwN10 : w.heap.size ≤ N10 := hN_ ▸ hU.bel.size
  have hS0 : N10 ≤ w9.drew.heap.size := Nat.le_of_eq hN_.symm
  have hNN10 := Aside0.mk hN_
  clear hN_
  have hU0 := hU.drew
  refine start_ (n := 5) (S := fun w' => N10 ≤ w'.heap.size ∧ w'.cell? ⟨g9, 0, none⟩ = some (.slice X0 l0.length x_0) ∧ w'.cell? ⟨g9, 1, none⟩ = some (.slice X1 l1.length x_1) ∧ w'.cell? ⟨g9, 2, none⟩ = some (.slice X2 l2.length x_2) ∧ w'.cell? ⟨g3, 0, none⟩ = some (.slice A0 l0.length c0) ∧ w'.cell? ⟨g3, 1, none⟩ = some (.slice A1 l1.length c1) ∧ w'.cell? ⟨g3, 2, none⟩ = some (.slice A2 l2.length c2) ∧ U w g3 g4 #[.slice A0 l0.length c0, .slice A1 l1.length c1, .slice A2 l2.length c2] #[.int .i64 J, .int .i64 I] [(g10, #[.slice G0 p.length g_0, .slice G1 q.length g_1, .slice G2 r.length g_2]), (g9, #[.slice X0 l0.length x_0, .slice X1 l1.length x_1, .slice X2 l2.length x_2]), (g8, #[.slice V0 p.length v0, .slice V1 q.length v1, .slice V2 r.length v2])] [(.slice G0 p.length g_0, p, n2, nG), (.slice G1 q.length g_1, q, n2, nG), (.slice G2 r.length g_2, r, n2, nG), (.slice X0 l0.length x_0, l0, n1, n2), (.slice X1 l1.length x_1, l1, n1, n2), (.slice X2 l2.length x_2, l2, n1, n2), (.slice V0 p.length v0, p, 0, n1), (.slice V1 q.length v1, q, 0, n1), (.slice V2 r.length v2, r, 0, n1)] w') (ds := []) #[false, false, false, false, false] (by kernel_rfl) rfl rfl ⟨hS0, (blk_cell (hU0.hL _ (List.mem_cons_of_mem _ List.mem_cons_self)) 0).trans rfl, (blk_cell (hU0.hL _ (List.mem_cons_of_mem _ List.mem_cons_self)) 1).trans rfl, (blk_cell (hU0.hL _ (List.mem_cons_of_mem _ List.mem_cons_self)) 2).trans rfl, (blk_cell hU0.h3 0).trans rfl, (blk_cell hU0.h3 1).trans rfl, (blk_cell hU0.h3 2).trans rfl, hU0⟩ (fun hHeld => ?_)
  refine take_ (i := 0) (N := some 37) (v := ?_) (a' := ?_) #[true, false, false, false, false] rfl rfl (by kernel_rfl) (fun _ _ _ h => h) (Or.inl ⟨by rfl, ?_⟩) hHeld ?_ ?_
  rotate_left
  · rintro w' ⟨s0, s1, s2, s3, s4, s5, s6, s7⟩
    go_simp
    with_reducible rfl
  rotate_left
  · simp only [Act.put, List.setIfInBounds_toArray, List.set_cons_zero, List.set_cons_succ, i64_w, i32_w]
    rfl
  refine take_ (i := 1) (N := some 38) (v := ?_) (a' := ?_) #[true, true, false, false, false] rfl rfl (by kernel_rfl) (fun _ _ _ h => h) (Or.inl ⟨by rfl, ?_⟩) hHeld ?_ ?_
  rotate_left
  · rintro w' ⟨s0, s1, s2, s3, s4, s5, s6, s7⟩
    go_simp
    with_reducible rfl
  rotate_left
  · simp only [Act.put, List.setIfInBounds_toArray, List.set_cons_zero, List.set_cons_succ, i64_w, i32_w]
    rfl
  refine one_ (i := 2) (N := some 39) #[true, true, true, false, false] rfl rfl (by kernel_rfl) (by decide) (fun K hK => ?_)
  refine goes_ Try.func18 (by kernel_rfl) rfl #[.agg #[.slice A0 l0.length c0, .slice A1 l1.length c1, .slice A2 l2.length c2]] (by rfl) rfl rfl (by simp only [List.map_toArray, List.map_cons, List.map_nil]; rfl) ?_
  with_reducible refine (g18 _ (Kd.C_below hr0 hHeld.2.2.2.2.2.2.2.bel) (Kd.C_below hr1 hHeld.2.2.2.2.2.2.2.bel) (Kd.C_below hr2 hHeld.2.2.2.2.2.2.2.bel)).mono ?_
  rintro e wc2 ⟨T0, T1, T2, t_0, t_1, t_2, rfl, hu, hb2⟩
  refine ⟨_, rfl, ?_⟩
  replace hu : M3 N10 _ _ _ _ _ _ _ := ⟨hu.1.lower hHeld.1, hu.2⟩
  have hU2 := hHeld.2.2.2.2.2.2.2.below hb2
  refine hK.out _ _ ⟨(Nat.le_trans hHeld.1 hb2.size), (blk_cell (hU2.hL _ (List.mem_cons_of_mem _ List.mem_cons_self)) 0).trans rfl, (blk_cell (hU2.hL _ (List.mem_cons_of_mem _ List.mem_cons_self)) 1).trans rfl, (blk_cell (hU2.hL _ (List.mem_cons_of_mem _ List.mem_cons_self)) 2).trans rfl, (blk_cell hU2.h3 0).trans rfl, (blk_cell hU2.h3 1).trans rfl, (blk_cell hU2.h3 2).trans rfl, hU2⟩ (fun hHeld => ?_)
  clear hK K
  refine norm_ (a' := ?_) ?_ ?_
  rotate_left
  · show Act.put _ (some 39) _ = _
    simp only [Act.put, List.setIfInBounds_toArray, List.set_cons_zero, List.set_cons_succ, i64_w, i32_w]
    rfl
  refine one_ (i := 3) (N := some 40) #[true, true, true, true, false] rfl rfl (by kernel_rfl) (by decide) (fun K hK => ?_)
  refine goes_ Try.func13 (by kernel_rfl) rfl #[.agg #[.slice X0 l0.length x_0, .slice X1 l1.length x_1, .slice X2 l2.length x_2], .agg #[.slice T0 l0.length t_0, .slice T1 l1.length t_1, .slice T2 l2.length t_2]] (by rfl) rfl rfl (by simp only [List.map_toArray, List.map_cons, List.map_nil]; rfl) ?_
  with_reducible refine (eq13 KK _ _ _ _ _ _ l0 l1 l2 heqx _ _ _ (hHeld.2.2.2.2.2.2.2.r3 (List.mem_cons_of_mem _ (List.mem_cons_of_mem _ (List.mem_cons_of_mem _ List.mem_cons_self))) (List.mem_cons_of_mem _ (List.mem_cons_of_mem _ (List.mem_cons_of_mem _ (List.mem_cons_of_mem _ List.mem_cons_self)))) (List.mem_cons_of_mem _ (List.mem_cons_of_mem _ (List.mem_cons_of_mem _ (List.mem_cons_of_mem _ (List.mem_cons_of_mem _ List.mem_cons_self)))))) hu.1).mono ?_
  rintro e wc3 ⟨rfl, hb3⟩
  refine ⟨_, rfl, ?_⟩
  replace hu : M3 _ _ _ _ _ _ _ _ := ⟨hu.1.below hb3, hu.2⟩
  have hU3 := hHeld.2.2.2.2.2.2.2.below hb3
  refine hK.out _ _ ⟨(Nat.le_trans hHeld.1 hb3.size), (blk_cell (hU3.hL _ (List.mem_cons_of_mem _ List.mem_cons_self)) 0).trans rfl, (blk_cell (hU3.hL _ (List.mem_cons_of_mem _ List.mem_cons_self)) 1).trans rfl, (blk_cell (hU3.hL _ (List.mem_cons_of_mem _ List.mem_cons_self)) 2).trans rfl, (blk_cell hU3.h3 0).trans rfl, (blk_cell hU3.h3 1).trans rfl, (blk_cell hU3.h3 2).trans rfl, hU3⟩ (fun hHeld => ?_)
  clear hK K
  refine norm_ (a' := ?_) ?_ ?_
  rotate_left
  · show Act.put _ (some 40) _ = _
    simp only [Act.put, List.setIfInBounds_toArray, List.set_cons_zero, List.set_cons_succ, i64_w, i32_w]
    rfl
  refine pure_ (i := 4) (N := some 41) (v := ?_) (a' := ?_) #[true, true, true, true, true] rfl rfl (by kernel_rfl) (fun _ _ _ h => h) (Or.inl ⟨by rfl, ?_⟩) ?_ ?_
  rotate_left
  · intro w'
    go_simp
    with_reducible rfl
  rotate_left
  · simp only [Act.put, List.setIfInBounds_toArray, List.set_cons_zero, List.set_cons_succ, i64_w, i32_w]
    rfl
  refine done_ (by kernel_rfl) ?_
  replace hU := hHeld.2.2.2.2.2.2.2
  clear hHeld hU0 hS0 hNN10 hu hU2 hU3
  have ib0 : wc3.cell? ⟨g9, 0, none⟩ = some (.slice X0 l0.length x_0) := (blk_cell (hU.hL _ (List.mem_cons_of_mem _ List.mem_cons_self)) 0).trans rfl
  have ib1 : wc3.cell? ⟨g9, 1, none⟩ = some (.slice X1 l1.length x_1) := (blk_cell (hU.hL _ (List.mem_cons_of_mem _ List.mem_cons_self)) 1).trans rfl
  have ib2 : wc3.cell? ⟨g9, 2, none⟩ = some (.slice X2 l2.length x_2) := (blk_cell (hU.hL _ (List.mem_cons_of_mem _ List.mem_cons_self)) 2).trans rfl
  go_wp2_with fail
  have hX := hU.r3 (List.mem_cons_of_mem _ (List.mem_cons_of_mem _ (List.mem_cons_of_mem _ List.mem_cons_self))) (List.mem_cons_of_mem _ (List.mem_cons_of_mem _ (List.mem_cons_of_mem _ (List.mem_cons_of_mem _ List.mem_cons_self)))) (List.mem_cons_of_mem _ (List.mem_cons_of_mem _ (List.mem_cons_of_mem _ (List.mem_cons_of_mem _ (List.mem_cons_of_mem _ List.mem_cons_self)))))
  refine (mark14 KK _ _ _ l0 l1 l2 x0 x1 x2 mx_ hmx w _ hU.bel hX hdX).mono ?_
  rintro e w10 ⟨rfl, _, hb10, hk⟩
  have hV := hU.kept (RS' := [(.slice G0 p.length g_0, p, n2, nG), (.slice G1 q.length g_1, q, n2, nG), (.slice G2 r.length g_2, r, n2, nG), (.slice V0 p.length v0, p, 0, n1), (.slice V1 q.length v1, q, 0, n1), (.slice V2 r.length v2, r, 0, n1)]) hk hb10 (hX.ne hU.h3 (by decide)) (hX.ne hU.h4 (by decide)) (fun x hx => hX.ne (hU.hL x hx) (by decide)) (fun x hx => ?_)
  rotate_left
  · rcases List.mem_cons.1 hx with rfl | hx
    · exact ⟨List.mem_cons_self, fun k hk1 hk2 hs => by have := hhX k hs; simp only at hk1; omega⟩
    rcases List.mem_cons.1 hx with rfl | hx
    · exact ⟨(List.mem_cons_of_mem _ List.mem_cons_self), fun k hk1 hk2 hs => by have := hhX k hs; simp only at hk1; omega⟩
    rcases List.mem_cons.1 hx with rfl | hx
    · exact ⟨(List.mem_cons_of_mem _ (List.mem_cons_of_mem _ List.mem_cons_self)), fun k hk1 hk2 hs => by have := hhX k hs; simp only at hk1; omega⟩
    rcases List.mem_cons.1 hx with rfl | hx
    · exact ⟨(List.mem_cons_of_mem _ (List.mem_cons_of_mem _ (List.mem_cons_of_mem _ (List.mem_cons_of_mem _ (List.mem_cons_of_mem _ (List.mem_cons_of_mem _ List.mem_cons_self)))))), fun k hk1 hk2 hs => by have := hgX k hs; simp only at hk2; omega⟩
    rcases List.mem_cons.1 hx with rfl | hx
    · exact ⟨(List.mem_cons_of_mem _ (List.mem_cons_of_mem _ (List.mem_cons_of_mem _ (List.mem_cons_of_mem _ (List.mem_cons_of_mem _ (List.mem_cons_of_mem _ (List.mem_cons_of_mem _ List.mem_cons_self))))))), fun k hk1 hk2 hs => by have := hgX k hs; simp only at hk2; omega⟩
    rcases List.mem_cons.1 hx with rfl | hx
    · exact ⟨(List.mem_cons_of_mem _ (List.mem_cons_of_mem _ (List.mem_cons_of_mem _ (List.mem_cons_of_mem _ (List.mem_cons_of_mem _ (List.mem_cons_of_mem _ (List.mem_cons_of_mem _ (List.mem_cons_of_mem _ List.mem_cons_self)))))))), fun k hk1 hk2 hs => by have := hgX k hs; simp only at hk2; omega⟩
    · simp at hx
  clear hU hX hk hb10 ib0 ib1 ib2
  have hU := hV
  clear hV
  have ia0 : w10.cell? ⟨g10, 0, none⟩ = some (.slice G0 p.length g_0) := (blk_cell (hU.hL _ List.mem_cons_self) 0).trans rfl
  have ia1 : w10.cell? ⟨g10, 1, none⟩ = some (.slice G1 q.length g_1) := (blk_cell (hU.hL _ List.mem_cons_self) 1).trans rfl
  have ia2 : w10.cell? ⟨g10, 2, none⟩ = some (.slice G2 r.length g_2) := (blk_cell (hU.hL _ List.mem_cons_self) 2).trans rfl
  have ic0 : w10.cell? ⟨g8, 0, none⟩ = some (.slice V0 p.length v0) := (blk_cell (hU.hL _ (List.mem_cons_of_mem _ (List.mem_cons_of_mem _ List.mem_cons_self))) 0).trans rfl
  have ic1 : w10.cell? ⟨g8, 1, none⟩ = some (.slice V1 q.length v1) := (blk_cell (hU.hL _ (List.mem_cons_of_mem _ (List.mem_cons_of_mem _ List.mem_cons_self))) 1).trans rfl
  have ic2 : w10.cell? ⟨g8, 2, none⟩ = some (.slice V2 r.length v2) := (blk_cell (hU.hL _ (List.mem_cons_of_mem _ (List.mem_cons_of_mem _ List.mem_cons_self))) 2).trans rfl
  go_wp2_with fail
  refine (eq13 KK _ _ _ _ _ _ p q r heq _ _ _ (hU.r3 List.mem_cons_self (List.mem_cons_of_mem _ List.mem_cons_self) (List.mem_cons_of_mem _ (List.mem_cons_of_mem _ List.mem_cons_self))) (hU.r3 (List.mem_cons_of_mem _ (List.mem_cons_of_mem _ (List.mem_cons_of_mem _ List.mem_cons_self))) (List.mem_cons_of_mem _ (List.mem_cons_of_mem _ (List.mem_cons_of_mem _ (List.mem_cons_of_mem _ List.mem_cons_self)))) (List.mem_cons_of_mem _ (List.mem_cons_of_mem _ (List.mem_cons_of_mem _ (List.mem_cons_of_mem _ (List.mem_cons_of_mem _ List.mem_cons_self))))))).mono ?_
  rintro e w11 ⟨rfl, hb11⟩
  replace hU := hU.below hb11
  clear ia0 ia1 ia2 ic0 ic1 ic2 hb11
  have ia0 : w11.cell? ⟨g10, 0, none⟩ = some (.slice G0 p.length g_0) := (blk_cell (hU.hL _ List.mem_cons_self) 0).trans rfl
  have ia1 : w11.cell? ⟨g10, 1, none⟩ = some (.slice G1 q.length g_1) := (blk_cell (hU.hL _ List.mem_cons_self) 1).trans rfl
  have ia2 : w11.cell? ⟨g10, 2, none⟩ = some (.slice G2 r.length g_2) := (blk_cell (hU.hL _ List.mem_cons_self) 2).trans rfl
  go_wp2_with fail
  have hG := hU.r3 List.mem_cons_self (List.mem_cons_of_mem _ List.mem_cons_self) (List.mem_cons_of_mem _ (List.mem_cons_of_mem _ List.mem_cons_self))
  refine (mark14 KK _ _ _ p q r y0 y1 y2 mg hmg w _ hU.bel hG hdG).mono ?_
  rintro e w12 ⟨rfl, hyG, hb12, hk⟩
  have hV := hU.kept (RS' := [(.slice V0 p.length v0, p, 0, n1), (.slice V1 q.length v1, q, 0, n1), (.slice V2 r.length v2, r, 0, n1)]) hk hb12 (hG.ne hU.h3 (by decide)) (hG.ne hU.h4 (by decide)) (fun x hx => hG.ne (hU.hL x hx) (by decide)) (fun x hx => ?_)
  rotate_left
  · rcases List.mem_cons.1 hx with rfl | hx
    · exact ⟨(List.mem_cons_of_mem _ (List.mem_cons_of_mem _ (List.mem_cons_of_mem _ List.mem_cons_self))), fun k hk1 hk2 hs => by have := hgG k hs; simp only at hk2; omega⟩
    rcases List.mem_cons.1 hx with rfl | hx
    · exact ⟨(List.mem_cons_of_mem _ (List.mem_cons_of_mem _ (List.mem_cons_of_mem _ (List.mem_cons_of_mem _ List.mem_cons_self)))), fun k hk1 hk2 hs => by have := hgG k hs; simp only at hk2; omega⟩
    rcases List.mem_cons.1 hx with rfl | hx
    · exact ⟨(List.mem_cons_of_mem _ (List.mem_cons_of_mem _ (List.mem_cons_of_mem _ (List.mem_cons_of_mem _ (List.mem_cons_of_mem _ List.mem_cons_self))))), fun k hk1 hk2 hs => by have := hgG k hs; simp only at hk2; omega⟩
    · simp at hx
  clear hU hG hk hb12 ia0 ia1 ia2
  have hU := hV.rows hyG hgG hhG
  clear hV hyG
  have ia0 : w12.cell? ⟨g10, 0, none⟩ = some (.slice G0 p.length g_0) := (blk_cell (hU.hL _ List.mem_cons_self) 0).trans rfl
  have ia1 : w12.cell? ⟨g10, 1, none⟩ = some (.slice G1 q.length g_1) := (blk_cell (hU.hL _ List.mem_cons_self) 1).trans rfl
  have ia2 : w12.cell? ⟨g10, 2, none⟩ = some (.slice G2 r.length g_2) := (blk_cell (hU.hL _ List.mem_cons_self) 2).trans rfl
  go_wp2_with fail
  refine (held15 KK _ _ _ y0 y1 y2 mg hhe _ _ (hU.r3 List.mem_cons_self (List.mem_cons_of_mem _ List.mem_cons_self) (List.mem_cons_of_mem _ (List.mem_cons_of_mem _ List.mem_cons_self)))).mono ?_
  rintro e w13 ⟨rfl, hb13⟩
  replace hU := hU.below hb13
  clear ia0 ia1 ia2 hb13
  go_wp2_with fail
  obtain ⟨N24, hN_⟩ : ∃ q, w13.heap.size = q := ⟨_, rfl⟩
  have nwN24 : w.heap.size ≤ N24 := hN_ ▸ hU.bel.size
  have hS0 : N24 ≤ w13.drew.heap.size := Nat.le_of_eq hN_.symm
  have hNN24 := Aside0.mk hN_
  clear hN_
  have hU0 := hU.drew
  refine start_ (n := 8) (S := fun w' => N24 ≤ w'.heap.size ∧ w'.cell? ⟨g3, 0, none⟩ = some (.slice A0 l0.length c0) ∧ w'.cell? ⟨g3, 1, none⟩ = some (.slice A1 l1.length c1) ∧ w'.cell? ⟨g3, 2, none⟩ = some (.slice A2 l2.length c2) ∧ w'.cell? ⟨g4, 0, none⟩ = some (.int .i64 J) ∧ w'.cell? ⟨g4, 1, none⟩ = some (.int .i64 I) ∧ U w g3 g4 #[.slice A0 l0.length c0, .slice A1 l1.length c1, .slice A2 l2.length c2] #[.int .i64 J, .int .i64 I] [(g10, #[.slice G0 p.length g_0, .slice G1 q.length g_1, .slice G2 r.length g_2]), (g9, #[.slice X0 l0.length x_0, .slice X1 l1.length x_1, .slice X2 l2.length x_2]), (g8, #[.slice V0 p.length v0, .slice V1 q.length v1, .slice V2 r.length v2])] [(.slice G0 p.length g_0, y0, n2, nG), (.slice G1 q.length g_1, y1, n2, nG), (.slice G2 r.length g_2, y2, n2, nG), (.slice V0 p.length v0, p, 0, n1), (.slice V1 q.length v1, q, 0, n1), (.slice V2 r.length v2, r, 0, n1)] w') (ds := []) #[false, false, false, false, false, false, false, false] (by kernel_rfl) rfl rfl ⟨hS0, (blk_cell hU0.h3 0).trans rfl, (blk_cell hU0.h3 1).trans rfl, (blk_cell hU0.h3 2).trans rfl, (blk_cell hU0.h4 0).trans rfl, (blk_cell hU0.h4 1).trans rfl, hU0⟩ (fun hHeld => ?_)
  refine pure_ (i := 4) (N := some 68) (v := ?_) (a' := ?_) #[false, false, false, false, true, false, false, false] rfl rfl (by kernel_rfl) (fun _ _ _ h => h) (Or.inl ⟨by rfl, ?_⟩) ?_ ?_
  rotate_left
  · intro w'
    go_simp
    with_reducible rfl
  rotate_left
  · simp only [Act.put, List.setIfInBounds_toArray, List.set_cons_zero, List.set_cons_succ, i64_w, i32_w]
    rfl
  refine take_ (i := 0) (N := some 64) (v := ?_) (a' := ?_) #[true, false, false, false, true, false, false, false] rfl rfl (by kernel_rfl) (fun _ _ _ h => h) (Or.inl ⟨by rfl, ?_⟩) hHeld ?_ ?_
  rotate_left
  · rintro w' ⟨s0, s1, s2, s3, s4, s5, s6⟩
    go_simp
    with_reducible rfl
  rotate_left
  · simp only [Act.put, List.setIfInBounds_toArray, List.set_cons_zero, List.set_cons_succ, i64_w, i32_w]
    rfl
  refine take_ (i := 2) (N := some 66) (v := ?_) (a' := ?_) #[true, false, true, false, true, false, false, false] rfl rfl (by kernel_rfl) (fun _ _ _ h => h) (Or.inl ⟨by rfl, ?_⟩) hHeld ?_ ?_
  rotate_left
  · rintro w' ⟨s0, s1, s2, s3, s4, s5, s6⟩
    go_simp
    with_reducible rfl
  rotate_left
  · simp only [Act.put, List.setIfInBounds_toArray, List.set_cons_zero, List.set_cons_succ, i64_w, i32_w]
    rfl
  refine join_ (σ := Value × Value × Nat) 1 #[true, true, true, true, true, true, true, false] (fun s_ => [(65, s_.1), (67, .agg #[.int .i64 J, .int .i64 I]), (69, s_.2.1), (14, .pointer (some ⟨s_.2.2, 0, none⟩))]) (fun s_ w' => N24 ≤ w'.heap.size ∧ U w g3 g4 #[.slice A0 l0.length c0, .slice A1 l1.length c1, .slice A2 l2.length c2] #[.int .i64 J, .int .i64 I] [(g10, #[.slice G0 p.length g_0, .slice G1 q.length g_1, .slice G2 r.length g_2]), (g9, #[.slice X0 l0.length x_0, .slice X1 l1.length x_1, .slice X2 l2.length x_2]), (g8, #[.slice V0 p.length v0, .slice V1 q.length v1, .slice V2 r.length v2])] [(.slice G0 p.length g_0, y0, n2, nG), (.slice G1 q.length g_1, y1, n2, nG), (.slice G2 r.length g_2, y2, n2, nG), (.slice V0 p.length v0, p, 0, n1), (.slice V1 q.length v1, q, 0, n1), (.slice V2 r.length v2, r, 0, n1)] w' ∧ (∃ H0 H1 H2 h_0 h_1 h_2, s_.2.1 = .agg #[.slice H0 p.length h_0, .slice H1 q.length h_1, .slice H2 r.length h_2] ∧ M3 N24 w' (.slice H0 p.length h_0) (.slice H1 q.length h_1) (.slice H2 r.length h_2) p q r) ∧ w'.heap[s_.2.2]? = some (.cells Ho.Z3 24 (0, 0)) ∧ w.heap.size ≤ s_.2.2 ∧ g3 < s_.2.2 ∧ g4 < s_.2.2 ∧ ∀ x ∈ ([(g10, #[.slice G0 p.length g_0, .slice G1 q.length g_1, .slice G2 r.length g_2]), (g9, #[.slice X0 l0.length x_0, .slice X1 l1.length x_1, .slice X2 l2.length x_2]), (g8, #[.slice V0 p.length v0, .slice V1 q.length v1, .slice V2 r.length v2])] : List (Nat × Array Value)), x.1 < s_.2.2) ?_ ?_
  rotate_left
  · intro hCont
    refine two_ (i := 1) (j := 6) (Ni := some 65) (Nj := some 14) #[true, true, true, false, true, false, false, false] #[true, false, true, false, true, false, true, false] rfl rfl rfl rfl (by kernel_rfl) (by decide) (by decide) (fun K hK => ?_) (fun K hK => ?_)
    · skip
      refine goes_ Try.func18 (by kernel_rfl) rfl #[.agg #[.slice A0 l0.length c0, .slice A1 l1.length c1, .slice A2 l2.length c2]] (by rfl) rfl rfl (by simp only [List.map_toArray, List.map_cons, List.map_nil]; rfl) ?_
      with_reducible refine (g18 _ (Kd.C_below hr0 hHeld.2.2.2.2.2.2.bel) (Kd.C_below hr1 hHeld.2.2.2.2.2.2.bel) (Kd.C_below hr2 hHeld.2.2.2.2.2.2.bel)).mono ?_
      rintro e wc1 ⟨T0, T1, T2, t_0, t_1, t_2, rfl, hu, hb1⟩
      refine ⟨_, rfl, ?_⟩
      replace hu : M3 N24 _ _ _ _ _ _ _ := ⟨hu.1.lower hHeld.1, hu.2⟩
      have hU1 := hHeld.2.2.2.2.2.2.below hb1
      refine hK.out _ _ ⟨(Nat.le_trans hHeld.1 hb1.size), (blk_cell hU1.h3 0).trans rfl, (blk_cell hU1.h3 1).trans rfl, (blk_cell hU1.h3 2).trans rfl, (blk_cell hU1.h4 0).trans rfl, (blk_cell hU1.h4 1).trans rfl, hU1⟩ (fun hHeld => ?_)
      clear hK K
      refine norm_ (a' := ?_) ?_ ?_
      rotate_left
      · show Act.put _ (some 65) _ = _
        simp only [Act.put, List.setIfInBounds_toArray, List.set_cons_zero, List.set_cons_succ, i64_w, i32_w]
        rfl
      refine two_ (i := 3) (j := 6) (Ni := some 67) (Nj := some 14) #[true, true, true, true, true, false, false, false] #[true, true, true, false, true, false, true, false] rfl rfl rfl rfl (by kernel_rfl) (by decide) (by decide) (fun K hK => ?_) (fun K hK => ?_)
      · skip
        refine goes_ Try.func23 (by kernel_rfl) rfl #[.agg #[.int .i64 J, .int .i64 I]] (by rfl) rfl rfl (by simp only [List.map_toArray, List.map_cons, List.map_nil]; rfl) ?_
        with_reducible refine (g23 _).mono ?_
        rintro e wc3 ⟨rfl, hb3⟩
        refine ⟨_, rfl, ?_⟩
        replace hu : M3 _ _ _ _ _ _ _ _ := ⟨hu.1.below hb3, hu.2⟩
        have hU3 := hHeld.2.2.2.2.2.2.below hb3
        refine hK.out _ _ ⟨(Nat.le_trans hHeld.1 hb3.size), (blk_cell hU3.h3 0).trans rfl, (blk_cell hU3.h3 1).trans rfl, (blk_cell hU3.h3 2).trans rfl, (blk_cell hU3.h4 0).trans rfl, (blk_cell hU3.h4 1).trans rfl, hU3⟩ (fun hHeld => ?_)
        clear hK K
        refine norm_ (a' := ?_) ?_ ?_
        rotate_left
        · show Act.put _ (some 67) _ = _
          simp only [Act.put, List.setIfInBounds_toArray, List.set_cons_zero, List.set_cons_succ, i64_w, i32_w]
          rfl
        refine two_ (i := 5) (j := 6) (Ni := some 69) (Nj := some 14) #[true, true, true, true, true, true, false, false] #[true, true, true, true, true, false, true, false] rfl rfl rfl rfl (by kernel_rfl) (by decide) (by decide) (fun K hK => ?_) (fun K hK => ?_)
        · skip
          refine goes_ Try.func26 (by kernel_rfl) rfl #[.agg #[.slice T0 l0.length t_0, .slice T1 l1.length t_1, .slice T2 l2.length t_2], .agg #[.int .i64 J, .int .i64 I], .int .i64 n] (by rfl) rfl rfl (by simp only [List.map_toArray, List.map_cons, List.map_nil]; rfl) ?_
          with_reducible refine (put26 _ _ _ l0 l1 l2 p q r J I n hp hq hrr _ _ hu.1).mono ?_
          rintro e wc5 ⟨Y0, Y1, Y2, y_0, y_1, y_2, rfl, hv, hb5⟩
          refine ⟨_, rfl, ?_⟩
          replace hu : M3 _ _ _ _ _ _ _ _ := ⟨hu.1.below hb5, hu.2⟩
          replace hv : M3 N24 _ _ _ _ _ _ _ := ⟨hv.1.lower hHeld.1, hv.2⟩
          have hU5 := hHeld.2.2.2.2.2.2.below hb5
          refine hK.out _ _ ⟨(Nat.le_trans hHeld.1 hb5.size), (blk_cell hU5.h3 0).trans rfl, (blk_cell hU5.h3 1).trans rfl, (blk_cell hU5.h3 2).trans rfl, (blk_cell hU5.h4 0).trans rfl, (blk_cell hU5.h4 1).trans rfl, hU5⟩ (fun hHeld => ?_)
          clear hK K
          refine norm_ (a' := ?_) ?_ ?_
          rotate_left
          · show Act.put _ (some 69) _ = _
            simp only [Act.put, List.setIfInBounds_toArray, List.set_cons_zero, List.set_cons_succ, i64_w, i32_w]
            rfl
          refine one_ (i := 6) (N := some 14) #[true, true, true, true, true, true, true, false] rfl rfl (by kernel_rfl) (by decide) (fun K hK => ?_)
          refine value_ (w1 := ?_) (v := ?_) (by rfl) rfl ?_ ?_
          rotate_left 2
          · go_simp
            constructor
            · rfl
            · rfl
          have hUz := hHeld.2.2.2.2.2.2
          have gz : w.heap.size ≤ wc5.heap.size ∧ g3 < wc5.heap.size ∧ g4 < wc5.heap.size ∧ ∀ x ∈ ([(g10, #[.slice G0 p.length g_0, .slice G1 q.length g_1, .slice G2 r.length g_2]), (g9, #[.slice X0 l0.length x_0, .slice X1 l1.length x_1, .slice X2 l2.length x_2]), (g8, #[.slice V0 p.length v0, .slice V1 q.length v1, .slice V2 r.length v2])] : List (Nat × Array Value)), x.1 < wc5.heap.size := ⟨hUz.bel.size, hUz.lt3, hUz.lt4, hUz.ltL⟩
          have hz : (wc5.alloc (Obj.cells #[.slice none 0 0, .slice none 0 0, .slice none 0 0] 24)).heap[wc5.heap.size]? = some (.cells Ho.Z3 24 (0, 0)) := heap_alloc_new wc5 (Obj.cells #[.slice none 0 0, .slice none 0 0, .slice none 0 0] 24)
          replace hUz := hUz.alloc (Obj.cells #[.slice none 0 0, .slice none 0 0, .slice none 0 0] 24)
          have hNz : N24 ≤ (wc5.alloc (Obj.cells #[.slice none 0 0, .slice none 0 0, .slice none 0 0] 24)).heap.size := Nat.le_trans hHeld.1 (Nat.le_trans (Nat.le_succ _) (Nat.le_of_eq (Hm.alloc_size wc5 (Obj.cells #[.slice none 0 0, .slice none 0 0, .slice none 0 0] 24)).symm))
          replace hu : M3 _ _ _ _ _ _ _ _ := ⟨hu.1.alloc (Obj.cells #[.slice none 0 0, .slice none 0 0, .slice none 0 0] 24), hu.2⟩
          replace hv : M3 _ _ _ _ _ _ _ _ := ⟨hv.1.alloc (Obj.cells #[.slice none 0 0, .slice none 0 0, .slice none 0 0] 24), hv.2⟩
          generalize wc5.alloc (Obj.cells #[.slice none 0 0, .slice none 0 0, .slice none 0 0] 24) = wz at hz hUz hNz hu hv ⊢
          generalize wc5.heap.size = zz at gz hz ⊢
          refine hK.out _ _ ⟨hNz, (blk_cell hUz.h3 0).trans rfl, (blk_cell hUz.h3 1).trans rfl, (blk_cell hUz.h3 2).trans rfl, (blk_cell hUz.h4 0).trans rfl, (blk_cell hUz.h4 1).trans rfl, hUz⟩ (fun hHeld => ?_)
          clear hK K
          refine norm_ (a' := ?_) ?_ ?_
          rotate_left
          · show Act.put _ (some 14) _ = _
            simp only [Act.put, List.setIfInBounds_toArray, List.set_cons_zero, List.set_cons_succ, i64_w, i32_w]
            rfl
          exact norm_ (by simp only [putAll, Act.put, List.setIfInBounds_toArray, List.set_cons_zero, List.set_cons_succ]) (hCont (.agg #[.slice T0 l0.length t_0, .slice T1 l1.length t_1, .slice T2 l2.length t_2], .agg #[.slice Y0 p.length y_0, .slice Y1 q.length y_1, .slice Y2 r.length y_2], zz) _ ⟨hHeld.1, hHeld.2.2.2.2.2.2, ⟨Y0, Y1, Y2, y_0, y_1, y_2, rfl, hv⟩, hz, gz⟩)
        · skip
          refine value_ (w1 := ?_) (v := ?_) (by rfl) rfl ?_ ?_
          rotate_left 2
          · go_simp
            constructor
            · rfl
            · rfl
          have hUz := hHeld.2.2.2.2.2.2
          have gz : w.heap.size ≤ wc3.heap.size ∧ g3 < wc3.heap.size ∧ g4 < wc3.heap.size ∧ ∀ x ∈ ([(g10, #[.slice G0 p.length g_0, .slice G1 q.length g_1, .slice G2 r.length g_2]), (g9, #[.slice X0 l0.length x_0, .slice X1 l1.length x_1, .slice X2 l2.length x_2]), (g8, #[.slice V0 p.length v0, .slice V1 q.length v1, .slice V2 r.length v2])] : List (Nat × Array Value)), x.1 < wc3.heap.size := ⟨hUz.bel.size, hUz.lt3, hUz.lt4, hUz.ltL⟩
          have hz : (wc3.alloc (Obj.cells #[.slice none 0 0, .slice none 0 0, .slice none 0 0] 24)).heap[wc3.heap.size]? = some (.cells Ho.Z3 24 (0, 0)) := heap_alloc_new wc3 (Obj.cells #[.slice none 0 0, .slice none 0 0, .slice none 0 0] 24)
          replace hUz := hUz.alloc (Obj.cells #[.slice none 0 0, .slice none 0 0, .slice none 0 0] 24)
          have hNz : N24 ≤ (wc3.alloc (Obj.cells #[.slice none 0 0, .slice none 0 0, .slice none 0 0] 24)).heap.size := Nat.le_trans hHeld.1 (Nat.le_trans (Nat.le_succ _) (Nat.le_of_eq (Hm.alloc_size wc3 (Obj.cells #[.slice none 0 0, .slice none 0 0, .slice none 0 0] 24)).symm))
          replace hu : M3 _ _ _ _ _ _ _ _ := ⟨hu.1.alloc (Obj.cells #[.slice none 0 0, .slice none 0 0, .slice none 0 0] 24), hu.2⟩
          generalize wc3.alloc (Obj.cells #[.slice none 0 0, .slice none 0 0, .slice none 0 0] 24) = wz at hz hUz hNz hu ⊢
          generalize wc3.heap.size = zz at gz hz ⊢
          refine hK.out _ _ ⟨hNz, (blk_cell hUz.h3 0).trans rfl, (blk_cell hUz.h3 1).trans rfl, (blk_cell hUz.h3 2).trans rfl, (blk_cell hUz.h4 0).trans rfl, (blk_cell hUz.h4 1).trans rfl, hUz⟩ (fun hHeld => ?_)
          clear hK K
          refine norm_ (a' := ?_) ?_ ?_
          rotate_left
          · show Act.put _ (some 14) _ = _
            simp only [Act.put, List.setIfInBounds_toArray, List.set_cons_zero, List.set_cons_succ, i64_w, i32_w]
            rfl
          refine one_ (i := 5) (N := some 69) #[true, true, true, true, true, true, true, false] rfl rfl (by kernel_rfl) (by decide) (fun K hK => ?_)
          refine goes_ Try.func26 (by kernel_rfl) rfl #[.agg #[.slice T0 l0.length t_0, .slice T1 l1.length t_1, .slice T2 l2.length t_2], .agg #[.int .i64 J, .int .i64 I], .int .i64 n] (by rfl) rfl rfl (by simp only [List.map_toArray, List.map_cons, List.map_nil]; rfl) ?_
          with_reducible refine (put26 _ _ _ l0 l1 l2 p q r J I n hp hq hrr _ _ hu.1).mono ?_
          rintro e wc5 ⟨Y0, Y1, Y2, y_0, y_1, y_2, rfl, hv, hb5⟩
          refine ⟨_, rfl, ?_⟩
          have hz := blk_below hz hb5
          replace hu : M3 _ _ _ _ _ _ _ _ := ⟨hu.1.below hb5, hu.2⟩
          replace hv : M3 N24 _ _ _ _ _ _ _ := ⟨hv.1.lower hHeld.1, hv.2⟩
          have hU5 := hHeld.2.2.2.2.2.2.below hb5
          refine hK.out _ _ ⟨(Nat.le_trans hHeld.1 hb5.size), (blk_cell hU5.h3 0).trans rfl, (blk_cell hU5.h3 1).trans rfl, (blk_cell hU5.h3 2).trans rfl, (blk_cell hU5.h4 0).trans rfl, (blk_cell hU5.h4 1).trans rfl, hU5⟩ (fun hHeld => ?_)
          clear hK K
          refine norm_ (a' := ?_) ?_ ?_
          rotate_left
          · show Act.put _ (some 69) _ = _
            simp only [Act.put, List.setIfInBounds_toArray, List.set_cons_zero, List.set_cons_succ, i64_w, i32_w]
            rfl
          exact norm_ (by simp only [putAll, Act.put, List.setIfInBounds_toArray, List.set_cons_zero, List.set_cons_succ]) (hCont (.agg #[.slice T0 l0.length t_0, .slice T1 l1.length t_1, .slice T2 l2.length t_2], .agg #[.slice Y0 p.length y_0, .slice Y1 q.length y_1, .slice Y2 r.length y_2], zz) _ ⟨hHeld.1, hHeld.2.2.2.2.2.2, ⟨Y0, Y1, Y2, y_0, y_1, y_2, rfl, hv⟩, hz, gz⟩)
      · skip
        refine value_ (w1 := ?_) (v := ?_) (by rfl) rfl ?_ ?_
        rotate_left 2
        · go_simp
          constructor
          · rfl
          · rfl
        have hUz := hHeld.2.2.2.2.2.2
        have gz : w.heap.size ≤ wc1.heap.size ∧ g3 < wc1.heap.size ∧ g4 < wc1.heap.size ∧ ∀ x ∈ ([(g10, #[.slice G0 p.length g_0, .slice G1 q.length g_1, .slice G2 r.length g_2]), (g9, #[.slice X0 l0.length x_0, .slice X1 l1.length x_1, .slice X2 l2.length x_2]), (g8, #[.slice V0 p.length v0, .slice V1 q.length v1, .slice V2 r.length v2])] : List (Nat × Array Value)), x.1 < wc1.heap.size := ⟨hUz.bel.size, hUz.lt3, hUz.lt4, hUz.ltL⟩
        have hz : (wc1.alloc (Obj.cells #[.slice none 0 0, .slice none 0 0, .slice none 0 0] 24)).heap[wc1.heap.size]? = some (.cells Ho.Z3 24 (0, 0)) := heap_alloc_new wc1 (Obj.cells #[.slice none 0 0, .slice none 0 0, .slice none 0 0] 24)
        replace hUz := hUz.alloc (Obj.cells #[.slice none 0 0, .slice none 0 0, .slice none 0 0] 24)
        have hNz : N24 ≤ (wc1.alloc (Obj.cells #[.slice none 0 0, .slice none 0 0, .slice none 0 0] 24)).heap.size := Nat.le_trans hHeld.1 (Nat.le_trans (Nat.le_succ _) (Nat.le_of_eq (Hm.alloc_size wc1 (Obj.cells #[.slice none 0 0, .slice none 0 0, .slice none 0 0] 24)).symm))
        replace hu : M3 _ _ _ _ _ _ _ _ := ⟨hu.1.alloc (Obj.cells #[.slice none 0 0, .slice none 0 0, .slice none 0 0] 24), hu.2⟩
        generalize wc1.alloc (Obj.cells #[.slice none 0 0, .slice none 0 0, .slice none 0 0] 24) = wz at hz hUz hNz hu ⊢
        generalize wc1.heap.size = zz at gz hz ⊢
        refine hK.out _ _ ⟨hNz, (blk_cell hUz.h3 0).trans rfl, (blk_cell hUz.h3 1).trans rfl, (blk_cell hUz.h3 2).trans rfl, (blk_cell hUz.h4 0).trans rfl, (blk_cell hUz.h4 1).trans rfl, hUz⟩ (fun hHeld => ?_)
        clear hK K
        refine norm_ (a' := ?_) ?_ ?_
        rotate_left
        · show Act.put _ (some 14) _ = _
          simp only [Act.put, List.setIfInBounds_toArray, List.set_cons_zero, List.set_cons_succ, i64_w, i32_w]
          rfl
        refine one_ (i := 3) (N := some 67) #[true, true, true, true, true, false, true, false] rfl rfl (by kernel_rfl) (by decide) (fun K hK => ?_)
        refine goes_ Try.func23 (by kernel_rfl) rfl #[.agg #[.int .i64 J, .int .i64 I]] (by rfl) rfl rfl (by simp only [List.map_toArray, List.map_cons, List.map_nil]; rfl) ?_
        with_reducible refine (g23 _).mono ?_
        rintro e wc3 ⟨rfl, hb3⟩
        refine ⟨_, rfl, ?_⟩
        have hz := blk_below hz hb3
        replace hu : M3 _ _ _ _ _ _ _ _ := ⟨hu.1.below hb3, hu.2⟩
        have hU3 := hHeld.2.2.2.2.2.2.below hb3
        refine hK.out _ _ ⟨(Nat.le_trans hHeld.1 hb3.size), (blk_cell hU3.h3 0).trans rfl, (blk_cell hU3.h3 1).trans rfl, (blk_cell hU3.h3 2).trans rfl, (blk_cell hU3.h4 0).trans rfl, (blk_cell hU3.h4 1).trans rfl, hU3⟩ (fun hHeld => ?_)
        clear hK K
        refine norm_ (a' := ?_) ?_ ?_
        rotate_left
        · show Act.put _ (some 67) _ = _
          simp only [Act.put, List.setIfInBounds_toArray, List.set_cons_zero, List.set_cons_succ, i64_w, i32_w]
          rfl
        refine one_ (i := 5) (N := some 69) #[true, true, true, true, true, true, true, false] rfl rfl (by kernel_rfl) (by decide) (fun K hK => ?_)
        refine goes_ Try.func26 (by kernel_rfl) rfl #[.agg #[.slice T0 l0.length t_0, .slice T1 l1.length t_1, .slice T2 l2.length t_2], .agg #[.int .i64 J, .int .i64 I], .int .i64 n] (by rfl) rfl rfl (by simp only [List.map_toArray, List.map_cons, List.map_nil]; rfl) ?_
        with_reducible refine (put26 _ _ _ l0 l1 l2 p q r J I n hp hq hrr _ _ hu.1).mono ?_
        rintro e wc5 ⟨Y0, Y1, Y2, y_0, y_1, y_2, rfl, hv, hb5⟩
        refine ⟨_, rfl, ?_⟩
        have hz := blk_below hz hb5
        replace hu : M3 _ _ _ _ _ _ _ _ := ⟨hu.1.below hb5, hu.2⟩
        replace hv : M3 N24 _ _ _ _ _ _ _ := ⟨hv.1.lower hHeld.1, hv.2⟩
        have hU5 := hHeld.2.2.2.2.2.2.below hb5
        refine hK.out _ _ ⟨(Nat.le_trans hHeld.1 hb5.size), (blk_cell hU5.h3 0).trans rfl, (blk_cell hU5.h3 1).trans rfl, (blk_cell hU5.h3 2).trans rfl, (blk_cell hU5.h4 0).trans rfl, (blk_cell hU5.h4 1).trans rfl, hU5⟩ (fun hHeld => ?_)
        clear hK K
        refine norm_ (a' := ?_) ?_ ?_
        rotate_left
        · show Act.put _ (some 69) _ = _
          simp only [Act.put, List.setIfInBounds_toArray, List.set_cons_zero, List.set_cons_succ, i64_w, i32_w]
          rfl
        exact norm_ (by simp only [putAll, Act.put, List.setIfInBounds_toArray, List.set_cons_zero, List.set_cons_succ]) (hCont (.agg #[.slice T0 l0.length t_0, .slice T1 l1.length t_1, .slice T2 l2.length t_2], .agg #[.slice Y0 p.length y_0, .slice Y1 q.length y_1, .slice Y2 r.length y_2], zz) _ ⟨hHeld.1, hHeld.2.2.2.2.2.2, ⟨Y0, Y1, Y2, y_0, y_1, y_2, rfl, hv⟩, hz, gz⟩)
    · skip
      refine value_ (w1 := ?_) (v := ?_) (by rfl) rfl ?_ ?_
      rotate_left 2
      · go_simp
        constructor
        · rfl
        · rfl
      have gz : w.heap.size ≤ w13.heap.size ∧ g3 < w13.heap.size ∧ g4 < w13.heap.size ∧ ∀ x ∈ ([(g10, #[.slice G0 p.length g_0, .slice G1 q.length g_1, .slice G2 r.length g_2]), (g9, #[.slice X0 l0.length x_0, .slice X1 l1.length x_1, .slice X2 l2.length x_2]), (g8, #[.slice V0 p.length v0, .slice V1 q.length v1, .slice V2 r.length v2])] : List (Nat × Array Value)), x.1 < w13.heap.size := ⟨hU.bel.size, hU.lt3, hU.lt4, hU.ltL⟩
      have hz : (w13.alloc (Obj.cells #[.slice none 0 0, .slice none 0 0, .slice none 0 0] 24)).drew.heap[w13.heap.size]? = some (.cells Ho.Z3 24 (0, 0)) := heap_alloc_new w13 (Obj.cells #[.slice none 0 0, .slice none 0 0, .slice none 0 0] 24)
      have hUz := (hU.alloc (Obj.cells #[.slice none 0 0, .slice none 0 0, .slice none 0 0] 24)).drew
      have hNz : N24 ≤ (w13.alloc (Obj.cells #[.slice none 0 0, .slice none 0 0, .slice none 0 0] 24)).drew.heap.size := Nat.le_trans hHeld.1 (Nat.le_trans (Nat.le_succ _) (Nat.le_of_eq (Hm.alloc_size w13 (Obj.cells #[.slice none 0 0, .slice none 0 0, .slice none 0 0] 24)).symm))
      generalize (w13.alloc (Obj.cells #[.slice none 0 0, .slice none 0 0, .slice none 0 0] 24)).drew = wz at hz hUz hNz ⊢
      generalize w13.heap.size = zz at gz hz ⊢
      refine hK.out _ _ ⟨hNz, (blk_cell hUz.h3 0).trans rfl, (blk_cell hUz.h3 1).trans rfl, (blk_cell hUz.h3 2).trans rfl, (blk_cell hUz.h4 0).trans rfl, (blk_cell hUz.h4 1).trans rfl, hUz⟩ (fun hHeld => ?_)
      clear hK K
      refine norm_ (a' := ?_) ?_ ?_
      rotate_left
      · show Act.put _ (some 14) _ = _
        simp only [Act.put, List.setIfInBounds_toArray, List.set_cons_zero, List.set_cons_succ, i64_w, i32_w]
        rfl
      refine one_ (i := 1) (N := some 65) #[true, true, true, false, true, false, true, false] rfl rfl (by kernel_rfl) (by decide) (fun K hK => ?_)
      refine goes_ Try.func18 (by kernel_rfl) rfl #[.agg #[.slice A0 l0.length c0, .slice A1 l1.length c1, .slice A2 l2.length c2]] (by rfl) rfl rfl (by simp only [List.map_toArray, List.map_cons, List.map_nil]; rfl) ?_
      with_reducible refine (g18 _ (Kd.C_below hr0 hHeld.2.2.2.2.2.2.bel) (Kd.C_below hr1 hHeld.2.2.2.2.2.2.bel) (Kd.C_below hr2 hHeld.2.2.2.2.2.2.bel)).mono ?_
      rintro e wc1 ⟨T0, T1, T2, t_0, t_1, t_2, rfl, hu, hb1⟩
      refine ⟨_, rfl, ?_⟩
      have hz := blk_below hz hb1
      replace hu : M3 N24 _ _ _ _ _ _ _ := ⟨hu.1.lower hHeld.1, hu.2⟩
      have hU1 := hHeld.2.2.2.2.2.2.below hb1
      refine hK.out _ _ ⟨(Nat.le_trans hHeld.1 hb1.size), (blk_cell hU1.h3 0).trans rfl, (blk_cell hU1.h3 1).trans rfl, (blk_cell hU1.h3 2).trans rfl, (blk_cell hU1.h4 0).trans rfl, (blk_cell hU1.h4 1).trans rfl, hU1⟩ (fun hHeld => ?_)
      clear hK K
      refine norm_ (a' := ?_) ?_ ?_
      rotate_left
      · show Act.put _ (some 65) _ = _
        simp only [Act.put, List.setIfInBounds_toArray, List.set_cons_zero, List.set_cons_succ, i64_w, i32_w]
        rfl
      refine one_ (i := 3) (N := some 67) #[true, true, true, true, true, false, true, false] rfl rfl (by kernel_rfl) (by decide) (fun K hK => ?_)
      refine goes_ Try.func23 (by kernel_rfl) rfl #[.agg #[.int .i64 J, .int .i64 I]] (by rfl) rfl rfl (by simp only [List.map_toArray, List.map_cons, List.map_nil]; rfl) ?_
      with_reducible refine (g23 _).mono ?_
      rintro e wc3 ⟨rfl, hb3⟩
      refine ⟨_, rfl, ?_⟩
      have hz := blk_below hz hb3
      replace hu : M3 _ _ _ _ _ _ _ _ := ⟨hu.1.below hb3, hu.2⟩
      have hU3 := hHeld.2.2.2.2.2.2.below hb3
      refine hK.out _ _ ⟨(Nat.le_trans hHeld.1 hb3.size), (blk_cell hU3.h3 0).trans rfl, (blk_cell hU3.h3 1).trans rfl, (blk_cell hU3.h3 2).trans rfl, (blk_cell hU3.h4 0).trans rfl, (blk_cell hU3.h4 1).trans rfl, hU3⟩ (fun hHeld => ?_)
      clear hK K
      refine norm_ (a' := ?_) ?_ ?_
      rotate_left
      · show Act.put _ (some 67) _ = _
        simp only [Act.put, List.setIfInBounds_toArray, List.set_cons_zero, List.set_cons_succ, i64_w, i32_w]
        rfl
      refine one_ (i := 5) (N := some 69) #[true, true, true, true, true, true, true, false] rfl rfl (by kernel_rfl) (by decide) (fun K hK => ?_)
      refine goes_ Try.func26 (by kernel_rfl) rfl #[.agg #[.slice T0 l0.length t_0, .slice T1 l1.length t_1, .slice T2 l2.length t_2], .agg #[.int .i64 J, .int .i64 I], .int .i64 n] (by rfl) rfl rfl (by simp only [List.map_toArray, List.map_cons, List.map_nil]; rfl) ?_
      with_reducible refine (put26 _ _ _ l0 l1 l2 p q r J I n hp hq hrr _ _ hu.1).mono ?_
      rintro e wc5 ⟨Y0, Y1, Y2, y_0, y_1, y_2, rfl, hv, hb5⟩
      refine ⟨_, rfl, ?_⟩
      have hz := blk_below hz hb5
      replace hu : M3 _ _ _ _ _ _ _ _ := ⟨hu.1.below hb5, hu.2⟩
      replace hv : M3 N24 _ _ _ _ _ _ _ := ⟨hv.1.lower hHeld.1, hv.2⟩
      have hU5 := hHeld.2.2.2.2.2.2.below hb5
      refine hK.out _ _ ⟨(Nat.le_trans hHeld.1 hb5.size), (blk_cell hU5.h3 0).trans rfl, (blk_cell hU5.h3 1).trans rfl, (blk_cell hU5.h3 2).trans rfl, (blk_cell hU5.h4 0).trans rfl, (blk_cell hU5.h4 1).trans rfl, hU5⟩ (fun hHeld => ?_)
      clear hK K
      refine norm_ (a' := ?_) ?_ ?_
      rotate_left
      · show Act.put _ (some 69) _ = _
        simp only [Act.put, List.setIfInBounds_toArray, List.set_cons_zero, List.set_cons_succ, i64_w, i32_w]
        rfl
      exact norm_ (by simp only [putAll, Act.put, List.setIfInBounds_toArray, List.set_cons_zero, List.set_cons_succ]) (hCont (.agg #[.slice T0 l0.length t_0, .slice T1 l1.length t_1, .slice T2 l2.length t_2], .agg #[.slice Y0 p.length y_0, .slice Y1 q.length y_1, .slice Y2 r.length y_2], zz) _ ⟨hHeld.1, hHeld.2.2.2.2.2.2, ⟨Y0, Y1, Y2, y_0, y_1, y_2, rfl, hv⟩, hz, gz⟩)
  rintro ⟨s1, s2, g14⟩ w5 ⟨hN5, hM5, ⟨H0, H1, H2, h_0, h_1, h_2, hs2, hy⟩, hz, nz, n3, n4, nL⟩
  obtain rfl : s2 = _ := hs2
  replace hz : w5.heap[g14]? = some (.cells Ho.Z3 24 (0, 0)) := hz
  replace nz : w.heap.size ≤ g14 := nz
  replace n3 : g3 < g14 := n3
  replace n4 : g4 < g14 := n4
  replace nL : ∀ x ∈ ([(g10, #[.slice G0 p.length g_0, .slice G1 q.length g_1, .slice G2 r.length g_2]), (g9, #[.slice X0 l0.length x_0, .slice X1 l1.length x_1, .slice X2 l2.length x_2]), (g8, #[.slice V0 p.length v0, .slice V1 q.length v1, .slice V2 r.length v2])] : List (Nat × Array Value)), x.1 < g14 := nL
  have hHeld : N24 ≤ w5.heap.size ∧ w5.cell? ⟨g3, 0, none⟩ = some (.slice A0 l0.length c0) ∧ w5.cell? ⟨g3, 1, none⟩ = some (.slice A1 l1.length c1) ∧ w5.cell? ⟨g3, 2, none⟩ = some (.slice A2 l2.length c2) ∧ w5.cell? ⟨g4, 0, none⟩ = some (.int .i64 J) ∧ w5.cell? ⟨g4, 1, none⟩ = some (.int .i64 I) ∧ U w g3 g4 #[.slice A0 l0.length c0, .slice A1 l1.length c1, .slice A2 l2.length c2] #[.int .i64 J, .int .i64 I] [(g10, #[.slice G0 p.length g_0, .slice G1 q.length g_1, .slice G2 r.length g_2]), (g9, #[.slice X0 l0.length x_0, .slice X1 l1.length x_1, .slice X2 l2.length x_2]), (g8, #[.slice V0 p.length v0, .slice V1 q.length v1, .slice V2 r.length v2])] [(.slice G0 p.length g_0, y0, n2, nG), (.slice G1 q.length g_1, y1, n2, nG), (.slice G2 r.length g_2, y2, n2, nG), (.slice V0 p.length v0, p, 0, n1), (.slice V1 q.length v1, q, 0, n1), (.slice V2 r.length v2, r, 0, n1)] w5 := ⟨hN5, (blk_cell hM5.h3 0).trans rfl, (blk_cell hM5.h3 1).trans rfl, (blk_cell hM5.h3 2).trans rfl, (blk_cell hM5.h4 0).trans rfl, (blk_cell hM5.h4 1).trans rfl, hM5⟩
  refine norm_ (a' := ?_) ?_ ?_
  rotate_left
  · simp only [putAll, Act.put, List.setIfInBounds_toArray, List.set_cons_zero, List.set_cons_succ]
    rfl
  refine one_ (i := 7) (N := none) #[true, true, true, true, true, true, true, true] rfl rfl (by kernel_rfl) (by decide) (fun K hK => ?_)
  refine skip_ (w1 := ?_) (by rfl) rfl ?_ ?_
  rotate_left
  · skip
    have i0 : w5.cell? ⟨g14, 0, none⟩ = some (.slice none 0 0) := (blk_cell hz 0).trans rfl
    have i1 : w5.cell? ⟨g14, 1, none⟩ = some (.slice none 0 0) := (blk_cell hz 1).trans rfl
    have i2 : w5.cell? ⟨g14, 2, none⟩ = some (.slice none 0 0) := (blk_cell hz 2).trans rfl
    have j0 := blk_frozen hz 0
    have j1 := blk_frozen hz 1
    have j2 := blk_frozen hz 2
    go_simp
    rfl
  have hU6 := hM5.store hz n3 n4 nL nz (.slice H0 p.length h_0) (.slice H1 q.length h_1) (.slice H2 r.length h_2)
  have hy6 := (hy.1.lower nwN24).store hz (.slice H0 p.length h_0) (.slice H1 q.length h_1) (.slice H2 r.length h_2)
  have ho6 := hy.1.ge
  have hd6 := hy.2
  have hN6 : N24 ≤ (((w5.setCell ⟨g14, 0, none⟩ (.slice H0 p.length h_0)).setCell ⟨g14, 1, none⟩ (.slice H1 q.length h_1)).setCell ⟨g14, 2, none⟩ (.slice H2 r.length h_2)).heap.size := Nat.le_trans hN5 (Nat.le_of_eq (by simp only [World.size_setCell]))
  generalize (((w5.setCell ⟨g14, 0, none⟩ (.slice H0 p.length h_0)).setCell ⟨g14, 1, none⟩ (.slice H1 q.length h_1)).setCell ⟨g14, 2, none⟩ (.slice H2 r.length h_2)) = w6 at hU6 hy6 hN6 ⊢
  have hQ6 : U w g3 g4 #[.slice A0 l0.length c0, .slice A1 l1.length c1, .slice A2 l2.length c2] #[.int .i64 J, .int .i64 I] [(g10, #[.slice G0 p.length g_0, .slice G1 q.length g_1, .slice G2 r.length g_2]), (g9, #[.slice X0 l0.length x_0, .slice X1 l1.length x_1, .slice X2 l2.length x_2]), (g8, #[.slice V0 p.length v0, .slice V1 q.length v1, .slice V2 r.length v2])] [(.slice G0 p.length g_0, y0, n2, nG), (.slice G1 q.length g_1, y1, n2, nG), (.slice G2 r.length g_2, y2, n2, nG), (.slice V0 p.length v0, p, 0, n1), (.slice V1 q.length v1, q, 0, n1), (.slice V2 r.length v2, r, 0, n1)] w6 := ⟨hU6.h3, hU6.h4, fun x hx => hU6.hL x (List.mem_cons_of_mem _ hx), hU6.hR, hU6.bel⟩
  refine hK.out _ _ ⟨hN6, (blk_cell hQ6.h3 0).trans rfl, (blk_cell hQ6.h3 1).trans rfl, (blk_cell hQ6.h3 2).trans rfl, (blk_cell hQ6.h4 0).trans rfl, (blk_cell hQ6.h4 1).trans rfl, hQ6⟩ (fun hHeld => ?_)
  clear hK K
  refine done_ (by kernel_rfl) ?_
  clear hHeld hU0 hU hM5 hQ6 hz hy nz n3 n4 nL hS0 hN5
  clear hN6
  have id0 : w6.cell? ⟨g14, 0, none⟩ = some (.slice H0 p.length h_0) := (blk_cell (hU6.hL _ List.mem_cons_self) 0).trans rfl
  have id1 : w6.cell? ⟨g14, 1, none⟩ = some (.slice H1 q.length h_1) := (blk_cell (hU6.hL _ List.mem_cons_self) 1).trans rfl
  have id2 : w6.cell? ⟨g14, 2, none⟩ = some (.slice H2 r.length h_2) := (blk_cell (hU6.hL _ List.mem_cons_self) 2).trans rfl
  have ic0 : w6.cell? ⟨g8, 0, none⟩ = some (.slice V0 p.length v0) := (blk_cell (hU6.hL _ (List.mem_cons_of_mem _ (List.mem_cons_of_mem _ (List.mem_cons_of_mem _ List.mem_cons_self)))) 0).trans rfl
  have ic1 : w6.cell? ⟨g8, 1, none⟩ = some (.slice V1 q.length v1) := (blk_cell (hU6.hL _ (List.mem_cons_of_mem _ (List.mem_cons_of_mem _ (List.mem_cons_of_mem _ List.mem_cons_self)))) 1).trans rfl
  have ic2 : w6.cell? ⟨g8, 2, none⟩ = some (.slice V2 r.length v2) := (blk_cell (hU6.hL _ (List.mem_cons_of_mem _ (List.mem_cons_of_mem _ (List.mem_cons_of_mem _ List.mem_cons_self)))) 2).trans rfl
  go_wp2_with fail
  refine (eq13 KK _ _ _ _ _ _ p q r heq _ _ _ hy6 (hU6.r3 (List.mem_cons_of_mem _ (List.mem_cons_of_mem _ (List.mem_cons_of_mem _ List.mem_cons_self))) (List.mem_cons_of_mem _ (List.mem_cons_of_mem _ (List.mem_cons_of_mem _ (List.mem_cons_of_mem _ List.mem_cons_self)))) (List.mem_cons_of_mem _ (List.mem_cons_of_mem _ (List.mem_cons_of_mem _ (List.mem_cons_of_mem _ (List.mem_cons_of_mem _ List.mem_cons_self))))))).mono ?_
  rintro e w14 ⟨rfl, hb14⟩
  have hU := hU6.below hb14
  clear id0 id1 id2 ic0 ic1 ic2 hb14 hU6 hy6 ho6 hd6
  have ia0 : w14.cell? ⟨g10, 0, none⟩ = some (.slice G0 p.length g_0) := (blk_cell (hU.hL _ (List.mem_cons_of_mem _ List.mem_cons_self)) 0).trans rfl
  have ia1 : w14.cell? ⟨g10, 1, none⟩ = some (.slice G1 q.length g_1) := (blk_cell (hU.hL _ (List.mem_cons_of_mem _ List.mem_cons_self)) 1).trans rfl
  have ia2 : w14.cell? ⟨g10, 2, none⟩ = some (.slice G2 r.length g_2) := (blk_cell (hU.hL _ (List.mem_cons_of_mem _ List.mem_cons_self)) 2).trans rfl
  go_wp2_with fail
  refine (held15 KK _ _ _ y0 y1 y2 mg hhe _ _ (hU.r3 List.mem_cons_self (List.mem_cons_of_mem _ List.mem_cons_self) (List.mem_cons_of_mem _ (List.mem_cons_of_mem _ List.mem_cons_self)))).mono ?_
  rintro e w15 ⟨rfl, hb15⟩
  replace hU := hU.below hb15
  clear ia0 ia1 ia2 hb15
  go_wp2
  go_ret
  exact ⟨rfl, hU.bel⟩
set_option maxRecDepth 100000 in
theorem short (A0 A1 A2 : Option Addr) (c0 c1 c2 : Nat) (l0 l1 l2 : List Int) (J I n r0 : Int) (w : World)
    (hr0 : Kd.C (Kd.int .i64) w A0 l0.length l0) (hc0 : l0.length ≤ c0) (hr1 : Kd.C (Kd.int .i64) w A1 l1.length l1) (hc1 : l1.length ≤ c1) (hr2 : Kd.C (Kd.int .i64) w A2 l2.length l2) (hc2 : l2.length ≤ c2)
    (hsz : laws_szMem.f l0 l1 l2 1048576 = some r0) (hr : decide (r0 < 0) = true) :
    Calls Try.prog 7 #[.agg #[.slice A0 l0.length c0, .slice A1 l1.length c1, .slice A2 l2.length c2], .agg #[.int .i64 J, .int .i64 I], .int .i64 n] w fun e w' => e = .returned (.bool true) ∧ Below w.heap.size w w' := by
  have hu29 := Try.underlying29
  have hu36 := Try.underlying36
  have g16 := fun W h0 h1 h2 => laws_szMem.calls A0 c0 l0 A1 c1 l1 A2 c2 l2 1048576 r0 W h0 hc0 h1 hc1 h2 hc2 hsz
  clear hsz
  go_enter Try.func7, Try.ntmps7
  go_wp2_with fail
  have q0 : (w.alloc (Obj.cells #[.slice A0 l0.length c0, .slice A1 l1.length c1, .slice A2 l2.length c2] 29)).heap.size = w.heap.size + 1 := Hm.alloc_size _ _
  have hb0 : Below w.heap.size w ((w.alloc (Obj.cells #[.slice A0 l0.length c0, .slice A1 l1.length c1, .slice A2 l2.length c2] 29)).alloc (Obj.cells #[.int .i64 J, .int .i64 I] 36)) := ((Below.refl _ _).alloc (Nat.le_refl _) _).alloc (by rw [q0]; exact Nat.le_succ _) _
  refine (g16 _ (Kd.C_below hr0 hb0) (Kd.C_below hr1 hb0) (Kd.C_below hr2 hb0)).mono ?_
  rintro e w2 ⟨rfl, hb⟩
  have hb2 := hb0.trans (hb.mono hb0.size)
  clear hb0 hb
  go_wp2
  go_ret
  exact ⟨rfl, hb2⟩
theorem all (A0 A1 A2 : Option Addr) (c0 c1 c2 : Nat) (l0 l1 l2 : List Int) (J I n : Int) (w : World)
    (hr0 : Kd.C (Kd.int .i64) w A0 l0.length l0) (hc0 : l0.length ≤ c0) (hr1 : Kd.C (Kd.int .i64) w A1 l1.length l1) (hc1 : l1.length ≤ c1) (hr2 : Kd.C (Kd.int .i64) w A2 l2.length l2) (hc2 : l2.length ≤ c2) :
    Calls Try.prog 7 #[.agg #[.slice A0 l0.length c0, .slice A1 l1.length c1, .slice A2 l2.length c2], .agg #[.int .i64 J, .int .i64 I], .int .i64 n] w fun e w' => e = .returned (.bool true) ∧ Below w.heap.size w w' := by
  obtain ⟨r0, e0, b0⟩ := szMem_le l0 l1 l2 1048576 (by omega) (by omega) hr0.2.1 hr1.2.1 hr2.2.1
  by_cases c : r0 < 0
  · exact short A0 A1 A2 c0 c1 c2 l0 l1 l2 J I n r0 w hr0 hc0 hr1 hc1 hr2 hc2 e0 (decide_eq_true c)
  have k0 : l0.length ≤ 1048576 := by omega
  have k1 : l1.length ≤ 1048576 := by omega
  have k2 : l2.length ≤ 1048576 := by omega
  have p0 := pL_len (a := l0) (b := l1) (c := l2) (t := 1) (j := J) (i := I) (n := n) k0
  have p1 := pL_len (a := l0) (b := l1) (c := l2) (t := 2) (j := J) (i := I) (n := n) k1
  have p2 := pL_len (a := l0) (b := l1) (c := l2) (t := 3) (j := J) (i := I) (n := n) k2
  exact main A0 A1 A2 c0 c1 c2 l0 l1 l2 _ _ _ J I n r0 _ _ _ _ _ _ _ _ 5000000 w hr0 hc0 hr1 hc1 hr2 hc2 e0 (decide_eq_false c) (toMem_some l0 l1 l2 k0 k1 k2)
    (specPut_some l0 l1 l2 J I n k0 k1 k2 5000000 (by omega) (by omega) (by omega)) rfl rfl rfl (eqMem_self _ _ _ p0 p1 p2) (eqMem_self l0 l1 l2 k0 k1 k2)
    (markMem_some l0 l1 l2 k0 k1 k2) (decide_eq_false (by omega)) (markMem_some _ _ _ p0 p1 p2) (decide_eq_false (by omega)) (heldMem_some _ _ _ p0 p1 p2)
end Go.Proofs.Ytlgogdpnakbhiaa.MyFnExactMemPut
