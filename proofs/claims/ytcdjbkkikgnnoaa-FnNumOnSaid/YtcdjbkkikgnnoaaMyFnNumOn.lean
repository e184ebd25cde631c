/- The law FnNumOn returns true for every code: truth values are exact. No condition. -/
import Derived.Test.YtcdjbkkikgnnoaaHFnNumOnx1
import Derived.Test.YtcdjbkkikgnnoaaWMore
import Derived.WalkKit
import Derived.KernelRfl
import Derived.WalkLawsBesides
import Derived.WalkSpells
import Derived.Below
namespace Go.Proofs.Ytcdjbkkikgnnoaa.MyFnNumOn
open Go.RowKit Go.Proofs.Ytcdjbkkikgnnoaa.HFnNumOn Go.Proofs.YtcdjbkkikgnnoaaW.PrintWords Go.Proofs.YtcdjbkkikgnnoaaW.PrintLast Go.Proofs.YtcdjbkkikgnnoaaW.PrintMore
set_option linter.unusedVariables false
set_option linter.unusedSimpArgs false
theorem wrap_id {x : Int} (h1 : -9223372036854775808 ≤ x) (h2 : x ≤ 9223372036854775807) : wrap64 x = x := by
  unfold wrap64; omega
theorem xor_i64_nat (a b : Nat) (ha : a < 9223372036854775808) (hb : b < 9223372036854775808) :
    Go.bits .xor .i64 (a : Int) (b : Int) = ((a ^^^ b : Nat) : Int) := by
  have hx : a ^^^ b < 2 ^ 63 := Nat.xor_lt_two_pow (by omega) (by omega)
  have h1 : (BitVec.ofInt 64 (a : Int)).toNat = a := by
    rw [BitVec.ofInt_natCast, BitVec.toNat_ofNat]; exact Nat.mod_eq_of_lt (by omega)
  have h2 : (BitVec.ofInt 64 (b : Int)).toNat = b := by
    rw [BitVec.ofInt_natCast, BitVec.toNat_ofNat]; exact Nat.mod_eq_of_lt (by omega)
  show IntKind.i64.wrap ((BitVec.ofInt 64 (a : Int) ^^^ BitVec.ofInt 64 (b : Int)).toNat : Int) = _
  rw [BitVec.toNat_xor, h1, h2, IntKind.wrap_i64]
  omega
theorem xor_i64_nonneg (x y : Int) (hx : 0 ≤ x) (hx' : x < 9223372036854775808) (hy : 0 ≤ y) (hy' : y < 9223372036854775808) :
    0 ≤ Go.bits .xor .i64 x y := by
  obtain ⟨a, rfl⟩ := Int.eq_ofNat_of_zero_le hx
  obtain ⟨b, rfl⟩ := Int.eq_ofNat_of_zero_le hy
  rw [xor_i64_nat a b (by omega) (by omega)]
  exact Int.natCast_nonneg _
def Byt (l : List Int) : Prop := ∀ x ∈ l, 0 ≤ x ∧ x ≤ 255
theorem rd_byt {l : List Int} (h : Byt l) (i : Int) : 0 ≤ rd l i ∧ rd l i ≤ 255 := by
  unfold rd
  by_cases hi : i.toNat < l.length
  · rw [List.getD_eq_getElem?_getD, List.getElem?_eq_getElem hi]; exact h _ (List.getElem_mem hi)
  · rw [List.getD_eq_getElem?_getD, List.getElem?_eq_none (by omega)]; simp
theorem tmod_bd {a b : Int} (ha : 0 ≤ a) (hb : 0 < b) : 0 ≤ Int.tmod a b ∧ Int.tmod a b < b := by
  rw [Int.tmod_eq_emod_of_nonneg ha]
  exact ⟨Int.emod_nonneg _ (by omega), Int.emod_lt_of_pos _ hb⟩
theorem tdiv_bd {a b : Int} (ha : 0 ≤ a) (hb : 0 < b) : 0 ≤ Int.tdiv a b ∧ Int.tdiv a b ≤ a := by
  rw [Int.tdiv_eq_ediv_of_nonneg ha]
  exact ⟨Int.ediv_nonneg ha (by omega), Int.ediv_le_self _ ha⟩
/-- What one pick gives: a number from 0 on, below n where n is at least 1; the place goes one on. -/
theorem pick_some {l : List Int} (h : Byt l) (k : Nat) (p n : Int) (hp : 0 ≤ p) (hp' : p ≤ 1000000000000) :
    ∃ r, spec_l12Rd_pick.f (k + 1) l p n = some (r, p + 1) ∧ 0 ≤ r ∧ (r < n ∨ (n < 1 ∧ r = 0)) := by
  have hw : wrap64 (p + 1) = p + 1 := wrap_id (by omega) (by omega)
  have hw2 : wrap64 (p + 1 - 1) = p := by rw [wrap_id (by omega) (by omega)]; omega
  unfold spec_l12Rd_pick.f
  by_cases hn : n < 1
  · refine ⟨0, ?_, by omega, .inr ⟨hn, rfl⟩⟩
    rw [if_pos hn]; simp only [spec_l12Rd_pick.j0, if_true]; rw [hw]
  · rw [if_neg hn]
    by_cases hl : (l.length : Int) = 0
    · refine ⟨0, ?_, by omega, .inl (by omega)⟩
      have e : ((l.length : Int) == 0) = true := by simpa using hl
      rw [e]; simp only [spec_l12Rd_pick.j0, if_true]; rw [hw]
    · have e : ((l.length : Int) == 0) = false := by simpa using hl
      have hn0 : ¬ n = 0 := by omega
      rw [e]; simp only [spec_l12Rd_pick.j0]
      rw [if_neg (by simp), hw, hw2]
      by_cases hlt : p < (l.length : Int)
      · rw [if_pos hlt, if_pos hp, if_neg hn0]
        have hb := rd_byt h p
        rw [wrap_id (x := rd l p) (by omega) (by omega)]
        have ht := tmod_bd (a := rd l p) (b := n) hb.1 (by omega)
        exact ⟨_, rfl, ht.1, .inl ht.2⟩
      · have hL : 0 < (l.length : Int) := by omega
        have ht1 := tmod_bd (a := p) (b := (l.length : Int)) hp hL
        have e7 : wrap64 (p * 7) = p * 7 := wrap_id (by omega) (by omega)
        have e73 : wrap64 (p * 7 + 3) = p * 7 + 3 := wrap_id (by omega) (by omega)
        have ht2 := tmod_bd (a := p * 7 + 3) (b := (l.length : Int)) (by omega) hL
        rw [if_neg hlt, if_neg hl, if_pos ht1.1, if_pos ht1.2, e7, e73, if_pos ht2.1, if_pos ht2.2, if_neg hn0]
        have hb1 := rd_byt h (Int.tmod p (l.length : Int))
        have hb2 := rd_byt h (Int.tmod (p * 7 + 3) (l.length : Int))
        have hd := tdiv_bd (a := p) (b := (l.length : Int)) hp hL
        generalize rd l (Int.tmod p (l.length : Int)) = A at hb1 ⊢
        generalize rd l (Int.tmod (p * 7 + 3) (l.length : Int)) = B at hb2 ⊢
        generalize Int.tdiv p (l.length : Int) = D at hd ⊢
        rw [wrap_id (x := A) (by omega) (by omega), wrap_id (x := B) (by omega) (by omega), wrap_id (x := D) (by omega) (by omega), wrap_id (x := A * 131) (by omega) (by omega), wrap_id (x := B * 1117) (by omega) (by omega), wrap_id (x := p * 29) (by omega) (by omega), wrap_id (x := D * 53) (by omega) (by omega), wrap_id (x := A * 131 + B * 1117) (by omega) (by omega), wrap_id (x := A * 131 + B * 1117 + p * 29) (by omega) (by omega), wrap_id (x := A * 131 + B * 1117 + p * 29 + D * 53) (by omega) (by omega)]
        have hx0 : 0 ≤ A * 131 + B * 1117 + p * 29 + D * 53 := by omega
        have hx1 : A * 131 + B * 1117 + p * 29 + D * 53 < 9223372036854775807 := by omega
        generalize A * 131 + B * 1117 + p * 29 + D * 53 = X at hx0 hx1 ⊢
        have hd2 := tdiv_bd (a := X) (b := 64) hx0 (by omega)
        rw [wrap_id (x := Int.tdiv X 64) (by omega) (by omega)]
        have hnn := xor_i64_nonneg X (Int.tdiv X 64) hx0 (by omega) hd2.1 (by omega)
        have ht := tmod_bd (a := Go.bits .xor .i64 X (Int.tdiv X 64)) (b := n) hnn (by omega)
        exact ⟨_, rfl, ht.1, .inl ht.2⟩
theorem rd_mem {l : List Int} {i : Int} (h0 : 0 ≤ i) (h1 : i < (l.length : Int)) : rd l i ∈ l := by
  unfold rd
  rw [List.getD_eq_getElem?_getD, List.getElem?_eq_getElem (by omega)]; exact List.getElem_mem _
theorem num_some {l : List Int} (h : Byt l) (k : Nat) (p : Int) (xs : List Int) (hx : 0 < xs.length) (hp : 0 ≤ p) (hp' : p ≤ 1000000000000) :
    ∃ r, spec_l12Rd_num.f (k + 1) l p xs = some (r, p + 1) ∧ r ∈ xs := by
  obtain ⟨i, hi, h0, h1⟩ := pick_some h k p (xs.length : Int) hp hp'
  have h1' : i < (xs.length : Int) := by omega
  refine ⟨rd xs i, ?_, rd_mem h0 h1'⟩
  unfold spec_l12Rd_num.f
  rw [hi]; simp only [Option.bind_some]
  rw [if_pos h0, if_pos h1']
theorem byt_of {l : List Int} (h : ∀ x ∈ l, (Lit.int .u8 x).wf = true) : Byt l := by
  intro x hx
  have := h x hx
  simp [Lit.wf, IntKind.min, IntKind.max, IntKind.bits, IntKind.signed] at this
  omega
theorem open_some {l : List Int} (h : Byt l) : ∃ l', spec_l12Open.f l = some (l', 0) ∧ Byt l' := by
  unfold spec_l12Open.f
  by_cases hl : (l.length : Int) > 2000
  · rw [if_pos hl, if_pos (by omega)]
    exact ⟨_, rfl, fun x hx => h x (List.mem_of_mem_take hx)⟩
  · rw [if_neg hl]; exact ⟨l, rfl, h⟩
def I64 (x : Int) : Prop := -9223372036854775808 ≤ x ∧ x ≤ 9223372036854775807
theorem l1Num_some {l : List Int} (h : Byt l) (k : Nat) (p : Int) (hp : 0 ≤ p) (hp' : p ≤ 1000000000000) :
    ∃ r, spec_l1Num.f (k + 1) l p = some (r, p + 1) ∧ I64 r := by
  unfold spec_l1Num.f
  obtain ⟨r, hr, hm⟩ := num_some h k p [0, 1, 2, (-1), 3, 7, 100, 999999, 1000000, (-1000000), 1000001, (-1000007), 9223372036854775807, (-9223372036854775808), 4000000000] (by simp) hp hp'
  refine ⟨r, by rw [hr]; rfl, ?_⟩
  unfold I64
  simp only [List.mem_cons, List.not_mem_nil, or_false] at hm
  omega
theorem cIs (b : Bool) (W : World) : Calls Try.prog 21 #[.bool b] W fun e w' => e = .returned (.int .i64 (if b then 1 else 0)) ∧ Below W.heap.size W w' := (impl_NumIs.calls b _ W (show impl_NumIs.f b = some (if b then 1 else 0) by cases b <;> rfl)).mono fun _ _ h => ⟨h.1, h.2.below⟩
theorem cIs' (b : Bool) (W : World) : Calls Try.prog 20 #[.bool b] W fun e w' => e = .returned (.int .i64 (if b then 1 else 0)) ∧ Below W.heap.size W w' := (spec_NumIs.calls b _ W (show spec_NumIs.f b = some (if b then 1 else 0) by cases b <;> rfl)).mono fun _ _ h => ⟨h.1, h.2.below⟩
theorem cOn (n : Int) (W : World) : Calls Try.prog 16 #[.int .i64 n] W fun e w' => e = .returned (.bool (n != 0)) ∧ Below W.heap.size W w' := (impl_NumOn.calls n _ W rfl).mono fun _ _ h => ⟨h.1, h.2.below⟩
theorem cOn' (n : Int) (W : World) : Calls Try.prog 15 #[.int .i64 n] W fun e w' => e = .returned (.bool (n != 0)) ∧ Below W.heap.size W w' := (spec_NumOn.calls n _ W rfl).mono fun _ _ h => ⟨h.1, h.2.below⟩
set_option maxRecDepth 100000 in
set_option maxHeartbeats 3200000 in
theorem core (is on : Bool) (n : Int) (hon : (n != 0) = on) (A0 : Option Addr) (c0 : Nat) (l0 : List Int) (w : World) (hl0 : ¬ (l0.length : Int) > 1048576)
    (hd : Calls Try.prog 30 #[.slice A0 l0.length c0] w fun e w' => e = .returned (.bool is) ∧ Below w.heap.size w w')
    (hn : ∀ W, Below w.heap.size w W → Calls Try.prog 31 #[.slice A0 l0.length c0] W fun e w' => e = .returned (.int .i64 n) ∧ Below W.heap.size W w') :
    Calls Try.prog 11 #[.slice A0 l0.length c0] w fun e w' => e = .returned (.bool true) ∧ Below w.heap.size w w' := by
  have t1 : decide (1048576 < (l0.length : Int)) = false := by simpa using hl0
  clear hl0
  have on1 := fun W => cOn n W
  have on2 := fun W => cOn' n W
  rw [hon] at on1 on2
  have i1 := fun W => cIs is W
  have i2 := fun W => cIs' is W
  have i3 := fun W => cIs true W
  have i4 := fun W => cIs false W
  have o1 := fun W => cOn 1 W
  have o0 := fun W => cOn 0 W
  rw [show ((1 : Int) != 0) = true from rfl] at o1
  rw [show ((0 : Int) != 0) = false from rfl] at o0
  cases is <;> cases on
  all_goals
    simp only [if_true, Bool.false_eq_true, if_false] at i1 i2 i3 i4
    go_enter Try.func11, Try.ntmps11
    go_wp2_with fail
    refine hd.mono ?_
    rintro e W1 ⟨rfl, k1⟩
    go_wp2_with fail
    refine (hn _ k1).mono ?_
    rintro e W2 ⟨rfl, k2⟩
    have k3 := k1.trans (k2.mono k1.size)
    clear k1 k2 hn hd
    go_wp2_with fail
    refine (i1 _).mono ?_
    rintro e W3 ⟨rfl, k2⟩
    have k4 := k3.trans (k2.mono k3.size)
    clear k2 k3
    go_wp2_with fail
    refine (i2 _).mono ?_
    rintro e W4 ⟨rfl, k2⟩
    have k3 := k4.trans (k2.mono k4.size)
    clear k2 k4
    go_wp2_with fail
    refine (on1 _).mono ?_
    rintro e W5 ⟨rfl, k2⟩
    have k4 := k3.trans (k2.mono k3.size)
    clear k2 k3
    go_wp2_with fail
    refine (on2 _).mono ?_
    rintro e W6 ⟨rfl, k2⟩
    have k3 := k4.trans (k2.mono k4.size)
    clear k2 k4
    go_wp2_with fail
    refine (i1 _).mono ?_
    rintro e W7 ⟨rfl, k2⟩
    have k4 := k3.trans (k2.mono k3.size)
    clear k2 k3
    go_wp2_with fail
    first | refine (o1 _).mono ?_ | refine (o0 _).mono ?_
    rintro e W8 ⟨rfl, k2⟩
    have k3 := k4.trans (k2.mono k4.size)
    clear k2 k4
    go_wp2_with fail
    refine (on1 _).mono ?_
    rintro e W9 ⟨rfl, k2⟩
    have k4 := k3.trans (k2.mono k3.size)
    clear k2 k3
    go_wp2_with fail
    refine (i3 _).mono ?_
    rintro e W10 ⟨rfl, k2⟩
    have k3 := k4.trans (k2.mono k4.size)
    clear k2 k4
    go_wp2_with fail
    refine (i4 _).mono ?_
    rintro e W11 ⟨rfl, k2⟩
    have k4 := k3.trans (k2.mono k3.size)
    clear k2 k3
    go_wp2
    go_ret
    exact ⟨rfl, k4⟩
set_option maxRecDepth 100000 in
theorem all (A0 : Option Addr) (c0 : Nat) (l0 : List Int) (w : World) (hr0 : Kd.C (Kd.int .u8) w A0 l0.length l0) (hc0 : l0.length ≤ c0) (hb0 : Byt l0) :
    Calls Try.prog 11 #[.slice A0 l0.length c0] w fun e w' => e = .returned (.bool true) ∧ Below w.heap.size w w' := by
  by_cases h0 : (l0.length : Int) > 1048576
  · have t1 : decide (1048576 < (l0.length : Int)) = true := by simpa using h0
    clear h0
    go_enter Try.func11, Try.ntmps11
    go_wp2
    go_ret
    exact ⟨rfl, Below.refl _ _⟩
  obtain ⟨l', ho, h'⟩ := open_some hb0
  obtain ⟨a, ha, _⟩ := pick_some h' 0 0 2 (by omega) (by omega)
  obtain ⟨n, hn, _⟩ := l1Num_some h' 0 0 (by omega) (by omega)
  have e1 : spec_DrawNumIs.f 1 l0 = some (a == 0) := by unfold spec_DrawNumIs.f; rw [ho]; simp only [Option.bind_some]; rw [ha]; rfl
  have e2 : spec_DrawNumOn.f 1 l0 = some n := by unfold spec_DrawNumOn.f; rw [ho]; simp only [Option.bind_some]; rw [hn]; rfl
  exact core _ _ n rfl A0 c0 l0 w h0 (spec_DrawNumIs.calls 1 A0 c0 l0 _ w hr0 hc0 e1) (fun W hW => spec_DrawNumOn.calls 1 A0 c0 l0 _ W (Kd.C_below hr0 hW) hc0 e2)
theorem walk (a0 : Option Addr) (len0 cap0 : Nat) (z0 : List Int) (w : World) (w0 : (a0 = none ∧ len0 = 0 ∧ cap0 = 0 ∧ z0 = []) ∨ ∃ x, a0 = some x ∧ len0 ≤ cap0 ∧ cap0 ≤ maxLen ∧ z0.length = cap0 ∧ (∀ i, i < z0.length → w.cell? (x.add i) = some (.int .u8 (z0.getD i 0))) ∧ ∀ n ∈ z0, (Lit.int .u8 n).wf = true) (y0 : len0 * 1 ≤ 140737488351232) :
    Calls Try.prog 11 #[.slice a0 len0 cap0] w fun e w' => e = .returned (.bool true) ∧ Below w.heap.size w w' := by
  obtain ⟨l0, rfl, hr0, hm0, hw0, hc0⟩ := ReadsInt.ofRowC w0
  exact all a0 cap0 l0 w (Kd.C_of_reads (d := (0 : Int)) (h1 := fun _ => rfl) hr0) hc0 (byt_of hw0)
end Go.Proofs.Ytcdjbkkikgnnoaa.MyFnNumOn
