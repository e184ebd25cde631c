/- The law FnNumSmall returns true for every code: within bounds arithmetic is exact. No condition. -/
import Derived.Test.YtcdjbkkikgnnoaaPFnNumSmallx1
import Derived.Test.YtcdjbkkikgnnoaaWMore
import Derived.WalkKit
import Derived.KernelRfl
import Derived.WalkLawsBesides
import Derived.WalkSpells
import Derived.Below
namespace Go.Proofs.Ytcdjbkkikgnnoaa.MyFnNumSmall
open Go.RowKit Go.Proofs.Ytcdjbkkikgnnoaa.PFnNumSmall Go.Proofs.YtcdjbkkikgnnoaaW.PrintWords Go.Proofs.YtcdjbkkikgnnoaaW.PrintLast Go.Proofs.YtcdjbkkikgnnoaaW.PrintMore
set_option linter.unusedVariables false
set_option linter.unusedSimpArgs false
theorem wrap_id {x : Int} (h1 : -9223372036854775808 ≤ x) (h2 : x ≤ 9223372036854775807) : wrap64 x = x := by
  unfold wrap64; omega
def cut (n : Int) : Int := mn (mx n (-1000000)) 1000000
theorem cut_bd (n : Int) : -1000000 ≤ cut n ∧ cut n ≤ 1000000 := by
  unfold cut mn mx; split <;> split <;> omega
theorem cut_id {n : Int} (h1 : -1000000 ≤ n) (h2 : n ≤ 1000000) : cut n = n := by
  unfold cut mn mx; split <;> split <;> omega
theorem cut_def (n : Int) : cut n = if n < -1000000 then -1000000 else if 1000000 < n then 1000000 else n := by
  unfold cut mn mx; (repeat' split) <;> omega
theorem op_wrap_add (a0 a1 : Int) : wrap64 (cut a0 + cut a1) = cut a0 + cut a1 := by
  have a := cut_bd a0; have b := cut_bd a1; exact wrap_id (by omega) (by omega)
theorem op_wrap_sub (a0 a1 : Int) : wrap64 (cut a0 - cut a1) = cut a0 - cut a1 := by
  have a := cut_bd a0; have b := cut_bd a1; exact wrap_id (by omega) (by omega)
theorem mul_bd {x y A B : Int} (hA : 0 ≤ A) (hB : 0 ≤ B) (h1 : -A ≤ x) (h2 : x ≤ A) (h3 : -B ≤ y) (h4 : y ≤ B) : -(A * B) ≤ x * y ∧ x * y ≤ A * B := by
  have hx : x.natAbs ≤ A.natAbs := by omega
  have hy : y.natAbs ≤ B.natAbs := by omega
  have hm : (x * y).natAbs ≤ A.natAbs * B.natAbs := by rw [Int.natAbs_mul]; exact Nat.mul_le_mul hx hy
  have hAB : ((A.natAbs * B.natAbs : Nat) : Int) = A * B := by
    rw [Int.natCast_mul, Int.natAbs_of_nonneg hA, Int.natAbs_of_nonneg hB]
  omega
theorem op_wrap_mul (a0 a1 : Int) : wrap64 (cut a0 * cut a1) = cut a0 * cut a1 := by
  have a := cut_bd a0; have b := cut_bd a1
  have m := mul_bd (x := cut a0) (y := cut a1) (A := 1000000) (B := 1000000) (by omega) (by omega) a.1 a.2 b.1 b.2
  exact wrap_id (by omega) (by omega)
theorem impl_cut (n : Int) : impl_NumCut.f n = some (cut n) := rfl
theorem spec_cut (n : Int) : spec_NumCut.f n = some (cut n) := by
  unfold spec_NumCut.f spec_l1Min.f spec_l1Max.f cut mn mx
  (repeat' split) <;> simp only [Option.bind_some] <;> (repeat' split) <;> simp only [Option.some.injEq, Option.bind_some] <;> omega
theorem impl_add (a0 a1 : Int) : impl_NumAdd.f a0 a1 = some (cut (cut a0 + cut a1)) := by
  unfold impl_NumAdd.f impl_maker_of.f
  simp only [impl_cut, Option.bind_some, Option.some.injEq]
  have hw : wrap64 (cut a0 + cut a1) = cut a0 + cut a1 := op_wrap_add a0 a1
  rw [hw]; rfl
theorem impl_sub (a0 a1 : Int) : impl_NumSub.f a0 a1 = some (cut (cut a0 - cut a1)) := by
  unfold impl_NumSub.f impl_maker_of.f
  simp only [impl_cut, Option.bind_some, Option.some.injEq]
  have hw : wrap64 (cut a0 - cut a1) = cut a0 - cut a1 := op_wrap_sub a0 a1
  rw [hw]; rfl
theorem impl_mul (a0 a1 : Int) : impl_NumMul.f a0 a1 = some (cut (cut a0 * cut a1)) := by
  unfold impl_NumMul.f impl_maker_of.f
  simp only [impl_cut, Option.bind_some, Option.some.injEq]
  have hw : wrap64 (cut a0 * cut a1) = cut a0 * cut a1 := op_wrap_mul a0 a1
  rw [hw]; rfl
theorem spec_mul (a0 a1 : Int) : spec_NumMul.f a0 a1 = some (cut (cut a0 * cut a1)) := by
  unfold spec_NumMul.f
  simp only [spec_cut, Option.bind_some, Option.some.injEq]
  have hw : wrap64 (cut a0 * cut a1) = cut a0 * cut a1 := op_wrap_mul a0 a1
  rw [hw]
theorem xor_i64_nat (a b : Nat) (ha : a < 9223372036854775808) (hb : b < 9223372036854775808) :
    Go.bits .xor .i64 (a : Int) (b : Int) = ((a ^^^ b : Nat) : Int) := by
  have hx : a ^^^ b < 2 ^ 63 := Nat.xor_lt_two_pow (by omega) (by omega)
  have h1 : (BitVec.ofInt 64 (a : Int)).toNat = a := by
    rw [BitVec.ofInt_natCast, BitVec.toNat_ofNat]; exact Nat.mod_eq_of_lt (by omega)
  have h2 : (BitVec.ofInt 64 (b : Int)).toNat = b := by
    rw [BitVec.ofInt_natCast, BitVec.toNat_ofNat]; exact Nat.mod_eq_of_lt (by omega)
  show IntKind.i64.wrap ((BitVec.ofInt 64 (a : Int) ^^^ BitVec.ofInt 64 (b : Int)).toNat : Int) = _
  rw [BitVec.toNat_xor, h1, h2, IntKind.wrap_i64]
  omega
theorem xor_i64_nonneg (x y : Int) (hx : 0 ≤ x) (hx' : x < 9223372036854775808) (hy : 0 ≤ y) (hy' : y < 9223372036854775808) :
    0 ≤ Go.bits .xor .i64 x y := by
  obtain ⟨a, rfl⟩ := Int.eq_ofNat_of_zero_le hx
  obtain ⟨b, rfl⟩ := Int.eq_ofNat_of_zero_le hy
  rw [xor_i64_nat a b (by omega) (by omega)]
  exact Int.natCast_nonneg _
def Byt (l : List Int) : Prop := ∀ x ∈ l, 0 ≤ x ∧ x ≤ 255
theorem rd_byt {l : List Int} (h : Byt l) (i : Int) : 0 ≤ rd l i ∧ rd l i ≤ 255 := by
  unfold rd
  by_cases hi : i.toNat < l.length
  · rw [List.getD_eq_getElem?_getD, List.getElem?_eq_getElem hi]; exact h _ (List.getElem_mem hi)
  · rw [List.getD_eq_getElem?_getD, List.getElem?_eq_none (by omega)]; simp
theorem tmod_bd {a b : Int} (ha : 0 ≤ a) (hb : 0 < b) : 0 ≤ Int.tmod a b ∧ Int.tmod a b < b := by
  rw [Int.tmod_eq_emod_of_nonneg ha]
  exact ⟨Int.emod_nonneg _ (by omega), Int.emod_lt_of_pos _ hb⟩
theorem tdiv_bd {a b : Int} (ha : 0 ≤ a) (hb : 0 < b) : 0 ≤ Int.tdiv a b ∧ Int.tdiv a b ≤ a := by
  rw [Int.tdiv_eq_ediv_of_nonneg ha]
  exact ⟨Int.ediv_nonneg ha (by omega), Int.ediv_le_self _ ha⟩
/-- What one pick gives: a number from 0 on, below n where n is at least 1; the place goes one on. -/
theorem pick_some {l : List Int} (h : Byt l) (k : Nat) (p n : Int) (hp : 0 ≤ p) (hp' : p ≤ 1000000000000) :
    ∃ r, spec_l12Rd_pick.f (k + 1) l p n = some (r, p + 1) ∧ 0 ≤ r ∧ (r < n ∨ (n < 1 ∧ r = 0)) := by
  have hw : wrap64 (p + 1) = p + 1 := wrap_id (by omega) (by omega)
  have hw2 : wrap64 (p + 1 - 1) = p := by rw [wrap_id (by omega) (by omega)]; omega
  unfold spec_l12Rd_pick.f
  by_cases hn : n < 1
  · refine ⟨0, ?_, by omega, .inr ⟨hn, rfl⟩⟩
    rw [if_pos hn]; simp only [spec_l12Rd_pick.j0, if_true]; rw [hw]
  · rw [if_neg hn]
    by_cases hl : (l.length : Int) = 0
    · refine ⟨0, ?_, by omega, .inl (by omega)⟩
      have e : ((l.length : Int) == 0) = true := by simpa using hl
      rw [e]; simp only [spec_l12Rd_pick.j0, if_true]; rw [hw]
    · have e : ((l.length : Int) == 0) = false := by simpa using hl
      have hn0 : ¬ n = 0 := by omega
      rw [e]; simp only [spec_l12Rd_pick.j0]
      rw [if_neg (by simp), hw, hw2]
      by_cases hlt : p < (l.length : Int)
      · rw [if_pos hlt, if_pos hp, if_neg hn0]
        have hb := rd_byt h p
        rw [wrap_id (x := rd l p) (by omega) (by omega)]
        have ht := tmod_bd (a := rd l p) (b := n) hb.1 (by omega)
        exact ⟨_, rfl, ht.1, .inl ht.2⟩
      · have hL : 0 < (l.length : Int) := by omega
        have ht1 := tmod_bd (a := p) (b := (l.length : Int)) hp hL
        have e7 : wrap64 (p * 7) = p * 7 := wrap_id (by omega) (by omega)
        have e73 : wrap64 (p * 7 + 3) = p * 7 + 3 := wrap_id (by omega) (by omega)
        have ht2 := tmod_bd (a := p * 7 + 3) (b := (l.length : Int)) (by omega) hL
        rw [if_neg hlt, if_neg hl, if_pos ht1.1, if_pos ht1.2, e7, e73, if_pos ht2.1, if_pos ht2.2, if_neg hn0]
        have hb1 := rd_byt h (Int.tmod p (l.length : Int))
        have hb2 := rd_byt h (Int.tmod (p * 7 + 3) (l.length : Int))
        have hd := tdiv_bd (a := p) (b := (l.length : Int)) hp hL
        generalize rd l (Int.tmod p (l.length : Int)) = A at hb1 ⊢
        generalize rd l (Int.tmod (p * 7 + 3) (l.length : Int)) = B at hb2 ⊢
        generalize Int.tdiv p (l.length : Int) = D at hd ⊢
        rw [wrap_id (x := A) (by omega) (by omega), wrap_id (x := B) (by omega) (by omega), wrap_id (x := D) (by omega) (by omega), wrap_id (x := A * 131) (by omega) (by omega), wrap_id (x := B * 1117) (by omega) (by omega), wrap_id (x := p * 29) (by omega) (by omega), wrap_id (x := D * 53) (by omega) (by omega), wrap_id (x := A * 131 + B * 1117) (by omega) (by omega), wrap_id (x := A * 131 + B * 1117 + p * 29) (by omega) (by omega), wrap_id (x := A * 131 + B * 1117 + p * 29 + D * 53) (by omega) (by omega)]
        have hx0 : 0 ≤ A * 131 + B * 1117 + p * 29 + D * 53 := by omega
        have hx1 : A * 131 + B * 1117 + p * 29 + D * 53 < 9223372036854775807 := by omega
        generalize A * 131 + B * 1117 + p * 29 + D * 53 = X at hx0 hx1 ⊢
        have hd2 := tdiv_bd (a := X) (b := 64) hx0 (by omega)
        rw [wrap_id (x := Int.tdiv X 64) (by omega) (by omega)]
        have hnn := xor_i64_nonneg X (Int.tdiv X 64) hx0 (by omega) hd2.1 (by omega)
        have ht := tmod_bd (a := Go.bits .xor .i64 X (Int.tdiv X 64)) (b := n) hnn (by omega)
        exact ⟨_, rfl, ht.1, .inl ht.2⟩
theorem rd_mem {l : List Int} {i : Int} (h0 : 0 ≤ i) (h1 : i < (l.length : Int)) : rd l i ∈ l := by
  unfold rd
  rw [List.getD_eq_getElem?_getD, List.getElem?_eq_getElem (by omega)]; exact List.getElem_mem _
theorem num_some {l : List Int} (h : Byt l) (k : Nat) (p : Int) (xs : List Int) (hx : 0 < xs.length) (hp : 0 ≤ p) (hp' : p ≤ 1000000000000) :
    ∃ r, spec_l12Rd_num.f (k + 1) l p xs = some (r, p + 1) ∧ r ∈ xs := by
  obtain ⟨i, hi, h0, h1⟩ := pick_some h k p (xs.length : Int) hp hp'
  have h1' : i < (xs.length : Int) := by omega
  refine ⟨rd xs i, ?_, rd_mem h0 h1'⟩
  unfold spec_l12Rd_num.f
  rw [hi]; simp only [Option.bind_some]
  rw [if_pos h0, if_pos h1']
theorem byt_of {l : List Int} (h : ∀ x ∈ l, (Lit.int .u8 x).wf = true) : Byt l := by
  intro x hx
  have := h x hx
  simp [Lit.wf, IntKind.min, IntKind.max, IntKind.bits, IntKind.signed] at this
  omega
theorem open_some {l : List Int} (h : Byt l) : ∃ l', spec_l12Open.f l = some (l', 0) ∧ Byt l' := by
  unfold spec_l12Open.f
  by_cases hl : (l.length : Int) > 2000
  · rw [if_pos hl, if_pos (by omega)]
    exact ⟨_, rfl, fun x hx => h x (List.mem_of_mem_take hx)⟩
  · rw [if_neg hl]; exact ⟨l, rfl, h⟩
def I64 (x : Int) : Prop := -9223372036854775808 ≤ x ∧ x ≤ 9223372036854775807
theorem l1Num_some {l : List Int} (h : Byt l) (k : Nat) (p : Int) (hp : 0 ≤ p) (hp' : p ≤ 1000000000000) :
    ∃ r, spec_l1Num.f (k + 1) l p = some (r, p + 1) ∧ I64 r := by
  unfold spec_l1Num.f
  obtain ⟨r, hr, hm⟩ := num_some h k p [0, 1, 2, (-1), 3, 7, 100, 999999, 1000000, (-1000000), 1000001, (-1000007), 9223372036854775807, (-9223372036854775808), 4000000000] (by simp) hp hp'
  refine ⟨r, by rw [hr]; rfl, ?_⟩
  unfold I64
  simp only [List.mem_cons, List.not_mem_nil, or_false] at hm
  omega
theorem l1Two_some {l : List Int} (h : Byt l) (k : Nat) : ∃ a b, spec_l1Two.f (k + 1) l = some (a, b) ∧ I64 a ∧ I64 b := by
  unfold spec_l1Two.f
  obtain ⟨l', ho, h'⟩ := open_some h
  obtain ⟨a, ha, wa⟩ := l1Num_some h' k 0 (by omega) (by omega)
  obtain ⟨b, hb, wb⟩ := l1Num_some h' k (0 + 1) (by omega) (by omega)
  exact ⟨a, b, by rw [ho]; simp only [Option.bind_some]; rw [ha]; simp only [Option.bind_some]; rw [hb]; rfl, wa, wb⟩
def ad (a b : Int) : Int := cut (cut a + cut b)
def su (a b : Int) : Int := cut (cut a - cut b)
def mu (a b : Int) : Int := cut (cut a * cut b)
theorem c23 (a : Int) (W : World) : Calls Try.prog 23 #[.int .i64 a] W fun e w' => e = .returned (.int .i64 (cut a)) ∧ Below W.heap.size W w' := impl_NumCut.calls a _ W (impl_cut a)
theorem c25 (a b : Int) (W : World) : Calls Try.prog 25 #[.int .i64 a, .int .i64 b] W fun e w' => e = .returned (.int .i64 (ad a b)) ∧ Below W.heap.size W w' := impl_NumAdd.calls a b _ W (impl_add a b)
theorem c29 (a b : Int) (W : World) : Calls Try.prog 29 #[.int .i64 a, .int .i64 b] W fun e w' => e = .returned (.int .i64 (su a b)) ∧ Below W.heap.size W w' := impl_NumSub.calls a b _ W (impl_sub a b)
theorem c27 (a b : Int) (W : World) : Calls Try.prog 27 #[.int .i64 a, .int .i64 b] W fun e w' => e = .returned (.int .i64 (mu a b)) ∧ Below W.heap.size W w' := impl_NumMul.calls a b _ W (impl_mul a b)
theorem c26 (a b : Int) (W : World) : Calls Try.prog 26 #[.int .i64 a, .int .i64 b] W fun e w' => e = .returned (.int .i64 (mu a b)) ∧ Below W.heap.size W w' := (spec_NumMul.calls a b _ W (spec_mul a b)).mono fun _ _ h => ⟨h.1, h.2.below⟩
theorem tmod700 (n : Int) : -700 < Int.tmod n 700 ∧ Int.tmod n 700 < 700 := by
  by_cases h : 0 ≤ n
  · rw [Int.tmod_eq_emod_of_nonneg h]; omega
  · have e := Int.neg_tmod (-n) 700
    rw [Int.neg_neg] at e
    rw [e, Int.tmod_eq_emod_of_nonneg (by omega)]; omega
theorem ad_small {a b : Int} (h1 : -3000 ≤ a) (h2 : a ≤ 3000) (h3 : -3000 ≤ b) (h4 : b ≤ 3000) : ad a b = a + b := by
  unfold ad; rw [cut_id (n := a) (by omega) (by omega), cut_id (n := b) (by omega) (by omega), cut_id (by omega) (by omega)]
theorem su_small {a b : Int} (h1 : -3000 ≤ a) (h2 : a ≤ 3000) (h3 : -3000 ≤ b) (h4 : b ≤ 3000) : su a b = a - b := by
  unfold su; rw [cut_id (n := a) (by omega) (by omega), cut_id (n := b) (by omega) (by omega), cut_id (by omega) (by omega)]
theorem mu_small {a b : Int} (h1 : -1400 ≤ a) (h2 : a ≤ 1400) (h3 : -700 ≤ b) (h4 : b ≤ 700) : mu a b = a * b := by
  have m := mul_bd (x := a) (y := b) (A := 1400) (B := 700) (by omega) (by omega) (by omega) (by omega) (by omega) (by omega)
  unfold mu; rw [cut_id (n := a) (by omega) (by omega), cut_id (n := b) (by omega) (by omega), cut_id (by omega) (by omega)]
set_option maxRecDepth 100000 in
set_option maxHeartbeats 3200000 in
theorem core (x y : Int) (A0 : Option Addr) (c0 : Nat) (l0 : List Int) (w : World) (hl0 : ¬ (l0.length : Int) > 1048576)
    (hd : Calls Try.prog 33 #[.slice A0 l0.length c0] w fun e w' => e = .returned (.tuple #[.int .i64 x, .int .i64 y]) ∧ Below w.heap.size w w') :
    Calls Try.prog 13 #[.slice A0 l0.length c0] w fun e w' => e = .returned (.bool true) ∧ Below w.heap.size w w' := by
  have t1 : decide (1048576 < (l0.length : Int)) = false := by simpa using hl0
  clear hl0
  have bx := cut_bd x
  have by_ := cut_bd y
  have ha := tmod700 (cut x)
  have hb := tmod700 (cut y)
  go_enter Try.func13, Try.ntmps13
  go_wp2_with fail
  refine hd.mono ?_
  rintro e W1 ⟨rfl, k1⟩
  clear hd
  go_wp2_with fail
  refine (c23 _ _).mono ?_
  rintro e W2 ⟨rfl, k2⟩
  have k3 := k1.trans (k2.mono k1.size)
  clear k1 k2
  go_wp2_with fail
  refine (c23 _ _).mono ?_
  rintro e W3 ⟨rfl, k2⟩
  have k4 := k3.trans (k2.mono k3.size)
  clear k3 k2
  go_wp2_with fail
  generalize Int.tmod (cut x) 700 = a at *
  generalize Int.tmod (cut y) 700 = b at *
  have m := mul_bd (x := a) (y := b) (A := 700) (B := 700) (by omega) (by omega) (by omega) (by omega) (by omega) (by omega)
  have r0 : ∀ n : Int, (n != n) = false := fun n => by simp
  have r1 : (ad a b != a + b) = false := by rw [ad_small (by omega) (by omega) (by omega) (by omega)]; simp
  have r2 : (su a b != a - b) = false := by rw [su_small (by omega) (by omega) (by omega) (by omega)]; simp
  have r3 : (mu a b != a * b) = false := by rw [mu_small (by omega) (by omega) (by omega) (by omega)]; simp
  have s1 : (ad a b == a + b) = true := by rw [ad_small (by omega) (by omega) (by omega) (by omega)]; simp
  have s2 : (su a b == a - b) = true := by rw [su_small (by omega) (by omega) (by omega) (by omega)]; simp
  have s3 : (mu a b == a * b) = true := by rw [mu_small (by omega) (by omega) (by omega) (by omega)]; simp
  have s4 : (su (ad a b) b == a) = true := by rw [ad_small (by omega) (by omega) (by omega) (by omega), su_small (by omega) (by omega) (by omega) (by omega)]; simp <;> omega
  have s5 : (mu (ad a b) 3 == ad (mu a 3) (mu b 3)) = true := by
    rw [ad_small (a := a) (b := b) (by omega) (by omega) (by omega) (by omega), mu_small (by omega) (by omega) (by omega) (by omega), mu_small (a := a) (by omega) (by omega) (by omega) (by omega), mu_small (a := b) (by omega) (by omega) (by omega) (by omega), ad_small (by omega) (by omega) (by omega) (by omega)]; simp <;> omega
  go_wp2_with (first
    | (go_at_call 25; refine (c25 _ _ _).mono ?_; rintro e w' ⟨rfl, hb⟩; have k3 := Below.trans ‹Below w.heap.size w _› (hb.mono (‹Below w.heap.size w _›).size); clear hb)
    | (go_at_call 29; refine (c29 _ _ _).mono ?_; rintro e w' ⟨rfl, hb⟩; have k3 := Below.trans ‹Below w.heap.size w _› (hb.mono (‹Below w.heap.size w _›).size); clear hb)
    | (go_at_call 27; refine (c27 _ _ _).mono ?_; rintro e w' ⟨rfl, hb⟩; have k3 := Below.trans ‹Below w.heap.size w _› (hb.mono (‹Below w.heap.size w _›).size); clear hb)
    | (go_at_call 26; refine (c26 _ _ _).mono ?_; rintro e w' ⟨rfl, hb⟩; have k3 := Below.trans ‹Below w.heap.size w _› (hb.mono (‹Below w.heap.size w _›).size); clear hb))
  go_ret
  exact ⟨rfl, by assumption⟩
set_option maxRecDepth 100000 in
theorem all (A0 : Option Addr) (c0 : Nat) (l0 : List Int) (w : World) (hr0 : Kd.C (Kd.int .u8) w A0 l0.length l0) (hc0 : l0.length ≤ c0) (hb0 : Byt l0) :
    Calls Try.prog 13 #[.slice A0 l0.length c0] w fun e w' => e = .returned (.bool true) ∧ Below w.heap.size w w' := by
  by_cases h0 : (l0.length : Int) > 1048576
  · have t1 : decide (1048576 < (l0.length : Int)) = true := by simpa using h0
    clear h0
    go_enter Try.func13, Try.ntmps13
    go_wp2
    go_ret
    exact ⟨rfl, Below.refl _ _⟩
  obtain ⟨x, y, h2, _, _⟩ := l1Two_some hb0 2
  have e1 : spec_DrawNumMul.f 3 l0 = some (x, y) := by unfold spec_DrawNumMul.f; rw [h2]; rfl
  exact core x y A0 c0 l0 w h0 (spec_DrawNumMul.calls 3 A0 c0 l0 x y w hr0 hc0 e1)
theorem walk (a0 : Option Addr) (len0 cap0 : Nat) (z0 : List Int) (w : World) (w0 : (a0 = none ∧ len0 = 0 ∧ cap0 = 0 ∧ z0 = []) ∨ ∃ x, a0 = some x ∧ len0 ≤ cap0 ∧ cap0 ≤ maxLen ∧ z0.length = cap0 ∧ (∀ i, i < z0.length → w.cell? (x.add i) = some (.int .u8 (z0.getD i 0))) ∧ ∀ n ∈ z0, (Lit.int .u8 n).wf = true) (y0 : len0 * 1 ≤ 140737488351232) :
    Calls Try.prog 13 #[.slice a0 len0 cap0] w fun e w' => e = .returned (.bool true) ∧ Below w.heap.size w w' := by
  obtain ⟨l0, rfl, hr0, hm0, hw0, hc0⟩ := ReadsInt.ofRowC w0
  exact all a0 cap0 l0 w (Kd.C_of_reads (d := (0 : Int)) (h1 := fun _ => rfl) hr0) hc0 (byt_of hw0)
end Go.Proofs.Ytcdjbkkikgnnoaa.MyFnNumSmall
