/- The law FnBlockCount returns true for every two codes: counters count rising edges exactly. No condition. -/
import Derived.Test.YtcigooccnlbkjaaHFnBlockCountx1
import Derived.Test.YtcigooccnlbkjaaWMore
import Derived.Test.YtcigooccnlbkjaaWEqStruct
import Derived.WalkKit
import Derived.KernelRfl
import Derived.WalkLawsBesides
import Derived.WalkSpells
import Derived.Below
import Derived.Deep.RegionHeld
namespace Go.Proofs.Ytcigooccnlbkjaa.MyFnBlockCount
open Go.RowKit Go.Proofs.Ytcigooccnlbkjaa.HFnBlockCount Go.Proofs.YtcigooccnlbkjaaW.PrintWords Go.Proofs.YtcigooccnlbkjaaW.PrintLast Go.Proofs.YtcigooccnlbkjaaW.PrintMore
set_option linter.unusedVariables false
set_option linter.unusedSimpArgs false
theorem wrap_id {x : Int} (h1 : -9223372036854775808 ≤ x) (h2 : x ≤ 9223372036854775807) : wrap64 x = x := by
  unfold wrap64; omega
theorem xor_i64_nat (a b : Nat) (ha : a < 9223372036854775808) (hb : b < 9223372036854775808) :
    Go.bits .xor .i64 (a : Int) (b : Int) = ((a ^^^ b : Nat) : Int) := by
  have hx : a ^^^ b < 2 ^ 63 := Nat.xor_lt_two_pow (by omega) (by omega)
  have h1 : (BitVec.ofInt 64 (a : Int)).toNat = a := by
    rw [BitVec.ofInt_natCast, BitVec.toNat_ofNat]; exact Nat.mod_eq_of_lt (by omega)
  have h2 : (BitVec.ofInt 64 (b : Int)).toNat = b := by
    rw [BitVec.ofInt_natCast, BitVec.toNat_ofNat]; exact Nat.mod_eq_of_lt (by omega)
  show IntKind.i64.wrap ((BitVec.ofInt 64 (a : Int) ^^^ BitVec.ofInt 64 (b : Int)).toNat : Int) = _
  rw [BitVec.toNat_xor, h1, h2, IntKind.wrap_i64]
  omega
theorem xor_i64_nonneg (x y : Int) (hx : 0 ≤ x) (hx' : x < 9223372036854775808) (hy : 0 ≤ y) (hy' : y < 9223372036854775808) :
    0 ≤ Go.bits .xor .i64 x y := by
  obtain ⟨a, rfl⟩ := Int.eq_ofNat_of_zero_le hx
  obtain ⟨b, rfl⟩ := Int.eq_ofNat_of_zero_le hy
  rw [xor_i64_nat a b (by omega) (by omega)]
  exact Int.natCast_nonneg _
def Byt (l : List Int) : Prop := ∀ x ∈ l, 0 ≤ x ∧ x ≤ 255
theorem rd_byt {l : List Int} (h : Byt l) (i : Int) : 0 ≤ rd l i ∧ rd l i ≤ 255 := by
  unfold rd
  by_cases hi : i.toNat < l.length
  · rw [List.getD_eq_getElem?_getD, List.getElem?_eq_getElem hi]; exact h _ (List.getElem_mem hi)
  · rw [List.getD_eq_getElem?_getD, List.getElem?_eq_none (by omega)]; simp
theorem tmod_bd {a b : Int} (ha : 0 ≤ a) (hb : 0 < b) : 0 ≤ Int.tmod a b ∧ Int.tmod a b < b := by
  rw [Int.tmod_eq_emod_of_nonneg ha]
  exact ⟨Int.emod_nonneg _ (by omega), Int.emod_lt_of_pos _ hb⟩
theorem tdiv_bd {a b : Int} (ha : 0 ≤ a) (hb : 0 < b) : 0 ≤ Int.tdiv a b ∧ Int.tdiv a b ≤ a := by
  rw [Int.tdiv_eq_ediv_of_nonneg ha]
  exact ⟨Int.ediv_nonneg ha (by omega), Int.ediv_le_self _ ha⟩
/-- What one pick gives: a number from 0 on, below n where n is at least 1; the place goes one on. -/
theorem pick_some {l : List Int} (h : Byt l) (k : Nat) (p n : Int) (hp : 0 ≤ p) (hp' : p ≤ 1000000000000) :
    ∃ r, spec_l12Rd_pick.f (k + 1) l p n = some (r, p + 1) ∧ 0 ≤ r ∧ (r < n ∨ (n < 1 ∧ r = 0)) := by
  have hw : wrap64 (p + 1) = p + 1 := wrap_id (by omega) (by omega)
  have hw2 : wrap64 (p + 1 - 1) = p := by rw [wrap_id (by omega) (by omega)]; omega
  unfold spec_l12Rd_pick.f
  by_cases hn : n < 1
  · refine ⟨0, ?_, by omega, .inr ⟨hn, rfl⟩⟩
    rw [if_pos hn]; simp only [spec_l12Rd_pick.j0, if_true]; rw [hw]
  · rw [if_neg hn]
    by_cases hl : (l.length : Int) = 0
    · refine ⟨0, ?_, by omega, .inl (by omega)⟩
      have e : ((l.length : Int) == 0) = true := by simpa using hl
      rw [e]; simp only [spec_l12Rd_pick.j0, if_true]; rw [hw]
    · have e : ((l.length : Int) == 0) = false := by simpa using hl
      have hn0 : ¬ n = 0 := by omega
      rw [e]; simp only [spec_l12Rd_pick.j0]
      rw [if_neg (by simp), hw, hw2]
      by_cases hlt : p < (l.length : Int)
      · rw [if_pos hlt, if_pos hp, if_neg hn0]
        have hb := rd_byt h p
        rw [wrap_id (x := rd l p) (by omega) (by omega)]
        have ht := tmod_bd (a := rd l p) (b := n) hb.1 (by omega)
        exact ⟨_, rfl, ht.1, .inl ht.2⟩
      · have hL : 0 < (l.length : Int) := by omega
        have ht1 := tmod_bd (a := p) (b := (l.length : Int)) hp hL
        have e7 : wrap64 (p * 7) = p * 7 := wrap_id (by omega) (by omega)
        have e73 : wrap64 (p * 7 + 3) = p * 7 + 3 := wrap_id (by omega) (by omega)
        have ht2 := tmod_bd (a := p * 7 + 3) (b := (l.length : Int)) (by omega) hL
        rw [if_neg hlt, if_neg hl, if_pos ht1.1, if_pos ht1.2, e7, e73, if_pos ht2.1, if_pos ht2.2, if_neg hn0]
        have hb1 := rd_byt h (Int.tmod p (l.length : Int))
        have hb2 := rd_byt h (Int.tmod (p * 7 + 3) (l.length : Int))
        have hd := tdiv_bd (a := p) (b := (l.length : Int)) hp hL
        generalize rd l (Int.tmod p (l.length : Int)) = A at hb1 ⊢
        generalize rd l (Int.tmod (p * 7 + 3) (l.length : Int)) = B at hb2 ⊢
        generalize Int.tdiv p (l.length : Int) = D at hd ⊢
        rw [wrap_id (x := A) (by omega) (by omega), wrap_id (x := B) (by omega) (by omega), wrap_id (x := D) (by omega) (by omega), wrap_id (x := A * 131) (by omega) (by omega), wrap_id (x := B * 1117) (by omega) (by omega), wrap_id (x := p * 29) (by omega) (by omega), wrap_id (x := D * 53) (by omega) (by omega), wrap_id (x := A * 131 + B * 1117) (by omega) (by omega), wrap_id (x := A * 131 + B * 1117 + p * 29) (by omega) (by omega), wrap_id (x := A * 131 + B * 1117 + p * 29 + D * 53) (by omega) (by omega)]
        have hx0 : 0 ≤ A * 131 + B * 1117 + p * 29 + D * 53 := by omega
        have hx1 : A * 131 + B * 1117 + p * 29 + D * 53 < 9223372036854775807 := by omega
        generalize A * 131 + B * 1117 + p * 29 + D * 53 = X at hx0 hx1 ⊢
        have hd2 := tdiv_bd (a := X) (b := 64) hx0 (by omega)
        rw [wrap_id (x := Int.tdiv X 64) (by omega) (by omega)]
        have hnn := xor_i64_nonneg X (Int.tdiv X 64) hx0 (by omega) hd2.1 (by omega)
        have ht := tmod_bd (a := Go.bits .xor .i64 X (Int.tdiv X 64)) (b := n) hnn (by omega)
        exact ⟨_, rfl, ht.1, .inl ht.2⟩
theorem rd_mem {l : List Int} {i : Int} (h0 : 0 ≤ i) (h1 : i < (l.length : Int)) : rd l i ∈ l := by
  unfold rd
  rw [List.getD_eq_getElem?_getD, List.getElem?_eq_getElem (by omega)]; exact List.getElem_mem _
theorem num_some {l : List Int} (h : Byt l) (k : Nat) (p : Int) (xs : List Int) (hx : 0 < xs.length) (hp : 0 ≤ p) (hp' : p ≤ 1000000000000) :
    ∃ r, spec_l12Rd_num.f (k + 1) l p xs = some (r, p + 1) ∧ r ∈ xs := by
  obtain ⟨i, hi, h0, h1⟩ := pick_some h k p (xs.length : Int) hp hp'
  have h1' : i < (xs.length : Int) := by omega
  refine ⟨rd xs i, ?_, rd_mem h0 h1'⟩
  unfold spec_l12Rd_num.f
  rw [hi]; simp only [Option.bind_some]
  rw [if_pos h0, if_pos h1']
theorem byt_of {l : List Int} (h : ∀ x ∈ l, (Lit.int .u8 x).wf = true) : Byt l := by
  intro x hx
  have := h x hx
  simp [Lit.wf, IntKind.min, IntKind.max, IntKind.bits, IntKind.signed] at this
  omega
theorem open_some {l : List Int} (h : Byt l) : ∃ l', spec_l12Open.f l = some (l', 0) ∧ Byt l' := by
  unfold spec_l12Open.f
  by_cases hl : (l.length : Int) > 2000
  · rw [if_pos hl, if_pos (by omega)]
    exact ⟨_, rfl, fun x hx => h x (List.mem_of_mem_take hx)⟩
  · rw [if_neg hl]; exact ⟨l, rfl, h⟩
theorem l6N_some (k : Nat) (a n : Int) : spec_l6N.f (k + 1) a n = some (Hb.sizedB a n) := by
  have key : ∀ b : Bool, (b = true ↔ (1 ≤ a ∧ a ≤ 3)) → spec_l6N.j0 (k + 1) n a b = some (Hb.sizedB a n) := by
    intro b hb
    simp only [spec_l6N.j0, Hb.sizedB]
    by_cases h : b = true
    · have h1 := hb.1 h
      rw [if_pos h]
      have e1 : decide (1 ≤ a) = true := by simp; omega
      have e2 : decide (a ≤ 3) = true := by simp; omega
      have e3 : decide (4 ≤ a) = false := by simp; omega
      by_cases hn : n ≥ 0
      · rw [if_pos hn]; have e4 : decide (0 ≤ n) = true := by simpa using hn
        simp [e1, e2, e3, e4]
      · rw [if_neg hn]; have e4 : decide (0 ≤ n) = false := by simpa using hn
        simp [e1, e2, e3, e4]
    · have h1 : ¬ (1 ≤ a ∧ a ≤ 3) := fun x => h (hb.2 x)
      rw [if_neg h]
      have e12 : (decide (1 ≤ a) && decide (a ≤ 3)) = false := by simp; omega
      rw [e12]
      by_cases h4 : a = 4
      · subst h4; simp; rfl
      · rw [if_neg h4]
        by_cases h5 : a = 5
        · subst h5; simp; rfl
        · rw [if_neg h5]
          have e : (decide (4 ≤ a) && decide (a ≤ 5)) = false := by simp; omega
          simp [e]
  unfold spec_l6N.f
  by_cases h1 : a = 1
  · rw [if_pos h1]; exact key _ (by simp [h1])
  · rw [if_neg h1]
    by_cases h2 : a = 2
    · rw [if_pos h2]; exact key _ (by simp [h2])
    · rw [if_neg h2]; exact key _ (by simp; omega)
theorem kind_some {l : List Int} (h : Byt l) (k : Nat) (p : Int) (hp : 0 ≤ p) (hp' : p ≤ 100000000) :
    ∃ a n q, spec_l6Kind.f (k + 1) l p = some (a, n, q) ∧ p ≤ q ∧ q ≤ p + 2 ∧ 1 ≤ a ∧ a ≤ 5 ∧ 0 ≤ n ∧ n ≤ 1000 ∧ (3 < a → n = 0) := by
  obtain ⟨a, ha, a0, a1⟩ := pick_some h k p 5 hp (by omega)
  unfold spec_l6Kind.f
  rw [ha]; simp only [Option.bind_some]
  rw [wrap_id (x := 1 + a) (by omega) (by omega)]
  by_cases h3 : 1 + a > 3
  · rw [if_pos h3]; exact ⟨_, _, _, rfl, by omega, by omega, by omega, by omega, by omega, by omega, fun _ => rfl⟩
  · rw [if_neg h3]
    obtain ⟨n, hn, hm⟩ := num_some h k (p + 1) [0, 1, 2, 3, 5, 1000] (by simp) (by omega) (by omega)
    rw [hn]
    refine ⟨_, _, _, rfl, by omega, by omega, by omega, by omega, ?_, ?_, fun h => by omega⟩
    · simp only [List.mem_cons, List.not_mem_nil, or_false] at hm; omega
    · simp only [List.mem_cons, List.not_mem_nil, or_false] at hm; omega
theorem drawNew_some {l : List Int} (h : Byt l) (k : Nat) : ∃ a n, spec_DrawBlockNew.f (k + 1) l = some (a, n) ∧ -1 ≤ n ∧ n ≤ 1001 := by
  obtain ⟨l', ho, h'⟩ := open_some h
  unfold spec_DrawBlockNew.f
  rw [ho]; simp only [Option.bind_some]
  obtain ⟨a, n, q, hk, hq1, hq2, _, _, n0, n1, _⟩ := kind_some h' k 0 (by omega) (by omega)
  rw [hk]; simp only [Option.bind_some]
  obtain ⟨i, hi, i0, i1⟩ := pick_some h' k q 6 (by omega) (by omega)
  rw [hi]; simp only [Option.bind_some]
  obtain ⟨j, hj, _⟩ := pick_some h' k (q + 1) 8 (by omega) (by omega)
  rw [hj]; simp only [Option.bind_some]
  obtain ⟨m, hm, hmm⟩ := num_some h' k (q + 1 + 1) [0, 1, (-1), 1000, 1001] (by simp) (by omega) (by omega)
  rw [hm]; simp only [Option.bind_some]
  split
  · exact ⟨_, _, rfl, by simp only [List.mem_cons, List.not_mem_nil, or_false] at hmm; omega, by simp only [List.mem_cons, List.not_mem_nil, or_false] at hmm; omega⟩
  · exact ⟨_, _, rfl, by omega, by omega⟩
theorem eqA25 (d : Nat) (w : World) (x0 y0 : Int) (x1 y1 : Int) (x2 y2 : Bool) (x3 y3 : Bool) (x4 y4 : Int) :
    (Op.equalIn (d + 2) 25 (.agg #[.int .i64 x0, .int .i64 x1, .bool x2, .bool x3, .int .i64 x4]) (.agg #[.int .i64 y0, .int .i64 y1, .bool y2, .bool y3, .int .i64 y4])).run Try.prog w = .ok (x0 == y0 && (x1 == y1 && (x2 == y2 && (x3 == y3 && (x4 == y4))))) w := by
  refine eqA_of Try.underlying25 (by kernel_rfl) ?_
  refine eqf_cons (by rfl) (by go_simp; rfl) (by go_simp; rfl) (by go_simp) ?_
  refine eqf_cons (by rfl) (by go_simp; rfl) (by go_simp; rfl) (by go_simp) ?_
  refine eqf_cons (by rfl) (by go_simp; rfl) (by go_simp; rfl) (by go_simp) ?_
  refine eqf_cons (by rfl) (by go_simp; rfl) (by go_simp; rfl) (by go_simp) ?_
  exact eqf_last (by rfl) (by go_simp; rfl) (by go_simp; rfl) (by go_simp)
attribute [local go_sem high] eqA25
theorem new_in (n : Int) (h0 : 0 ≤ n) (h1 : n ≤ 1000) (W : World) : Calls Try.prog 15 #[.int .i64 3, .int .i64 n] W fun e w' => e = .returned (.agg #[.int .i64 3, .int .i64 n, .bool false, .bool false, .int .i64 0]) ∧ Below W.heap.size W w' := by
  have hs : Hb.sizedB 3 n = true := by simp [Hb.sizedB]; omega
  exact impl_BlockNew.calls 3 n _ _ _ _ _ W (by unfold impl_BlockNew.f impl_sized.f; rw [hs]; rfl)
theorem new_in' (n : Int) (h0 : 0 ≤ n) (h1 : n ≤ 1000) (W : World) : Calls Try.prog 14 #[.int .i64 3, .int .i64 n] W fun e w' => e = .returned (.agg #[.int .i64 3, .int .i64 n, .bool false, .bool false, .int .i64 0]) ∧ Below W.heap.size W w' := by
  have hs : Hb.sizedB 3 n = true := by simp [Hb.sizedB]; omega
  exact (spec_BlockNew.calls 1 3 n _ _ _ _ _ W (by unfold spec_BlockNew.f; rw [l6N_some, hs]; rfl)).mono fun _ _ h => ⟨h.1, by first | exact h.2 | exact h.2.below⟩
theorem new_out (n : Int) (h : n < 0 ∨ 1000 < n) (W : World) : Calls Try.prog 15 #[.int .i64 3, .int .i64 n] W fun e w' => e = .returned (.agg #[.int .i64 0, .int .i64 0, .bool false, .bool false, .int .i64 0]) ∧ Below W.heap.size W w' := by
  have hs : Hb.sizedB 3 n = false := by simp [Hb.sizedB]; omega
  exact impl_BlockNew.calls 3 n _ _ _ _ _ W (by unfold impl_BlockNew.f impl_sized.f; rw [hs]; rfl)
theorem new_out' (n : Int) (h : n < 0 ∨ 1000 < n) (W : World) : Calls Try.prog 14 #[.int .i64 3, .int .i64 n] W fun e w' => e = .returned (.agg #[.int .i64 0, .int .i64 0, .bool false, .bool false, .int .i64 0]) ∧ Below W.heap.size W w' := by
  have hs : Hb.sizedB 3 n = false := by simp [Hb.sizedB]; omega
  exact (spec_BlockNew.calls 1 3 n _ _ _ _ _ W (by unfold spec_BlockNew.f; rw [l6N_some, hs]; rfl)).mono fun _ _ h => ⟨h.1, by first | exact h.2 | exact h.2.below⟩
def Bl (w : World) (g : Nat) (c0 c1 c2 c3 c4 : Value) (W : World) : Prop := W.heap[g]? = some (.cells #[c0, c1, c2, c3, c4] 25 (0, 0)) ∧ w.heap.size ≤ g ∧ Below w.heap.size w W
theorem Bl.below {w W W' : World} {g : Nat} {c0 c1 c2 c3 c4 : Value} (h : Bl w g c0 c1 c2 c3 c4 W) (hb : Below W.heap.size W W') : Bl w g c0 c1 c2 c3 c4 W' := ⟨blk_below h.1 hb, h.2.1, h.2.2.trans (hb.mono h.2.2.size)⟩
theorem Bl.alloc {w W : World} {g : Nat} {c0 c1 c2 c3 c4 : Value} (h : Bl w g c0 c1 c2 c3 c4 W) (o : Obj) : Bl w g c0 c1 c2 c3 c4 (W.alloc o) := h.below ((Below.refl _ _).alloc (Nat.le_refl _) _)
theorem Bl.drew {w W : World} {g : Nat} {c0 c1 c2 c3 c4 : Value} (h : Bl w g c0 c1 c2 c3 c4 W) : Bl w g c0 c1 c2 c3 c4 W.drew := ⟨h.1, h.2.1, below_drew1 h.2.2⟩
theorem Bl.lt {w W : World} {g : Nat} {c0 c1 c2 c3 c4 : Value} (h : Bl w g c0 c1 c2 c3 c4 W) : g < W.heap.size := blk_lt h.1
theorem Bl.c0 {w W : World} {g : Nat} {c0 c1 c2 c3 c4 : Value} (h : Bl w g c0 c1 c2 c3 c4 W) : W.cell? ⟨g, 0, none⟩ = some c0 := (blk_cell h.1 0).trans rfl
theorem Bl.c1 {w W : World} {g : Nat} {c0 c1 c2 c3 c4 : Value} (h : Bl w g c0 c1 c2 c3 c4 W) : W.cell? ⟨g, 1, none⟩ = some c1 := (blk_cell h.1 1).trans rfl
theorem Bl.c2 {w W : World} {g : Nat} {c0 c1 c2 c3 c4 : Value} (h : Bl w g c0 c1 c2 c3 c4 W) : W.cell? ⟨g, 2, none⟩ = some c2 := (blk_cell h.1 2).trans rfl
theorem Bl.c3 {w W : World} {g : Nat} {c0 c1 c2 c3 c4 : Value} (h : Bl w g c0 c1 c2 c3 c4 W) : W.cell? ⟨g, 3, none⟩ = some c3 := (blk_cell h.1 3).trans rfl
theorem Bl.c4 {w W : World} {g : Nat} {c0 c1 c2 c3 c4 : Value} (h : Bl w g c0 c1 c2 c3 c4 W) : W.cell? ⟨g, 4, none⟩ = some c4 := (blk_cell h.1 4).trans rfl
set_option maxRecDepth 100000 in
set_option maxHeartbeats 6400000 in
theorem out_lo (A0 A1 : Option Addr) (c0 c1 : Nat) (l0 l1 : List Int) (w : World) (hl0 : ¬ (l0.length : Int) > 1048576) (hl1 : ¬ (l1.length : Int) > 1048576) (a n : Int) (h : n < 0)
    (hd : Calls Try.prog 17 #[.slice A0 l0.length c0] w fun e w' => e = .returned (.tuple #[.int .i64 a, .int .i64 n]) ∧ Below w.heap.size w w') :
    Calls Try.prog 5 #[.slice A0 l0.length c0, .slice A1 l1.length c1] w fun e w' => e = .returned (.bool true) ∧ Below w.heap.size w w' := by
  have cn := fun W => new_out n (by omega) W
  have cs := fun W => new_out' n (by omega) W
  have d1 : decide (n < 0) = true := by simpa using h
  clear h
  have t1 : decide (1048576 < (l0.length : Int)) = false := by simpa using hl0
  have t2 : decide (1048576 < (l1.length : Int)) = false := by simpa using hl1
  clear hl0 hl1
  go_enter Try.func5, Try.ntmps5
  go_wp2_with fail
  refine hd.mono ?_
  rintro e W1 ⟨rfl, k1⟩
  clear hd
  go_wp2_with fail
  refine (cn _).mono ?_
  rintro e W2 ⟨rfl, k2⟩
  have k3 := k1.trans (k2.mono k1.size)
  clear k1 k2
  have hu := Try.underlying25
  go_wp2_with fail
  have hB : Bl w W2.heap.size (.int .i64 0) (.int .i64 0) (.bool false) (.bool false) (.int .i64 0) (W2.alloc (.cells #[.int .i64 0, .int .i64 0, .bool false, .bool false, .int .i64 0] 25)) := ⟨heap_alloc_new W2 _, k3.size, k3.alloc (k3.size) _⟩
  generalize W2.alloc (.cells #[.int .i64 0, .int .i64 0, .bool false, .bool false, .int .i64 0] 25) = W3 at hB ⊢
  generalize W2.heap.size = g at hB ⊢
  clear k3
  have hB0 := hB.drew
  refine start_ (n := 12) (S := fun w' => w'.cell? ⟨g, 0, none⟩ = some (.int .i64 0) ∧ w'.cell? ⟨g, 1, none⟩ = some (.int .i64 0) ∧ w'.cell? ⟨g, 2, none⟩ = some (.bool false) ∧ w'.cell? ⟨g, 3, none⟩ = some (.bool false) ∧ w'.cell? ⟨g, 4, none⟩ = some (.int .i64 0) ∧ Bl w g (.int .i64 0) (.int .i64 0) (.bool false) (.bool false) (.int .i64 0) w') (ds := []) #[false, false, false, false, false, false, false, false, false, false, false, false] (by kernel_rfl) rfl rfl ⟨hB0.c0, hB0.c1, hB0.c2, hB0.c3, hB0.c4, hB0⟩ (fun hHeld => ?_)
  refine pure_ (i := 1) (N := some 31) (v := ?_) (a' := ?_) #[false, true, false, false, false, false, false, false, false, false, false, false] rfl rfl (by kernel_rfl) (fun _ _ _ h => h) (Or.inl ⟨by rfl, ?_⟩) ?_ ?_
  rotate_left
  · intro w'
    go_simp
    with_reducible rfl
  rotate_left
  · simp only [Act.put, List.setIfInBounds_toArray, List.set_cons_zero, List.set_cons_succ, i64_w, i32_w]
    rfl
  refine take_ (i := 0) (N := some 30) (v := ?_) (a' := ?_) #[true, true, false, false, false, false, false, false, false, false, false, false] rfl rfl (by kernel_rfl) (fun _ _ _ h => h) (Or.inl ⟨by rfl, ?_⟩) hHeld ?_ ?_
  rotate_left
  · rintro w' ⟨s0, s1, s2, s3, s4, s5⟩
    go_simp
    with_reducible rfl
  rotate_left
  · simp only [Act.put, List.setIfInBounds_toArray, List.set_cons_zero, List.set_cons_succ, i64_w, i32_w]
    rfl
  refine one_ (i := 2) (N := some 32) #[true, true, true, false, false, false, false, false, false, false, false, false] rfl rfl (by kernel_rfl) (by decide) (fun K hK => ?_)
  refine goes_ Try.func14 (by kernel_rfl) rfl #[.int .i64 3, .int .i64 n] (by rfl) rfl rfl (by simp only [List.map_toArray, List.map_cons, List.map_nil]; rfl) ?_
  with_reducible refine (cs _).mono ?_
  rintro e w3 ⟨rfl, hb⟩
  refine ⟨_, rfl, ?_⟩
  refine hK.out _ _ ⟨(hHeld.2.2.2.2.2.below hb).c0, (hHeld.2.2.2.2.2.below hb).c1, (hHeld.2.2.2.2.2.below hb).c2, (hHeld.2.2.2.2.2.below hb).c3, (hHeld.2.2.2.2.2.below hb).c4, (hHeld.2.2.2.2.2.below hb)⟩ (fun hHeld => ?_)
  clear hK K
  refine norm_ (a' := ?_) ?_ ?_
  rotate_left
  · show Act.put _ (some 32) _ = _
    simp only [Act.put, List.setIfInBounds_toArray, List.set_cons_zero, List.set_cons_succ, i64_w, i32_w]
    rfl
  refine pure_ (i := 3) (N := some 33) (v := ?_) (a' := ?_) #[true, true, true, true, false, false, false, false, false, false, false, false] rfl rfl (by kernel_rfl) (fun _ _ _ h => h) (Or.inl ⟨by rfl, ?_⟩) ?_ ?_
  rotate_left
  · intro w'
    go_simp
    with_reducible rfl
  rotate_left
  · simp only [Act.put, List.setIfInBounds_toArray, List.set_cons_zero, List.set_cons_succ, i64_w, i32_w]
    rfl
  refine pure_ (i := 4) (N := some 34) (v := ?_) (a' := ?_) #[true, true, true, true, true, false, false, false, false, false, false, false] rfl rfl (by kernel_rfl) (fun _ _ _ h => h) (Or.inl ⟨by rfl, ?_⟩) ?_ ?_
  rotate_left
  · intro w'
    go_simp
    with_reducible rfl
  rotate_left
  · simp only [Act.put, List.setIfInBounds_toArray, List.set_cons_zero, List.set_cons_succ, i64_w, i32_w]
    rfl
  refine pure_ (i := 5) (N := some 35) (v := ?_) (a' := ?_) #[true, true, true, true, true, true, false, false, false, false, false, false] rfl rfl (by kernel_rfl) (fun _ _ _ h => h) (Or.inl ⟨by rfl, ?_⟩) ?_ ?_
  rotate_left
  · intro w'
    go_simp
    with_reducible rfl
  rotate_left
  · simp only [Act.put, List.setIfInBounds_toArray, List.set_cons_zero, List.set_cons_succ, i64_w, i32_w]
    rfl
  refine pure_ (i := 6) (N := some 36) (v := ?_) (a' := ?_) #[true, true, true, true, true, true, true, false, false, false, false, false] rfl rfl (by kernel_rfl) (fun _ _ _ h => h) (Or.inl ⟨by rfl, ?_⟩) ?_ ?_
  rotate_left
  · intro w'
    go_simp
    with_reducible rfl
  rotate_left
  · simp only [Act.put, List.setIfInBounds_toArray, List.set_cons_zero, List.set_cons_succ, i64_w, i32_w]
    rfl
  refine pure_ (i := 7) (N := some 37) (v := ?_) (a' := ?_) #[true, true, true, true, true, true, true, true, false, false, false, false] rfl rfl (by kernel_rfl) (fun _ _ _ h => h) (Or.inl ⟨by rfl, ?_⟩) ?_ ?_
  rotate_left
  · intro w'
    go_simp
    with_reducible rfl
  rotate_left
  · simp only [Act.put, List.setIfInBounds_toArray, List.set_cons_zero, List.set_cons_succ, i64_w, i32_w]
    rfl
  refine pure_ (i := 8) (N := some 38) (v := ?_) (a' := ?_) #[true, true, true, true, true, true, true, true, true, false, false, false] rfl rfl (by kernel_rfl) (fun _ _ _ h => h) (Or.inl ⟨by rfl, ?_⟩) ?_ ?_
  rotate_left
  · intro w'
    go_simp
    with_reducible rfl
  rotate_left
  · simp only [Act.put, List.setIfInBounds_toArray, List.set_cons_zero, List.set_cons_succ, i64_w, i32_w]
    rfl
  refine pure_ (i := 9) (N := some 39) (v := undef) (a' := ?_) #[true, true, true, true, true, true, true, true, true, true, false, false] rfl rfl (by kernel_rfl) (fun _ _ _ h => h) (Or.inr ⟨by rfl, rfl⟩) ?_ ?_
  rotate_left
  · simp only [Act.put, List.setIfInBounds_toArray, List.set_cons_zero, List.set_cons_succ, i64_w, i32_w]
    rfl
  refine pure_ (i := 10) (N := some 40) (v := undef) (a' := ?_) #[true, true, true, true, true, true, true, true, true, true, true, false] rfl rfl (by kernel_rfl) (fun _ _ _ h => h) (Or.inr ⟨by rfl, rfl⟩) ?_ ?_
  rotate_left
  · simp only [Act.put, List.setIfInBounds_toArray, List.set_cons_zero, List.set_cons_succ, i64_w, i32_w]
    rfl
  refine pure_ (i := 11) (N := some 41) (v := ?_) (a' := ?_) #[true, true, true, true, true, true, true, true, true, true, true, true] rfl rfl (by kernel_rfl) (fun _ _ _ h => h) (Or.inl ⟨by rfl, ?_⟩) ?_ ?_
  rotate_left
  · intro w'
    go_simp
    with_reducible rfl
  rotate_left
  · simp only [Act.put, List.setIfInBounds_toArray, List.set_cons_zero, List.set_cons_succ, i64_w, i32_w]
    rfl
  refine done_ (by kernel_rfl) ?_
  have hB := hHeld.2.2.2.2.2
  clear hB0
  have hB0 := hB.drew
  clear hHeld
  go_wp2_with fail
  refine start_ (n := 5) (S := fun w' => w'.cell? ⟨g, 0, none⟩ = some (.int .i64 0) ∧ w'.cell? ⟨g, 1, none⟩ = some (.int .i64 0) ∧ w'.cell? ⟨g, 2, none⟩ = some (.bool false) ∧ w'.cell? ⟨g, 3, none⟩ = some (.bool false) ∧ w'.cell? ⟨g, 4, none⟩ = some (.int .i64 0) ∧ Bl w g (.int .i64 0) (.int .i64 0) (.bool false) (.bool false) (.int .i64 0) w') (ds := []) #[false, false, false, false, false] (by kernel_rfl) rfl rfl ⟨hB0.c0, hB0.c1, hB0.c2, hB0.c3, hB0.c4, hB0⟩ (fun hHeld => ?_)
  refine pure_ (i := 1) (N := some 43) (v := ?_) (a' := ?_) #[false, true, false, false, false] rfl rfl (by kernel_rfl) (fun _ _ _ h => h) (Or.inl ⟨by rfl, ?_⟩) ?_ ?_
  rotate_left
  · intro w'
    go_simp
    with_reducible rfl
  rotate_left
  · simp only [Act.put, List.setIfInBounds_toArray, List.set_cons_zero, List.set_cons_succ, i64_w, i32_w]
    rfl
  refine take_ (i := 0) (N := some 42) (v := ?_) (a' := ?_) #[true, true, false, false, false] rfl rfl (by kernel_rfl) (fun _ _ _ h => h) (Or.inl ⟨by rfl, ?_⟩) hHeld ?_ ?_
  rotate_left
  · rintro w' ⟨s0, s1, s2, s3, s4, s5⟩
    go_simp
    with_reducible rfl
  rotate_left
  · simp only [Act.put, List.setIfInBounds_toArray, List.set_cons_zero, List.set_cons_succ, i64_w, i32_w]
    rfl
  refine one_ (i := 2) (N := some 44) #[true, true, true, false, false] rfl rfl (by kernel_rfl) (by decide) (fun K hK => ?_)
  refine goes_ Try.func14 (by kernel_rfl) rfl #[.int .i64 3, .int .i64 n] (by rfl) rfl rfl (by simp only [List.map_toArray, List.map_cons, List.map_nil]; rfl) ?_
  with_reducible refine (cs _).mono ?_
  rintro e w3 ⟨rfl, hb⟩
  refine ⟨_, rfl, ?_⟩
  refine hK.out _ _ ⟨(hHeld.2.2.2.2.2.below hb).c0, (hHeld.2.2.2.2.2.below hb).c1, (hHeld.2.2.2.2.2.below hb).c2, (hHeld.2.2.2.2.2.below hb).c3, (hHeld.2.2.2.2.2.below hb).c4, (hHeld.2.2.2.2.2.below hb)⟩ (fun hHeld => ?_)
  clear hK K
  refine norm_ (a' := ?_) ?_ ?_
  rotate_left
  · show Act.put _ (some 44) _ = _
    simp only [Act.put, List.setIfInBounds_toArray, List.set_cons_zero, List.set_cons_succ, i64_w, i32_w]
    rfl
  refine pure_ (i := 3) (N := some 45) (v := ?_) (a' := ?_) #[true, true, true, true, false] rfl rfl (by kernel_rfl) (fun _ _ _ h => h) (Or.inl ⟨by rfl, ?_⟩) ?_ ?_
  rotate_left
  · intro w'
    go_simp
    with_reducible rfl
  rotate_left
  · simp only [Act.put, List.setIfInBounds_toArray, List.set_cons_zero, List.set_cons_succ, i64_w, i32_w]
    rfl
  refine pure_ (i := 4) (N := some 4) (v := ?_) (a' := ?_) #[true, true, true, true, true] rfl rfl (by kernel_rfl) (fun _ _ _ h => h) (Or.inl ⟨by rfl, ?_⟩) ?_ ?_
  rotate_left
  · intro w'
    go_simp
    with_reducible rfl
  rotate_left
  · simp only [Act.put, List.setIfInBounds_toArray, List.set_cons_zero, List.set_cons_succ, i64_w, i32_w]
    rfl
  refine done_ (by kernel_rfl) ?_
  have hlast := hHeld.2.2.2.2.2.2.2
  go_wp2
  go_ret
  exact ⟨rfl, hlast⟩
set_option maxRecDepth 100000 in
set_option maxHeartbeats 6400000 in
theorem out_hi (A0 A1 : Option Addr) (c0 c1 : Nat) (l0 l1 : List Int) (w : World) (hl0 : ¬ (l0.length : Int) > 1048576) (hl1 : ¬ (l1.length : Int) > 1048576) (a n : Int) (h : 1000 < n)
    (hd : Calls Try.prog 17 #[.slice A0 l0.length c0] w fun e w' => e = .returned (.tuple #[.int .i64 a, .int .i64 n]) ∧ Below w.heap.size w w') :
    Calls Try.prog 5 #[.slice A0 l0.length c0, .slice A1 l1.length c1] w fun e w' => e = .returned (.bool true) ∧ Below w.heap.size w w' := by
  have cn := fun W => new_out n (by omega) W
  have cs := fun W => new_out' n (by omega) W
  have d1 : decide (n < 0) = false := by simp; omega
  have d2 : decide (1000 < n) = true := by simpa using h
  clear h
  have t1 : decide (1048576 < (l0.length : Int)) = false := by simpa using hl0
  have t2 : decide (1048576 < (l1.length : Int)) = false := by simpa using hl1
  clear hl0 hl1
  go_enter Try.func5, Try.ntmps5
  go_wp2_with fail
  refine hd.mono ?_
  rintro e W1 ⟨rfl, k1⟩
  clear hd
  go_wp2_with fail
  refine (cn _).mono ?_
  rintro e W2 ⟨rfl, k2⟩
  have k3 := k1.trans (k2.mono k1.size)
  clear k1 k2
  have hu := Try.underlying25
  go_wp2_with fail
  have hB : Bl w W2.heap.size (.int .i64 0) (.int .i64 0) (.bool false) (.bool false) (.int .i64 0) (W2.alloc (.cells #[.int .i64 0, .int .i64 0, .bool false, .bool false, .int .i64 0] 25)) := ⟨heap_alloc_new W2 _, k3.size, k3.alloc (k3.size) _⟩
  generalize W2.alloc (.cells #[.int .i64 0, .int .i64 0, .bool false, .bool false, .int .i64 0] 25) = W3 at hB ⊢
  generalize W2.heap.size = g at hB ⊢
  clear k3
  have hB0 := hB.drew
  refine start_ (n := 12) (S := fun w' => w'.cell? ⟨g, 0, none⟩ = some (.int .i64 0) ∧ w'.cell? ⟨g, 1, none⟩ = some (.int .i64 0) ∧ w'.cell? ⟨g, 2, none⟩ = some (.bool false) ∧ w'.cell? ⟨g, 3, none⟩ = some (.bool false) ∧ w'.cell? ⟨g, 4, none⟩ = some (.int .i64 0) ∧ Bl w g (.int .i64 0) (.int .i64 0) (.bool false) (.bool false) (.int .i64 0) w') (ds := []) #[false, false, false, false, false, false, false, false, false, false, false, false] (by kernel_rfl) rfl rfl ⟨hB0.c0, hB0.c1, hB0.c2, hB0.c3, hB0.c4, hB0⟩ (fun hHeld => ?_)
  refine pure_ (i := 1) (N := some 31) (v := ?_) (a' := ?_) #[false, true, false, false, false, false, false, false, false, false, false, false] rfl rfl (by kernel_rfl) (fun _ _ _ h => h) (Or.inl ⟨by rfl, ?_⟩) ?_ ?_
  rotate_left
  · intro w'
    go_simp
    with_reducible rfl
  rotate_left
  · simp only [Act.put, List.setIfInBounds_toArray, List.set_cons_zero, List.set_cons_succ, i64_w, i32_w]
    rfl
  refine take_ (i := 0) (N := some 30) (v := ?_) (a' := ?_) #[true, true, false, false, false, false, false, false, false, false, false, false] rfl rfl (by kernel_rfl) (fun _ _ _ h => h) (Or.inl ⟨by rfl, ?_⟩) hHeld ?_ ?_
  rotate_left
  · rintro w' ⟨s0, s1, s2, s3, s4, s5⟩
    go_simp
    with_reducible rfl
  rotate_left
  · simp only [Act.put, List.setIfInBounds_toArray, List.set_cons_zero, List.set_cons_succ, i64_w, i32_w]
    rfl
  refine one_ (i := 2) (N := some 32) #[true, true, true, false, false, false, false, false, false, false, false, false] rfl rfl (by kernel_rfl) (by decide) (fun K hK => ?_)
  refine goes_ Try.func14 (by kernel_rfl) rfl #[.int .i64 3, .int .i64 n] (by rfl) rfl rfl (by simp only [List.map_toArray, List.map_cons, List.map_nil]; rfl) ?_
  with_reducible refine (cs _).mono ?_
  rintro e w3 ⟨rfl, hb⟩
  refine ⟨_, rfl, ?_⟩
  refine hK.out _ _ ⟨(hHeld.2.2.2.2.2.below hb).c0, (hHeld.2.2.2.2.2.below hb).c1, (hHeld.2.2.2.2.2.below hb).c2, (hHeld.2.2.2.2.2.below hb).c3, (hHeld.2.2.2.2.2.below hb).c4, (hHeld.2.2.2.2.2.below hb)⟩ (fun hHeld => ?_)
  clear hK K
  refine norm_ (a' := ?_) ?_ ?_
  rotate_left
  · show Act.put _ (some 32) _ = _
    simp only [Act.put, List.setIfInBounds_toArray, List.set_cons_zero, List.set_cons_succ, i64_w, i32_w]
    rfl
  refine pure_ (i := 3) (N := some 33) (v := ?_) (a' := ?_) #[true, true, true, true, false, false, false, false, false, false, false, false] rfl rfl (by kernel_rfl) (fun _ _ _ h => h) (Or.inl ⟨by rfl, ?_⟩) ?_ ?_
  rotate_left
  · intro w'
    go_simp
    with_reducible rfl
  rotate_left
  · simp only [Act.put, List.setIfInBounds_toArray, List.set_cons_zero, List.set_cons_succ, i64_w, i32_w]
    rfl
  refine pure_ (i := 4) (N := some 34) (v := ?_) (a' := ?_) #[true, true, true, true, true, false, false, false, false, false, false, false] rfl rfl (by kernel_rfl) (fun _ _ _ h => h) (Or.inl ⟨by rfl, ?_⟩) ?_ ?_
  rotate_left
  · intro w'
    go_simp
    with_reducible rfl
  rotate_left
  · simp only [Act.put, List.setIfInBounds_toArray, List.set_cons_zero, List.set_cons_succ, i64_w, i32_w]
    rfl
  refine pure_ (i := 5) (N := some 35) (v := ?_) (a' := ?_) #[true, true, true, true, true, true, false, false, false, false, false, false] rfl rfl (by kernel_rfl) (fun _ _ _ h => h) (Or.inl ⟨by rfl, ?_⟩) ?_ ?_
  rotate_left
  · intro w'
    go_simp
    with_reducible rfl
  rotate_left
  · simp only [Act.put, List.setIfInBounds_toArray, List.set_cons_zero, List.set_cons_succ, i64_w, i32_w]
    rfl
  refine pure_ (i := 6) (N := some 36) (v := ?_) (a' := ?_) #[true, true, true, true, true, true, true, false, false, false, false, false] rfl rfl (by kernel_rfl) (fun _ _ _ h => h) (Or.inl ⟨by rfl, ?_⟩) ?_ ?_
  rotate_left
  · intro w'
    go_simp
    with_reducible rfl
  rotate_left
  · simp only [Act.put, List.setIfInBounds_toArray, List.set_cons_zero, List.set_cons_succ, i64_w, i32_w]
    rfl
  refine pure_ (i := 7) (N := some 37) (v := ?_) (a' := ?_) #[true, true, true, true, true, true, true, true, false, false, false, false] rfl rfl (by kernel_rfl) (fun _ _ _ h => h) (Or.inl ⟨by rfl, ?_⟩) ?_ ?_
  rotate_left
  · intro w'
    go_simp
    with_reducible rfl
  rotate_left
  · simp only [Act.put, List.setIfInBounds_toArray, List.set_cons_zero, List.set_cons_succ, i64_w, i32_w]
    rfl
  refine pure_ (i := 8) (N := some 38) (v := ?_) (a' := ?_) #[true, true, true, true, true, true, true, true, true, false, false, false] rfl rfl (by kernel_rfl) (fun _ _ _ h => h) (Or.inl ⟨by rfl, ?_⟩) ?_ ?_
  rotate_left
  · intro w'
    go_simp
    with_reducible rfl
  rotate_left
  · simp only [Act.put, List.setIfInBounds_toArray, List.set_cons_zero, List.set_cons_succ, i64_w, i32_w]
    rfl
  refine pure_ (i := 9) (N := some 39) (v := ?_) (a' := ?_) #[true, true, true, true, true, true, true, true, true, true, false, false] rfl rfl (by kernel_rfl) (fun _ _ _ h => h) (Or.inl ⟨by rfl, ?_⟩) ?_ ?_
  rotate_left
  · intro w'
    go_simp
    with_reducible rfl
  rotate_left
  · simp only [Act.put, List.setIfInBounds_toArray, List.set_cons_zero, List.set_cons_succ, i64_w, i32_w]
    rfl
  refine pure_ (i := 10) (N := some 40) (v := ?_) (a' := ?_) #[true, true, true, true, true, true, true, true, true, true, true, false] rfl rfl (by kernel_rfl) (fun _ _ _ h => h) (Or.inl ⟨by rfl, ?_⟩) ?_ ?_
  rotate_left
  · intro w'
    go_simp
    with_reducible rfl
  rotate_left
  · simp only [Act.put, List.setIfInBounds_toArray, List.set_cons_zero, List.set_cons_succ, i64_w, i32_w]
    rfl
  refine pure_ (i := 11) (N := some 41) (v := ?_) (a' := ?_) #[true, true, true, true, true, true, true, true, true, true, true, true] rfl rfl (by kernel_rfl) (fun _ _ _ h => h) (Or.inl ⟨by rfl, ?_⟩) ?_ ?_
  rotate_left
  · intro w'
    go_simp
    with_reducible rfl
  rotate_left
  · simp only [Act.put, List.setIfInBounds_toArray, List.set_cons_zero, List.set_cons_succ, i64_w, i32_w]
    rfl
  refine done_ (by kernel_rfl) ?_
  have hB := hHeld.2.2.2.2.2
  clear hB0
  have hB0 := hB.drew
  clear hHeld
  go_wp2_with fail
  refine start_ (n := 5) (S := fun w' => w'.cell? ⟨g, 0, none⟩ = some (.int .i64 0) ∧ w'.cell? ⟨g, 1, none⟩ = some (.int .i64 0) ∧ w'.cell? ⟨g, 2, none⟩ = some (.bool false) ∧ w'.cell? ⟨g, 3, none⟩ = some (.bool false) ∧ w'.cell? ⟨g, 4, none⟩ = some (.int .i64 0) ∧ Bl w g (.int .i64 0) (.int .i64 0) (.bool false) (.bool false) (.int .i64 0) w') (ds := []) #[false, false, false, false, false] (by kernel_rfl) rfl rfl ⟨hB0.c0, hB0.c1, hB0.c2, hB0.c3, hB0.c4, hB0⟩ (fun hHeld => ?_)
  refine pure_ (i := 1) (N := some 43) (v := ?_) (a' := ?_) #[false, true, false, false, false] rfl rfl (by kernel_rfl) (fun _ _ _ h => h) (Or.inl ⟨by rfl, ?_⟩) ?_ ?_
  rotate_left
  · intro w'
    go_simp
    with_reducible rfl
  rotate_left
  · simp only [Act.put, List.setIfInBounds_toArray, List.set_cons_zero, List.set_cons_succ, i64_w, i32_w]
    rfl
  refine take_ (i := 0) (N := some 42) (v := ?_) (a' := ?_) #[true, true, false, false, false] rfl rfl (by kernel_rfl) (fun _ _ _ h => h) (Or.inl ⟨by rfl, ?_⟩) hHeld ?_ ?_
  rotate_left
  · rintro w' ⟨s0, s1, s2, s3, s4, s5⟩
    go_simp
    with_reducible rfl
  rotate_left
  · simp only [Act.put, List.setIfInBounds_toArray, List.set_cons_zero, List.set_cons_succ, i64_w, i32_w]
    rfl
  refine one_ (i := 2) (N := some 44) #[true, true, true, false, false] rfl rfl (by kernel_rfl) (by decide) (fun K hK => ?_)
  refine goes_ Try.func14 (by kernel_rfl) rfl #[.int .i64 3, .int .i64 n] (by rfl) rfl rfl (by simp only [List.map_toArray, List.map_cons, List.map_nil]; rfl) ?_
  with_reducible refine (cs _).mono ?_
  rintro e w3 ⟨rfl, hb⟩
  refine ⟨_, rfl, ?_⟩
  refine hK.out _ _ ⟨(hHeld.2.2.2.2.2.below hb).c0, (hHeld.2.2.2.2.2.below hb).c1, (hHeld.2.2.2.2.2.below hb).c2, (hHeld.2.2.2.2.2.below hb).c3, (hHeld.2.2.2.2.2.below hb).c4, (hHeld.2.2.2.2.2.below hb)⟩ (fun hHeld => ?_)
  clear hK K
  refine norm_ (a' := ?_) ?_ ?_
  rotate_left
  · show Act.put _ (some 44) _ = _
    simp only [Act.put, List.setIfInBounds_toArray, List.set_cons_zero, List.set_cons_succ, i64_w, i32_w]
    rfl
  refine pure_ (i := 3) (N := some 45) (v := ?_) (a' := ?_) #[true, true, true, true, false] rfl rfl (by kernel_rfl) (fun _ _ _ h => h) (Or.inl ⟨by rfl, ?_⟩) ?_ ?_
  rotate_left
  · intro w'
    go_simp
    with_reducible rfl
  rotate_left
  · simp only [Act.put, List.setIfInBounds_toArray, List.set_cons_zero, List.set_cons_succ, i64_w, i32_w]
    rfl
  refine pure_ (i := 4) (N := some 4) (v := ?_) (a' := ?_) #[true, true, true, true, true] rfl rfl (by kernel_rfl) (fun _ _ _ h => h) (Or.inl ⟨by rfl, ?_⟩) ?_ ?_
  rotate_left
  · intro w'
    go_simp
    with_reducible rfl
  rotate_left
  · simp only [Act.put, List.setIfInBounds_toArray, List.set_cons_zero, List.set_cons_succ, i64_w, i32_w]
    rfl
  refine done_ (by kernel_rfl) ?_
  have hlast := hHeld.2.2.2.2.2.2.2
  go_wp2
  go_ret
  exact ⟨rfl, hlast⟩
theorem cnt_step (n t dt : Int) (ob wb xb yb : Bool) (h0 : 0 ≤ n) (h1 : n ≤ 1000) (ht0 : 0 ≤ t) (ht1 : t ≤ 20) (hd0 : 0 ≤ dt) (hd1 : dt ≤ 6) (K : Int) (hK : (if yb then 0 else if xb && !wb then t + 1 else t) = K) (W : World) :
    Calls Try.prog 18 #[.agg #[.int .i64 3, .int .i64 n, .bool ob, .bool wb, .int .i64 t], .bool xb, .bool yb, .int .i64 dt] W fun e w' => e = .returned (.tuple #[.agg #[.int .i64 3, .int .i64 n, .bool (decide (n ≤ K)), .bool xb, .int .i64 K], .bool (decide (n ≤ K))]) ∧ Below W.heap.size W w' := by
  have hg : Hb.goB 3 n t dt = true := by simp [Hb.goB, Hb.blockOkB, Hb.sizedB, Hb.isTimeB]; omega
  have hT : Hb.stepT 3 t dt wb xb yb = K := by
    subst hK
    have e : Hb.stepT 3 t dt wb xb yb = mn (if yb then 0 else if xb && !wb then t + 1 else t) 1000 := rfl
    rw [e]
    have b : (if yb then (0 : Int) else if xb && !wb then t + 1 else t) ≤ 21 := by (repeat' split) <;> omega
    unfold mn; rw [if_neg (by omega)]
  have hO : Hb.stepOn 3 n K ob wb xb yb = decide (n ≤ K) := rfl
  have := Hb.blockStep_yes 3 n t dt ob wb xb yb W hg
  rw [hT, hO] at this; exact this
theorem Bl.far {w W : World} {g : Nat} {c0 c1 c2 c3 c4 : Value} (h : Bl w g c0 c1 c2 c3 c4 W) {z : Nat} (hz : g < z) (j : Nat) (v : Value) : Bl w g c0 c1 c2 c3 c4 (W.setCell ⟨z, j, none⟩ v) := ⟨blk_far h.1 (by simp; omega) v, h.2.1, below_set h.2.2 (by have := h.2.1; omega)⟩
theorem Bl.all {w W : World} {g : Nat} {c0 c1 c2 c3 c4 : Value} (h : Bl w g c0 c1 c2 c3 c4 W) (d0 d1 d2 d3 d4 : Value) : Bl w g d0 d1 d2 d3 d4 (((((W.setCell ⟨g, 0, none⟩ d0).setCell ⟨g, 1, none⟩ d1).setCell ⟨g, 2, none⟩ d2).setCell ⟨g, 3, none⟩ d3).setCell ⟨g, 4, none⟩ d4) :=
  ⟨blk_put (blk_put (blk_put (blk_put (blk_put h.1 0 _ rfl) 1 _ rfl) 2 _ rfl) 3 _ rfl) 4 _ rfl, h.2.1, below_set (below_set (below_set (below_set (below_set h.2.2 h.2.1) h.2.1) h.2.1) h.2.1) h.2.1⟩
set_option maxRecDepth 100000 in
set_option maxHeartbeats 25600000 in
theorem main_in (A0 A1 : Option Addr) (c0 c1 : Nat) (l0 l1 : List Int) (w : World) (hl0 : ¬ (l0.length : Int) > 1048576) (hl1 : ¬ (l1.length : Int) > 1048576) (a n : Int) (h0 : 0 ≤ n) (h1 : n ≤ 1000)
    (hd : Calls Try.prog 17 #[.slice A0 l0.length c0] w fun e w' => e = .returned (.tuple #[.int .i64 a, .int .i64 n]) ∧ Below w.heap.size w w') (hr1 : Kd.C (Kd.int .u8) w A1 l1.length l1) (hb1 : Byt l1) :
    Calls Try.prog 5 #[.slice A0 l0.length c0, .slice A1 l1.length c1] w fun e w' => e = .returned (.bool true) ∧ Below w.heap.size w w' := by
  have cn := fun W => new_in n h0 h1 W
  have cs := fun W => new_in' n h0 h1 W
  have d1 : decide (n < 0) = false := by simp; omega
  have d2 : decide (1000 < n) = false := by simp; omega
  have t1 : decide (1048576 < (l0.length : Int)) = false := by simpa using hl0
  have t2 : decide (1048576 < (l1.length : Int)) = false := by simpa using hl1
  clear hl0 hl1
  go_enter Try.func5, Try.ntmps5
  go_wp2_with fail
  refine hd.mono ?_
  rintro e W1 ⟨rfl, k1⟩
  clear hd
  go_wp2_with fail
  refine (cn _).mono ?_
  rintro e W2 ⟨rfl, k2⟩
  have k3 := k1.trans (k2.mono k1.size)
  clear k1 k2
  have hu := Try.underlying25
  go_wp2_with fail
  have hB : Bl w W2.heap.size (.int .i64 3) (.int .i64 n) (.bool false) (.bool false) (.int .i64 0) (W2.alloc (.cells #[.int .i64 3, .int .i64 n, .bool false, .bool false, .int .i64 0] 25)) := ⟨heap_alloc_new W2 _, k3.size, k3.alloc (k3.size) _⟩
  generalize W2.alloc (.cells #[.int .i64 3, .int .i64 n, .bool false, .bool false, .int .i64 0] 25) = W3 at hB ⊢
  generalize W2.heap.size = g at hB ⊢
  clear k3
  have hB0 := hB.drew
  refine start_ (n := 12) (S := fun w' => w'.cell? ⟨g, 0, none⟩ = some (.int .i64 3) ∧ w'.cell? ⟨g, 1, none⟩ = some (.int .i64 n) ∧ w'.cell? ⟨g, 2, none⟩ = some (.bool false) ∧ w'.cell? ⟨g, 3, none⟩ = some (.bool false) ∧ w'.cell? ⟨g, 4, none⟩ = some (.int .i64 0) ∧ Bl w g (.int .i64 3) (.int .i64 n) (.bool false) (.bool false) (.int .i64 0) w') (ds := []) #[false, false, false, false, false, false, false, false, false, false, false, false] (by kernel_rfl) rfl rfl ⟨hB0.c0, hB0.c1, hB0.c2, hB0.c3, hB0.c4, hB0⟩ (fun hHeld => ?_)
  refine pure_ (i := 1) (N := some 31) (v := ?_) (a' := ?_) #[false, true, false, false, false, false, false, false, false, false, false, false] rfl rfl (by kernel_rfl) (fun _ _ _ h => h) (Or.inl ⟨by rfl, ?_⟩) ?_ ?_
  rotate_left
  · intro w'
    go_simp
    with_reducible rfl
  rotate_left
  · simp only [Act.put, List.setIfInBounds_toArray, List.set_cons_zero, List.set_cons_succ, i64_w, i32_w]
    rfl
  refine take_ (i := 0) (N := some 30) (v := ?_) (a' := ?_) #[true, true, false, false, false, false, false, false, false, false, false, false] rfl rfl (by kernel_rfl) (fun _ _ _ h => h) (Or.inl ⟨by rfl, ?_⟩) hHeld ?_ ?_
  rotate_left
  · rintro w' ⟨s0, s1, s2, s3, s4, s5⟩
    go_simp
    with_reducible rfl
  rotate_left
  · simp only [Act.put, List.setIfInBounds_toArray, List.set_cons_zero, List.set_cons_succ, i64_w, i32_w]
    rfl
  refine one_ (i := 2) (N := some 32) #[true, true, true, false, false, false, false, false, false, false, false, false] rfl rfl (by kernel_rfl) (by decide) (fun K hK => ?_)
  refine goes_ Try.func14 (by kernel_rfl) rfl #[.int .i64 3, .int .i64 n] (by rfl) rfl rfl (by simp only [List.map_toArray, List.map_cons, List.map_nil]; rfl) ?_
  with_reducible refine (cs _).mono ?_
  rintro e w3 ⟨rfl, hb⟩
  refine ⟨_, rfl, ?_⟩
  refine hK.out _ _ ⟨(hHeld.2.2.2.2.2.below hb).c0, (hHeld.2.2.2.2.2.below hb).c1, (hHeld.2.2.2.2.2.below hb).c2, (hHeld.2.2.2.2.2.below hb).c3, (hHeld.2.2.2.2.2.below hb).c4, (hHeld.2.2.2.2.2.below hb)⟩ (fun hHeld => ?_)
  clear hK K
  refine norm_ (a' := ?_) ?_ ?_
  rotate_left
  · show Act.put _ (some 32) _ = _
    simp only [Act.put, List.setIfInBounds_toArray, List.set_cons_zero, List.set_cons_succ, i64_w, i32_w]
    rfl
  refine pure_ (i := 3) (N := some 33) (v := ?_) (a' := ?_) #[true, true, true, true, false, false, false, false, false, false, false, false] rfl rfl (by kernel_rfl) (fun _ _ _ h => h) (Or.inl ⟨by rfl, ?_⟩) ?_ ?_
  rotate_left
  · intro w'
    go_simp
    with_reducible rfl
  rotate_left
  · simp only [Act.put, List.setIfInBounds_toArray, List.set_cons_zero, List.set_cons_succ, i64_w, i32_w]
    rfl
  refine pure_ (i := 4) (N := some 34) (v := ?_) (a' := ?_) #[true, true, true, true, true, false, false, false, false, false, false, false] rfl rfl (by kernel_rfl) (fun _ _ _ h => h) (Or.inl ⟨by rfl, ?_⟩) ?_ ?_
  rotate_left
  · intro w'
    go_simp
    with_reducible rfl
  rotate_left
  · simp only [Act.put, List.setIfInBounds_toArray, List.set_cons_zero, List.set_cons_succ, i64_w, i32_w]
    rfl
  refine pure_ (i := 5) (N := some 35) (v := ?_) (a' := ?_) #[true, true, true, true, true, true, false, false, false, false, false, false] rfl rfl (by kernel_rfl) (fun _ _ _ h => h) (Or.inl ⟨by rfl, ?_⟩) ?_ ?_
  rotate_left
  · intro w'
    go_simp
    with_reducible rfl
  rotate_left
  · simp only [Act.put, List.setIfInBounds_toArray, List.set_cons_zero, List.set_cons_succ, i64_w, i32_w]
    rfl
  refine pure_ (i := 6) (N := some 36) (v := ?_) (a' := ?_) #[true, true, true, true, true, true, true, false, false, false, false, false] rfl rfl (by kernel_rfl) (fun _ _ _ h => h) (Or.inl ⟨by rfl, ?_⟩) ?_ ?_
  rotate_left
  · intro w'
    go_simp
    with_reducible rfl
  rotate_left
  · simp only [Act.put, List.setIfInBounds_toArray, List.set_cons_zero, List.set_cons_succ, i64_w, i32_w]
    rfl
  refine pure_ (i := 7) (N := some 37) (v := ?_) (a' := ?_) #[true, true, true, true, true, true, true, true, false, false, false, false] rfl rfl (by kernel_rfl) (fun _ _ _ h => h) (Or.inl ⟨by rfl, ?_⟩) ?_ ?_
  rotate_left
  · intro w'
    go_simp
    with_reducible rfl
  rotate_left
  · simp only [Act.put, List.setIfInBounds_toArray, List.set_cons_zero, List.set_cons_succ, i64_w, i32_w]
    rfl
  refine pure_ (i := 8) (N := some 38) (v := ?_) (a' := ?_) #[true, true, true, true, true, true, true, true, true, false, false, false] rfl rfl (by kernel_rfl) (fun _ _ _ h => h) (Or.inl ⟨by rfl, ?_⟩) ?_ ?_
  rotate_left
  · intro w'
    go_simp
    with_reducible rfl
  rotate_left
  · simp only [Act.put, List.setIfInBounds_toArray, List.set_cons_zero, List.set_cons_succ, i64_w, i32_w]
    rfl
  refine pure_ (i := 9) (N := some 39) (v := ?_) (a' := ?_) #[true, true, true, true, true, true, true, true, true, true, false, false] rfl rfl (by kernel_rfl) (fun _ _ _ h => h) (Or.inl ⟨by rfl, ?_⟩) ?_ ?_
  rotate_left
  · intro w'
    go_simp
    with_reducible rfl
  rotate_left
  · simp only [Act.put, List.setIfInBounds_toArray, List.set_cons_zero, List.set_cons_succ, i64_w, i32_w]
    rfl
  refine pure_ (i := 10) (N := some 40) (v := ?_) (a' := ?_) #[true, true, true, true, true, true, true, true, true, true, true, false] rfl rfl (by kernel_rfl) (fun _ _ _ h => h) (Or.inl ⟨by rfl, ?_⟩) ?_ ?_
  rotate_left
  · intro w'
    go_simp
    with_reducible rfl
  rotate_left
  · simp only [Act.put, List.setIfInBounds_toArray, List.set_cons_zero, List.set_cons_succ, i64_w, i32_w]
    rfl
  refine pure_ (i := 11) (N := some 41) (v := ?_) (a' := ?_) #[true, true, true, true, true, true, true, true, true, true, true, true] rfl rfl (by kernel_rfl) (fun _ _ _ h => h) (Or.inl ⟨by rfl, ?_⟩) ?_ ?_
  rotate_left
  · intro w'
    go_simp
    with_reducible rfl
  rotate_left
  · simp only [Act.put, List.setIfInBounds_toArray, List.set_cons_zero, List.set_cons_succ, i64_w, i32_w]
    rfl
  refine done_ (by kernel_rfl) ?_
  have hB := hHeld.2.2.2.2.2
  clear hB0 hHeld d1 d2 cn cs
  go_wp2_with fail
  go_loopw [8, 9, 10] (fun was kk i wr => ∃ (j : Nat) (wb ob : Bool) (t : Int), j ≤ l1.length ∧ j ≤ 20 ∧ 0 ≤ t ∧ t ≤ (j : Int) ∧ i = .int .i64 j ∧ kk = .int .i64 t ∧ was = .bool wb ∧ Bl w g (.int .i64 3) (.int .i64 n) (.bool ob) (.bool wb) (.int .i64 t) wr) (fun _ _ i _ => 20 - (intOf i).toNat)
  case atStart => exact ⟨0, false, false, 0, by omega, by omega, by omega, by omega, rfl, rfl, rfl, hB⟩
  case round =>
    clear hB
    obtain ⟨j, wb, ob, t, hj, hj20, ht0, ht1, rfl, rfl, rfl, hB⟩ := hrel
    by_cases hl : j < l1.length
    · have e1 : decide (j < l1.length) = true := by simpa using hl
      by_cases h20 : j < 20
      · have e2 : decide (j < 20) = true := by simpa using h20
        obtain ⟨ad, hA, hcell⟩ := Kd.at_int (Kd.C_below hr1 hB.2.2) (j : Int) (by omega) (by omega)
        subst hA
        have hbb := rd_byt hb1 (j : Int)
        generalize rd l1 (j : Int) = b at hcell hbb
        rw [Int.toNat_natCast] at hcell
        clear hr1 hb1
        obtain ⟨xb, hx⟩ : ∃ q, (b % 2 == 1) = q := ⟨_, rfl⟩
        obtain ⟨yb, hy⟩ : ∃ q, decide (240 < b) = q := ⟨_, rfl⟩
        cases yb
        · cases xb
          · have hdt : 0 ≤ Int.tmod (wrap64 b) 7 ∧ Int.tmod (wrap64 b) 7 ≤ 6 := by rw [wrap_id (by omega) (by omega)]; have z := tmod_bd (a := b) (b := 7) hbb.1 (by omega); omega
            have hst := cnt_step n t (Int.tmod (wrap64 b) 7) ob wb false false h0 h1 ht0 (by omega) hdt.1 hdt.2 (t) (by simp)
            clear hdt
            go_wp2_with fail
            have hB0 := hB.drew
            clear hB
            refine start_ (n := 16) (S := fun w' => w'.cell? ⟨g, 0, none⟩ = some (.int .i64 3) ∧ w'.cell? ⟨g, 1, none⟩ = some (.int .i64 n) ∧ w'.cell? ⟨g, 2, none⟩ = some (.bool ob) ∧ w'.cell? ⟨g, 3, none⟩ = some (.bool wb) ∧ w'.cell? ⟨g, 4, none⟩ = some (.int .i64 t) ∧ w'.cell? (ad.add j) = some (.int .u8 b) ∧ Bl w g (.int .i64 3) (.int .i64 n) (.bool ob) (.bool wb) (.int .i64 t) w') (ds := []) #[false, false, false, false, false, false, false, false, false, false, false, false, false, false, false, false] (by kernel_rfl) rfl rfl ⟨hB0.c0, hB0.c1, hB0.c2, hB0.c3, hB0.c4, hcell, hB0⟩ (fun hHeld => ?_)
            refine pure_ (i := 1) (N := some 78) (v := ?_) (a' := ?_) #[false, true, false, false, false, false, false, false, false, false, false, false, false, false, false, false] rfl rfl (by kernel_rfl) (fun _ _ _ h => h) (Or.inl ⟨by rfl, ?_⟩) ?_ ?_
            rotate_left
            · intro w'
              go_simp
              with_reducible rfl
            rotate_left
            · simp only [Act.put, List.setIfInBounds_toArray, List.set_cons_zero, List.set_cons_succ, i64_w, i32_w]
              rfl
            refine pure_ (i := 2) (N := some 79) (v := ?_) (a' := ?_) #[false, true, true, false, false, false, false, false, false, false, false, false, false, false, false, false] rfl rfl (by kernel_rfl) (fun _ _ _ h => h) (Or.inl ⟨by rfl, ?_⟩) ?_ ?_
            rotate_left
            · intro w'
              go_simp
              with_reducible rfl
            rotate_left
            · simp only [Act.put, List.setIfInBounds_toArray, List.set_cons_zero, List.set_cons_succ, i64_w, i32_w]
              rfl
            refine pure_ (i := 3) (N := some 80) (v := ?_) (a' := ?_) #[false, true, true, true, false, false, false, false, false, false, false, false, false, false, false, false] rfl rfl (by kernel_rfl) (fun _ _ _ h => h) (Or.inl ⟨by rfl, ?_⟩) ?_ ?_
            rotate_left
            · intro w'
              go_simp
              with_reducible rfl
            rotate_left
            · simp only [Act.put, List.setIfInBounds_toArray, List.set_cons_zero, List.set_cons_succ, i64_w, i32_w]
              rfl
            refine pure_ (i := 4) (N := some 81) (v := ?_) (a' := ?_) #[false, true, true, true, true, false, false, false, false, false, false, false, false, false, false, false] rfl rfl (by kernel_rfl) (fun _ _ _ h => h) (Or.inl ⟨by rfl, ?_⟩) ?_ ?_
            rotate_left
            · intro w'
              go_simp
              with_reducible rfl
            rotate_left
            · simp only [Act.put, List.setIfInBounds_toArray, List.set_cons_zero, List.set_cons_succ, i64_w, i32_w]
              rfl
            refine pure_ (i := 5) (N := some 82) (v := ?_) (a' := ?_) #[false, true, true, true, true, true, false, false, false, false, false, false, false, false, false, false] rfl rfl (by kernel_rfl) (fun _ _ _ h => h) (Or.inl ⟨by rfl, ?_⟩) ?_ ?_
            rotate_left
            · intro w'
              go_simp
              with_reducible rfl
            rotate_left
            · simp only [Act.put, List.setIfInBounds_toArray, List.set_cons_zero, List.set_cons_succ, i64_w, i32_w]
              rfl
            refine take_ (i := 0) (N := some 77) (v := ?_) (a' := ?_) #[true, true, true, true, true, true, false, false, false, false, false, false, false, false, false, false] rfl rfl (by kernel_rfl) (fun _ _ _ h => h) (Or.inl ⟨by rfl, ?_⟩) hHeld ?_ ?_
            rotate_left
            · rintro w' ⟨s0, s1, s2, s3, s4, s5, s6⟩
              go_simp
              with_reducible rfl
            rotate_left
            · simp only [Act.put, List.setIfInBounds_toArray, List.set_cons_zero, List.set_cons_succ, i64_w, i32_w]
              rfl
            refine take_ (i := 6) (N := some 83) (v := ?_) (a' := ?_) #[true, true, true, true, true, true, true, false, false, false, false, false, false, false, false, false] rfl rfl (by kernel_rfl) (fun _ _ _ h => h) (Or.inl ⟨by rfl, ?_⟩) hHeld ?_ ?_
            rotate_left
            · rintro w' ⟨s0, s1, s2, s3, s4, s5, s6⟩
              go_simp
              with_reducible rfl
            rotate_left
            · simp only [Act.put, List.setIfInBounds_toArray, List.set_cons_zero, List.set_cons_succ, i64_w, i32_w]
              rfl
            refine pure_ (i := 7) (N := some 84) (v := ?_) (a' := ?_) #[true, true, true, true, true, true, true, true, false, false, false, false, false, false, false, false] rfl rfl (by kernel_rfl) (fun _ _ _ h => h) (Or.inl ⟨by rfl, ?_⟩) ?_ ?_
            rotate_left
            · intro w'
              go_simp
              with_reducible rfl
            rotate_left
            · simp only [Act.put, List.setIfInBounds_toArray, List.set_cons_zero, List.set_cons_succ, i64_w, i32_w]
              rfl
            refine pure_ (i := 8) (N := some 85) (v := ?_) (a' := ?_) #[true, true, true, true, true, true, true, true, true, false, false, false, false, false, false, false] rfl rfl (by kernel_rfl) (fun _ _ _ h => h) (Or.inl ⟨by rfl, ?_⟩) ?_ ?_
            rotate_left
            · intro w'
              go_simp
              with_reducible rfl
            rotate_left
            · simp only [Act.put, List.setIfInBounds_toArray, List.set_cons_zero, List.set_cons_succ, i64_w, i32_w]
              rfl
            refine join_ (σ := Nat) 2 #[true, true, true, true, true, true, true, true, true, true, true, true, true, true, false, false] (fun z_ => [(86, .tuple #[.agg #[.int .i64 3, .int .i64 n, .bool (decide (n ≤ t)), .bool false, .int .i64 (t)], .bool (decide (n ≤ t))]), (76, .tuple #[.agg #[.int .i64 3, .int .i64 n, .bool (decide (n ≤ t)), .bool false, .int .i64 (t)], .bool (decide (n ≤ t))]), (87, .agg #[.int .i64 3, .int .i64 n, .bool (decide (n ≤ t)), .bool false, .int .i64 (t)]), (88, .bool (decide (n ≤ t))), (13, .pointer (some ⟨z_, 0, none⟩))]) (fun z_ w' => Bl w g (.int .i64 3) (.int .i64 n) (.bool ob) (.bool wb) (.int .i64 t) w' ∧ w'.cell? (ad.add j) = some (.int .u8 b) ∧ w'.heap[z_]? = some (.cells #[.int .i64 0, .int .i64 0, .bool false, .bool false, .int .i64 0] 25 (0, 0)) ∧ g < z_ ∧ (ad.add j).block < z_) ?_ ?_
            rotate_left
            · intro hCont
              refine two_ (i := 9) (j := 13) (Ni := some 86) (Nj := some 13) #[true, true, true, true, true, true, true, true, true, true, false, false, false, false, false, false] #[true, true, true, true, true, true, true, true, true, false, false, false, false, true, false, false] rfl rfl rfl rfl (by kernel_rfl) (by decide) (by decide) (fun K hK => ?_) (fun K hK => ?_)
              · skip
                refine goes_ Try.func18 (by kernel_rfl) rfl #[.agg #[.int .i64 3, .int .i64 n, .bool ob, .bool wb, .int .i64 t], .bool false, .bool false, .int .i64 (Int.tmod (wrap64 b) 7)] (by rfl) rfl rfl (by simp only [List.map_toArray, List.map_cons, List.map_nil]; rfl) ?_
                with_reducible refine (hst _).mono ?_
                rintro e w3 ⟨rfl, hb1⟩
                refine ⟨_, rfl, ?_⟩
                have hcb := (hb1.cell (World.block_lt_of_cell? _ _ hHeld.2.2.2.2.2.1)).trans hHeld.2.2.2.2.2.1
                refine hK.out _ _ ⟨(hHeld.2.2.2.2.2.2.below hb1).c0, (hHeld.2.2.2.2.2.2.below hb1).c1, (hHeld.2.2.2.2.2.2.below hb1).c2, (hHeld.2.2.2.2.2.2.below hb1).c3, (hHeld.2.2.2.2.2.2.below hb1).c4, hcb, (hHeld.2.2.2.2.2.2.below hb1)⟩ (fun hHeld => ?_)
                clear hK K
                refine norm_ (a' := ?_) ?_ ?_
                rotate_left
                · show Act.put _ (some 86) _ = _
                  simp only [Act.put, List.setIfInBounds_toArray, List.set_cons_zero, List.set_cons_succ, i64_w, i32_w]
                  rfl
                refine pure_ (i := 10) (N := some 76) (v := ?_) (a' := ?_) #[true, true, true, true, true, true, true, true, true, true, true, false, false, false, false, false] rfl rfl (by kernel_rfl) (fun _ _ _ h => h) (Or.inl ⟨by rfl, ?_⟩) ?_ ?_
                rotate_left
                · intro w'
                  go_simp
                  with_reducible rfl
                rotate_left
                · simp only [Act.put, List.setIfInBounds_toArray, List.set_cons_zero, List.set_cons_succ, i64_w, i32_w]
                  rfl
                refine pure_ (i := 11) (N := some 87) (v := ?_) (a' := ?_) #[true, true, true, true, true, true, true, true, true, true, true, true, false, false, false, false] rfl rfl (by kernel_rfl) (fun _ _ _ h => h) (Or.inl ⟨by rfl, ?_⟩) ?_ ?_
                rotate_left
                · intro w'
                  go_simp
                  with_reducible rfl
                rotate_left
                · simp only [Act.put, List.setIfInBounds_toArray, List.set_cons_zero, List.set_cons_succ, i64_w, i32_w]
                  rfl
                refine pure_ (i := 12) (N := some 88) (v := ?_) (a' := ?_) #[true, true, true, true, true, true, true, true, true, true, true, true, true, false, false, false] rfl rfl (by kernel_rfl) (fun _ _ _ h => h) (Or.inl ⟨by rfl, ?_⟩) ?_ ?_
                rotate_left
                · intro w'
                  go_simp
                  with_reducible rfl
                rotate_left
                · simp only [Act.put, List.setIfInBounds_toArray, List.set_cons_zero, List.set_cons_succ, i64_w, i32_w]
                  rfl
                refine one_ (i := 13) (N := some 13) #[true, true, true, true, true, true, true, true, true, true, true, true, true, true, false, false] rfl rfl (by kernel_rfl) (by decide) (fun K hK => ?_)
                have hcc := hHeld.2.2.2.2.2.1
                have hlast := hHeld.2.2.2.2.2.2
                refine value_ (w1 := ?_) (v := ?_) (by rfl) rfl ?_ ?_
                rotate_left 2
                · go_simp
                  constructor
                  · rfl
                  · rfl
                refine hK.out _ _ ⟨(hlast.alloc _).c0, (hlast.alloc _).c1, (hlast.alloc _).c2, (hlast.alloc _).c3, (hlast.alloc _).c4, ((World.cell?_alloc_lt _ _ _ (World.block_lt_of_cell? _ _ hcc)).trans hcc), (hlast.alloc _)⟩ (fun hHeld => ?_)
                clear hK K
                refine norm_ (a' := ?_) ?_ ?_
                rotate_left
                · show Act.put _ (some 13) _ = _
                  simp only [Act.put, List.setIfInBounds_toArray, List.set_cons_zero, List.set_cons_succ, i64_w, i32_w]
                  rfl
                exact norm_ (by simp only [putAll, Act.put, List.setIfInBounds_toArray, List.set_cons_zero, List.set_cons_succ]) (hCont w3.heap.size _ ⟨hHeld.2.2.2.2.2.2, hHeld.2.2.2.2.2.1, heap_alloc_new w3 _, hlast.lt, World.block_lt_of_cell? _ _ hcc⟩)
              · skip
                have hcc := hHeld.2.2.2.2.2.1
                have hlast := hHeld.2.2.2.2.2.2
                refine value_ (w1 := ?_) (v := ?_) (by rfl) rfl ?_ ?_
                rotate_left 2
                · go_simp
                  constructor
                  · rfl
                  · rfl
                refine hK.out _ _ ⟨(hlast.alloc _).c0, (hlast.alloc _).c1, (hlast.alloc _).c2, (hlast.alloc _).c3, (hlast.alloc _).c4, ((World.cell?_alloc_lt _ _ _ (World.block_lt_of_cell? _ _ hcc)).trans hcc), (hlast.alloc _)⟩ (fun hHeld => ?_)
                clear hK K
                refine norm_ (a' := ?_) ?_ ?_
                rotate_left
                · show Act.put _ (some 13) _ = _
                  simp only [Act.put, List.setIfInBounds_toArray, List.set_cons_zero, List.set_cons_succ, i64_w, i32_w]
                  rfl
                refine one_ (i := 9) (N := some 86) #[true, true, true, true, true, true, true, true, true, true, false, false, false, true, false, false] rfl rfl (by kernel_rfl) (by decide) (fun K hK => ?_)
                refine goes_ Try.func18 (by kernel_rfl) rfl #[.agg #[.int .i64 3, .int .i64 n, .bool ob, .bool wb, .int .i64 t], .bool false, .bool false, .int .i64 (Int.tmod (wrap64 b) 7)] (by rfl) rfl rfl (by simp only [List.map_toArray, List.map_cons, List.map_nil]; rfl) ?_
                with_reducible refine (hst _).mono ?_
                rintro e w3 ⟨rfl, hb1⟩
                refine ⟨_, rfl, ?_⟩
                have hcb := (hb1.cell (World.block_lt_of_cell? _ _ hHeld.2.2.2.2.2.1)).trans hHeld.2.2.2.2.2.1
                have hg9 := blk_below (heap_alloc_new wr.drew (.cells #[.int .i64 0, .int .i64 0, .bool false, .bool false, .int .i64 0] 25)) hb1
                refine hK.out _ _ ⟨(hHeld.2.2.2.2.2.2.below hb1).c0, (hHeld.2.2.2.2.2.2.below hb1).c1, (hHeld.2.2.2.2.2.2.below hb1).c2, (hHeld.2.2.2.2.2.2.below hb1).c3, (hHeld.2.2.2.2.2.2.below hb1).c4, hcb, (hHeld.2.2.2.2.2.2.below hb1)⟩ (fun hHeld => ?_)
                clear hK K
                refine norm_ (a' := ?_) ?_ ?_
                rotate_left
                · show Act.put _ (some 86) _ = _
                  simp only [Act.put, List.setIfInBounds_toArray, List.set_cons_zero, List.set_cons_succ, i64_w, i32_w]
                  rfl
                refine pure_ (i := 10) (N := some 76) (v := ?_) (a' := ?_) #[true, true, true, true, true, true, true, true, true, true, true, false, false, true, false, false] rfl rfl (by kernel_rfl) (fun _ _ _ h => h) (Or.inl ⟨by rfl, ?_⟩) ?_ ?_
                rotate_left
                · intro w'
                  go_simp
                  with_reducible rfl
                rotate_left
                · simp only [Act.put, List.setIfInBounds_toArray, List.set_cons_zero, List.set_cons_succ, i64_w, i32_w]
                  rfl
                refine pure_ (i := 11) (N := some 87) (v := ?_) (a' := ?_) #[true, true, true, true, true, true, true, true, true, true, true, true, false, true, false, false] rfl rfl (by kernel_rfl) (fun _ _ _ h => h) (Or.inl ⟨by rfl, ?_⟩) ?_ ?_
                rotate_left
                · intro w'
                  go_simp
                  with_reducible rfl
                rotate_left
                · simp only [Act.put, List.setIfInBounds_toArray, List.set_cons_zero, List.set_cons_succ, i64_w, i32_w]
                  rfl
                refine pure_ (i := 12) (N := some 88) (v := ?_) (a' := ?_) #[true, true, true, true, true, true, true, true, true, true, true, true, true, true, false, false] rfl rfl (by kernel_rfl) (fun _ _ _ h => h) (Or.inl ⟨by rfl, ?_⟩) ?_ ?_
                rotate_left
                · intro w'
                  go_simp
                  with_reducible rfl
                rotate_left
                · simp only [Act.put, List.setIfInBounds_toArray, List.set_cons_zero, List.set_cons_succ, i64_w, i32_w]
                  rfl
                exact norm_ (by simp only [putAll, Act.put, List.setIfInBounds_toArray, List.set_cons_zero, List.set_cons_succ]) (hCont wr.heap.size _ ⟨hHeld.2.2.2.2.2.2, hHeld.2.2.2.2.2.1, hg9, hB0.lt, World.block_lt_of_cell? _ _ hcell⟩)
            rintro z w4 ⟨hB4, hc4, hZ4, hL4, hA4⟩
            have hHeld : w4.cell? ⟨g, 0, none⟩ = some (.int .i64 3) ∧ w4.cell? ⟨g, 1, none⟩ = some (.int .i64 n) ∧ w4.cell? ⟨g, 2, none⟩ = some (.bool ob) ∧ w4.cell? ⟨g, 3, none⟩ = some (.bool wb) ∧ w4.cell? ⟨g, 4, none⟩ = some (.int .i64 t) ∧ w4.cell? (ad.add j) = some (.int .u8 b) ∧ Bl w g (.int .i64 3) (.int .i64 n) (.bool ob) (.bool wb) (.int .i64 t) w4 := ⟨hB4.c0, hB4.c1, hB4.c2, hB4.c3, hB4.c4, hc4, hB4⟩
            refine norm_ (a' := ?_) ?_ ?_
            rotate_left
            · simp only [putAll, Act.put, List.setIfInBounds_toArray, List.set_cons_zero, List.set_cons_succ]
              rfl
            refine one_ (i := 14) (N := none) #[true, true, true, true, true, true, true, true, true, true, true, true, true, true, true, false] rfl rfl (by kernel_rfl) (by decide) (fun K hK => ?_)
            refine skip_ (w1 := ?_) (by rfl) rfl ?_ ?_
            rotate_left
            · have hu2 := Try.underlying25
              have i0 := (blk_cell hZ4 0).trans rfl
              have i1 := (blk_cell hZ4 1).trans rfl
              have i2 := (blk_cell hZ4 2).trans rfl
              have i3 := (blk_cell hZ4 3).trans rfl
              have i4 := (blk_cell hZ4 4).trans rfl
              have j0 := blk_frozen hZ4 0
              have j1 := blk_frozen hZ4 1
              have j2 := blk_frozen hZ4 2
              have j3 := blk_frozen hZ4 3
              have j4 := blk_frozen hZ4 4
              go_simp
              rfl
            have hZ5 : (((((w4.setCell ⟨z, 0, none⟩ (.int .i64 3)).setCell ⟨z, 1, none⟩ (.int .i64 n)).setCell ⟨z, 2, none⟩ (.bool (decide (n ≤ t)))).setCell ⟨z, 3, none⟩ (.bool false)).setCell ⟨z, 4, none⟩ (.int .i64 (t))).heap[z]? = some (.cells #[.int .i64 3, .int .i64 n, .bool (decide (n ≤ t)), .bool false, .int .i64 (t)] 25 (0, 0)) := (blk_put (blk_put (blk_put (blk_put (blk_put hZ4 0 _ rfl) 1 _ rfl) 2 _ rfl) 3 _ rfl) 4 _ rfl)
            have hB5 := (((((hB4.far hL4 0 (.int .i64 3)).far hL4 1 (.int .i64 n)).far hL4 2 (.bool (decide (n ≤ t)))).far hL4 3 (.bool false)).far hL4 4 (.int .i64 (t)))
            have hc5 : (((((w4.setCell ⟨z, 0, none⟩ (.int .i64 3)).setCell ⟨z, 1, none⟩ (.int .i64 n)).setCell ⟨z, 2, none⟩ (.bool (decide (n ≤ t)))).setCell ⟨z, 3, none⟩ (.bool false)).setCell ⟨z, 4, none⟩ (.int .i64 (t))).cell? (ad.add j) = some (.int .u8 b) := by
              have l : ∀ q : Nat, (⟨z, q, none⟩ : Addr).block ≠ (ad.add j).block := fun q => by simp only; omega
              rw [World.cell?_setCell_far _ _ _ _ (l _), World.cell?_setCell_far _ _ _ _ (l _), World.cell?_setCell_far _ _ _ _ (l _), World.cell?_setCell_far _ _ _ _ (l _), World.cell?_setCell_far _ _ _ _ (l _)]
              exact hc4
            generalize (((((w4.setCell ⟨z, 0, none⟩ (.int .i64 3)).setCell ⟨z, 1, none⟩ (.int .i64 n)).setCell ⟨z, 2, none⟩ (.bool (decide (n ≤ t)))).setCell ⟨z, 3, none⟩ (.bool false)).setCell ⟨z, 4, none⟩ (.int .i64 (t))) = w5 at hZ5 hB5 hc5 ⊢
            refine hK.out _ _ ⟨hB5.c0, hB5.c1, hB5.c2, hB5.c3, hB5.c4, hc5, hB5⟩ (fun hHeld => ?_)
            clear hK K
            refine pure_ (i := 15) (N := some 14) (v := ?_) (a' := ?_) #[true, true, true, true, true, true, true, true, true, true, true, true, true, true, true, true] rfl rfl (by kernel_rfl) (fun _ _ _ h => h) (Or.inl ⟨by rfl, ?_⟩) ?_ ?_
            rotate_left
            · intro w'
              go_simp
              with_reducible rfl
            rotate_left
            · simp only [Act.put, List.setIfInBounds_toArray, List.set_cons_zero, List.set_cons_succ, i64_w, i32_w]
              rfl
            refine done_ (by kernel_rfl) ?_
            clear hHeld
            have i0 := (blk_cell hZ5 0).trans rfl
            have k0 := hB5.c0
            have f0 := blk_frozen hB5.1 0
            have i1 := (blk_cell hZ5 1).trans rfl
            have k1 := hB5.c1
            have f1 := blk_frozen hB5.1 1
            have i2 := (blk_cell hZ5 2).trans rfl
            have k2 := hB5.c2
            have f2 := blk_frozen hB5.1 2
            have i3 := (blk_cell hZ5 3).trans rfl
            have k3 := hB5.c3
            have f3 := blk_frozen hB5.1 3
            have i4 := (blk_cell hZ5 4).trans rfl
            have k4 := hB5.c4
            have f4 := blk_frozen hB5.1 4
            go_wp2
            go_roundw
            case rel => exact ⟨j + 1, _, _, _, by omega, by omega, (by omega : (0 : Int) ≤ t), (by omega : t ≤ ((j + 1 : Nat) : Int)), by go_num, rfl, rfl, hB5.all _ _ _ _ _⟩
            case measure => simp [intOf]; omega
          · cases wb
            · have hdt : 0 ≤ Int.tmod (wrap64 b) 7 ∧ Int.tmod (wrap64 b) 7 ≤ 6 := by rw [wrap_id (by omega) (by omega)]; have z := tmod_bd (a := b) (b := 7) hbb.1 (by omega); omega
              have hst := cnt_step n t (Int.tmod (wrap64 b) 7) ob false true false h0 h1 ht0 (by omega) hdt.1 hdt.2 (t + 1) (by simp)
              clear hdt
              go_wp2_with fail
              have hB0 := hB.drew
              clear hB
              refine start_ (n := 16) (S := fun w' => w'.cell? ⟨g, 0, none⟩ = some (.int .i64 3) ∧ w'.cell? ⟨g, 1, none⟩ = some (.int .i64 n) ∧ w'.cell? ⟨g, 2, none⟩ = some (.bool ob) ∧ w'.cell? ⟨g, 3, none⟩ = some (.bool false) ∧ w'.cell? ⟨g, 4, none⟩ = some (.int .i64 t) ∧ w'.cell? (ad.add j) = some (.int .u8 b) ∧ Bl w g (.int .i64 3) (.int .i64 n) (.bool ob) (.bool false) (.int .i64 t) w') (ds := []) #[false, false, false, false, false, false, false, false, false, false, false, false, false, false, false, false] (by kernel_rfl) rfl rfl ⟨hB0.c0, hB0.c1, hB0.c2, hB0.c3, hB0.c4, hcell, hB0⟩ (fun hHeld => ?_)
              refine pure_ (i := 1) (N := some 78) (v := ?_) (a' := ?_) #[false, true, false, false, false, false, false, false, false, false, false, false, false, false, false, false] rfl rfl (by kernel_rfl) (fun _ _ _ h => h) (Or.inl ⟨by rfl, ?_⟩) ?_ ?_
              rotate_left
              · intro w'
                go_simp
                with_reducible rfl
              rotate_left
              · simp only [Act.put, List.setIfInBounds_toArray, List.set_cons_zero, List.set_cons_succ, i64_w, i32_w]
                rfl
              refine pure_ (i := 2) (N := some 79) (v := ?_) (a' := ?_) #[false, true, true, false, false, false, false, false, false, false, false, false, false, false, false, false] rfl rfl (by kernel_rfl) (fun _ _ _ h => h) (Or.inl ⟨by rfl, ?_⟩) ?_ ?_
              rotate_left
              · intro w'
                go_simp
                with_reducible rfl
              rotate_left
              · simp only [Act.put, List.setIfInBounds_toArray, List.set_cons_zero, List.set_cons_succ, i64_w, i32_w]
                rfl
              refine pure_ (i := 3) (N := some 80) (v := ?_) (a' := ?_) #[false, true, true, true, false, false, false, false, false, false, false, false, false, false, false, false] rfl rfl (by kernel_rfl) (fun _ _ _ h => h) (Or.inl ⟨by rfl, ?_⟩) ?_ ?_
              rotate_left
              · intro w'
                go_simp
                with_reducible rfl
              rotate_left
              · simp only [Act.put, List.setIfInBounds_toArray, List.set_cons_zero, List.set_cons_succ, i64_w, i32_w]
                rfl
              refine pure_ (i := 4) (N := some 81) (v := ?_) (a' := ?_) #[false, true, true, true, true, false, false, false, false, false, false, false, false, false, false, false] rfl rfl (by kernel_rfl) (fun _ _ _ h => h) (Or.inl ⟨by rfl, ?_⟩) ?_ ?_
              rotate_left
              · intro w'
                go_simp
                with_reducible rfl
              rotate_left
              · simp only [Act.put, List.setIfInBounds_toArray, List.set_cons_zero, List.set_cons_succ, i64_w, i32_w]
                rfl
              refine pure_ (i := 5) (N := some 82) (v := ?_) (a' := ?_) #[false, true, true, true, true, true, false, false, false, false, false, false, false, false, false, false] rfl rfl (by kernel_rfl) (fun _ _ _ h => h) (Or.inl ⟨by rfl, ?_⟩) ?_ ?_
              rotate_left
              · intro w'
                go_simp
                with_reducible rfl
              rotate_left
              · simp only [Act.put, List.setIfInBounds_toArray, List.set_cons_zero, List.set_cons_succ, i64_w, i32_w]
                rfl
              refine take_ (i := 0) (N := some 77) (v := ?_) (a' := ?_) #[true, true, true, true, true, true, false, false, false, false, false, false, false, false, false, false] rfl rfl (by kernel_rfl) (fun _ _ _ h => h) (Or.inl ⟨by rfl, ?_⟩) hHeld ?_ ?_
              rotate_left
              · rintro w' ⟨s0, s1, s2, s3, s4, s5, s6⟩
                go_simp
                with_reducible rfl
              rotate_left
              · simp only [Act.put, List.setIfInBounds_toArray, List.set_cons_zero, List.set_cons_succ, i64_w, i32_w]
                rfl
              refine take_ (i := 6) (N := some 83) (v := ?_) (a' := ?_) #[true, true, true, true, true, true, true, false, false, false, false, false, false, false, false, false] rfl rfl (by kernel_rfl) (fun _ _ _ h => h) (Or.inl ⟨by rfl, ?_⟩) hHeld ?_ ?_
              rotate_left
              · rintro w' ⟨s0, s1, s2, s3, s4, s5, s6⟩
                go_simp
                with_reducible rfl
              rotate_left
              · simp only [Act.put, List.setIfInBounds_toArray, List.set_cons_zero, List.set_cons_succ, i64_w, i32_w]
                rfl
              refine pure_ (i := 7) (N := some 84) (v := ?_) (a' := ?_) #[true, true, true, true, true, true, true, true, false, false, false, false, false, false, false, false] rfl rfl (by kernel_rfl) (fun _ _ _ h => h) (Or.inl ⟨by rfl, ?_⟩) ?_ ?_
              rotate_left
              · intro w'
                go_simp
                with_reducible rfl
              rotate_left
              · simp only [Act.put, List.setIfInBounds_toArray, List.set_cons_zero, List.set_cons_succ, i64_w, i32_w]
                rfl
              refine pure_ (i := 8) (N := some 85) (v := ?_) (a' := ?_) #[true, true, true, true, true, true, true, true, true, false, false, false, false, false, false, false] rfl rfl (by kernel_rfl) (fun _ _ _ h => h) (Or.inl ⟨by rfl, ?_⟩) ?_ ?_
              rotate_left
              · intro w'
                go_simp
                with_reducible rfl
              rotate_left
              · simp only [Act.put, List.setIfInBounds_toArray, List.set_cons_zero, List.set_cons_succ, i64_w, i32_w]
                rfl
              refine join_ (σ := Nat) 2 #[true, true, true, true, true, true, true, true, true, true, true, true, true, true, false, false] (fun z_ => [(86, .tuple #[.agg #[.int .i64 3, .int .i64 n, .bool (decide (n ≤ t + 1)), .bool true, .int .i64 (t + 1)], .bool (decide (n ≤ t + 1))]), (76, .tuple #[.agg #[.int .i64 3, .int .i64 n, .bool (decide (n ≤ t + 1)), .bool true, .int .i64 (t + 1)], .bool (decide (n ≤ t + 1))]), (87, .agg #[.int .i64 3, .int .i64 n, .bool (decide (n ≤ t + 1)), .bool true, .int .i64 (t + 1)]), (88, .bool (decide (n ≤ t + 1))), (13, .pointer (some ⟨z_, 0, none⟩))]) (fun z_ w' => Bl w g (.int .i64 3) (.int .i64 n) (.bool ob) (.bool false) (.int .i64 t) w' ∧ w'.cell? (ad.add j) = some (.int .u8 b) ∧ w'.heap[z_]? = some (.cells #[.int .i64 0, .int .i64 0, .bool false, .bool false, .int .i64 0] 25 (0, 0)) ∧ g < z_ ∧ (ad.add j).block < z_) ?_ ?_
              rotate_left
              · intro hCont
                refine two_ (i := 9) (j := 13) (Ni := some 86) (Nj := some 13) #[true, true, true, true, true, true, true, true, true, true, false, false, false, false, false, false] #[true, true, true, true, true, true, true, true, true, false, false, false, false, true, false, false] rfl rfl rfl rfl (by kernel_rfl) (by decide) (by decide) (fun K hK => ?_) (fun K hK => ?_)
                · skip
                  refine goes_ Try.func18 (by kernel_rfl) rfl #[.agg #[.int .i64 3, .int .i64 n, .bool ob, .bool false, .int .i64 t], .bool true, .bool false, .int .i64 (Int.tmod (wrap64 b) 7)] (by rfl) rfl rfl (by simp only [List.map_toArray, List.map_cons, List.map_nil]; rfl) ?_
                  with_reducible refine (hst _).mono ?_
                  rintro e w3 ⟨rfl, hb1⟩
                  refine ⟨_, rfl, ?_⟩
                  have hcb := (hb1.cell (World.block_lt_of_cell? _ _ hHeld.2.2.2.2.2.1)).trans hHeld.2.2.2.2.2.1
                  refine hK.out _ _ ⟨(hHeld.2.2.2.2.2.2.below hb1).c0, (hHeld.2.2.2.2.2.2.below hb1).c1, (hHeld.2.2.2.2.2.2.below hb1).c2, (hHeld.2.2.2.2.2.2.below hb1).c3, (hHeld.2.2.2.2.2.2.below hb1).c4, hcb, (hHeld.2.2.2.2.2.2.below hb1)⟩ (fun hHeld => ?_)
                  clear hK K
                  refine norm_ (a' := ?_) ?_ ?_
                  rotate_left
                  · show Act.put _ (some 86) _ = _
                    simp only [Act.put, List.setIfInBounds_toArray, List.set_cons_zero, List.set_cons_succ, i64_w, i32_w]
                    rfl
                  refine pure_ (i := 10) (N := some 76) (v := ?_) (a' := ?_) #[true, true, true, true, true, true, true, true, true, true, true, false, false, false, false, false] rfl rfl (by kernel_rfl) (fun _ _ _ h => h) (Or.inl ⟨by rfl, ?_⟩) ?_ ?_
                  rotate_left
                  · intro w'
                    go_simp
                    with_reducible rfl
                  rotate_left
                  · simp only [Act.put, List.setIfInBounds_toArray, List.set_cons_zero, List.set_cons_succ, i64_w, i32_w]
                    rfl
                  refine pure_ (i := 11) (N := some 87) (v := ?_) (a' := ?_) #[true, true, true, true, true, true, true, true, true, true, true, true, false, false, false, false] rfl rfl (by kernel_rfl) (fun _ _ _ h => h) (Or.inl ⟨by rfl, ?_⟩) ?_ ?_
                  rotate_left
                  · intro w'
                    go_simp
                    with_reducible rfl
                  rotate_left
                  · simp only [Act.put, List.setIfInBounds_toArray, List.set_cons_zero, List.set_cons_succ, i64_w, i32_w]
                    rfl
                  refine pure_ (i := 12) (N := some 88) (v := ?_) (a' := ?_) #[true, true, true, true, true, true, true, true, true, true, true, true, true, false, false, false] rfl rfl (by kernel_rfl) (fun _ _ _ h => h) (Or.inl ⟨by rfl, ?_⟩) ?_ ?_
                  rotate_left
                  · intro w'
                    go_simp
                    with_reducible rfl
                  rotate_left
                  · simp only [Act.put, List.setIfInBounds_toArray, List.set_cons_zero, List.set_cons_succ, i64_w, i32_w]
                    rfl
                  refine one_ (i := 13) (N := some 13) #[true, true, true, true, true, true, true, true, true, true, true, true, true, true, false, false] rfl rfl (by kernel_rfl) (by decide) (fun K hK => ?_)
                  have hcc := hHeld.2.2.2.2.2.1
                  have hlast := hHeld.2.2.2.2.2.2
                  refine value_ (w1 := ?_) (v := ?_) (by rfl) rfl ?_ ?_
                  rotate_left 2
                  · go_simp
                    constructor
                    · rfl
                    · rfl
                  refine hK.out _ _ ⟨(hlast.alloc _).c0, (hlast.alloc _).c1, (hlast.alloc _).c2, (hlast.alloc _).c3, (hlast.alloc _).c4, ((World.cell?_alloc_lt _ _ _ (World.block_lt_of_cell? _ _ hcc)).trans hcc), (hlast.alloc _)⟩ (fun hHeld => ?_)
                  clear hK K
                  refine norm_ (a' := ?_) ?_ ?_
                  rotate_left
                  · show Act.put _ (some 13) _ = _
                    simp only [Act.put, List.setIfInBounds_toArray, List.set_cons_zero, List.set_cons_succ, i64_w, i32_w]
                    rfl
                  exact norm_ (by simp only [putAll, Act.put, List.setIfInBounds_toArray, List.set_cons_zero, List.set_cons_succ]) (hCont w3.heap.size _ ⟨hHeld.2.2.2.2.2.2, hHeld.2.2.2.2.2.1, heap_alloc_new w3 _, hlast.lt, World.block_lt_of_cell? _ _ hcc⟩)
                · skip
                  have hcc := hHeld.2.2.2.2.2.1
                  have hlast := hHeld.2.2.2.2.2.2
                  refine value_ (w1 := ?_) (v := ?_) (by rfl) rfl ?_ ?_
                  rotate_left 2
                  · go_simp
                    constructor
                    · rfl
                    · rfl
                  refine hK.out _ _ ⟨(hlast.alloc _).c0, (hlast.alloc _).c1, (hlast.alloc _).c2, (hlast.alloc _).c3, (hlast.alloc _).c4, ((World.cell?_alloc_lt _ _ _ (World.block_lt_of_cell? _ _ hcc)).trans hcc), (hlast.alloc _)⟩ (fun hHeld => ?_)
                  clear hK K
                  refine norm_ (a' := ?_) ?_ ?_
                  rotate_left
                  · show Act.put _ (some 13) _ = _
                    simp only [Act.put, List.setIfInBounds_toArray, List.set_cons_zero, List.set_cons_succ, i64_w, i32_w]
                    rfl
                  refine one_ (i := 9) (N := some 86) #[true, true, true, true, true, true, true, true, true, true, false, false, false, true, false, false] rfl rfl (by kernel_rfl) (by decide) (fun K hK => ?_)
                  refine goes_ Try.func18 (by kernel_rfl) rfl #[.agg #[.int .i64 3, .int .i64 n, .bool ob, .bool false, .int .i64 t], .bool true, .bool false, .int .i64 (Int.tmod (wrap64 b) 7)] (by rfl) rfl rfl (by simp only [List.map_toArray, List.map_cons, List.map_nil]; rfl) ?_
                  with_reducible refine (hst _).mono ?_
                  rintro e w3 ⟨rfl, hb1⟩
                  refine ⟨_, rfl, ?_⟩
                  have hcb := (hb1.cell (World.block_lt_of_cell? _ _ hHeld.2.2.2.2.2.1)).trans hHeld.2.2.2.2.2.1
                  have hg9 := blk_below (heap_alloc_new wr.drew (.cells #[.int .i64 0, .int .i64 0, .bool false, .bool false, .int .i64 0] 25)) hb1
                  refine hK.out _ _ ⟨(hHeld.2.2.2.2.2.2.below hb1).c0, (hHeld.2.2.2.2.2.2.below hb1).c1, (hHeld.2.2.2.2.2.2.below hb1).c2, (hHeld.2.2.2.2.2.2.below hb1).c3, (hHeld.2.2.2.2.2.2.below hb1).c4, hcb, (hHeld.2.2.2.2.2.2.below hb1)⟩ (fun hHeld => ?_)
                  clear hK K
                  refine norm_ (a' := ?_) ?_ ?_
                  rotate_left
                  · show Act.put _ (some 86) _ = _
                    simp only [Act.put, List.setIfInBounds_toArray, List.set_cons_zero, List.set_cons_succ, i64_w, i32_w]
                    rfl
                  refine pure_ (i := 10) (N := some 76) (v := ?_) (a' := ?_) #[true, true, true, true, true, true, true, true, true, true, true, false, false, true, false, false] rfl rfl (by kernel_rfl) (fun _ _ _ h => h) (Or.inl ⟨by rfl, ?_⟩) ?_ ?_
                  rotate_left
                  · intro w'
                    go_simp
                    with_reducible rfl
                  rotate_left
                  · simp only [Act.put, List.setIfInBounds_toArray, List.set_cons_zero, List.set_cons_succ, i64_w, i32_w]
                    rfl
                  refine pure_ (i := 11) (N := some 87) (v := ?_) (a' := ?_) #[true, true, true, true, true, true, true, true, true, true, true, true, false, true, false, false] rfl rfl (by kernel_rfl) (fun _ _ _ h => h) (Or.inl ⟨by rfl, ?_⟩) ?_ ?_
                  rotate_left
                  · intro w'
                    go_simp
                    with_reducible rfl
                  rotate_left
                  · simp only [Act.put, List.setIfInBounds_toArray, List.set_cons_zero, List.set_cons_succ, i64_w, i32_w]
                    rfl
                  refine pure_ (i := 12) (N := some 88) (v := ?_) (a' := ?_) #[true, true, true, true, true, true, true, true, true, true, true, true, true, true, false, false] rfl rfl (by kernel_rfl) (fun _ _ _ h => h) (Or.inl ⟨by rfl, ?_⟩) ?_ ?_
                  rotate_left
                  · intro w'
                    go_simp
                    with_reducible rfl
                  rotate_left
                  · simp only [Act.put, List.setIfInBounds_toArray, List.set_cons_zero, List.set_cons_succ, i64_w, i32_w]
                    rfl
                  exact norm_ (by simp only [putAll, Act.put, List.setIfInBounds_toArray, List.set_cons_zero, List.set_cons_succ]) (hCont wr.heap.size _ ⟨hHeld.2.2.2.2.2.2, hHeld.2.2.2.2.2.1, hg9, hB0.lt, World.block_lt_of_cell? _ _ hcell⟩)
              rintro z w4 ⟨hB4, hc4, hZ4, hL4, hA4⟩
              have hHeld : w4.cell? ⟨g, 0, none⟩ = some (.int .i64 3) ∧ w4.cell? ⟨g, 1, none⟩ = some (.int .i64 n) ∧ w4.cell? ⟨g, 2, none⟩ = some (.bool ob) ∧ w4.cell? ⟨g, 3, none⟩ = some (.bool false) ∧ w4.cell? ⟨g, 4, none⟩ = some (.int .i64 t) ∧ w4.cell? (ad.add j) = some (.int .u8 b) ∧ Bl w g (.int .i64 3) (.int .i64 n) (.bool ob) (.bool false) (.int .i64 t) w4 := ⟨hB4.c0, hB4.c1, hB4.c2, hB4.c3, hB4.c4, hc4, hB4⟩
              refine norm_ (a' := ?_) ?_ ?_
              rotate_left
              · simp only [putAll, Act.put, List.setIfInBounds_toArray, List.set_cons_zero, List.set_cons_succ]
                rfl
              refine one_ (i := 14) (N := none) #[true, true, true, true, true, true, true, true, true, true, true, true, true, true, true, false] rfl rfl (by kernel_rfl) (by decide) (fun K hK => ?_)
              refine skip_ (w1 := ?_) (by rfl) rfl ?_ ?_
              rotate_left
              · have hu2 := Try.underlying25
                have i0 := (blk_cell hZ4 0).trans rfl
                have i1 := (blk_cell hZ4 1).trans rfl
                have i2 := (blk_cell hZ4 2).trans rfl
                have i3 := (blk_cell hZ4 3).trans rfl
                have i4 := (blk_cell hZ4 4).trans rfl
                have j0 := blk_frozen hZ4 0
                have j1 := blk_frozen hZ4 1
                have j2 := blk_frozen hZ4 2
                have j3 := blk_frozen hZ4 3
                have j4 := blk_frozen hZ4 4
                go_simp
                rfl
              have hZ5 : (((((w4.setCell ⟨z, 0, none⟩ (.int .i64 3)).setCell ⟨z, 1, none⟩ (.int .i64 n)).setCell ⟨z, 2, none⟩ (.bool (decide (n ≤ t + 1)))).setCell ⟨z, 3, none⟩ (.bool true)).setCell ⟨z, 4, none⟩ (.int .i64 (t + 1))).heap[z]? = some (.cells #[.int .i64 3, .int .i64 n, .bool (decide (n ≤ t + 1)), .bool true, .int .i64 (t + 1)] 25 (0, 0)) := (blk_put (blk_put (blk_put (blk_put (blk_put hZ4 0 _ rfl) 1 _ rfl) 2 _ rfl) 3 _ rfl) 4 _ rfl)
              have hB5 := (((((hB4.far hL4 0 (.int .i64 3)).far hL4 1 (.int .i64 n)).far hL4 2 (.bool (decide (n ≤ t + 1)))).far hL4 3 (.bool true)).far hL4 4 (.int .i64 (t + 1)))
              have hc5 : (((((w4.setCell ⟨z, 0, none⟩ (.int .i64 3)).setCell ⟨z, 1, none⟩ (.int .i64 n)).setCell ⟨z, 2, none⟩ (.bool (decide (n ≤ t + 1)))).setCell ⟨z, 3, none⟩ (.bool true)).setCell ⟨z, 4, none⟩ (.int .i64 (t + 1))).cell? (ad.add j) = some (.int .u8 b) := by
                have l : ∀ q : Nat, (⟨z, q, none⟩ : Addr).block ≠ (ad.add j).block := fun q => by simp only; omega
                rw [World.cell?_setCell_far _ _ _ _ (l _), World.cell?_setCell_far _ _ _ _ (l _), World.cell?_setCell_far _ _ _ _ (l _), World.cell?_setCell_far _ _ _ _ (l _), World.cell?_setCell_far _ _ _ _ (l _)]
                exact hc4
              generalize (((((w4.setCell ⟨z, 0, none⟩ (.int .i64 3)).setCell ⟨z, 1, none⟩ (.int .i64 n)).setCell ⟨z, 2, none⟩ (.bool (decide (n ≤ t + 1)))).setCell ⟨z, 3, none⟩ (.bool true)).setCell ⟨z, 4, none⟩ (.int .i64 (t + 1))) = w5 at hZ5 hB5 hc5 ⊢
              refine hK.out _ _ ⟨hB5.c0, hB5.c1, hB5.c2, hB5.c3, hB5.c4, hc5, hB5⟩ (fun hHeld => ?_)
              clear hK K
              refine pure_ (i := 15) (N := some 14) (v := ?_) (a' := ?_) #[true, true, true, true, true, true, true, true, true, true, true, true, true, true, true, true] rfl rfl (by kernel_rfl) (fun _ _ _ h => h) (Or.inl ⟨by rfl, ?_⟩) ?_ ?_
              rotate_left
              · intro w'
                go_simp
                with_reducible rfl
              rotate_left
              · simp only [Act.put, List.setIfInBounds_toArray, List.set_cons_zero, List.set_cons_succ, i64_w, i32_w]
                rfl
              refine done_ (by kernel_rfl) ?_
              clear hHeld
              have i0 := (blk_cell hZ5 0).trans rfl
              have k0 := hB5.c0
              have f0 := blk_frozen hB5.1 0
              have i1 := (blk_cell hZ5 1).trans rfl
              have k1 := hB5.c1
              have f1 := blk_frozen hB5.1 1
              have i2 := (blk_cell hZ5 2).trans rfl
              have k2 := hB5.c2
              have f2 := blk_frozen hB5.1 2
              have i3 := (blk_cell hZ5 3).trans rfl
              have k3 := hB5.c3
              have f3 := blk_frozen hB5.1 3
              have i4 := (blk_cell hZ5 4).trans rfl
              have k4 := hB5.c4
              have f4 := blk_frozen hB5.1 4
              go_wp2
              go_roundw
              case rel => exact ⟨j + 1, _, _, _, by omega, by omega, (by omega : (0 : Int) ≤ t + 1), (by omega : t + 1 ≤ ((j + 1 : Nat) : Int)), by go_num, rfl, rfl, hB5.all _ _ _ _ _⟩
              case measure => simp [intOf]; omega
            · have hdt : 0 ≤ Int.tmod (wrap64 b) 7 ∧ Int.tmod (wrap64 b) 7 ≤ 6 := by rw [wrap_id (by omega) (by omega)]; have z := tmod_bd (a := b) (b := 7) hbb.1 (by omega); omega
              have hst := cnt_step n t (Int.tmod (wrap64 b) 7) ob true true false h0 h1 ht0 (by omega) hdt.1 hdt.2 (t) (by simp)
              clear hdt
              go_wp2_with fail
              have hB0 := hB.drew
              clear hB
              refine start_ (n := 16) (S := fun w' => w'.cell? ⟨g, 0, none⟩ = some (.int .i64 3) ∧ w'.cell? ⟨g, 1, none⟩ = some (.int .i64 n) ∧ w'.cell? ⟨g, 2, none⟩ = some (.bool ob) ∧ w'.cell? ⟨g, 3, none⟩ = some (.bool true) ∧ w'.cell? ⟨g, 4, none⟩ = some (.int .i64 t) ∧ w'.cell? (ad.add j) = some (.int .u8 b) ∧ Bl w g (.int .i64 3) (.int .i64 n) (.bool ob) (.bool true) (.int .i64 t) w') (ds := []) #[false, false, false, false, false, false, false, false, false, false, false, false, false, false, false, false] (by kernel_rfl) rfl rfl ⟨hB0.c0, hB0.c1, hB0.c2, hB0.c3, hB0.c4, hcell, hB0⟩ (fun hHeld => ?_)
              refine pure_ (i := 1) (N := some 78) (v := ?_) (a' := ?_) #[false, true, false, false, false, false, false, false, false, false, false, false, false, false, false, false] rfl rfl (by kernel_rfl) (fun _ _ _ h => h) (Or.inl ⟨by rfl, ?_⟩) ?_ ?_
              rotate_left
              · intro w'
                go_simp
                with_reducible rfl
              rotate_left
              · simp only [Act.put, List.setIfInBounds_toArray, List.set_cons_zero, List.set_cons_succ, i64_w, i32_w]
                rfl
              refine pure_ (i := 2) (N := some 79) (v := ?_) (a' := ?_) #[false, true, true, false, false, false, false, false, false, false, false, false, false, false, false, false] rfl rfl (by kernel_rfl) (fun _ _ _ h => h) (Or.inl ⟨by rfl, ?_⟩) ?_ ?_
              rotate_left
              · intro w'
                go_simp
                with_reducible rfl
              rotate_left
              · simp only [Act.put, List.setIfInBounds_toArray, List.set_cons_zero, List.set_cons_succ, i64_w, i32_w]
                rfl
              refine pure_ (i := 3) (N := some 80) (v := ?_) (a' := ?_) #[false, true, true, true, false, false, false, false, false, false, false, false, false, false, false, false] rfl rfl (by kernel_rfl) (fun _ _ _ h => h) (Or.inl ⟨by rfl, ?_⟩) ?_ ?_
              rotate_left
              · intro w'
                go_simp
                with_reducible rfl
              rotate_left
              · simp only [Act.put, List.setIfInBounds_toArray, List.set_cons_zero, List.set_cons_succ, i64_w, i32_w]
                rfl
              refine pure_ (i := 4) (N := some 81) (v := ?_) (a' := ?_) #[false, true, true, true, true, false, false, false, false, false, false, false, false, false, false, false] rfl rfl (by kernel_rfl) (fun _ _ _ h => h) (Or.inl ⟨by rfl, ?_⟩) ?_ ?_
              rotate_left
              · intro w'
                go_simp
                with_reducible rfl
              rotate_left
              · simp only [Act.put, List.setIfInBounds_toArray, List.set_cons_zero, List.set_cons_succ, i64_w, i32_w]
                rfl
              refine pure_ (i := 5) (N := some 82) (v := ?_) (a' := ?_) #[false, true, true, true, true, true, false, false, false, false, false, false, false, false, false, false] rfl rfl (by kernel_rfl) (fun _ _ _ h => h) (Or.inl ⟨by rfl, ?_⟩) ?_ ?_
              rotate_left
              · intro w'
                go_simp
                with_reducible rfl
              rotate_left
              · simp only [Act.put, List.setIfInBounds_toArray, List.set_cons_zero, List.set_cons_succ, i64_w, i32_w]
                rfl
              refine take_ (i := 0) (N := some 77) (v := ?_) (a' := ?_) #[true, true, true, true, true, true, false, false, false, false, false, false, false, false, false, false] rfl rfl (by kernel_rfl) (fun _ _ _ h => h) (Or.inl ⟨by rfl, ?_⟩) hHeld ?_ ?_
              rotate_left
              · rintro w' ⟨s0, s1, s2, s3, s4, s5, s6⟩
                go_simp
                with_reducible rfl
              rotate_left
              · simp only [Act.put, List.setIfInBounds_toArray, List.set_cons_zero, List.set_cons_succ, i64_w, i32_w]
                rfl
              refine take_ (i := 6) (N := some 83) (v := ?_) (a' := ?_) #[true, true, true, true, true, true, true, false, false, false, false, false, false, false, false, false] rfl rfl (by kernel_rfl) (fun _ _ _ h => h) (Or.inl ⟨by rfl, ?_⟩) hHeld ?_ ?_
              rotate_left
              · rintro w' ⟨s0, s1, s2, s3, s4, s5, s6⟩
                go_simp
                with_reducible rfl
              rotate_left
              · simp only [Act.put, List.setIfInBounds_toArray, List.set_cons_zero, List.set_cons_succ, i64_w, i32_w]
                rfl
              refine pure_ (i := 7) (N := some 84) (v := ?_) (a' := ?_) #[true, true, true, true, true, true, true, true, false, false, false, false, false, false, false, false] rfl rfl (by kernel_rfl) (fun _ _ _ h => h) (Or.inl ⟨by rfl, ?_⟩) ?_ ?_
              rotate_left
              · intro w'
                go_simp
                with_reducible rfl
              rotate_left
              · simp only [Act.put, List.setIfInBounds_toArray, List.set_cons_zero, List.set_cons_succ, i64_w, i32_w]
                rfl
              refine pure_ (i := 8) (N := some 85) (v := ?_) (a' := ?_) #[true, true, true, true, true, true, true, true, true, false, false, false, false, false, false, false] rfl rfl (by kernel_rfl) (fun _ _ _ h => h) (Or.inl ⟨by rfl, ?_⟩) ?_ ?_
              rotate_left
              · intro w'
                go_simp
                with_reducible rfl
              rotate_left
              · simp only [Act.put, List.setIfInBounds_toArray, List.set_cons_zero, List.set_cons_succ, i64_w, i32_w]
                rfl
              refine join_ (σ := Nat) 2 #[true, true, true, true, true, true, true, true, true, true, true, true, true, true, false, false] (fun z_ => [(86, .tuple #[.agg #[.int .i64 3, .int .i64 n, .bool (decide (n ≤ t)), .bool true, .int .i64 (t)], .bool (decide (n ≤ t))]), (76, .tuple #[.agg #[.int .i64 3, .int .i64 n, .bool (decide (n ≤ t)), .bool true, .int .i64 (t)], .bool (decide (n ≤ t))]), (87, .agg #[.int .i64 3, .int .i64 n, .bool (decide (n ≤ t)), .bool true, .int .i64 (t)]), (88, .bool (decide (n ≤ t))), (13, .pointer (some ⟨z_, 0, none⟩))]) (fun z_ w' => Bl w g (.int .i64 3) (.int .i64 n) (.bool ob) (.bool true) (.int .i64 t) w' ∧ w'.cell? (ad.add j) = some (.int .u8 b) ∧ w'.heap[z_]? = some (.cells #[.int .i64 0, .int .i64 0, .bool false, .bool false, .int .i64 0] 25 (0, 0)) ∧ g < z_ ∧ (ad.add j).block < z_) ?_ ?_
              rotate_left
              · intro hCont
                refine two_ (i := 9) (j := 13) (Ni := some 86) (Nj := some 13) #[true, true, true, true, true, true, true, true, true, true, false, false, false, false, false, false] #[true, true, true, true, true, true, true, true, true, false, false, false, false, true, false, false] rfl rfl rfl rfl (by kernel_rfl) (by decide) (by decide) (fun K hK => ?_) (fun K hK => ?_)
                · skip
                  refine goes_ Try.func18 (by kernel_rfl) rfl #[.agg #[.int .i64 3, .int .i64 n, .bool ob, .bool true, .int .i64 t], .bool true, .bool false, .int .i64 (Int.tmod (wrap64 b) 7)] (by rfl) rfl rfl (by simp only [List.map_toArray, List.map_cons, List.map_nil]; rfl) ?_
                  with_reducible refine (hst _).mono ?_
                  rintro e w3 ⟨rfl, hb1⟩
                  refine ⟨_, rfl, ?_⟩
                  have hcb := (hb1.cell (World.block_lt_of_cell? _ _ hHeld.2.2.2.2.2.1)).trans hHeld.2.2.2.2.2.1
                  refine hK.out _ _ ⟨(hHeld.2.2.2.2.2.2.below hb1).c0, (hHeld.2.2.2.2.2.2.below hb1).c1, (hHeld.2.2.2.2.2.2.below hb1).c2, (hHeld.2.2.2.2.2.2.below hb1).c3, (hHeld.2.2.2.2.2.2.below hb1).c4, hcb, (hHeld.2.2.2.2.2.2.below hb1)⟩ (fun hHeld => ?_)
                  clear hK K
                  refine norm_ (a' := ?_) ?_ ?_
                  rotate_left
                  · show Act.put _ (some 86) _ = _
                    simp only [Act.put, List.setIfInBounds_toArray, List.set_cons_zero, List.set_cons_succ, i64_w, i32_w]
                    rfl
                  refine pure_ (i := 10) (N := some 76) (v := ?_) (a' := ?_) #[true, true, true, true, true, true, true, true, true, true, true, false, false, false, false, false] rfl rfl (by kernel_rfl) (fun _ _ _ h => h) (Or.inl ⟨by rfl, ?_⟩) ?_ ?_
                  rotate_left
                  · intro w'
                    go_simp
                    with_reducible rfl
                  rotate_left
                  · simp only [Act.put, List.setIfInBounds_toArray, List.set_cons_zero, List.set_cons_succ, i64_w, i32_w]
                    rfl
                  refine pure_ (i := 11) (N := some 87) (v := ?_) (a' := ?_) #[true, true, true, true, true, true, true, true, true, true, true, true, false, false, false, false] rfl rfl (by kernel_rfl) (fun _ _ _ h => h) (Or.inl ⟨by rfl, ?_⟩) ?_ ?_
                  rotate_left
                  · intro w'
                    go_simp
                    with_reducible rfl
                  rotate_left
                  · simp only [Act.put, List.setIfInBounds_toArray, List.set_cons_zero, List.set_cons_succ, i64_w, i32_w]
                    rfl
                  refine pure_ (i := 12) (N := some 88) (v := ?_) (a' := ?_) #[true, true, true, true, true, true, true, true, true, true, true, true, true, false, false, false] rfl rfl (by kernel_rfl) (fun _ _ _ h => h) (Or.inl ⟨by rfl, ?_⟩) ?_ ?_
                  rotate_left
                  · intro w'
                    go_simp
                    with_reducible rfl
                  rotate_left
                  · simp only [Act.put, List.setIfInBounds_toArray, List.set_cons_zero, List.set_cons_succ, i64_w, i32_w]
                    rfl
                  refine one_ (i := 13) (N := some 13) #[true, true, true, true, true, true, true, true, true, true, true, true, true, true, false, false] rfl rfl (by kernel_rfl) (by decide) (fun K hK => ?_)
                  have hcc := hHeld.2.2.2.2.2.1
                  have hlast := hHeld.2.2.2.2.2.2
                  refine value_ (w1 := ?_) (v := ?_) (by rfl) rfl ?_ ?_
                  rotate_left 2
                  · go_simp
                    constructor
                    · rfl
                    · rfl
                  refine hK.out _ _ ⟨(hlast.alloc _).c0, (hlast.alloc _).c1, (hlast.alloc _).c2, (hlast.alloc _).c3, (hlast.alloc _).c4, ((World.cell?_alloc_lt _ _ _ (World.block_lt_of_cell? _ _ hcc)).trans hcc), (hlast.alloc _)⟩ (fun hHeld => ?_)
                  clear hK K
                  refine norm_ (a' := ?_) ?_ ?_
                  rotate_left
                  · show Act.put _ (some 13) _ = _
                    simp only [Act.put, List.setIfInBounds_toArray, List.set_cons_zero, List.set_cons_succ, i64_w, i32_w]
                    rfl
                  exact norm_ (by simp only [putAll, Act.put, List.setIfInBounds_toArray, List.set_cons_zero, List.set_cons_succ]) (hCont w3.heap.size _ ⟨hHeld.2.2.2.2.2.2, hHeld.2.2.2.2.2.1, heap_alloc_new w3 _, hlast.lt, World.block_lt_of_cell? _ _ hcc⟩)
                · skip
                  have hcc := hHeld.2.2.2.2.2.1
                  have hlast := hHeld.2.2.2.2.2.2
                  refine value_ (w1 := ?_) (v := ?_) (by rfl) rfl ?_ ?_
                  rotate_left 2
                  · go_simp
                    constructor
                    · rfl
                    · rfl
                  refine hK.out _ _ ⟨(hlast.alloc _).c0, (hlast.alloc _).c1, (hlast.alloc _).c2, (hlast.alloc _).c3, (hlast.alloc _).c4, ((World.cell?_alloc_lt _ _ _ (World.block_lt_of_cell? _ _ hcc)).trans hcc), (hlast.alloc _)⟩ (fun hHeld => ?_)
                  clear hK K
                  refine norm_ (a' := ?_) ?_ ?_
                  rotate_left
                  · show Act.put _ (some 13) _ = _
                    simp only [Act.put, List.setIfInBounds_toArray, List.set_cons_zero, List.set_cons_succ, i64_w, i32_w]
                    rfl
                  refine one_ (i := 9) (N := some 86) #[true, true, true, true, true, true, true, true, true, true, false, false, false, true, false, false] rfl rfl (by kernel_rfl) (by decide) (fun K hK => ?_)
                  refine goes_ Try.func18 (by kernel_rfl) rfl #[.agg #[.int .i64 3, .int .i64 n, .bool ob, .bool true, .int .i64 t], .bool true, .bool false, .int .i64 (Int.tmod (wrap64 b) 7)] (by rfl) rfl rfl (by simp only [List.map_toArray, List.map_cons, List.map_nil]; rfl) ?_
                  with_reducible refine (hst _).mono ?_
                  rintro e w3 ⟨rfl, hb1⟩
                  refine ⟨_, rfl, ?_⟩
                  have hcb := (hb1.cell (World.block_lt_of_cell? _ _ hHeld.2.2.2.2.2.1)).trans hHeld.2.2.2.2.2.1
                  have hg9 := blk_below (heap_alloc_new wr.drew (.cells #[.int .i64 0, .int .i64 0, .bool false, .bool false, .int .i64 0] 25)) hb1
                  refine hK.out _ _ ⟨(hHeld.2.2.2.2.2.2.below hb1).c0, (hHeld.2.2.2.2.2.2.below hb1).c1, (hHeld.2.2.2.2.2.2.below hb1).c2, (hHeld.2.2.2.2.2.2.below hb1).c3, (hHeld.2.2.2.2.2.2.below hb1).c4, hcb, (hHeld.2.2.2.2.2.2.below hb1)⟩ (fun hHeld => ?_)
                  clear hK K
                  refine norm_ (a' := ?_) ?_ ?_
                  rotate_left
                  · show Act.put _ (some 86) _ = _
                    simp only [Act.put, List.setIfInBounds_toArray, List.set_cons_zero, List.set_cons_succ, i64_w, i32_w]
                    rfl
                  refine pure_ (i := 10) (N := some 76) (v := ?_) (a' := ?_) #[true, true, true, true, true, true, true, true, true, true, true, false, false, true, false, false] rfl rfl (by kernel_rfl) (fun _ _ _ h => h) (Or.inl ⟨by rfl, ?_⟩) ?_ ?_
                  rotate_left
                  · intro w'
                    go_simp
                    with_reducible rfl
                  rotate_left
                  · simp only [Act.put, List.setIfInBounds_toArray, List.set_cons_zero, List.set_cons_succ, i64_w, i32_w]
                    rfl
                  refine pure_ (i := 11) (N := some 87) (v := ?_) (a' := ?_) #[true, true, true, true, true, true, true, true, true, true, true, true, false, true, false, false] rfl rfl (by kernel_rfl) (fun _ _ _ h => h) (Or.inl ⟨by rfl, ?_⟩) ?_ ?_
                  rotate_left
                  · intro w'
                    go_simp
                    with_reducible rfl
                  rotate_left
                  · simp only [Act.put, List.setIfInBounds_toArray, List.set_cons_zero, List.set_cons_succ, i64_w, i32_w]
                    rfl
                  refine pure_ (i := 12) (N := some 88) (v := ?_) (a' := ?_) #[true, true, true, true, true, true, true, true, true, true, true, true, true, true, false, false] rfl rfl (by kernel_rfl) (fun _ _ _ h => h) (Or.inl ⟨by rfl, ?_⟩) ?_ ?_
                  rotate_left
                  · intro w'
                    go_simp
                    with_reducible rfl
                  rotate_left
                  · simp only [Act.put, List.setIfInBounds_toArray, List.set_cons_zero, List.set_cons_succ, i64_w, i32_w]
                    rfl
                  exact norm_ (by simp only [putAll, Act.put, List.setIfInBounds_toArray, List.set_cons_zero, List.set_cons_succ]) (hCont wr.heap.size _ ⟨hHeld.2.2.2.2.2.2, hHeld.2.2.2.2.2.1, hg9, hB0.lt, World.block_lt_of_cell? _ _ hcell⟩)
              rintro z w4 ⟨hB4, hc4, hZ4, hL4, hA4⟩
              have hHeld : w4.cell? ⟨g, 0, none⟩ = some (.int .i64 3) ∧ w4.cell? ⟨g, 1, none⟩ = some (.int .i64 n) ∧ w4.cell? ⟨g, 2, none⟩ = some (.bool ob) ∧ w4.cell? ⟨g, 3, none⟩ = some (.bool true) ∧ w4.cell? ⟨g, 4, none⟩ = some (.int .i64 t) ∧ w4.cell? (ad.add j) = some (.int .u8 b) ∧ Bl w g (.int .i64 3) (.int .i64 n) (.bool ob) (.bool true) (.int .i64 t) w4 := ⟨hB4.c0, hB4.c1, hB4.c2, hB4.c3, hB4.c4, hc4, hB4⟩
              refine norm_ (a' := ?_) ?_ ?_
              rotate_left
              · simp only [putAll, Act.put, List.setIfInBounds_toArray, List.set_cons_zero, List.set_cons_succ]
                rfl
              refine one_ (i := 14) (N := none) #[true, true, true, true, true, true, true, true, true, true, true, true, true, true, true, false] rfl rfl (by kernel_rfl) (by decide) (fun K hK => ?_)
              refine skip_ (w1 := ?_) (by rfl) rfl ?_ ?_
              rotate_left
              · have hu2 := Try.underlying25
                have i0 := (blk_cell hZ4 0).trans rfl
                have i1 := (blk_cell hZ4 1).trans rfl
                have i2 := (blk_cell hZ4 2).trans rfl
                have i3 := (blk_cell hZ4 3).trans rfl
                have i4 := (blk_cell hZ4 4).trans rfl
                have j0 := blk_frozen hZ4 0
                have j1 := blk_frozen hZ4 1
                have j2 := blk_frozen hZ4 2
                have j3 := blk_frozen hZ4 3
                have j4 := blk_frozen hZ4 4
                go_simp
                rfl
              have hZ5 : (((((w4.setCell ⟨z, 0, none⟩ (.int .i64 3)).setCell ⟨z, 1, none⟩ (.int .i64 n)).setCell ⟨z, 2, none⟩ (.bool (decide (n ≤ t)))).setCell ⟨z, 3, none⟩ (.bool true)).setCell ⟨z, 4, none⟩ (.int .i64 (t))).heap[z]? = some (.cells #[.int .i64 3, .int .i64 n, .bool (decide (n ≤ t)), .bool true, .int .i64 (t)] 25 (0, 0)) := (blk_put (blk_put (blk_put (blk_put (blk_put hZ4 0 _ rfl) 1 _ rfl) 2 _ rfl) 3 _ rfl) 4 _ rfl)
              have hB5 := (((((hB4.far hL4 0 (.int .i64 3)).far hL4 1 (.int .i64 n)).far hL4 2 (.bool (decide (n ≤ t)))).far hL4 3 (.bool true)).far hL4 4 (.int .i64 (t)))
              have hc5 : (((((w4.setCell ⟨z, 0, none⟩ (.int .i64 3)).setCell ⟨z, 1, none⟩ (.int .i64 n)).setCell ⟨z, 2, none⟩ (.bool (decide (n ≤ t)))).setCell ⟨z, 3, none⟩ (.bool true)).setCell ⟨z, 4, none⟩ (.int .i64 (t))).cell? (ad.add j) = some (.int .u8 b) := by
                have l : ∀ q : Nat, (⟨z, q, none⟩ : Addr).block ≠ (ad.add j).block := fun q => by simp only; omega
                rw [World.cell?_setCell_far _ _ _ _ (l _), World.cell?_setCell_far _ _ _ _ (l _), World.cell?_setCell_far _ _ _ _ (l _), World.cell?_setCell_far _ _ _ _ (l _), World.cell?_setCell_far _ _ _ _ (l _)]
                exact hc4
              generalize (((((w4.setCell ⟨z, 0, none⟩ (.int .i64 3)).setCell ⟨z, 1, none⟩ (.int .i64 n)).setCell ⟨z, 2, none⟩ (.bool (decide (n ≤ t)))).setCell ⟨z, 3, none⟩ (.bool true)).setCell ⟨z, 4, none⟩ (.int .i64 (t))) = w5 at hZ5 hB5 hc5 ⊢
              refine hK.out _ _ ⟨hB5.c0, hB5.c1, hB5.c2, hB5.c3, hB5.c4, hc5, hB5⟩ (fun hHeld => ?_)
              clear hK K
              refine pure_ (i := 15) (N := some 14) (v := ?_) (a' := ?_) #[true, true, true, true, true, true, true, true, true, true, true, true, true, true, true, true] rfl rfl (by kernel_rfl) (fun _ _ _ h => h) (Or.inl ⟨by rfl, ?_⟩) ?_ ?_
              rotate_left
              · intro w'
                go_simp
                with_reducible rfl
              rotate_left
              · simp only [Act.put, List.setIfInBounds_toArray, List.set_cons_zero, List.set_cons_succ, i64_w, i32_w]
                rfl
              refine done_ (by kernel_rfl) ?_
              clear hHeld
              have i0 := (blk_cell hZ5 0).trans rfl
              have k0 := hB5.c0
              have f0 := blk_frozen hB5.1 0
              have i1 := (blk_cell hZ5 1).trans rfl
              have k1 := hB5.c1
              have f1 := blk_frozen hB5.1 1
              have i2 := (blk_cell hZ5 2).trans rfl
              have k2 := hB5.c2
              have f2 := blk_frozen hB5.1 2
              have i3 := (blk_cell hZ5 3).trans rfl
              have k3 := hB5.c3
              have f3 := blk_frozen hB5.1 3
              have i4 := (blk_cell hZ5 4).trans rfl
              have k4 := hB5.c4
              have f4 := blk_frozen hB5.1 4
              go_wp2
              go_roundw
              case rel => exact ⟨j + 1, _, _, _, by omega, by omega, (by omega : (0 : Int) ≤ t), (by omega : t ≤ ((j + 1 : Nat) : Int)), by go_num, rfl, rfl, hB5.all _ _ _ _ _⟩
              case measure => simp [intOf]; omega
        · have hdt : 0 ≤ Int.tmod (wrap64 b) 7 ∧ Int.tmod (wrap64 b) 7 ≤ 6 := by rw [wrap_id (by omega) (by omega)]; have z := tmod_bd (a := b) (b := 7) hbb.1 (by omega); omega
          have hst := cnt_step n t (Int.tmod (wrap64 b) 7) ob wb xb true h0 h1 ht0 (by omega) hdt.1 hdt.2 (0) (by simp)
          clear hdt
          go_wp2_with fail
          have hB0 := hB.drew
          clear hB
          refine start_ (n := 16) (S := fun w' => w'.cell? ⟨g, 0, none⟩ = some (.int .i64 3) ∧ w'.cell? ⟨g, 1, none⟩ = some (.int .i64 n) ∧ w'.cell? ⟨g, 2, none⟩ = some (.bool ob) ∧ w'.cell? ⟨g, 3, none⟩ = some (.bool wb) ∧ w'.cell? ⟨g, 4, none⟩ = some (.int .i64 t) ∧ w'.cell? (ad.add j) = some (.int .u8 b) ∧ Bl w g (.int .i64 3) (.int .i64 n) (.bool ob) (.bool wb) (.int .i64 t) w') (ds := []) #[false, false, false, false, false, false, false, false, false, false, false, false, false, false, false, false] (by kernel_rfl) rfl rfl ⟨hB0.c0, hB0.c1, hB0.c2, hB0.c3, hB0.c4, hcell, hB0⟩ (fun hHeld => ?_)
          refine pure_ (i := 1) (N := some 78) (v := ?_) (a' := ?_) #[false, true, false, false, false, false, false, false, false, false, false, false, false, false, false, false] rfl rfl (by kernel_rfl) (fun _ _ _ h => h) (Or.inl ⟨by rfl, ?_⟩) ?_ ?_
          rotate_left
          · intro w'
            go_simp
            with_reducible rfl
          rotate_left
          · simp only [Act.put, List.setIfInBounds_toArray, List.set_cons_zero, List.set_cons_succ, i64_w, i32_w]
            rfl
          refine pure_ (i := 2) (N := some 79) (v := ?_) (a' := ?_) #[false, true, true, false, false, false, false, false, false, false, false, false, false, false, false, false] rfl rfl (by kernel_rfl) (fun _ _ _ h => h) (Or.inl ⟨by rfl, ?_⟩) ?_ ?_
          rotate_left
          · intro w'
            go_simp
            with_reducible rfl
          rotate_left
          · simp only [Act.put, List.setIfInBounds_toArray, List.set_cons_zero, List.set_cons_succ, i64_w, i32_w]
            rfl
          refine pure_ (i := 3) (N := some 80) (v := ?_) (a' := ?_) #[false, true, true, true, false, false, false, false, false, false, false, false, false, false, false, false] rfl rfl (by kernel_rfl) (fun _ _ _ h => h) (Or.inl ⟨by rfl, ?_⟩) ?_ ?_
          rotate_left
          · intro w'
            go_simp
            with_reducible rfl
          rotate_left
          · simp only [Act.put, List.setIfInBounds_toArray, List.set_cons_zero, List.set_cons_succ, i64_w, i32_w]
            rfl
          refine pure_ (i := 4) (N := some 81) (v := ?_) (a' := ?_) #[false, true, true, true, true, false, false, false, false, false, false, false, false, false, false, false] rfl rfl (by kernel_rfl) (fun _ _ _ h => h) (Or.inl ⟨by rfl, ?_⟩) ?_ ?_
          rotate_left
          · intro w'
            go_simp
            with_reducible rfl
          rotate_left
          · simp only [Act.put, List.setIfInBounds_toArray, List.set_cons_zero, List.set_cons_succ, i64_w, i32_w]
            rfl
          refine pure_ (i := 5) (N := some 82) (v := ?_) (a' := ?_) #[false, true, true, true, true, true, false, false, false, false, false, false, false, false, false, false] rfl rfl (by kernel_rfl) (fun _ _ _ h => h) (Or.inl ⟨by rfl, ?_⟩) ?_ ?_
          rotate_left
          · intro w'
            go_simp
            with_reducible rfl
          rotate_left
          · simp only [Act.put, List.setIfInBounds_toArray, List.set_cons_zero, List.set_cons_succ, i64_w, i32_w]
            rfl
          refine take_ (i := 0) (N := some 77) (v := ?_) (a' := ?_) #[true, true, true, true, true, true, false, false, false, false, false, false, false, false, false, false] rfl rfl (by kernel_rfl) (fun _ _ _ h => h) (Or.inl ⟨by rfl, ?_⟩) hHeld ?_ ?_
          rotate_left
          · rintro w' ⟨s0, s1, s2, s3, s4, s5, s6⟩
            go_simp
            with_reducible rfl
          rotate_left
          · simp only [Act.put, List.setIfInBounds_toArray, List.set_cons_zero, List.set_cons_succ, i64_w, i32_w]
            rfl
          refine take_ (i := 6) (N := some 83) (v := ?_) (a' := ?_) #[true, true, true, true, true, true, true, false, false, false, false, false, false, false, false, false] rfl rfl (by kernel_rfl) (fun _ _ _ h => h) (Or.inl ⟨by rfl, ?_⟩) hHeld ?_ ?_
          rotate_left
          · rintro w' ⟨s0, s1, s2, s3, s4, s5, s6⟩
            go_simp
            with_reducible rfl
          rotate_left
          · simp only [Act.put, List.setIfInBounds_toArray, List.set_cons_zero, List.set_cons_succ, i64_w, i32_w]
            rfl
          refine pure_ (i := 7) (N := some 84) (v := ?_) (a' := ?_) #[true, true, true, true, true, true, true, true, false, false, false, false, false, false, false, false] rfl rfl (by kernel_rfl) (fun _ _ _ h => h) (Or.inl ⟨by rfl, ?_⟩) ?_ ?_
          rotate_left
          · intro w'
            go_simp
            with_reducible rfl
          rotate_left
          · simp only [Act.put, List.setIfInBounds_toArray, List.set_cons_zero, List.set_cons_succ, i64_w, i32_w]
            rfl
          refine pure_ (i := 8) (N := some 85) (v := ?_) (a' := ?_) #[true, true, true, true, true, true, true, true, true, false, false, false, false, false, false, false] rfl rfl (by kernel_rfl) (fun _ _ _ h => h) (Or.inl ⟨by rfl, ?_⟩) ?_ ?_
          rotate_left
          · intro w'
            go_simp
            with_reducible rfl
          rotate_left
          · simp only [Act.put, List.setIfInBounds_toArray, List.set_cons_zero, List.set_cons_succ, i64_w, i32_w]
            rfl
          refine join_ (σ := Nat) 2 #[true, true, true, true, true, true, true, true, true, true, true, true, true, true, false, false] (fun z_ => [(86, .tuple #[.agg #[.int .i64 3, .int .i64 n, .bool (decide (n ≤ 0)), .bool xb, .int .i64 (0)], .bool (decide (n ≤ 0))]), (76, .tuple #[.agg #[.int .i64 3, .int .i64 n, .bool (decide (n ≤ 0)), .bool xb, .int .i64 (0)], .bool (decide (n ≤ 0))]), (87, .agg #[.int .i64 3, .int .i64 n, .bool (decide (n ≤ 0)), .bool xb, .int .i64 (0)]), (88, .bool (decide (n ≤ 0))), (13, .pointer (some ⟨z_, 0, none⟩))]) (fun z_ w' => Bl w g (.int .i64 3) (.int .i64 n) (.bool ob) (.bool wb) (.int .i64 t) w' ∧ w'.cell? (ad.add j) = some (.int .u8 b) ∧ w'.heap[z_]? = some (.cells #[.int .i64 0, .int .i64 0, .bool false, .bool false, .int .i64 0] 25 (0, 0)) ∧ g < z_ ∧ (ad.add j).block < z_) ?_ ?_
          rotate_left
          · intro hCont
            refine two_ (i := 9) (j := 13) (Ni := some 86) (Nj := some 13) #[true, true, true, true, true, true, true, true, true, true, false, false, false, false, false, false] #[true, true, true, true, true, true, true, true, true, false, false, false, false, true, false, false] rfl rfl rfl rfl (by kernel_rfl) (by decide) (by decide) (fun K hK => ?_) (fun K hK => ?_)
            · skip
              refine goes_ Try.func18 (by kernel_rfl) rfl #[.agg #[.int .i64 3, .int .i64 n, .bool ob, .bool wb, .int .i64 t], .bool xb, .bool true, .int .i64 (Int.tmod (wrap64 b) 7)] (by rfl) rfl rfl (by simp only [List.map_toArray, List.map_cons, List.map_nil]; rfl) ?_
              with_reducible refine (hst _).mono ?_
              rintro e w3 ⟨rfl, hb1⟩
              refine ⟨_, rfl, ?_⟩
              have hcb := (hb1.cell (World.block_lt_of_cell? _ _ hHeld.2.2.2.2.2.1)).trans hHeld.2.2.2.2.2.1
              refine hK.out _ _ ⟨(hHeld.2.2.2.2.2.2.below hb1).c0, (hHeld.2.2.2.2.2.2.below hb1).c1, (hHeld.2.2.2.2.2.2.below hb1).c2, (hHeld.2.2.2.2.2.2.below hb1).c3, (hHeld.2.2.2.2.2.2.below hb1).c4, hcb, (hHeld.2.2.2.2.2.2.below hb1)⟩ (fun hHeld => ?_)
              clear hK K
              refine norm_ (a' := ?_) ?_ ?_
              rotate_left
              · show Act.put _ (some 86) _ = _
                simp only [Act.put, List.setIfInBounds_toArray, List.set_cons_zero, List.set_cons_succ, i64_w, i32_w]
                rfl
              refine pure_ (i := 10) (N := some 76) (v := ?_) (a' := ?_) #[true, true, true, true, true, true, true, true, true, true, true, false, false, false, false, false] rfl rfl (by kernel_rfl) (fun _ _ _ h => h) (Or.inl ⟨by rfl, ?_⟩) ?_ ?_
              rotate_left
              · intro w'
                go_simp
                with_reducible rfl
              rotate_left
              · simp only [Act.put, List.setIfInBounds_toArray, List.set_cons_zero, List.set_cons_succ, i64_w, i32_w]
                rfl
              refine pure_ (i := 11) (N := some 87) (v := ?_) (a' := ?_) #[true, true, true, true, true, true, true, true, true, true, true, true, false, false, false, false] rfl rfl (by kernel_rfl) (fun _ _ _ h => h) (Or.inl ⟨by rfl, ?_⟩) ?_ ?_
              rotate_left
              · intro w'
                go_simp
                with_reducible rfl
              rotate_left
              · simp only [Act.put, List.setIfInBounds_toArray, List.set_cons_zero, List.set_cons_succ, i64_w, i32_w]
                rfl
              refine pure_ (i := 12) (N := some 88) (v := ?_) (a' := ?_) #[true, true, true, true, true, true, true, true, true, true, true, true, true, false, false, false] rfl rfl (by kernel_rfl) (fun _ _ _ h => h) (Or.inl ⟨by rfl, ?_⟩) ?_ ?_
              rotate_left
              · intro w'
                go_simp
                with_reducible rfl
              rotate_left
              · simp only [Act.put, List.setIfInBounds_toArray, List.set_cons_zero, List.set_cons_succ, i64_w, i32_w]
                rfl
              refine one_ (i := 13) (N := some 13) #[true, true, true, true, true, true, true, true, true, true, true, true, true, true, false, false] rfl rfl (by kernel_rfl) (by decide) (fun K hK => ?_)
              have hcc := hHeld.2.2.2.2.2.1
              have hlast := hHeld.2.2.2.2.2.2
              refine value_ (w1 := ?_) (v := ?_) (by rfl) rfl ?_ ?_
              rotate_left 2
              · go_simp
                constructor
                · rfl
                · rfl
              refine hK.out _ _ ⟨(hlast.alloc _).c0, (hlast.alloc _).c1, (hlast.alloc _).c2, (hlast.alloc _).c3, (hlast.alloc _).c4, ((World.cell?_alloc_lt _ _ _ (World.block_lt_of_cell? _ _ hcc)).trans hcc), (hlast.alloc _)⟩ (fun hHeld => ?_)
              clear hK K
              refine norm_ (a' := ?_) ?_ ?_
              rotate_left
              · show Act.put _ (some 13) _ = _
                simp only [Act.put, List.setIfInBounds_toArray, List.set_cons_zero, List.set_cons_succ, i64_w, i32_w]
                rfl
              exact norm_ (by simp only [putAll, Act.put, List.setIfInBounds_toArray, List.set_cons_zero, List.set_cons_succ]) (hCont w3.heap.size _ ⟨hHeld.2.2.2.2.2.2, hHeld.2.2.2.2.2.1, heap_alloc_new w3 _, hlast.lt, World.block_lt_of_cell? _ _ hcc⟩)
            · skip
              have hcc := hHeld.2.2.2.2.2.1
              have hlast := hHeld.2.2.2.2.2.2
              refine value_ (w1 := ?_) (v := ?_) (by rfl) rfl ?_ ?_
              rotate_left 2
              · go_simp
                constructor
                · rfl
                · rfl
              refine hK.out _ _ ⟨(hlast.alloc _).c0, (hlast.alloc _).c1, (hlast.alloc _).c2, (hlast.alloc _).c3, (hlast.alloc _).c4, ((World.cell?_alloc_lt _ _ _ (World.block_lt_of_cell? _ _ hcc)).trans hcc), (hlast.alloc _)⟩ (fun hHeld => ?_)
              clear hK K
              refine norm_ (a' := ?_) ?_ ?_
              rotate_left
              · show Act.put _ (some 13) _ = _
                simp only [Act.put, List.setIfInBounds_toArray, List.set_cons_zero, List.set_cons_succ, i64_w, i32_w]
                rfl
              refine one_ (i := 9) (N := some 86) #[true, true, true, true, true, true, true, true, true, true, false, false, false, true, false, false] rfl rfl (by kernel_rfl) (by decide) (fun K hK => ?_)
              refine goes_ Try.func18 (by kernel_rfl) rfl #[.agg #[.int .i64 3, .int .i64 n, .bool ob, .bool wb, .int .i64 t], .bool xb, .bool true, .int .i64 (Int.tmod (wrap64 b) 7)] (by rfl) rfl rfl (by simp only [List.map_toArray, List.map_cons, List.map_nil]; rfl) ?_
              with_reducible refine (hst _).mono ?_
              rintro e w3 ⟨rfl, hb1⟩
              refine ⟨_, rfl, ?_⟩
              have hcb := (hb1.cell (World.block_lt_of_cell? _ _ hHeld.2.2.2.2.2.1)).trans hHeld.2.2.2.2.2.1
              have hg9 := blk_below (heap_alloc_new wr.drew (.cells #[.int .i64 0, .int .i64 0, .bool false, .bool false, .int .i64 0] 25)) hb1
              refine hK.out _ _ ⟨(hHeld.2.2.2.2.2.2.below hb1).c0, (hHeld.2.2.2.2.2.2.below hb1).c1, (hHeld.2.2.2.2.2.2.below hb1).c2, (hHeld.2.2.2.2.2.2.below hb1).c3, (hHeld.2.2.2.2.2.2.below hb1).c4, hcb, (hHeld.2.2.2.2.2.2.below hb1)⟩ (fun hHeld => ?_)
              clear hK K
              refine norm_ (a' := ?_) ?_ ?_
              rotate_left
              · show Act.put _ (some 86) _ = _
                simp only [Act.put, List.setIfInBounds_toArray, List.set_cons_zero, List.set_cons_succ, i64_w, i32_w]
                rfl
              refine pure_ (i := 10) (N := some 76) (v := ?_) (a' := ?_) #[true, true, true, true, true, true, true, true, true, true, true, false, false, true, false, false] rfl rfl (by kernel_rfl) (fun _ _ _ h => h) (Or.inl ⟨by rfl, ?_⟩) ?_ ?_
              rotate_left
              · intro w'
                go_simp
                with_reducible rfl
              rotate_left
              · simp only [Act.put, List.setIfInBounds_toArray, List.set_cons_zero, List.set_cons_succ, i64_w, i32_w]
                rfl
              refine pure_ (i := 11) (N := some 87) (v := ?_) (a' := ?_) #[true, true, true, true, true, true, true, true, true, true, true, true, false, true, false, false] rfl rfl (by kernel_rfl) (fun _ _ _ h => h) (Or.inl ⟨by rfl, ?_⟩) ?_ ?_
              rotate_left
              · intro w'
                go_simp
                with_reducible rfl
              rotate_left
              · simp only [Act.put, List.setIfInBounds_toArray, List.set_cons_zero, List.set_cons_succ, i64_w, i32_w]
                rfl
              refine pure_ (i := 12) (N := some 88) (v := ?_) (a' := ?_) #[true, true, true, true, true, true, true, true, true, true, true, true, true, true, false, false] rfl rfl (by kernel_rfl) (fun _ _ _ h => h) (Or.inl ⟨by rfl, ?_⟩) ?_ ?_
              rotate_left
              · intro w'
                go_simp
                with_reducible rfl
              rotate_left
              · simp only [Act.put, List.setIfInBounds_toArray, List.set_cons_zero, List.set_cons_succ, i64_w, i32_w]
                rfl
              exact norm_ (by simp only [putAll, Act.put, List.setIfInBounds_toArray, List.set_cons_zero, List.set_cons_succ]) (hCont wr.heap.size _ ⟨hHeld.2.2.2.2.2.2, hHeld.2.2.2.2.2.1, hg9, hB0.lt, World.block_lt_of_cell? _ _ hcell⟩)
          rintro z w4 ⟨hB4, hc4, hZ4, hL4, hA4⟩
          have hHeld : w4.cell? ⟨g, 0, none⟩ = some (.int .i64 3) ∧ w4.cell? ⟨g, 1, none⟩ = some (.int .i64 n) ∧ w4.cell? ⟨g, 2, none⟩ = some (.bool ob) ∧ w4.cell? ⟨g, 3, none⟩ = some (.bool wb) ∧ w4.cell? ⟨g, 4, none⟩ = some (.int .i64 t) ∧ w4.cell? (ad.add j) = some (.int .u8 b) ∧ Bl w g (.int .i64 3) (.int .i64 n) (.bool ob) (.bool wb) (.int .i64 t) w4 := ⟨hB4.c0, hB4.c1, hB4.c2, hB4.c3, hB4.c4, hc4, hB4⟩
          refine norm_ (a' := ?_) ?_ ?_
          rotate_left
          · simp only [putAll, Act.put, List.setIfInBounds_toArray, List.set_cons_zero, List.set_cons_succ]
            rfl
          refine one_ (i := 14) (N := none) #[true, true, true, true, true, true, true, true, true, true, true, true, true, true, true, false] rfl rfl (by kernel_rfl) (by decide) (fun K hK => ?_)
          refine skip_ (w1 := ?_) (by rfl) rfl ?_ ?_
          rotate_left
          · have hu2 := Try.underlying25
            have i0 := (blk_cell hZ4 0).trans rfl
            have i1 := (blk_cell hZ4 1).trans rfl
            have i2 := (blk_cell hZ4 2).trans rfl
            have i3 := (blk_cell hZ4 3).trans rfl
            have i4 := (blk_cell hZ4 4).trans rfl
            have j0 := blk_frozen hZ4 0
            have j1 := blk_frozen hZ4 1
            have j2 := blk_frozen hZ4 2
            have j3 := blk_frozen hZ4 3
            have j4 := blk_frozen hZ4 4
            go_simp
            rfl
          have hZ5 : (((((w4.setCell ⟨z, 0, none⟩ (.int .i64 3)).setCell ⟨z, 1, none⟩ (.int .i64 n)).setCell ⟨z, 2, none⟩ (.bool (decide (n ≤ 0)))).setCell ⟨z, 3, none⟩ (.bool xb)).setCell ⟨z, 4, none⟩ (.int .i64 (0))).heap[z]? = some (.cells #[.int .i64 3, .int .i64 n, .bool (decide (n ≤ 0)), .bool xb, .int .i64 (0)] 25 (0, 0)) := (blk_put (blk_put (blk_put (blk_put (blk_put hZ4 0 _ rfl) 1 _ rfl) 2 _ rfl) 3 _ rfl) 4 _ rfl)
          have hB5 := (((((hB4.far hL4 0 (.int .i64 3)).far hL4 1 (.int .i64 n)).far hL4 2 (.bool (decide (n ≤ 0)))).far hL4 3 (.bool xb)).far hL4 4 (.int .i64 (0)))
          have hc5 : (((((w4.setCell ⟨z, 0, none⟩ (.int .i64 3)).setCell ⟨z, 1, none⟩ (.int .i64 n)).setCell ⟨z, 2, none⟩ (.bool (decide (n ≤ 0)))).setCell ⟨z, 3, none⟩ (.bool xb)).setCell ⟨z, 4, none⟩ (.int .i64 (0))).cell? (ad.add j) = some (.int .u8 b) := by
            have l : ∀ q : Nat, (⟨z, q, none⟩ : Addr).block ≠ (ad.add j).block := fun q => by simp only; omega
            rw [World.cell?_setCell_far _ _ _ _ (l _), World.cell?_setCell_far _ _ _ _ (l _), World.cell?_setCell_far _ _ _ _ (l _), World.cell?_setCell_far _ _ _ _ (l _), World.cell?_setCell_far _ _ _ _ (l _)]
            exact hc4
          generalize (((((w4.setCell ⟨z, 0, none⟩ (.int .i64 3)).setCell ⟨z, 1, none⟩ (.int .i64 n)).setCell ⟨z, 2, none⟩ (.bool (decide (n ≤ 0)))).setCell ⟨z, 3, none⟩ (.bool xb)).setCell ⟨z, 4, none⟩ (.int .i64 (0))) = w5 at hZ5 hB5 hc5 ⊢
          refine hK.out _ _ ⟨hB5.c0, hB5.c1, hB5.c2, hB5.c3, hB5.c4, hc5, hB5⟩ (fun hHeld => ?_)
          clear hK K
          refine pure_ (i := 15) (N := some 14) (v := ?_) (a' := ?_) #[true, true, true, true, true, true, true, true, true, true, true, true, true, true, true, true] rfl rfl (by kernel_rfl) (fun _ _ _ h => h) (Or.inl ⟨by rfl, ?_⟩) ?_ ?_
          rotate_left
          · intro w'
            go_simp
            with_reducible rfl
          rotate_left
          · simp only [Act.put, List.setIfInBounds_toArray, List.set_cons_zero, List.set_cons_succ, i64_w, i32_w]
            rfl
          refine done_ (by kernel_rfl) ?_
          clear hHeld
          have i0 := (blk_cell hZ5 0).trans rfl
          have k0 := hB5.c0
          have f0 := blk_frozen hB5.1 0
          have i1 := (blk_cell hZ5 1).trans rfl
          have k1 := hB5.c1
          have f1 := blk_frozen hB5.1 1
          have i2 := (blk_cell hZ5 2).trans rfl
          have k2 := hB5.c2
          have f2 := blk_frozen hB5.1 2
          have i3 := (blk_cell hZ5 3).trans rfl
          have k3 := hB5.c3
          have f3 := blk_frozen hB5.1 3
          have i4 := (blk_cell hZ5 4).trans rfl
          have k4 := hB5.c4
          have f4 := blk_frozen hB5.1 4
          go_wp2
          go_roundw
          case rel => exact ⟨j + 1, _, _, _, by omega, by omega, (by omega : (0 : Int) ≤ 0), (by omega : 0 ≤ ((j + 1 : Nat) : Int)), by go_num, rfl, rfl, hB5.all _ _ _ _ _⟩
          case measure => simp [intOf]; omega
      · have e2 : decide (j < 20) = false := by simp; omega
        go_wp2
        go_ret
        exact ⟨rfl, hB.2.2⟩
    · have e1 : decide (j < l1.length) = false := by simp; omega
      go_wp2
      go_ret
      exact ⟨rfl, hB.2.2⟩
set_option maxRecDepth 100000 in
theorem all (A0 A1 : Option Addr) (c0 c1 : Nat) (l0 l1 : List Int) (w : World) (hr0 : Kd.C (Kd.int .u8) w A0 l0.length l0) (hc0 : l0.length ≤ c0) (hr1 : Kd.C (Kd.int .u8) w A1 l1.length l1) (hc1 : l1.length ≤ c1) (hb0 : Byt l0) (hb1 : Byt l1) :
    Calls Try.prog 5 #[.slice A0 l0.length c0, .slice A1 l1.length c1] w fun e w' => e = .returned (.bool true) ∧ Below w.heap.size w w' := by
  by_cases h0 : (l0.length : Int) > 1048576
  · have t1 : decide (1048576 < (l0.length : Int)) = true := by simpa using h0
    clear h0
    go_enter Try.func5, Try.ntmps5
    go_wp2
    go_ret
    exact ⟨rfl, Below.refl _ _⟩
  by_cases h1 : (l1.length : Int) > 1048576
  · have t1 : decide (1048576 < (l0.length : Int)) = false := by simpa using h0
    have t2 : decide (1048576 < (l1.length : Int)) = true := by simpa using h1
    clear h0 h1
    go_enter Try.func5, Try.ntmps5
    go_wp2
    go_ret
    exact ⟨rfl, Below.refl _ _⟩
  obtain ⟨a, n, e1, n0, n1⟩ := drawNew_some hb0 0
  have hd := spec_DrawBlockNew.calls 1 A0 c0 l0 a n w hr0 hc0 e1
  by_cases q : n < 0
  · exact out_lo A0 A1 c0 c1 l0 l1 w h0 h1 a n q hd
  by_cases q1 : 1000 < n
  · exact out_hi A0 A1 c0 c1 l0 l1 w h0 h1 a n q1 hd
  exact main_in A0 A1 c0 c1 l0 l1 w h0 h1 a n (by omega) (by omega) hd hr1 hb1
theorem walk (a0 : Option Addr) (len0 cap0 : Nat) (z0 : List Int) (a1 : Option Addr) (len1 cap1 : Nat) (z1 : List Int) (w : World) (w0 : (a0 = none ∧ len0 = 0 ∧ cap0 = 0 ∧ z0 = []) ∨ ∃ x, a0 = some x ∧ len0 ≤ cap0 ∧ cap0 ≤ maxLen ∧ z0.length = cap0 ∧ (∀ i, i < z0.length → w.cell? (x.add i) = some (.int .u8 (z0.getD i 0))) ∧ ∀ n ∈ z0, (Lit.int .u8 n).wf = true) (y0 : len0 * 1 ≤ 140737488351232) (w1 : (a1 = none ∧ len1 = 0 ∧ cap1 = 0 ∧ z1 = []) ∨ ∃ x, a1 = some x ∧ len1 ≤ cap1 ∧ cap1 ≤ maxLen ∧ z1.length = cap1 ∧ (∀ i, i < z1.length → w.cell? (x.add i) = some (.int .u8 (z1.getD i 0))) ∧ ∀ n ∈ z1, (Lit.int .u8 n).wf = true) (y1 : len1 * 1 ≤ 140737488351232) :
    Calls Try.prog 5 #[.slice a0 len0 cap0, .slice a1 len1 cap1] w fun e w' => e = .returned (.bool true) ∧ Below w.heap.size w w' := by
  obtain ⟨l0, rfl, hr0, hm0, hw0, hc0⟩ := ReadsInt.ofRowC w0
  obtain ⟨l1, rfl, hr1, hm1, hw1, hc1⟩ := ReadsInt.ofRowC w1
  exact all a0 a1 cap0 cap1 l0 l1 w (Kd.C_of_reads (d := (0 : Int)) (h1 := fun _ => rfl) hr0) hc0 (Kd.C_of_reads (d := (0 : Int)) (h1 := fun _ => rfl) hr1) hc1 (byt_of hw0) (byt_of hw1)
end Go.Proofs.Ytcigooccnlbkjaa.MyFnBlockCount
