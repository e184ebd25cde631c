/- The closure 'tell' of impl.depths: what it leaves in the row and what it answers. No condition beyond its reach. -/
import Derived.Test.YtjamfddhcigchaaGreatDoorTFnExactCodeRunHFnExactCodeRunx3
import Derived.Test.YtjamfddhcigchaaGreatDoorTFnExactCodeRunHFnExactCodeRunx9
import Derived.Test.YtjamfddhcigchaaGreatDoorTFnExactCodeRunHFnExactCodeRunx10
import Derived.Test.YtjamfddhcigchaaGreatDoorTFnExactCodeRunHFnExactCodeRunx12
import Derived.WalkLawsBesides
import Derived.WalkSpells
import Derived.Deep.RegionHeld
namespace Go.Proofs.YtjamfddhcigchaaGreatDoor.Ht
open Go.RowKit Go.Proofs.YtjamfddhcigchaaGreatDoor.HFnExactCodeRun Go.Proofs.YtjamfddhcigchaaGreatDoorW.PrintWords Go.Proofs.YtjamfddhcigchaaGreatDoorW.PrintLast Go.Proofs.YtjamfddhcigchaaGreatDoorW.PrintMore
set_option linter.unusedVariables false
set_option linter.unusedSimpArgs false
attribute [local go_sem] max2_int min2_int max_two min_two
abbrev RR (B : Nat) (W : World) (g N c : Nat) (xs : List Int) : Prop := Kd.R (Kd.int .i64) 3 W B (fun _ => True) (.slice (some ⟨g, 0, none⟩) N c) xs
def tell (l : List Int) (at_ n : Int) : List Int := if rd l at_ = -1 then l.set at_.toNat n else l
def told (l : List Int) (at_ n : Int) : Bool := rd (tell l at_ n) at_ == n
theorem tell_length (l : List Int) (a n : Int) : (tell l a n).length = l.length := by unfold tell; split <;> simp
set_option maxRecDepth 100000 in
set_option maxHeartbeats 1600000 in
theorem tell_any (g4 g N c : Nat) (l : List Int) (j : Nat) (n : Int) (B : Nat) (W : World) (h4 : W.heap[g4]? = some (.cells #[.slice (some ⟨g, 0, none⟩) N c] 31 (0, 0))) (ne : g4 ≠ g) (hR : RR B W g N c l) (hj : j < N) :
  Calls Tryz.prog 67 #[.int .i64 (j : Int), .int .i64 n, .pointer (some ⟨g4, 0, none⟩)] W fun e w' => e = .returned (.bool (told l j n)) ∧ RR B w' g N c (tell l j n) ∧ (w' = W ∨ w' = W.setCell ⟨g, j, none⟩ (.int .i64 n)) := by
 have hl : l.length = N := (Kd.R_reads' hR).1.symm
 have i4 : W.cell? ⟨g4, 0, none⟩ = some (.slice (some ⟨g, 0, none⟩) N c) := (blk_cell h4 0).trans rfl
 obtain ⟨hx, hf⟩ := Kd.R_celln 0 hR (j : Int) (by omega) (by omega)
 rw [Int.toNat_natCast] at hx hf
 by_cases hq : rd l j = -1
 ·have ht : tell l j n = l.set j n := by unfold tell; rw [if_pos hq, Int.toNat_natCast]
  have htd : told l j n = true := by
   unfold told; rw [ht]; unfold rd
   rw [Int.toNat_natCast, List.getD_eq_getElem?_getD, List.getElem?_set_self (by omega)]; simp
  rw [htd, ht]
  have hR2 : RR B (W.setCell ⟨g, j, none⟩ (.int .i64 n)) g N c (l.set j n) := by
   have := Kd.R_putn hR (j : Int) n
   rwa [Int.toNat_natCast] at this
  have h42 : (W.setCell ⟨g, j, none⟩ (.int .i64 n)).cell? ⟨g4, 0, none⟩ = some (.slice (some ⟨g, 0, none⟩) N c) := (blk_cell (blk_far h4 ne (.int .i64 n)) 0).trans rfl
  obtain ⟨hx2, _⟩ := Kd.R_celln 0 hR2 (j : Int) (by omega) (by omega)
  rw [Int.toNat_natCast] at hx2
  have e2 : rdOf 0 (l.set j n) (j : Int) = n := by
   unfold rdOf; rw [Int.toNat_natCast, List.getD_eq_getElem?_getD, List.getElem?_set_self (by omega)]; rfl
  rw [e2] at hx2
  have e1 : rdOf 0 l (j : Int) = -1 := hq
  rw [e1] at hx
  clear hq ht htd e1 e2 hl
  go_enter Tryz.func67, Tryz.ntmps67
  go_wp2
  go_ret
  exact ⟨by simp, hR2, .inr rfl⟩
 ·have ht : tell l j n = l := by unfold tell; rw [if_neg hq]
  have htd : told l j n = (rd l j == n) := by unfold told; rw [ht]
  rw [htd, ht]
  have e1 : rdOf 0 l (j : Int) = rd l j := rfl
  rw [e1] at hx
  generalize rd l j = v at hx hq ⊢
  have hv : (v == -1) = false := by simpa using hq
  clear hq ht htd e1 hl
  go_enter Tryz.func67, Tryz.ntmps67
  go_wp2
  go_ret
  exact ⟨rfl, hR, .inl rfl⟩
end Go.Proofs.YtjamfddhcigchaaGreatDoor.Ht
namespace Go.Proofs.YtjamfddhcigchaaGreatDoor.Hr
open Go.RowKit Go.Proofs.YtjamfddhcigchaaGreatDoor.Ht Go.Proofs.YtjamfddhcigchaaGreatDoor.HFnExactCodeRun Go.Proofs.YtjamfddhcigchaaGreatDoorW.PrintWords Go.Proofs.YtjamfddhcigchaaGreatDoorW.PrintLast Go.Proofs.YtjamfddhcigchaaGreatDoorW.PrintMore
set_option linter.unusedVariables false
set_option linter.unusedSimpArgs false
attribute [local go_sem] max2_int min2_int max_two min_two
theorem fill {B g N c : Nat} {x : Int} (k : Nat) : ∀ (m : Nat) (W : World) (xs : List Int), RR B W g N c xs → xs.length = N → (∀ j, j < m → xs[j]? = some x) → m + k ≤ N → ∃ xs', RR B (W.setCells g m (List.replicate k (.int .i64 x))) g N c xs' ∧ xs'.length = N ∧ ∀ j, j < m + k → xs'[j]? = some x := by
 induction k with
 | zero => intro m W xs h hl hx _; exact ⟨xs, h, hl, fun j hj => hx j (by omega)⟩
 | succ k ih =>
  intro m W xs h hl hx hm
  rw [List.replicate_succ, World.setCells]
  have h2 := Kd.R_putn h (m : Int) x
  rw [Int.toNat_natCast] at h2
  obtain ⟨xs', h3, h4, h5⟩ := ih (m + 1) _ (xs.set m x) h2 (by rw [List.length_set]; exact hl) (fun j hj => by
   by_cases e : j = m
   ·subst e; rw [List.getElem?_set_self (by omega)]
   ·rw [List.getElem?_set_ne (by omega)]; exact hx j (by omega)) (by omega)
  exact ⟨xs', h3, h4, fun j hj => h5 j (by omega)⟩
theorem below_cells {w : World} {g : Nat} (hg : w.heap.size ≤ g) (vs : List Value) : ∀ (m : Nat) (W : World), Below w.heap.size w W → Below w.heap.size w (W.setCells g m vs) := by
 induction vs with
 | nil => intro m W h; exact h
 | cons v r ih => intro m W h; rw [World.setCells]; exact ih (m + 1) _ (below_set h hg)
theorem mul_ok (n : Nat) (h : n < 402) : bits_Mul.f 1 (n : Int) = some (0, (n : Int)) := by
 have : (List.range 402).all (fun n => decide (bits_Mul.f 1 ((n : Nat) : Int) = some (0, (n : Int)))) = true := by kernel_rfl
 have := List.all_eq_true.1 this n (List.mem_range.2 h)
 simpa using this
set_option maxRecDepth 100000 in
set_option maxHeartbeats 6400000 in
theorem repeat_any (A0 : Option Addr) (c0 : Nat) (x : Int) (N : Nat) (w : World) (hr : Kd.C (Kd.int .i64) w A0 1 [x]) (h1 : 1 ≤ N) (h401 : N ≤ 401) :
  Calls Tryz.prog 66 #[.slice A0 1 c0, .int .i64 (N : Int)] w fun e w' => ∃ g c, e = .returned (.slice (some ⟨g, 0, none⟩) N c) ∧ RR w.heap.size w' g N c (List.replicate N x) ∧ Below w.heap.size w w' := by
 have hm := fun W => bits_Mul.calls 1 (N : Int) 0 (N : Int) W (mul_ok N (by omega))
 have d1 : decide ((N : Int) < 0) = false := by simp
 have u1 : IntKind.u64.wrap (N : Int) = N := by rw [IntKind.wrap_u64]; omega
 have u2 : wrap64 (N : Int) = N := by unfold wrap64; omega
 have d2 : decide (9223372036854775807 < (N : Int)) = false := by simp; omega
 go_enter Tryz.func66, Tryz.ntmps66
 go_wp2_with fail
 refine (hm _).mono ?_
 rintro e w1 ⟨rfl, hb0⟩
 have hb1 : Below w.heap.size w w1 := hb0.below
 clear hm hb0
 go_upto_region 7 with (first | ((with_reducible refine gate_dst (N := 30) rfl ?_); refine Kd.R_make (Kd.int .i64) _ 3 rfl (N := 30) rfl 31 _ _ rfl (N : Int) rfl rfl Tryz.underlying31 (.int .i64 0) 8 info3 rfl (by decide) (by omega) 0 (ok := fun _ => True) (okp := fun _ => True) rfl (fun _ hk => hk) trivial (by omega) (by omega) (Below.refl _ _) (Nat.le_refl _) ?_; intro v1 w2 ho hbm hg_ hnew_; clear hg_ hnew_))
 rw [Int.toNat_natCast] at ho
 obtain ⟨g, cp, ev, gB, gL, _⟩ := Kd.R_form ho (by rw [List.length_replicate]; omega)
 rw [List.length_replicate] at ev
 subst ev
 have ho1 : RR w.heap.size w2 g N cp (List.replicate N 0) := Kd.R_lower ho hb1.size
 have hb2 : Below w.heap.size w w2 := hb1.trans (hbm.mono hb1.size)
 have gB2 : w.heap.size ≤ g := Nat.le_trans hb1.size gB
 have hr2 := Kd.C_below hr hb2
 clear ho hbm gB gL hb1 d1 d2 u1
 go_upto_block 0 with (first | ((with_reducible refine gate_dst (N := 33) rfl ?_); refine Kd.R_copy (enc := Value.int .i64) (h1 := fun _ => rfl) 0 (w0 := w) w.heap.size (by rfl) (.tmp 31) (.tmp 32) 31 31 3 rfl Tryz.underlying31 (by kernel_rfl) (.slice (some ⟨g, 0, none⟩) N cp) (List.replicate N 0) [x] A0 1 c0 (fun _ => True) rfl rfl ho1 hr2 hb2 hb2.size ?_; intro w3 ho3 hb3 _hg3; rw [List.length_replicate]))
 have e1 : min 1 N = 1 := by omega
 rw [List.length_replicate, e1] at ho3
 have hl3 : (List.take 1 [x] ++ List.drop 1 (List.replicate N 0)).length = N := by simp; omega
 have hx3 : ∀ j, j < 1 → (List.take 1 [x] ++ List.drop 1 (List.replicate N (0 : Int)))[j]? = some x := fun j hj => by
  have : j = 0 := by omega
  subst this; simp
 replace ho3 : RR w.heap.size w3 g N cp (List.take 1 [x] ++ List.drop 1 (List.replicate N 0)) := ho3
 generalize List.take 1 [x] ++ List.drop 1 (List.replicate N (0 : Int)) = xs at ho3 hl3 hx3
 clear ho1 hr2 hb2 e1 _hg3 hr
 go_wp2_with fail
 go_loopw [8] (fun n wr => ∃ (m : Nat) (xs : List Int), 1 ≤ m ∧ m ≤ N ∧ n = .int .i64 (m : Int) ∧ RR w.heap.size wr g N cp xs ∧ xs.length = N ∧ (∀ j, j < m → xs[j]? = some x) ∧ Below w.heap.size w wr) (fun n _ => N - (intOf n).toNat)
 case atStart => exact ⟨1, xs, by omega, by omega, rfl, ho3, hl3, hx3, hb3⟩
 case round =>
  clear ho3 hl3 hx3 hb3
  obtain ⟨m, ys, hm1, hmN, rfl, hR, hl, hx, hb⟩ := hrel
  by_cases hmn : m < N
  ·have d3 : decide ((m : Int) < (N : Int)) = true := by simp; omega
   have hRd := Kd.R_drew hR
   have hbd := below_drew1 hb
   have hmc : m ≤ cp := by have := (Kd.R_reads' hR).2.1; omega
   have nc : (cp = m) = False := eq_false (by have := (Kd.R_reads' hR).2.1; omega)
   obtain ⟨q, hq⟩ : ∃ q, min m (N - m) = q := ⟨_, rfl⟩
   have hq1 : 1 ≤ q ∧ q ≤ m ∧ m + q ≤ N := by omega
   have hcp : (Builtin.copy_ #[31, 31] 3 #[.slice (some ⟨g, m, none⟩) (N - m) (cp - m), .slice (some ⟨g, 0, none⟩) m cp]).run Tryz.prog wr.drew = .ok (.int .i64 (q : Int)) (wr.drew.setCells g m (List.replicate q (.int .i64 x))) := by
    have h := run_copy_cells (P := Tryz.prog) wr.drew 31 31 3 3 g m (N - m) (cp - m) ⟨g, 0, none⟩ m cp (List.replicate q (.int .i64 x)) Tryz.underlying31 (by kernel_rfl) (by rw [List.length_replicate]; exact hq.symm)
     (fun j v hv => by
      rw [List.getElem?_replicate] at hv
      split at hv
      ·rename_i hjq
       obtain ⟨h1, _⟩ := Kd.R_celln 0 hRd (j : Int) (by omega) (by omega)
       rw [Int.toNat_natCast] at h1
       rw [add_plain, h1, ← hv]
       have : rdOf 0 ys (j : Int) = x := by
        unfold rdOf; rw [Int.toNat_natCast, List.getD_eq_getElem?_getD, hx j (by omega)]; rfl
       rw [this]
      ·cases hv)
     (fun j hj => by
      rw [List.length_replicate] at hj
      obtain ⟨h1, _⟩ := Kd.R_celln 0 hRd ((m + j : Nat) : Int) (by omega) (by omega)
      rw [Int.toNat_natCast] at h1
      rw [h1]; rfl)
     (fun j hj => by
      rw [List.length_replicate] at hj
      obtain ⟨_, h1⟩ := Kd.R_celln 0 hRd ((m + j : Nat) : Int) (by omega) (by omega)
      rwa [Int.toNat_natCast] at h1)
     (fun v hv => by rw [List.mem_replicate] at hv; rw [hv.2]; rfl)
    rw [h, List.length_replicate]; rfl
   obtain ⟨xs2, hR2, hl2, hx2⟩ := fill q m wr.drew ys hRd hl hx hq1.2.2
   have hb2 := below_cells gB2 (List.replicate q (.int .i64 x)) m wr.drew hbd
   have hm2 : m + q ≤ N := hq1.2.2
   have wq : wrap64 ((m : Int) + (q : Int)) = ((m + q : Nat) : Int) := by unfold wrap64; omega
   have hx2' := Aside0.mk hx2
   have hl2' := Aside0.mk hl2
   have hq2 := Aside0.mk hq1
   clear hx2 hl2 hq hq1
   have hx' := Aside0.mk hx
   have hl' := Aside0.mk hl
   clear hx hl hR hb
   go_upto_region 9 with (fail)
   refine start_ (n := 10) (S := fun w' => RR w.heap.size w' g N cp ys ∧ Below w.heap.size w w') (ds := [7]) #[false, false, false, false, false, false, false, false, false, false] (by kernel_rfl) rfl rfl ⟨hRd, hbd⟩ (fun hHeld => ?_)
   refine pure_ (i := 0) (N := some 38) (v := ?_) (a' := ?_) #[true, false, false, false, false, false, false, false, false, false] rfl rfl (by kernel_rfl) (fun _ _ _ h => h) (Or.inl ⟨by rfl, ?_⟩) ?_ ?_
   rotate_left
   ·intro w'
    go_simp
    with_reducible rfl
   rotate_left
   ·simp only [Act.put, List.setIfInBounds_toArray, List.set_cons_zero, List.set_cons_succ, i64_w, i32_w]
    rfl
   refine pure_ (i := 1) (N := some 39) (v := ?_) (a' := ?_) #[true, true, false, false, false, false, false, false, false, false] rfl rfl (by kernel_rfl) (fun _ _ _ h => h) (Or.inl ⟨by rfl, ?_⟩) ?_ ?_
   rotate_left
   ·intro w'
    go_simp
    with_reducible rfl
   rotate_left
   ·simp only [Act.put, List.setIfInBounds_toArray, List.set_cons_zero, List.set_cons_succ, i64_w, i32_w]
    rfl
   refine pure_ (i := 2) (N := some 40) (v := ?_) (a' := ?_) #[true, true, true, false, false, false, false, false, false, false] rfl rfl (by kernel_rfl) (fun _ _ _ h => h) (Or.inl ⟨by rfl, ?_⟩) ?_ ?_
   rotate_left
   ·intro w'
    go_simp
    with_reducible rfl
   rotate_left
   ·simp only [Act.put, List.setIfInBounds_toArray, List.set_cons_zero, List.set_cons_succ, i64_w, i32_w]
    rfl
   refine pure_ (i := 3) (N := some 41) (v := ?_) (a' := ?_) #[true, true, true, true, false, false, false, false, false, false] rfl rfl (by kernel_rfl) (fun _ _ _ h => h) (Or.inl ⟨by rfl, ?_⟩) ?_ ?_
   rotate_left
   ·intro w'
    go_simp
    with_reducible rfl
   rotate_left
   ·simp only [Act.put, List.setIfInBounds_toArray, List.set_cons_zero, List.set_cons_succ, i64_w, i32_w]
    rfl
   refine pure_ (i := 4) (N := some 42) (v := ?_) (a' := ?_) #[true, true, true, true, true, false, false, false, false, false] rfl rfl (by kernel_rfl) (fun _ _ _ h => h) (Or.inl ⟨by rfl, ?_⟩) ?_ ?_
   rotate_left
   ·intro w'
    go_simp
    with_reducible rfl
   rotate_left
   ·simp only [Act.put, List.setIfInBounds_toArray, List.set_cons_zero, List.set_cons_succ, i64_w, i32_w]
    rfl
   refine pure_ (i := 5) (N := some 43) (v := ?_) (a' := ?_) #[true, true, true, true, true, true, false, false, false, false] rfl rfl (by kernel_rfl) (fun _ _ _ h => h) (Or.inl ⟨by rfl, ?_⟩) ?_ ?_
   rotate_left
   ·intro w'
    go_simp
    with_reducible rfl
   rotate_left
   ·simp only [Act.put, List.setIfInBounds_toArray, List.set_cons_zero, List.set_cons_succ, i64_w, i32_w]
    rfl
   refine pure_ (i := 6) (N := some 44) (v := ?_) (a' := ?_) #[true, true, true, true, true, true, true, false, false, false] rfl rfl (by kernel_rfl) (fun _ _ _ h => h) (Or.inl ⟨by rfl, ?_⟩) ?_ ?_
   rotate_left
   ·intro w'
    go_simp
    with_reducible rfl
   rotate_left
   ·simp only [Act.put, List.setIfInBounds_toArray, List.set_cons_zero, List.set_cons_succ, i64_w, i32_w]
    rfl
   refine last_ (i := 7) (N := some 45) #[true, true, true, true, true, true, true, true, false, false] rfl rfl (by kernel_rfl) (by decide) (fun K hK => ?_)
   refine value_ (w1 := ?_) (v := ?_) (by rfl) rfl ?_ ?_
   rotate_left 2
   ·go_simp
    constructor
    ·rfl
    ·rfl
   refine hK.out _ _ ?_
   clear hK K
   refine norm_ (a' := ?_) ?_ ?_
   rotate_left
   ·show Act.put _ (some 45) _ = _
    simp only [Act.put, List.setIfInBounds_toArray, List.set_cons_zero, List.set_cons_succ, i64_w, i32_w]
    rfl
   refine pure_ (i := 8) (N := some 46) (v := ?_) (a' := ?_) #[true, true, true, true, true, true, true, true, true, false] rfl rfl (by kernel_rfl) (fun _ _ _ h => h) (Or.inl ⟨by rfl, ?_⟩) ?_ ?_
   rotate_left
   ·intro w'
    go_simp
    with_reducible rfl
   rotate_left
   ·simp only [Act.put, List.setIfInBounds_toArray, List.set_cons_zero, List.set_cons_succ, i64_w, i32_w]
    rfl
   refine pure_ (i := 9) (N := some 8) (v := ?_) (a' := ?_) #[true, true, true, true, true, true, true, true, true, true] rfl rfl (by kernel_rfl) (fun _ _ _ h => h) (Or.inl ⟨by rfl, ?_⟩) ?_ ?_
   rotate_left
   ·intro w'
    go_simp
    with_reducible rfl
   rotate_left
   ·simp only [Act.put, List.setIfInBounds_toArray, List.set_cons_zero, List.set_cons_succ, i64_w, i32_w]
    rfl
   refine done_ (by kernel_rfl) ?_
   clear hHeld hcp hRd hbd
   generalize wr.drew.setCells _ _ _ = wz at hR2 hb2 ⊢
   go_wp2
   have hq1 := hq2.out
   go_roundw
   case rel => exact ⟨m + q, xs2, by omega, hm2, by first | rfl | (rw [wq]; done) | (rw [wq]) | (simp [wq]; done) | go_num, hR2, hl2'.out, hx2'.out, hb2⟩
   case measure => simp only [intOf, wq, Int.toNat_natCast]; omega
  ·have hmn2 : m = N := by omega
   subst hmn2
   have d3 : decide ((m : Int) < (m : Int)) = false := by simp
   have exs : ys = List.replicate m x := by
    apply List.ext_getElem? 
    intro j
    by_cases hj : j < m
    ·rw [hx j hj, List.getElem?_replicate, if_pos hj]
    ·rw [List.getElem?_eq_none (by omega), List.getElem?_replicate, if_neg hj]
   subst exs
   clear hl hx hmn hm1 hmN
   go_wp2
   go_ret
   exact ⟨_, _, rfl, hR, hb⟩
end Go.Proofs.YtjamfddhcigchaaGreatDoor.Hr
namespace Go.Proofs.YtjamfddhcigchaaGreatDoor.Hp
open Go.RowKit Go.Proofs.YtjamfddhcigchaaGreatDoor.HFnExactCodeRun Go.Proofs.YtjamfddhcigchaaGreatDoor.Ht Go.Proofs.YtjamfddhcigchaaGreatDoorW.PrintWords Go.Proofs.YtjamfddhcigchaaGreatDoorW.PrintLast Go.Proofs.YtjamfddhcigchaaGreatDoorW.PrintMore
set_option linter.unusedVariables false
set_option linter.unusedSimpArgs false
def tk (o : Int) : Int := if o = 3 ∨ o = 5 ∨ o = 6 then 1 else if o = 4 then 2 else 0
def gv (o : Int) : Int := if o = 1 ∨ o = 2 ∨ o = 4 ∨ o = 5 then 1 else 0
def goB (o : Int) : Bool := o == 6 || (o == 7 || o == 8)
def foB (o : Int) : Bool := !(o == 7 || o == 8)
theorem tk_bd (o : Int) : 0 ≤ tk o ∧ tk o ≤ 2 := by unfold tk; (repeat' split) <;> omega
theorem gv_bd (o : Int) : 0 ≤ gv o ∧ gv o ≤ 1 := by unfold gv; (repeat' split) <;> omega
theorem takes_some (k : Nat) (a b c d : Int) : impl_Ins_takes.f (k + 1) a b c d = some (tk a) := by
 unfold impl_Ins_takes.f tk
 by_cases h3 : a = 3
 ·subst h3; rfl
 by_cases h5 : a = 5
 ·subst h5; rfl
 by_cases h6 : a = 6
 ·subst h6; rfl
 rw [if_neg h3, if_neg h5, if_neg (by omega), show (a == 6) = false by simpa using h6]
 simp only [impl_Ins_takes.j0]
 rw [if_neg (by simp)]
 by_cases h4 : a = 4
 ·rw [if_pos h4, if_pos h4]
 ·rw [if_neg h4, if_neg h4]
theorem gives_some (a b c d : Int) : impl_Ins_gives.f a b c d = some (gv a) := by
 unfold impl_Ins_gives.f gv
 (repeat' split) <;> first | rfl | omega
theorem goes_some (a b c d : Int) : impl_Ins_goes.f a b c d = some (goB a) := by
 unfold impl_Ins_goes.f goB
 by_cases h6 : a = 6
 ·subst h6; rfl
 by_cases h7 : a = 7
 ·subst h7; rfl
 rw [if_neg h6, if_neg h7, show (a == 6) = false by simpa using h6, show (a == 7) = false by simpa using h7]; simp
theorem follows_some (a b c d : Int) : impl_Ins_follows.f a b c d = some (foB a) := by
 unfold impl_Ins_follows.f foB
 by_cases h7 : a = 7
 ·subst h7; rfl
 rw [if_neg h7, show (a == 7) = false by simpa using h7]; simp [bne]
def isN (n : Int) : Bool := decide (-1000000 ≤ n) && decide (n ≤ 1000000)
def aOk (k i : Int) : Bool := decide (1 ≤ k) && (decide (k ≤ 3) && (decide (0 ≤ i) && decide (i < 6)))
def z2 (c d : Int) : Bool := c == 0 && d == 0
theorem isNum_some (n : Int) : impl_isNum.f n = some (isN n) := by
 unfold impl_isNum.f isN
 by_cases h : n ≥ -1000000
 ·rw [if_pos h, decide_eq_true (by omega : -1000000 ≤ n)]; simp
 ·rw [if_neg h, decide_eq_false (by omega : ¬ -1000000 ≤ n)]; rfl
theorem aOk_some (k i : Int) : impl_AddrOk.f k i = some (aOk k i) := by
 unfold impl_AddrOk.f aOk
 by_cases h1 : k ≥ 1
 ·rw [if_pos h1]
  by_cases h2 : k ≤ 3
  ·rw [if_pos h2]
   by_cases h3 : i ≥ 0
   ·rw [if_pos h3]; simp [h2, (by omega : 1 ≤ k), (by omega : 0 ≤ i)]
   ·rw [if_neg h3]; simp [(by omega : ¬ 0 ≤ i)]
  ·rw [if_neg h2]; simp [h2]
 ·rw [if_neg h1]; simp [(by omega : ¬ 1 ≤ k)]
theorem puts_some (k i : Int) : impl_puts.f k i = some (aOk k i && k != 1) := by
 unfold impl_puts.f
 rw [aOk_some]; simp only [Option.bind_some]
 cases aOk k i <;> rfl
theorem two_some (n : Int) : impl_isTwo.f n = some (decide (3 ≤ n) && decide (n ≤ 9)) := by
 unfold impl_isTwo.f
 by_cases h : n ≥ 3
 ·rw [if_pos h, decide_eq_true (by omega : 3 ≤ n)]; simp
 ·rw [if_neg h, decide_eq_false (by omega : ¬ 3 ≤ n)]; rfl
def okI (a b c d at_ n : Int) : Bool :=
 if a = 1 then isN b && z2 c d else if a = 2 then b == 0 && aOk c d else if a = 3 then b == 0 && (aOk c d && c != 1)
 else if a = 4 then (decide (3 ≤ b) && decide (b ≤ 9)) && z2 c d else if a = 5 then b == 0 && z2 c d
 else if a = 6 ∨ a = 7 then decide (b > at_) && (decide (b ≤ n) && z2 c d)
 else if a = 8 then decide (b ≥ 0) && (decide (b < at_) && z2 c d) else false
theorem ok_some (k : Nat) (a b c d at_ n : Int) : impl_Ins_ok.f (k + 1) a b c d at_ n = some (okI a b c d at_ n) := by
 unfold impl_Ins_ok.f okI
 by_cases h1 : a = 1
 ·rw [if_pos h1, if_pos h1, isNum_some]; simp only [Option.bind_some]; cases isN b <;> rfl
 rw [if_neg h1, if_neg h1]
 by_cases h2 : a = 2
 ·rw [if_pos h2, if_pos h2, aOk_some]; simp only [Option.bind_some]
  by_cases hb : b = 0
  ·rw [if_pos hb, hb]; rfl
  ·rw [if_neg hb, show (b == 0) = false by simpa using hb]; rfl
 rw [if_neg h2, if_neg h2]
 by_cases h3 : a = 3
 ·rw [if_pos h3, if_pos h3, puts_some]; simp only [Option.bind_some]
  by_cases hb : b = 0
  ·rw [if_pos hb, hb]; rfl
  ·rw [if_neg hb, show (b == 0) = false by simpa using hb]; rfl
 rw [if_neg h3, if_neg h3]
 by_cases h4 : a = 4
 ·rw [if_pos h4, if_pos h4, two_some]; simp only [Option.bind_some]
  cases (decide (3 ≤ b) && decide (b ≤ 9)) <;> rfl
 rw [if_neg h4, if_neg h4]
 by_cases h5 : a = 5
 ·rw [if_pos h5, if_pos h5, h5]; rfl
 rw [if_neg h5, if_neg h5]
 have jt : ∀ a', impl_Ins_ok.j0 (k + 1) at_ n a' true a b c d = some (decide (b > at_) && (decide (b ≤ n) && z2 c d)) := by
  intro a'
  simp only [impl_Ins_ok.j0]
  rw [if_pos trivial]
  by_cases q1 : b > at_
  ·rw [if_pos q1, decide_eq_true q1]
   by_cases q2 : b ≤ n
   ·rw [if_pos q2, decide_eq_true q2]; rfl
   ·rw [if_neg q2, decide_eq_false q2]; rfl
  ·rw [if_neg q1, decide_eq_false q1]; rfl
 by_cases h6 : a = 6
 ·rw [if_pos h6, if_pos (Or.inl h6), show (a == 6) = true by simpa using h6]; exact jt a
 rw [if_neg h6]
 by_cases h7 : a = 7
 ·rw [if_pos (Or.inr h7), show (a == 7) = true by simpa using h7]; exact jt a
 rw [if_neg (by omega), show (a == 7) = false by simpa using h7]
 simp only [impl_Ins_ok.j0]
 rw [if_neg (by simp)]
 by_cases h8 : a = 8
 ·rw [if_pos h8, if_pos h8]
  by_cases q1 : b ≥ 0
  ·rw [if_pos q1, decide_eq_true q1]
   by_cases q2 : b < at_
   ·rw [if_pos q2, decide_eq_true q2]; rfl
   ·rw [if_neg q2, decide_eq_false q2]; rfl
  ·rw [if_neg q1, decide_eq_false q1]; rfl
 ·rw [if_neg h8, if_neg h8]
theorem ok_goes {a b c d at_ n : Int} (h : okI a b c d at_ n = true) (hg : goB a = true) (h0 : 0 ≤ at_) (h1 : at_ < n) : 0 ≤ b ∧ b ≤ n := by
 simp only [goB, Bool.or_eq_true, beq_iff_eq] at hg
 unfold okI at h
 rcases hg with rfl | rfl | rfl
 ·simp at h; omega
 ·simp at h; omega
 ·simp at h; omega
def step (i : S30) (at_ n : Nat) (l : List Int) : Option (List Int) :=
 if okI i.f0 i.f1 i.f2.f0 i.f2.f1 at_ n = true then
  if rd l at_ = -1 then none else if rd l at_ < tk i.f0 then none else
  if 12 < rd l at_ - tk i.f0 + gv i.f0 then none else
  if goB i.f0 = true then
   if told l i.f1 (rd l at_ - tk i.f0 + gv i.f0) = true then
    if foB i.f0 = true then
     if told (tell l i.f1 (rd l at_ - tk i.f0 + gv i.f0)) ((at_ + 1 : Nat) : Int) (rd l at_ - tk i.f0 + gv i.f0) = true then some (tell (tell l i.f1 (rd l at_ - tk i.f0 + gv i.f0)) ((at_ + 1 : Nat) : Int) (rd l at_ - tk i.f0 + gv i.f0)) else none
    else some (tell l i.f1 (rd l at_ - tk i.f0 + gv i.f0))
   else none
  else if foB i.f0 = true then
   if told l ((at_ + 1 : Nat) : Int) (rd l at_ - tk i.f0 + gv i.f0) = true then some (tell l ((at_ + 1 : Nat) : Int) (rd l at_ - tk i.f0 + gv i.f0)) else none
  else some l
 else none
def run (ps : List S30) : Nat → Nat → List Int → Option (List Int)
 | 0, _, l => some l
 | m + 1, at_, l => match step (rd_T30 ps at_) at_ ps.length l with
  | none => none
  | some l' => run ps m (at_ + 1) l'
def dep (ps : List S30) : Option (List Int) := if 400 < ps.length then none else run ps ps.length 0 ((List.replicate (ps.length + 1) (-1)).set 0 0)
def okB (ps : List S30) : Bool := match dep ps with
 | none => false
 | some l => rd l (ps.length : Int) == 0
theorem tell_bd {l : List Int} {a n : Int} (h : ∀ x ∈ l, -1 ≤ x ∧ x ≤ 12) (hn : -1 ≤ n ∧ n ≤ 12) : ∀ x ∈ tell l a n, -1 ≤ x ∧ x ≤ 12 := by
 unfold tell; split
 ·intro x hx
  rcases List.mem_or_eq_of_mem_set hx with h1 | rfl
  ·exact h x h1
  ·exact hn
 ·exact h
theorem rd_bd {l : List Int} {a : Int} (h : ∀ x ∈ l, -1 ≤ x ∧ x ≤ 12) : -1 ≤ rd l a ∧ rd l a ≤ 12 := by
 unfold rd
 by_cases hi : a.toNat < l.length
 ·rw [List.getD_eq_getElem?_getD, List.getElem?_eq_getElem hi]; exact h _ (List.getElem_mem hi)
 ·rw [List.getD_eq_getElem?_getD, List.getElem?_eq_none (by omega)]; simp
end Go.Proofs.YtjamfddhcigchaaGreatDoor.Hp
namespace Go.Proofs.YtjamfddhcigchaaGreatDoor.Hd
open Go.RowKit Go.Proofs.YtjamfddhcigchaaGreatDoor.Ht Go.Proofs.YtjamfddhcigchaaGreatDoor.Hr Go.Proofs.YtjamfddhcigchaaGreatDoor.Hp Go.Proofs.YtjamfddhcigchaaGreatDoor.HFnExactCodeRun Go.Proofs.YtjamfddhcigchaaGreatDoorW.PrintWords Go.Proofs.YtjamfddhcigchaaGreatDoorW.PrintLast Go.Proofs.YtjamfddhcigchaaGreatDoorW.PrintMore
set_option linter.unusedVariables false
set_option linter.unusedSimpArgs false
attribute [local go_sem] max2_int min2_int max_two min_two
structure D (w : World) (g4 g N c : Nat) (l : List Int) (W : World) : Prop where
 h4 : W.heap[g4]? = some (.cells #[.slice (some ⟨g, 0, none⟩) N c] 31 (0, 0))
 r : RR w.heap.size W g N c l
 b4 : w.heap.size ≤ g4
 bg : w.heap.size ≤ g
 ne : g4 ≠ g
 bel : Below w.heap.size w W
section
variable {w W W' : World} {g4 g N c : Nat} {l : List Int}
theorem D.below (h : D w g4 g N c l W) (hb : Below W.heap.size W W') : D w g4 g N c l W' := ⟨blk_below h.h4 hb, Kd.R_below h.r hb, h.b4, h.bg, h.ne, h.bel.trans (hb.mono h.bel.size)⟩
theorem D.drew (h : D w g4 g N c l W) : D w g4 g N c l W.drew := h.below (below_drew1 (Below.refl _ _))
theorem D.alloc (h : D w g4 g N c l W) (o : Obj) : D w g4 g N c l (W.alloc o) := h.below ((Below.refl _ _).alloc (Nat.le_refl _) _)
theorem D.x4 (h : D w g4 g N c l W) : W.cell? ⟨g4, 0, none⟩ = some (.slice (some ⟨g, 0, none⟩) N c) := (blk_cell h.h4 0).trans rfl
theorem D.len (h : D w g4 g N c l W) : l.length = N := (Kd.R_reads' h.r).1.symm
theorem D.at_ (h : D w g4 g N c l W) (j : Nat) (hj : j < N) : W.cell? ⟨g, j, none⟩ = some (.int .i64 (rd l j)) := by
 obtain ⟨hx, _⟩ := Kd.R_celln 0 h.r (j : Int) (by omega) (by omega)
 rw [Int.toNat_natCast] at hx
 exact hx
theorem D.tell (h : D w g4 g N c l W) (j : Nat) (n : Int) (hj : j < N) {g7 : Nat} {I : Array Value} (h7 : W.heap[g7]? = some (.cells I 30 (0, 0))) :
  Calls Tryz.prog 67 #[.int .i64 (j : Int), .int .i64 n, .pointer (some ⟨g4, 0, none⟩)] W fun e w' => e = .returned (.bool (told l j n)) ∧ D w g4 g N c (Ht.tell l j n) w' ∧ w'.heap[g7]? = some (.cells I 30 (0, 0)) := by
 refine (tell_any g4 g N c l j n w.heap.size W h.h4 h.ne h.r hj).mono ?_
 rintro e w' ⟨rfl, hR, hw⟩
 obtain ⟨g', c', ev, _, _, cells, hg⟩ := Kd.R_form h.r (by rw [h.len]; omega)
 injection ev with e1 _ _
 injection e1 with e1
 injection e1 with e1 _ _
 subst e1
 have n7 : g7 ≠ g := fun e => by rw [e, hg] at h7; simp at h7
 rcases hw with rfl | rfl
 ·exact ⟨rfl, ⟨h.h4, hR, h.b4, h.bg, h.ne, h.bel⟩, h7⟩
 ·exact ⟨rfl, ⟨blk_far h.h4 h.ne _, hR, h.b4, h.bg, h.ne, below_set h.bel h.bg⟩, blk_far h7 n7 _⟩
end
theorem D.tellB {w W : World} {g4 g N c : Nat} {l : List Int} (h : D w g4 g N c l W) (b n : Int) (b0 : 0 ≤ b) (b1 : b < N) {g7 : Nat} {I : Array Value} (h7 : W.heap[g7]? = some (.cells I 30 (0, 0))) (t : Bool) (ht : told l b n = t) :
  Calls Tryz.prog 67 #[.int .i64 b, .int .i64 n, .pointer (some ⟨g4, 0, none⟩)] W fun e w' => e = .returned (.bool t) ∧ D w g4 g N c (Ht.tell l b n) w' ∧ w'.heap[g7]? = some (.cells I 30 (0, 0)) := by
 obtain ⟨j, rfl⟩ := Int.eq_ofNat_of_zero_le b0
 subst ht; exact h.tell j n (by omega) h7
abbrev IA (i : S30) : Array Value := #[.int .i64 i.f0, .int .i64 i.f1, .int .i64 i.f2.f0, .int .i64 i.f2.f1]
theorem okC (i : S30) (k n : Nat) (t : Bool) (h : okI i.f0 i.f1 i.f2.f0 i.f2.f1 k n = t) (W : World) : Calls Tryz.prog 68 #[.agg (IA i), .int .i64 (k : Int), .int .i64 (n : Int)] W fun e w' => e = .returned (.bool t) ∧ Below W.heap.size W w' := by
 subst h; exact impl_Ins_ok.calls 1 _ _ _ _ _ _ _ W (ok_some 0 _ _ _ _ _ _)
theorem takesC (i : S30) (T : Int) (h : tk i.f0 = T) (W : World) : Calls Tryz.prog 69 #[.agg (IA i)] W fun e w' => e = .returned (.int .i64 T) ∧ Below W.heap.size W w' := by
 subst h; exact impl_Ins_takes.calls 1 _ _ _ _ _ W (takes_some 0 _ _ _ _)
theorem givesC (i : S30) (T : Int) (h : gv i.f0 = T) (W : World) : Calls Tryz.prog 70 #[.agg (IA i)] W fun e w' => e = .returned (.int .i64 T) ∧ Below W.heap.size W w' := by
 subst h; exact impl_Ins_gives.calls _ _ _ _ _ W (gives_some _ _ _ _)
theorem goesC (i : S30) (T : Bool) (h : goB i.f0 = T) (W : World) : Calls Tryz.prog 71 #[.agg (IA i)] W fun e w' => e = .returned (.bool T) ∧ Below W.heap.size W w' := by
 subst h; exact impl_Ins_goes.calls _ _ _ _ _ W (goes_some _ _ _ _)
theorem followsC (i : S30) (T : Bool) (h : foB i.f0 = T) (W : World) : Calls Tryz.prog 72 #[.agg (IA i)] W fun e w' => e = .returned (.bool T) ∧ Below W.heap.size W w' := by
 subst h; exact impl_Ins_follows.calls _ _ _ _ _ W (follows_some _ _ _ _)
theorem D.tellS {w W : World} {g4 g N c : Nat} {l : List Int} (h : D w g4 g N c l W) (k : Nat) (n : Int) (hj : k + 1 < N) {g7 : Nat} {I : Array Value} (h7 : W.heap[g7]? = some (.cells I 30 (0, 0))) (t : Bool) (ht : told l ((k + 1 : Nat) : Int) n = t) :
  Calls Tryz.prog 67 #[.int .i64 ((k : Int) + 1), .int .i64 n, .pointer (some ⟨g4, 0, none⟩)] W fun e w' => e = .returned (.bool t) ∧ D w g4 g N c (Ht.tell l ((k + 1 : Nat) : Int) n) w' ∧ w'.heap[g7]? = some (.cells I 30 (0, 0)) := by
 subst ht; exact h.tell (k + 1) n hj h7
set_option maxRecDepth 100000 in
set_option maxHeartbeats 25600000 in
theorem depths_any (A : Option Addr) (cc : Nat) (ps : List S30) (w : World) (hr : Kd.C k30 w A ps.length ps) (hc : ps.length ≤ cc) :
  Calls Tryz.prog 40 #[.slice A ps.length cc] w fun e w' => ∃ v, e = .returned (.tuple #[v, .bool (okB ps)]) ∧ (okB ps = true → ∃ g c l, dep ps = some l ∧ v = .slice (some ⟨g, 0, none⟩) (ps.length + 1) c ∧ RR w.heap.size w' g (ps.length + 1) c l) ∧ Below w.heap.size w w' := by
 by_cases hm : 400 < ps.length
 ·have d1 : decide (400 < (ps.length : Int)) = true := by simp; omega
  have hd : okB ps = false := by unfold okB dep; rw [if_pos hm]
  rw [hd]
  clear hm hd
  go_enter Tryz.func40, Tryz.ntmps40
  go_wp2
  go_ret2
  exact ⟨.slice none 0 0, rfl, (fun h => absurd h (by simp)), Below.refl _ _⟩
 have d1 : decide (400 < (ps.length : Int)) = false := by simp; omega
 have wn : wrap64 ((ps.length : Int) + 1) = ((ps.length + 1 : Nat) : Int) := by unfold wrap64; omega
 have hrep : ∀ A0 c0 W, Kd.C (Kd.int .i64) W A0 1 [-1] → Calls Tryz.prog 66 #[.slice A0 1 c0, .int .i64 ((ps.length : Int) + 1)] W fun e w' => ∃ g c, e = .returned (.slice (some ⟨g, 0, none⟩) (ps.length + 1) c) ∧ RR W.heap.size w' g (ps.length + 1) c (List.replicate (ps.length + 1) (-1)) ∧ Below W.heap.size W w' :=
  fun A0 c0 W h => repeat_any A0 c0 (-1) (ps.length + 1) W h (by omega) (by omega)
 have hle : ps.length ≤ 400 := by omega
 have hle' := Aside0.mk hle
 clear hm hle
 go_enter Tryz.func40, Tryz.ntmps40
 go_wp2_with fail
 refine (hrep _ _ _ (Kd.C_of_reads (d := (0 : Int)) (h1 := fun _ => rfl) ⟨rfl, by omega, fun _ => ⟨_, rfl, fun j hj => ?_⟩⟩)).mono ?_
 ·have : j = 0 := by omega
  subst this
  exact (blk_cell (heap_alloc_new w (Obj.cells #[.int .i64 (-1)] 3)) 0).trans rfl
 rintro e w1 ⟨g, c, rfl, hR, hb1⟩
 have hbA : Below w.heap.size w (w.alloc (Obj.cells #[.int .i64 (-1)] 3)) := (Below.refl _ _).alloc (Nat.le_refl _) _
 have hb : Below w.heap.size w w1 := hbA.trans (hb1.mono hbA.size)
 have hR1 : RR w.heap.size w1 g (ps.length + 1) c (List.replicate (ps.length + 1) (-1)) := Kd.R_lower hR hbA.size
 clear hR hb1 hrep hbA
 obtain ⟨g', c', ev, hgB, hgL, _⟩ := Kd.R_form hR1 (by rw [List.length_replicate]; omega)
 injection ev with e1 e2 e3
 clear e2 e3
 injection e1 with e1
 injection e1 with e1
 subst e1
 have hgB' := Aside0.mk hgB
 have hgL' := Aside0.mk hgL
 clear hgB hgL wn
 go_upto_region 4 with (fail)
 have hgB := hgB'.out
 have hgL := hgL'.out
 have hD : D w w1.heap.size g (ps.length + 1) c (List.replicate (ps.length + 1) (-1)) (w1.alloc (.cells #[.slice (some ⟨g, 0, none⟩) (ps.length + 1) c] 31 (0, 0))) :=
  ⟨heap_alloc_new _ _, Kd.R_alloc hR1 _, hb.size, hgB, by omega, hb.alloc hb.size _⟩
 clear hR1 hb
 generalize w1.alloc (Obj.cells _ 31) = w2 at hD ⊢
 have hg4 : w1.heap.size ≠ g := by omega
 generalize w1.heap.size = g4 at hD hg4 ⊢
 clear hgL
 have i4 := hD.x4
 obtain ⟨h0c, h0f⟩ := Kd.R_celln 0 hD.r (0 : Int) (by omega) (by omega)
 replace h0c : w2.cell? ⟨g, 0, none⟩ = some (.int .i64 (rdOf 0 (List.replicate (ps.length + 1) (-1)) 0)) := h0c
 replace h0f : w2.frozen? ⟨g, 0, none⟩ = false := h0f
 generalize rdOf (0 : Int) (List.replicate (ps.length + 1) (-1)) 0 = q at h0c
 go_upto_region 5 with (fail)
 have hD2 : D w g4 g (ps.length + 1) c ((List.replicate (ps.length + 1) (-1)).set 0 0) (w2.setCell ⟨g, 0, none⟩ (.int .i64 0)) :=
  ⟨blk_far hD.h4 hg4 _, Kd.R_putn hD.r 0 0, hD.b4, hD.bg, hg4, below_set hD.bel hD.bg⟩
 clear hD i4 h0c h0f hg4 hgB
 generalize w2.setCell _ _ = w3 at hD2 ⊢
 have hdep : Hp.run ps ps.length 0 ((List.replicate (ps.length + 1) (-1)).set 0 0) = dep ps := by
  unfold dep; rw [if_neg (by have := hle'.out; omega)]
 have hbd0 : ∀ x ∈ (List.replicate (ps.length + 1) (-1 : Int)).set 0 0, -1 ≤ x ∧ x ≤ 12 := by
  intro x hx
  rcases List.mem_or_eq_of_mem_set hx with h1 | rfl
  ·rw [List.mem_replicate] at h1; omega
  ·omega
 generalize (List.replicate (ps.length + 1) (-1 : Int)).set 0 0 = l0 at hD2 hdep hbd0
 have hdep' := Aside0.mk hdep
 have hbd' := Aside0.mk hbd0
 have hu34 := Tryz.underlying30
 clear hdep hbd0
 go_wp2_with fail
 go_loopw [22] (fun i wr => ∃ (k : Nat) (l : List Int), k ≤ ps.length ∧ i = .int .i64 (k : Int) ∧ Hp.run ps (ps.length - k) k l = dep ps ∧ (∀ x ∈ l, -1 ≤ x ∧ x ≤ 12) ∧ D w g4 g (ps.length + 1) c l wr) (fun i _ => ps.length - (intOf i).toNat)
 case atStart => exact ⟨0, l0, by omega, rfl, hdep'.out, hbd'.out, hD2⟩
 case round =>
  clear hdep' hbd' hD2
  obtain ⟨k, l, hk, rfl, hrun, hbd, hD⟩ := hrel
  by_cases hkn : k < ps.length
  ·have d2 : decide (k < ps.length) = true := by simpa using hkn
   obtain ⟨ad, hA, e0, e1, e2, e3⟩ := at_T30 (Kd.C_below hr hD.bel) (k : Int) (by omega) (by omega)
   subst hA
   rw [Int.toNat_natCast] at e0 e1 e2 e3
   have hs : dep ps = (match Hp.step (rd_T30 ps (k : Int)) k ps.length l with | none => none | some l' => Hp.run ps (ps.length - (k + 1)) (k + 1) l') := by
    rw [← hrun, show ps.length - k = (ps.length - (k + 1)) + 1 by omega]; rfl
   generalize rd_T30 ps (k : Int) = ins at e0 e1 e2 e3 hs
   have hln := hD.len
   have hv := rd_bd (a := (k : Int)) hbd
   have ht := tk_bd ins.f0
   have hg := gv_bd ins.f0
   have hs' := Aside0.mk hs
   have hbd' := Aside0.mk hbd
   have hkn' := Aside0.mk hkn
   have hk1 : k < ps.length + 1 := by omega
   have kk : (k : Int) < (ps.length : Int) + 1 := by omega
   obtain ⟨v, evv⟩ : ∃ v, rd l (k : Int) = v := ⟨_, rfl⟩
   obtain ⟨T, eT⟩ : ∃ v, tk ins.f0 = v := ⟨_, rfl⟩
   obtain ⟨G, eG⟩ : ∃ v, gv ins.f0 = v := ⟨_, rfl⟩
   rw [evv] at hv
   rw [eT] at ht
   rw [eG] at hg
   have w1_ : wrap64 (v - T) = v - T := by unfold wrap64; omega
   have w2_ : wrap64 (v - T + G) = v - T + G := by unfold wrap64; omega
   have hvb := Aside0.mk hv
   have htb := Aside0.mk ht
   have hgb := Aside0.mk hg
   clear hrun hbd hk hs hln hv ht hg
   go_upto_region 9 with (fail)
   try clear hkn
   have n7 := heap_alloc_new wr (Obj.cells (IA ins) 30)
   have hDa := hD.alloc (Obj.cells (IA ins) 30)
   clear hD
   have hDd : D w g4 g (ps.length + 1) c l (wr.alloc (Obj.cells (IA ins) 30)).drew := hDa.drew
   have n7d : (wr.alloc (Obj.cells (IA ins) 30)).drew.heap[wr.heap.size]? = some (.cells (IA ins) 30 (0, 0)) := n7
   have evv' := Aside0.mk evv
   have eT' := Aside0.mk eT
   have eG' := Aside0.mk eG
   have hck : ∀ {W : World}, D w g4 g (ps.length + 1) c l W → W.cell? ⟨g, k, none⟩ = some (.int .i64 v) := fun h => by rw [← evv'.out]; exact h.at_ k hk1
   generalize wr.alloc (Obj.cells _ 30) = wr2 at n7d hDd ⊢
   generalize wr.heap.size = g7 at n7d ⊢
   clear n7 hDa e0 e1 e2 e3 evv eT eG
   cases hok : okI ins.f0 ins.f1 ins.f2.f0 ins.f2.f1 k ps.length with
   | false =>
    have hok' := Aside0.mk hok
    clear hok
    refine start_ (n := 22) (S := fun w' => w'.cell? ⟨g4, 0, none⟩ = some (.slice (some ⟨g, 0, none⟩) (ps.length + 1) c) ∧ w'.cell? ⟨g, k, none⟩ = some (.int .i64 v) ∧ w'.cell? ⟨g7, 0, none⟩ = some (.int .i64 ins.f0) ∧ w'.cell? ⟨g7, 1, none⟩ = some (.int .i64 ins.f1) ∧ w'.cell? ⟨g7, 2, none⟩ = some (.int .i64 ins.f2.f0) ∧ w'.cell? ⟨g7, 3, none⟩ = some (.int .i64 ins.f2.f1) ∧ w'.heap[g7]? = some (.cells (IA ins) 30 (0, 0)) ∧ D w g4 g (ps.length + 1) c l w') (ds := []) #[false, false, false, false, false, false, false, false, false, false, false, false, false, false, false, false, false, false, false, false, false, false] (by kernel_rfl) rfl rfl ⟨hDd.x4, hck hDd, (blk_cell n7d 0).trans rfl, (blk_cell n7d 1).trans rfl, (blk_cell n7d 2).trans rfl, (blk_cell n7d 3).trans rfl, n7d, hDd⟩ (fun hHeld => ?_)
    refine pure_ (i := 1) (N := some 28) (v := ?_) (a' := ?_) #[false, true, false, false, false, false, false, false, false, false, false, false, false, false, false, false, false, false, false, false, false, false] rfl rfl (by kernel_rfl) (fun _ _ _ h => h) (Or.inl ⟨by rfl, ?_⟩) ?_ ?_
    rotate_left
    ·intro w'
     go_simp
     with_reducible rfl
    rotate_left
    ·simp only [Act.put, List.setIfInBounds_toArray, List.set_cons_zero, List.set_cons_succ, i64_w, i32_w]
     rfl
    refine pure_ (i := 2) (N := some 29) (v := ?_) (a' := ?_) #[false, true, true, false, false, false, false, false, false, false, false, false, false, false, false, false, false, false, false, false, false, false] rfl rfl (by kernel_rfl) (fun _ _ _ h => h) (Or.inl ⟨by rfl, ?_⟩) ?_ ?_
    rotate_left
    ·intro w'
     go_simp
     with_reducible rfl
    rotate_left
    ·simp only [Act.put, List.setIfInBounds_toArray, List.set_cons_zero, List.set_cons_succ, i64_w, i32_w]
     rfl
    refine pure_ (i := 3) (N := some 30) (v := ?_) (a' := ?_) #[false, true, true, true, false, false, false, false, false, false, false, false, false, false, false, false, false, false, false, false, false, false] rfl rfl (by kernel_rfl) (fun _ _ _ h => h) (Or.inl ⟨by rfl, ?_⟩) ?_ ?_
    rotate_left
    ·intro w'
     go_simp
     with_reducible rfl
    rotate_left
    ·simp only [Act.put, List.setIfInBounds_toArray, List.set_cons_zero, List.set_cons_succ, i64_w, i32_w]
     rfl
    refine take_ (i := 0) (N := some 27) (v := ?_) (a' := ?_) #[true, true, true, true, false, false, false, false, false, false, false, false, false, false, false, false, false, false, false, false, false, false] rfl rfl (by kernel_rfl) (fun _ _ _ h => h) (Or.inl ⟨by rfl, ?_⟩) hHeld ?_ ?_
    rotate_left
    ·rintro w' ⟨s0, s1, s2, s3, s4, s5, s6, s7⟩
     go_simp
     with_reducible rfl
    rotate_left
    ·simp only [Act.put, List.setIfInBounds_toArray, List.set_cons_zero, List.set_cons_succ, i64_w, i32_w]
     rfl
    refine one_ (i := 4) (N := some 31) #[true, true, true, true, true, false, false, false, false, false, false, false, false, false, false, false, false, false, false, false, false, false] rfl rfl (by kernel_rfl) (by decide) (fun K hK => ?_)
    refine goes_ Tryz.func68 (by kernel_rfl) rfl #[.agg (IA ins), .int .i64 (k : Int), .int .i64 (ps.length : Int)] (by rfl) rfl rfl (by simp only [List.map_toArray, List.map_cons, List.map_nil]; rfl) ?_
    with_reducible refine (okC ins k ps.length false hok'.out _).mono ?_
    rintro e wa ⟨rfl, hba⟩
    refine ⟨_, rfl, ?_⟩
    have waG := D.below hHeld.2.2.2.2.2.2.2 hba
    have waN := blk_below hHeld.2.2.2.2.2.2.1 hba
    refine hK.out _ _ ⟨waG.x4, hck waG, (blk_cell waN 0).trans rfl, (blk_cell waN 1).trans rfl, (blk_cell waN 2).trans rfl, (blk_cell waN 3).trans rfl, waN, waG⟩ (fun hHeld => ?_)
    clear hK K
    refine norm_ (a' := ?_) ?_ ?_
    rotate_left
    ·show Act.put _ (some 31) _ = _
     simp only [Act.put, List.setIfInBounds_toArray, List.set_cons_zero, List.set_cons_succ, i64_w, i32_w]
     rfl
    refine pure_ (i := 5) (N := some 32) (v := ?_) (a' := ?_) #[true, true, true, true, true, true, false, false, false, false, false, false, false, false, false, false, false, false, false, false, false, false] rfl rfl (by kernel_rfl) (fun _ _ _ h => h) (Or.inl ⟨by rfl, ?_⟩) ?_ ?_
    rotate_left
    ·intro w'
     go_simp
     with_reducible rfl
    rotate_left
    ·simp only [Act.put, List.setIfInBounds_toArray, List.set_cons_zero, List.set_cons_succ, i64_w, i32_w]
     rfl
    refine pure_ (i := 6) (N := some 33) (v := ?_) (a' := ?_) #[true, true, true, true, true, true, true, false, false, false, false, false, false, false, false, false, false, false, false, false, false, false] rfl rfl (by kernel_rfl) (fun _ _ _ h => h) (Or.inl ⟨by rfl, ?_⟩) ?_ ?_
    rotate_left
    ·intro w'
     go_simp
     with_reducible rfl
    rotate_left
    ·simp only [Act.put, List.setIfInBounds_toArray, List.set_cons_zero, List.set_cons_succ, i64_w, i32_w]
     rfl
    refine pure_ (i := 7) (N := some 34) (v := undef) (a' := ?_) #[true, true, true, true, true, true, true, true, false, false, false, false, false, false, false, false, false, false, false, false, false, false] rfl rfl (by kernel_rfl) (fun _ _ _ h => h) (Or.inr ⟨by rfl, rfl⟩) ?_ ?_
    rotate_left
    ·simp only [Act.put, List.setIfInBounds_toArray, List.set_cons_zero, List.set_cons_succ, i64_w, i32_w]
     rfl
    refine pure_ (i := 8) (N := some 35) (v := undef) (a' := ?_) #[true, true, true, true, true, true, true, true, true, false, false, false, false, false, false, false, false, false, false, false, false, false] rfl rfl (by kernel_rfl) (fun _ _ _ h => h) (Or.inr ⟨by rfl, rfl⟩) ?_ ?_
    rotate_left
    ·simp only [Act.put, List.setIfInBounds_toArray, List.set_cons_zero, List.set_cons_succ, i64_w, i32_w]
     rfl
    refine pure_ (i := 9) (N := some 36) (v := undef) (a' := ?_) #[true, true, true, true, true, true, true, true, true, true, false, false, false, false, false, false, false, false, false, false, false, false] rfl rfl (by kernel_rfl) (fun _ _ _ h => h) (Or.inr ⟨by rfl, rfl⟩) ?_ ?_
    rotate_left
    ·simp only [Act.put, List.setIfInBounds_toArray, List.set_cons_zero, List.set_cons_succ, i64_w, i32_w]
     rfl
    refine pure_ (i := 10) (N := some 37) (v := undef) (a' := ?_) #[true, true, true, true, true, true, true, true, true, true, true, false, false, false, false, false, false, false, false, false, false, false] rfl rfl (by kernel_rfl) (fun _ _ _ h => h) (Or.inr ⟨by rfl, rfl⟩) ?_ ?_
    rotate_left
    ·simp only [Act.put, List.setIfInBounds_toArray, List.set_cons_zero, List.set_cons_succ, i64_w, i32_w]
     rfl
    refine pure_ (i := 11) (N := some 38) (v := undef) (a' := ?_) #[true, true, true, true, true, true, true, true, true, true, true, true, false, false, false, false, false, false, false, false, false, false] rfl rfl (by kernel_rfl) (fun _ _ _ h => h) (Or.inr ⟨by rfl, rfl⟩) ?_ ?_
    rotate_left
    ·simp only [Act.put, List.setIfInBounds_toArray, List.set_cons_zero, List.set_cons_succ, i64_w, i32_w]
     rfl
    refine pure_ (i := 12) (N := some 39) (v := ?_) (a' := ?_) #[true, true, true, true, true, true, true, true, true, true, true, true, true, false, false, false, false, false, false, false, false, false] rfl rfl (by kernel_rfl) (fun _ _ _ h => h) (Or.inl ⟨by rfl, ?_⟩) ?_ ?_
    rotate_left
    ·intro w'
     go_simp
     with_reducible rfl
    rotate_left
    ·simp only [Act.put, List.setIfInBounds_toArray, List.set_cons_zero, List.set_cons_succ, i64_w, i32_w]
     rfl
    refine pure_ (i := 13) (N := some 40) (v := ?_) (a' := ?_) #[true, true, true, true, true, true, true, true, true, true, true, true, true, true, false, false, false, false, false, false, false, false] rfl rfl (by kernel_rfl) (fun _ _ _ h => h) (Or.inl ⟨by rfl, ?_⟩) ?_ ?_
    rotate_left
    ·intro w'
     go_simp
     with_reducible rfl
    rotate_left
    ·simp only [Act.put, List.setIfInBounds_toArray, List.set_cons_zero, List.set_cons_succ, i64_w, i32_w]
     rfl
    refine pure_ (i := 14) (N := some 41) (v := undef) (a' := ?_) #[true, true, true, true, true, true, true, true, true, true, true, true, true, true, true, false, false, false, false, false, false, false] rfl rfl (by kernel_rfl) (fun _ _ _ h => h) (Or.inr ⟨by rfl, rfl⟩) ?_ ?_
    rotate_left
    ·simp only [Act.put, List.setIfInBounds_toArray, List.set_cons_zero, List.set_cons_succ, i64_w, i32_w]
     rfl
    refine pure_ (i := 15) (N := some 42) (v := undef) (a' := ?_) #[true, true, true, true, true, true, true, true, true, true, true, true, true, true, true, true, false, false, false, false, false, false] rfl rfl (by kernel_rfl) (fun _ _ _ h => h) (Or.inr ⟨by rfl, rfl⟩) ?_ ?_
    rotate_left
    ·simp only [Act.put, List.setIfInBounds_toArray, List.set_cons_zero, List.set_cons_succ, i64_w, i32_w]
     rfl
    refine pure_ (i := 16) (N := some 43) (v := undef) (a' := ?_) #[true, true, true, true, true, true, true, true, true, true, true, true, true, true, true, true, true, false, false, false, false, false] rfl rfl (by kernel_rfl) (fun _ _ _ h => h) (Or.inr ⟨by rfl, rfl⟩) ?_ ?_
    rotate_left
    ·simp only [Act.put, List.setIfInBounds_toArray, List.set_cons_zero, List.set_cons_succ, i64_w, i32_w]
     rfl
    refine pure_ (i := 17) (N := some 44) (v := undef) (a' := ?_) #[true, true, true, true, true, true, true, true, true, true, true, true, true, true, true, true, true, true, false, false, false, false] rfl rfl (by kernel_rfl) (fun _ _ _ h => h) (Or.inr ⟨by rfl, rfl⟩) ?_ ?_
    rotate_left
    ·simp only [Act.put, List.setIfInBounds_toArray, List.set_cons_zero, List.set_cons_succ, i64_w, i32_w]
     rfl
    refine pure_ (i := 18) (N := some 45) (v := undef) (a' := ?_) #[true, true, true, true, true, true, true, true, true, true, true, true, true, true, true, true, true, true, true, false, false, false] rfl rfl (by kernel_rfl) (fun _ _ _ h => h) (Or.inr ⟨by rfl, rfl⟩) ?_ ?_
    rotate_left
    ·simp only [Act.put, List.setIfInBounds_toArray, List.set_cons_zero, List.set_cons_succ, i64_w, i32_w]
     rfl
    refine pure_ (i := 19) (N := some 46) (v := undef) (a' := ?_) #[true, true, true, true, true, true, true, true, true, true, true, true, true, true, true, true, true, true, true, true, false, false] rfl rfl (by kernel_rfl) (fun _ _ _ h => h) (Or.inr ⟨by rfl, rfl⟩) ?_ ?_
    rotate_left
    ·simp only [Act.put, List.setIfInBounds_toArray, List.set_cons_zero, List.set_cons_succ, i64_w, i32_w]
     rfl
    refine pure_ (i := 20) (N := some 47) (v := undef) (a' := ?_) #[true, true, true, true, true, true, true, true, true, true, true, true, true, true, true, true, true, true, true, true, true, false] rfl rfl (by kernel_rfl) (fun _ _ _ h => h) (Or.inr ⟨by rfl, rfl⟩) ?_ ?_
    rotate_left
    ·simp only [Act.put, List.setIfInBounds_toArray, List.set_cons_zero, List.set_cons_succ, i64_w, i32_w]
     rfl
    refine pure_ (i := 21) (N := some 48) (v := ?_) (a' := ?_) #[true, true, true, true, true, true, true, true, true, true, true, true, true, true, true, true, true, true, true, true, true, true] rfl rfl (by kernel_rfl) (fun _ _ _ h => h) (Or.inl ⟨by rfl, ?_⟩) ?_ ?_
    rotate_left
    ·intro w'
     go_simp
     with_reducible rfl
    rotate_left
    ·simp only [Act.put, List.setIfInBounds_toArray, List.set_cons_zero, List.set_cons_succ, i64_w, i32_w]
     rfl
    refine done_ (by kernel_rfl) ?_
    have hD := hHeld.2.2.2.2.2.2.2
    clear hHeld
    have hdn : dep ps = none := by rw [hs'.out]; unfold Hp.step; rw [if_neg (by rw [hok'.out]; simp)]
    have hB : okB ps = false := by unfold okB; rw [hdn]
    clear hdn
    go_wp2
    go_ret2
    rw [hB]
    exact ⟨.slice none 0 0, rfl, (fun h => absurd h (by simp)), hD.bel⟩
   | true =>
    have hok' := Aside0.mk hok
    clear hok
    cases hm1 : (v == -1) with
    | true =>
     refine start_ (n := 22) (S := fun w' => w'.cell? ⟨g4, 0, none⟩ = some (.slice (some ⟨g, 0, none⟩) (ps.length + 1) c) ∧ w'.cell? ⟨g, k, none⟩ = some (.int .i64 v) ∧ w'.cell? ⟨g7, 0, none⟩ = some (.int .i64 ins.f0) ∧ w'.cell? ⟨g7, 1, none⟩ = some (.int .i64 ins.f1) ∧ w'.cell? ⟨g7, 2, none⟩ = some (.int .i64 ins.f2.f0) ∧ w'.cell? ⟨g7, 3, none⟩ = some (.int .i64 ins.f2.f1) ∧ w'.heap[g7]? = some (.cells (IA ins) 30 (0, 0)) ∧ D w g4 g (ps.length + 1) c l w') (ds := []) #[false, false, false, false, false, false, false, false, false, false, false, false, false, false, false, false, false, false, false, false, false, false] (by kernel_rfl) rfl rfl ⟨hDd.x4, hck hDd, (blk_cell n7d 0).trans rfl, (blk_cell n7d 1).trans rfl, (blk_cell n7d 2).trans rfl, (blk_cell n7d 3).trans rfl, n7d, hDd⟩ (fun hHeld => ?_)
     refine pure_ (i := 1) (N := some 28) (v := ?_) (a' := ?_) #[false, true, false, false, false, false, false, false, false, false, false, false, false, false, false, false, false, false, false, false, false, false] rfl rfl (by kernel_rfl) (fun _ _ _ h => h) (Or.inl ⟨by rfl, ?_⟩) ?_ ?_
     rotate_left
     ·intro w'
      go_simp
      with_reducible rfl
     rotate_left
     ·simp only [Act.put, List.setIfInBounds_toArray, List.set_cons_zero, List.set_cons_succ, i64_w, i32_w]
      rfl
     refine pure_ (i := 2) (N := some 29) (v := ?_) (a' := ?_) #[false, true, true, false, false, false, false, false, false, false, false, false, false, false, false, false, false, false, false, false, false, false] rfl rfl (by kernel_rfl) (fun _ _ _ h => h) (Or.inl ⟨by rfl, ?_⟩) ?_ ?_
     rotate_left
     ·intro w'
      go_simp
      with_reducible rfl
     rotate_left
     ·simp only [Act.put, List.setIfInBounds_toArray, List.set_cons_zero, List.set_cons_succ, i64_w, i32_w]
      rfl
     refine pure_ (i := 3) (N := some 30) (v := ?_) (a' := ?_) #[false, true, true, true, false, false, false, false, false, false, false, false, false, false, false, false, false, false, false, false, false, false] rfl rfl (by kernel_rfl) (fun _ _ _ h => h) (Or.inl ⟨by rfl, ?_⟩) ?_ ?_
     rotate_left
     ·intro w'
      go_simp
      with_reducible rfl
     rotate_left
     ·simp only [Act.put, List.setIfInBounds_toArray, List.set_cons_zero, List.set_cons_succ, i64_w, i32_w]
      rfl
     refine take_ (i := 0) (N := some 27) (v := ?_) (a' := ?_) #[true, true, true, true, false, false, false, false, false, false, false, false, false, false, false, false, false, false, false, false, false, false] rfl rfl (by kernel_rfl) (fun _ _ _ h => h) (Or.inl ⟨by rfl, ?_⟩) hHeld ?_ ?_
     rotate_left
     ·rintro w' ⟨s0, s1, s2, s3, s4, s5, s6, s7⟩
      go_simp
      with_reducible rfl
     rotate_left
     ·simp only [Act.put, List.setIfInBounds_toArray, List.set_cons_zero, List.set_cons_succ, i64_w, i32_w]
      rfl
     refine one_ (i := 4) (N := some 31) #[true, true, true, true, true, false, false, false, false, false, false, false, false, false, false, false, false, false, false, false, false, false] rfl rfl (by kernel_rfl) (by decide) (fun K hK => ?_)
     refine goes_ Tryz.func68 (by kernel_rfl) rfl #[.agg (IA ins), .int .i64 (k : Int), .int .i64 (ps.length : Int)] (by rfl) rfl rfl (by simp only [List.map_toArray, List.map_cons, List.map_nil]; rfl) ?_
     with_reducible refine (okC ins k ps.length true hok'.out _).mono ?_
     rintro e wa ⟨rfl, hba⟩
     refine ⟨_, rfl, ?_⟩
     have waG := D.below hHeld.2.2.2.2.2.2.2 hba
     have waN := blk_below hHeld.2.2.2.2.2.2.1 hba
     refine hK.out _ _ ⟨waG.x4, hck waG, (blk_cell waN 0).trans rfl, (blk_cell waN 1).trans rfl, (blk_cell waN 2).trans rfl, (blk_cell waN 3).trans rfl, waN, waG⟩ (fun hHeld => ?_)
     clear hK K
     refine norm_ (a' := ?_) ?_ ?_
     rotate_left
     ·show Act.put _ (some 31) _ = _
      simp only [Act.put, List.setIfInBounds_toArray, List.set_cons_zero, List.set_cons_succ, i64_w, i32_w]
      rfl
     refine pure_ (i := 5) (N := some 32) (v := ?_) (a' := ?_) #[true, true, true, true, true, true, false, false, false, false, false, false, false, false, false, false, false, false, false, false, false, false] rfl rfl (by kernel_rfl) (fun _ _ _ h => h) (Or.inl ⟨by rfl, ?_⟩) ?_ ?_
     rotate_left
     ·intro w'
      go_simp
      with_reducible rfl
     rotate_left
     ·simp only [Act.put, List.setIfInBounds_toArray, List.set_cons_zero, List.set_cons_succ, i64_w, i32_w]
      rfl
     refine pure_ (i := 6) (N := some 33) (v := ?_) (a' := ?_) #[true, true, true, true, true, true, true, false, false, false, false, false, false, false, false, false, false, false, false, false, false, false] rfl rfl (by kernel_rfl) (fun _ _ _ h => h) (Or.inl ⟨by rfl, ?_⟩) ?_ ?_
     rotate_left
     ·intro w'
      go_simp
      with_reducible rfl
     rotate_left
     ·simp only [Act.put, List.setIfInBounds_toArray, List.set_cons_zero, List.set_cons_succ, i64_w, i32_w]
      rfl
     refine pure_ (i := 8) (N := some 35) (v := ?_) (a' := ?_) #[true, true, true, true, true, true, true, false, true, false, false, false, false, false, false, false, false, false, false, false, false, false] rfl rfl (by kernel_rfl) (fun _ _ _ h => h) (Or.inl ⟨by rfl, ?_⟩) ?_ ?_
     rotate_left
     ·intro w'
      go_simp
      with_reducible rfl
     rotate_left
     ·simp only [Act.put, List.setIfInBounds_toArray, List.set_cons_zero, List.set_cons_succ, i64_w, i32_w]
      rfl
     refine take_ (i := 7) (N := some 34) (v := ?_) (a' := ?_) #[true, true, true, true, true, true, true, true, true, false, false, false, false, false, false, false, false, false, false, false, false, false] rfl rfl (by kernel_rfl) (fun _ _ _ h => h) (Or.inl ⟨by rfl, ?_⟩) hHeld ?_ ?_
     rotate_left
     ·rintro w' ⟨s0, s1, s2, s3, s4, s5, s6, s7⟩
      go_simp
      with_reducible rfl
     rotate_left
     ·simp only [Act.put, List.setIfInBounds_toArray, List.set_cons_zero, List.set_cons_succ, i64_w, i32_w]
      rfl
     refine pure_ (i := 9) (N := some 36) (v := ?_) (a' := ?_) #[true, true, true, true, true, true, true, true, true, true, false, false, false, false, false, false, false, false, false, false, false, false] rfl rfl (by kernel_rfl) (fun _ _ _ h => h) (Or.inl ⟨by rfl, ?_⟩) ?_ ?_
     rotate_left
     ·intro w'
      go_simp
      with_reducible rfl
     rotate_left
     ·simp only [Act.put, List.setIfInBounds_toArray, List.set_cons_zero, List.set_cons_succ, i64_w, i32_w]
      rfl
     refine take_ (i := 10) (N := some 37) (v := ?_) (a' := ?_) #[true, true, true, true, true, true, true, true, true, true, true, false, false, false, false, false, false, false, false, false, false, false] rfl rfl (by kernel_rfl) (fun _ _ _ h => h) (Or.inl ⟨by rfl, ?_⟩) hHeld ?_ ?_
     rotate_left
     ·rintro w' ⟨s0, s1, s2, s3, s4, s5, s6, s7⟩
      go_simp
      with_reducible rfl
     rotate_left
     ·simp only [Act.put, List.setIfInBounds_toArray, List.set_cons_zero, List.set_cons_succ, i64_w, i32_w]
      rfl
     refine pure_ (i := 11) (N := some 38) (v := ?_) (a' := ?_) #[true, true, true, true, true, true, true, true, true, true, true, true, false, false, false, false, false, false, false, false, false, false] rfl rfl (by kernel_rfl) (fun _ _ _ h => h) (Or.inl ⟨by rfl, ?_⟩) ?_ ?_
     rotate_left
     ·intro w'
      go_simp
      with_reducible rfl
     rotate_left
     ·simp only [Act.put, List.setIfInBounds_toArray, List.set_cons_zero, List.set_cons_succ, i64_w, i32_w]
      rfl
     refine pure_ (i := 12) (N := some 39) (v := ?_) (a' := ?_) #[true, true, true, true, true, true, true, true, true, true, true, true, true, false, false, false, false, false, false, false, false, false] rfl rfl (by kernel_rfl) (fun _ _ _ h => h) (Or.inl ⟨by rfl, ?_⟩) ?_ ?_
     rotate_left
     ·intro w'
      go_simp
      with_reducible rfl
     rotate_left
     ·simp only [Act.put, List.setIfInBounds_toArray, List.set_cons_zero, List.set_cons_succ, i64_w, i32_w]
      rfl
     refine pure_ (i := 13) (N := some 40) (v := ?_) (a' := ?_) #[true, true, true, true, true, true, true, true, true, true, true, true, true, true, false, false, false, false, false, false, false, false] rfl rfl (by kernel_rfl) (fun _ _ _ h => h) (Or.inl ⟨by rfl, ?_⟩) ?_ ?_
     rotate_left
     ·intro w'
      go_simp
      with_reducible rfl
     rotate_left
     ·simp only [Act.put, List.setIfInBounds_toArray, List.set_cons_zero, List.set_cons_succ, i64_w, i32_w]
      rfl
     refine pure_ (i := 14) (N := some 41) (v := undef) (a' := ?_) #[true, true, true, true, true, true, true, true, true, true, true, true, true, true, true, false, false, false, false, false, false, false] rfl rfl (by kernel_rfl) (fun _ _ _ h => h) (Or.inr ⟨by rfl, rfl⟩) ?_ ?_
     rotate_left
     ·simp only [Act.put, List.setIfInBounds_toArray, List.set_cons_zero, List.set_cons_succ, i64_w, i32_w]
      rfl
     refine pure_ (i := 15) (N := some 42) (v := undef) (a' := ?_) #[true, true, true, true, true, true, true, true, true, true, true, true, true, true, true, true, false, false, false, false, false, false] rfl rfl (by kernel_rfl) (fun _ _ _ h => h) (Or.inr ⟨by rfl, rfl⟩) ?_ ?_
     rotate_left
     ·simp only [Act.put, List.setIfInBounds_toArray, List.set_cons_zero, List.set_cons_succ, i64_w, i32_w]
      rfl
     refine pure_ (i := 16) (N := some 43) (v := undef) (a' := ?_) #[true, true, true, true, true, true, true, true, true, true, true, true, true, true, true, true, true, false, false, false, false, false] rfl rfl (by kernel_rfl) (fun _ _ _ h => h) (Or.inr ⟨by rfl, rfl⟩) ?_ ?_
     rotate_left
     ·simp only [Act.put, List.setIfInBounds_toArray, List.set_cons_zero, List.set_cons_succ, i64_w, i32_w]
      rfl
     refine pure_ (i := 17) (N := some 44) (v := undef) (a' := ?_) #[true, true, true, true, true, true, true, true, true, true, true, true, true, true, true, true, true, true, false, false, false, false] rfl rfl (by kernel_rfl) (fun _ _ _ h => h) (Or.inr ⟨by rfl, rfl⟩) ?_ ?_
     rotate_left
     ·simp only [Act.put, List.setIfInBounds_toArray, List.set_cons_zero, List.set_cons_succ, i64_w, i32_w]
      rfl
     refine pure_ (i := 18) (N := some 45) (v := undef) (a' := ?_) #[true, true, true, true, true, true, true, true, true, true, true, true, true, true, true, true, true, true, true, false, false, false] rfl rfl (by kernel_rfl) (fun _ _ _ h => h) (Or.inr ⟨by rfl, rfl⟩) ?_ ?_
     rotate_left
     ·simp only [Act.put, List.setIfInBounds_toArray, List.set_cons_zero, List.set_cons_succ, i64_w, i32_w]
      rfl
     refine pure_ (i := 19) (N := some 46) (v := undef) (a' := ?_) #[true, true, true, true, true, true, true, true, true, true, true, true, true, true, true, true, true, true, true, true, false, false] rfl rfl (by kernel_rfl) (fun _ _ _ h => h) (Or.inr ⟨by rfl, rfl⟩) ?_ ?_
     rotate_left
     ·simp only [Act.put, List.setIfInBounds_toArray, List.set_cons_zero, List.set_cons_succ, i64_w, i32_w]
      rfl
     refine pure_ (i := 20) (N := some 47) (v := undef) (a' := ?_) #[true, true, true, true, true, true, true, true, true, true, true, true, true, true, true, true, true, true, true, true, true, false] rfl rfl (by kernel_rfl) (fun _ _ _ h => h) (Or.inr ⟨by rfl, rfl⟩) ?_ ?_
     rotate_left
     ·simp only [Act.put, List.setIfInBounds_toArray, List.set_cons_zero, List.set_cons_succ, i64_w, i32_w]
      rfl
     refine pure_ (i := 21) (N := some 48) (v := ?_) (a' := ?_) #[true, true, true, true, true, true, true, true, true, true, true, true, true, true, true, true, true, true, true, true, true, true] rfl rfl (by kernel_rfl) (fun _ _ _ h => h) (Or.inl ⟨by rfl, ?_⟩) ?_ ?_
     rotate_left
     ·intro w'
      go_simp
      with_reducible rfl
     rotate_left
     ·simp only [Act.put, List.setIfInBounds_toArray, List.set_cons_zero, List.set_cons_succ, i64_w, i32_w]
      rfl
     refine done_ (by kernel_rfl) ?_
     have hD := hHeld.2.2.2.2.2.2.2
     clear hHeld
     have hdn : dep ps = none := by rw [hs'.out]; unfold Hp.step; rw [if_pos hok'.out, evv'.out, if_pos (by simpa using hm1)]
     have hB : okB ps = false := by unfold okB; rw [hdn]
     clear hdn
     go_wp2
     go_ret2
     rw [hB]
     exact ⟨.slice none 0 0, rfl, (fun h => absurd h (by simp)), hD.bel⟩
    | false =>
     have hm1' := Aside0.mk hm1
     obtain ⟨lt, hlt⟩ : ∃ q, decide (v < T) = q := ⟨_, rfl⟩
     refine start_ (n := 22) (S := fun w' => w'.cell? ⟨g4, 0, none⟩ = some (.slice (some ⟨g, 0, none⟩) (ps.length + 1) c) ∧ w'.cell? ⟨g, k, none⟩ = some (.int .i64 v) ∧ w'.cell? ⟨g7, 0, none⟩ = some (.int .i64 ins.f0) ∧ w'.cell? ⟨g7, 1, none⟩ = some (.int .i64 ins.f1) ∧ w'.cell? ⟨g7, 2, none⟩ = some (.int .i64 ins.f2.f0) ∧ w'.cell? ⟨g7, 3, none⟩ = some (.int .i64 ins.f2.f1) ∧ w'.heap[g7]? = some (.cells (IA ins) 30 (0, 0)) ∧ D w g4 g (ps.length + 1) c l w') (ds := []) #[false, false, false, false, false, false, false, false, false, false, false, false, false, false, false, false, false, false, false, false, false, false] (by kernel_rfl) rfl rfl ⟨hDd.x4, hck hDd, (blk_cell n7d 0).trans rfl, (blk_cell n7d 1).trans rfl, (blk_cell n7d 2).trans rfl, (blk_cell n7d 3).trans rfl, n7d, hDd⟩ (fun hHeld => ?_)
     refine pure_ (i := 1) (N := some 28) (v := ?_) (a' := ?_) #[false, true, false, false, false, false, false, false, false, false, false, false, false, false, false, false, false, false, false, false, false, false] rfl rfl (by kernel_rfl) (fun _ _ _ h => h) (Or.inl ⟨by rfl, ?_⟩) ?_ ?_
     rotate_left
     ·intro w'
      go_simp
      with_reducible rfl
     rotate_left
     ·simp only [Act.put, List.setIfInBounds_toArray, List.set_cons_zero, List.set_cons_succ, i64_w, i32_w]
      rfl
     refine pure_ (i := 2) (N := some 29) (v := ?_) (a' := ?_) #[false, true, true, false, false, false, false, false, false, false, false, false, false, false, false, false, false, false, false, false, false, false] rfl rfl (by kernel_rfl) (fun _ _ _ h => h) (Or.inl ⟨by rfl, ?_⟩) ?_ ?_
     rotate_left
     ·intro w'
      go_simp
      with_reducible rfl
     rotate_left
     ·simp only [Act.put, List.setIfInBounds_toArray, List.set_cons_zero, List.set_cons_succ, i64_w, i32_w]
      rfl
     refine pure_ (i := 3) (N := some 30) (v := ?_) (a' := ?_) #[false, true, true, true, false, false, false, false, false, false, false, false, false, false, false, false, false, false, false, false, false, false] rfl rfl (by kernel_rfl) (fun _ _ _ h => h) (Or.inl ⟨by rfl, ?_⟩) ?_ ?_
     rotate_left
     ·intro w'
      go_simp
      with_reducible rfl
     rotate_left
     ·simp only [Act.put, List.setIfInBounds_toArray, List.set_cons_zero, List.set_cons_succ, i64_w, i32_w]
      rfl
     refine take_ (i := 0) (N := some 27) (v := ?_) (a' := ?_) #[true, true, true, true, false, false, false, false, false, false, false, false, false, false, false, false, false, false, false, false, false, false] rfl rfl (by kernel_rfl) (fun _ _ _ h => h) (Or.inl ⟨by rfl, ?_⟩) hHeld ?_ ?_
     rotate_left
     ·rintro w' ⟨s0, s1, s2, s3, s4, s5, s6, s7⟩
      go_simp
      with_reducible rfl
     rotate_left
     ·simp only [Act.put, List.setIfInBounds_toArray, List.set_cons_zero, List.set_cons_succ, i64_w, i32_w]
      rfl
     refine one_ (i := 4) (N := some 31) #[true, true, true, true, true, false, false, false, false, false, false, false, false, false, false, false, false, false, false, false, false, false] rfl rfl (by kernel_rfl) (by decide) (fun K hK => ?_)
     refine goes_ Tryz.func68 (by kernel_rfl) rfl #[.agg (IA ins), .int .i64 (k : Int), .int .i64 (ps.length : Int)] (by rfl) rfl rfl (by simp only [List.map_toArray, List.map_cons, List.map_nil]; rfl) ?_
     with_reducible refine (okC ins k ps.length true hok'.out _).mono ?_
     rintro e wa ⟨rfl, hba⟩
     refine ⟨_, rfl, ?_⟩
     have waG := D.below hHeld.2.2.2.2.2.2.2 hba
     have waN := blk_below hHeld.2.2.2.2.2.2.1 hba
     refine hK.out _ _ ⟨waG.x4, hck waG, (blk_cell waN 0).trans rfl, (blk_cell waN 1).trans rfl, (blk_cell waN 2).trans rfl, (blk_cell waN 3).trans rfl, waN, waG⟩ (fun hHeld => ?_)
     clear hK K
     refine norm_ (a' := ?_) ?_ ?_
     rotate_left
     ·show Act.put _ (some 31) _ = _
      simp only [Act.put, List.setIfInBounds_toArray, List.set_cons_zero, List.set_cons_succ, i64_w, i32_w]
      rfl
     refine pure_ (i := 5) (N := some 32) (v := ?_) (a' := ?_) #[true, true, true, true, true, true, false, false, false, false, false, false, false, false, false, false, false, false, false, false, false, false] rfl rfl (by kernel_rfl) (fun _ _ _ h => h) (Or.inl ⟨by rfl, ?_⟩) ?_ ?_
     rotate_left
     ·intro w'
      go_simp
      with_reducible rfl
     rotate_left
     ·simp only [Act.put, List.setIfInBounds_toArray, List.set_cons_zero, List.set_cons_succ, i64_w, i32_w]
      rfl
     refine pure_ (i := 6) (N := some 33) (v := ?_) (a' := ?_) #[true, true, true, true, true, true, true, false, false, false, false, false, false, false, false, false, false, false, false, false, false, false] rfl rfl (by kernel_rfl) (fun _ _ _ h => h) (Or.inl ⟨by rfl, ?_⟩) ?_ ?_
     rotate_left
     ·intro w'
      go_simp
      with_reducible rfl
     rotate_left
     ·simp only [Act.put, List.setIfInBounds_toArray, List.set_cons_zero, List.set_cons_succ, i64_w, i32_w]
      rfl
     refine pure_ (i := 8) (N := some 35) (v := ?_) (a' := ?_) #[true, true, true, true, true, true, true, false, true, false, false, false, false, false, false, false, false, false, false, false, false, false] rfl rfl (by kernel_rfl) (fun _ _ _ h => h) (Or.inl ⟨by rfl, ?_⟩) ?_ ?_
     rotate_left
     ·intro w'
      go_simp
      with_reducible rfl
     rotate_left
     ·simp only [Act.put, List.setIfInBounds_toArray, List.set_cons_zero, List.set_cons_succ, i64_w, i32_w]
      rfl
     refine take_ (i := 7) (N := some 34) (v := ?_) (a' := ?_) #[true, true, true, true, true, true, true, true, true, false, false, false, false, false, false, false, false, false, false, false, false, false] rfl rfl (by kernel_rfl) (fun _ _ _ h => h) (Or.inl ⟨by rfl, ?_⟩) hHeld ?_ ?_
     rotate_left
     ·rintro w' ⟨s0, s1, s2, s3, s4, s5, s6, s7⟩
      go_simp
      with_reducible rfl
     rotate_left
     ·simp only [Act.put, List.setIfInBounds_toArray, List.set_cons_zero, List.set_cons_succ, i64_w, i32_w]
      rfl
     refine pure_ (i := 9) (N := some 36) (v := ?_) (a' := ?_) #[true, true, true, true, true, true, true, true, true, true, false, false, false, false, false, false, false, false, false, false, false, false] rfl rfl (by kernel_rfl) (fun _ _ _ h => h) (Or.inl ⟨by rfl, ?_⟩) ?_ ?_
     rotate_left
     ·intro w'
      go_simp
      with_reducible rfl
     rotate_left
     ·simp only [Act.put, List.setIfInBounds_toArray, List.set_cons_zero, List.set_cons_succ, i64_w, i32_w]
      rfl
     refine take_ (i := 10) (N := some 37) (v := ?_) (a' := ?_) #[true, true, true, true, true, true, true, true, true, true, true, false, false, false, false, false, false, false, false, false, false, false] rfl rfl (by kernel_rfl) (fun _ _ _ h => h) (Or.inl ⟨by rfl, ?_⟩) hHeld ?_ ?_
     rotate_left
     ·rintro w' ⟨s0, s1, s2, s3, s4, s5, s6, s7⟩
      go_simp
      with_reducible rfl
     rotate_left
     ·simp only [Act.put, List.setIfInBounds_toArray, List.set_cons_zero, List.set_cons_succ, i64_w, i32_w]
      rfl
     refine pure_ (i := 11) (N := some 38) (v := ?_) (a' := ?_) #[true, true, true, true, true, true, true, true, true, true, true, true, false, false, false, false, false, false, false, false, false, false] rfl rfl (by kernel_rfl) (fun _ _ _ h => h) (Or.inl ⟨by rfl, ?_⟩) ?_ ?_
     rotate_left
     ·intro w'
      go_simp
      with_reducible rfl
     rotate_left
     ·simp only [Act.put, List.setIfInBounds_toArray, List.set_cons_zero, List.set_cons_succ, i64_w, i32_w]
      rfl
     refine pure_ (i := 12) (N := some 39) (v := ?_) (a' := ?_) #[true, true, true, true, true, true, true, true, true, true, true, true, true, false, false, false, false, false, false, false, false, false] rfl rfl (by kernel_rfl) (fun _ _ _ h => h) (Or.inl ⟨by rfl, ?_⟩) ?_ ?_
     rotate_left
     ·intro w'
      go_simp
      with_reducible rfl
     rotate_left
     ·simp only [Act.put, List.setIfInBounds_toArray, List.set_cons_zero, List.set_cons_succ, i64_w, i32_w]
      rfl
     refine pure_ (i := 13) (N := some 40) (v := ?_) (a' := ?_) #[true, true, true, true, true, true, true, true, true, true, true, true, true, true, false, false, false, false, false, false, false, false] rfl rfl (by kernel_rfl) (fun _ _ _ h => h) (Or.inl ⟨by rfl, ?_⟩) ?_ ?_
     rotate_left
     ·intro w'
      go_simp
      with_reducible rfl
     rotate_left
     ·simp only [Act.put, List.setIfInBounds_toArray, List.set_cons_zero, List.set_cons_succ, i64_w, i32_w]
      rfl
     refine pure_ (i := 15) (N := some 42) (v := ?_) (a' := ?_) #[true, true, true, true, true, true, true, true, true, true, true, true, true, true, false, true, false, false, false, false, false, false] rfl rfl (by kernel_rfl) (fun _ _ _ h => h) (Or.inl ⟨by rfl, ?_⟩) ?_ ?_
     rotate_left
     ·intro w'
      go_simp
      with_reducible rfl
     rotate_left
     ·simp only [Act.put, List.setIfInBounds_toArray, List.set_cons_zero, List.set_cons_succ, i64_w, i32_w]
      rfl
     refine take_ (i := 14) (N := some 41) (v := ?_) (a' := ?_) #[true, true, true, true, true, true, true, true, true, true, true, true, true, true, true, true, false, false, false, false, false, false] rfl rfl (by kernel_rfl) (fun _ _ _ h => h) (Or.inl ⟨by rfl, ?_⟩) hHeld ?_ ?_
     rotate_left
     ·rintro w' ⟨s0, s1, s2, s3, s4, s5, s6, s7⟩
      go_simp
      with_reducible rfl
     rotate_left
     ·simp only [Act.put, List.setIfInBounds_toArray, List.set_cons_zero, List.set_cons_succ, i64_w, i32_w]
      rfl
     refine pure_ (i := 16) (N := some 43) (v := ?_) (a' := ?_) #[true, true, true, true, true, true, true, true, true, true, true, true, true, true, true, true, true, false, false, false, false, false] rfl rfl (by kernel_rfl) (fun _ _ _ h => h) (Or.inl ⟨by rfl, ?_⟩) ?_ ?_
     rotate_left
     ·intro w'
      go_simp
      with_reducible rfl
     rotate_left
     ·simp only [Act.put, List.setIfInBounds_toArray, List.set_cons_zero, List.set_cons_succ, i64_w, i32_w]
      rfl
     refine take_ (i := 17) (N := some 44) (v := ?_) (a' := ?_) #[true, true, true, true, true, true, true, true, true, true, true, true, true, true, true, true, true, true, false, false, false, false] rfl rfl (by kernel_rfl) (fun _ _ _ h => h) (Or.inl ⟨by rfl, ?_⟩) hHeld ?_ ?_
     rotate_left
     ·rintro w' ⟨s0, s1, s2, s3, s4, s5, s6, s7⟩
      go_simp
      with_reducible rfl
     rotate_left
     ·simp only [Act.put, List.setIfInBounds_toArray, List.set_cons_zero, List.set_cons_succ, i64_w, i32_w]
      rfl
     refine take_ (i := 18) (N := some 45) (v := ?_) (a' := ?_) #[true, true, true, true, true, true, true, true, true, true, true, true, true, true, true, true, true, true, true, false, false, false] rfl rfl (by kernel_rfl) (fun _ _ _ h => h) (Or.inl ⟨by rfl, ?_⟩) hHeld ?_ ?_
     rotate_left
     ·rintro w' ⟨s0, s1, s2, s3, s4, s5, s6, s7⟩
      go_simp
      with_reducible rfl
     rotate_left
     ·simp only [Act.put, List.setIfInBounds_toArray, List.set_cons_zero, List.set_cons_succ, i64_w, i32_w]
      rfl
     refine one_ (i := 19) (N := some 46) #[true, true, true, true, true, true, true, true, true, true, true, true, true, true, true, true, true, true, true, true, false, false] rfl rfl (by kernel_rfl) (by decide) (fun K hK => ?_)
     refine goes_ Tryz.func69 (by kernel_rfl) rfl #[.agg (IA ins)] (by rfl) rfl rfl (by simp only [List.map_toArray, List.map_cons, List.map_nil]; rfl) ?_
     with_reducible refine (takesC ins T eT'.out _).mono ?_
     rintro e wb ⟨rfl, hbb⟩
     refine ⟨_, rfl, ?_⟩
     have wbG := D.below hHeld.2.2.2.2.2.2.2 hbb
     have wbN := blk_below hHeld.2.2.2.2.2.2.1 hbb
     refine hK.out _ _ ⟨wbG.x4, hck wbG, (blk_cell wbN 0).trans rfl, (blk_cell wbN 1).trans rfl, (blk_cell wbN 2).trans rfl, (blk_cell wbN 3).trans rfl, wbN, wbG⟩ (fun hHeld => ?_)
     clear hK K
     refine norm_ (a' := ?_) ?_ ?_
     rotate_left
     ·show Act.put _ (some 46) _ = _
      simp only [Act.put, List.setIfInBounds_toArray, List.set_cons_zero, List.set_cons_succ, i64_w, i32_w]
      rfl
     refine pure_ (i := 20) (N := some 47) (v := ?_) (a' := ?_) #[true, true, true, true, true, true, true, true, true, true, true, true, true, true, true, true, true, true, true, true, true, false] rfl rfl (by kernel_rfl) (fun _ _ _ h => h) (Or.inl ⟨by rfl, ?_⟩) ?_ ?_
     rotate_left
     ·intro w'
      go_simp
      with_reducible rfl
     rotate_left
     ·simp only [Act.put, List.setIfInBounds_toArray, List.set_cons_zero, List.set_cons_succ, i64_w, i32_w]
      rfl
     refine pure_ (i := 21) (N := some 48) (v := ?_) (a' := ?_) #[true, true, true, true, true, true, true, true, true, true, true, true, true, true, true, true, true, true, true, true, true, true] rfl rfl (by kernel_rfl) (fun _ _ _ h => h) (Or.inl ⟨by rfl, ?_⟩) ?_ ?_
     rotate_left
     ·intro w'
      go_simp
      with_reducible rfl
     rotate_left
     ·simp only [Act.put, List.setIfInBounds_toArray, List.set_cons_zero, List.set_cons_succ, i64_w, i32_w]
      rfl
     refine done_ (by kernel_rfl) ?_
     have hD := hHeld.2.2.2.2.2.2.2
     have n7 := hHeld.2.2.2.2.2.2.1
     clear hHeld
     cases lt with
     | true =>
      have hdn : dep ps = none := by rw [hs'.out]; unfold Hp.step; rw [if_pos hok'.out, evv'.out, if_neg (by simpa using hm1'.out), eT'.out, if_pos (of_decide_eq_true hlt)]
      have hB : okB ps = false := by unfold okB; rw [hdn]
      clear hdn
      go_wp2
      go_ret2
      rw [hB]
      exact ⟨.slice none 0 0, rfl, (fun h => absurd h (by simp)), hD.bel⟩
     | false =>
      have hlt' := Aside0.mk hlt
      clear hlt hm1 hDd n7d
      go_upto_region 11 with (fail)
      have hDd := hD.drew
      have n7d := blk_drew n7
      clear hD n7
      refine start_ (n := 11) (S := fun w' => w'.cell? ⟨g4, 0, none⟩ = some (.slice (some ⟨g, 0, none⟩) (ps.length + 1) c) ∧ w'.cell? ⟨g, k, none⟩ = some (.int .i64 v) ∧ w'.cell? ⟨g7, 0, none⟩ = some (.int .i64 ins.f0) ∧ w'.cell? ⟨g7, 1, none⟩ = some (.int .i64 ins.f1) ∧ w'.cell? ⟨g7, 2, none⟩ = some (.int .i64 ins.f2.f0) ∧ w'.cell? ⟨g7, 3, none⟩ = some (.int .i64 ins.f2.f1) ∧ w'.heap[g7]? = some (.cells (IA ins) 30 (0, 0)) ∧ D w g4 g (ps.length + 1) c l w') (ds := []) #[false, false, false, false, false, false, false, false, false, false, false] (by kernel_rfl) rfl rfl ⟨hDd.x4, hck hDd, (blk_cell n7d 0).trans rfl, (blk_cell n7d 1).trans rfl, (blk_cell n7d 2).trans rfl, (blk_cell n7d 3).trans rfl, n7d, hDd⟩ (fun hHeld => ?_)
      refine pure_ (i := 1) (N := some 50) (v := ?_) (a' := ?_) #[false, true, false, false, false, false, false, false, false, false, false] rfl rfl (by kernel_rfl) (fun _ _ _ h => h) (Or.inl ⟨by rfl, ?_⟩) ?_ ?_
      rotate_left
      ·intro w'
       go_simp
       with_reducible rfl
      rotate_left
      ·simp only [Act.put, List.setIfInBounds_toArray, List.set_cons_zero, List.set_cons_succ, i64_w, i32_w]
       rfl
      refine take_ (i := 0) (N := some 49) (v := ?_) (a' := ?_) #[true, true, false, false, false, false, false, false, false, false, false] rfl rfl (by kernel_rfl) (fun _ _ _ h => h) (Or.inl ⟨by rfl, ?_⟩) hHeld ?_ ?_
      rotate_left
      ·rintro w' ⟨s0, s1, s2, s3, s4, s5, s6, s7⟩
       go_simp
       with_reducible rfl
      rotate_left
      ·simp only [Act.put, List.setIfInBounds_toArray, List.set_cons_zero, List.set_cons_succ, i64_w, i32_w]
       rfl
      refine pure_ (i := 2) (N := some 51) (v := ?_) (a' := ?_) #[true, true, true, false, false, false, false, false, false, false, false] rfl rfl (by kernel_rfl) (fun _ _ _ h => h) (Or.inl ⟨by rfl, ?_⟩) ?_ ?_
      rotate_left
      ·intro w'
       go_simp
       with_reducible rfl
      rotate_left
      ·simp only [Act.put, List.setIfInBounds_toArray, List.set_cons_zero, List.set_cons_succ, i64_w, i32_w]
       rfl
      refine take_ (i := 3) (N := some 52) (v := ?_) (a' := ?_) #[true, true, true, true, false, false, false, false, false, false, false] rfl rfl (by kernel_rfl) (fun _ _ _ h => h) (Or.inl ⟨by rfl, ?_⟩) hHeld ?_ ?_
      rotate_left
      ·rintro w' ⟨s0, s1, s2, s3, s4, s5, s6, s7⟩
       go_simp
       with_reducible rfl
      rotate_left
      ·simp only [Act.put, List.setIfInBounds_toArray, List.set_cons_zero, List.set_cons_succ, i64_w, i32_w]
       rfl
      refine take_ (i := 4) (N := some 53) (v := ?_) (a' := ?_) #[true, true, true, true, true, false, false, false, false, false, false] rfl rfl (by kernel_rfl) (fun _ _ _ h => h) (Or.inl ⟨by rfl, ?_⟩) hHeld ?_ ?_
      rotate_left
      ·rintro w' ⟨s0, s1, s2, s3, s4, s5, s6, s7⟩
       go_simp
       with_reducible rfl
      rotate_left
      ·simp only [Act.put, List.setIfInBounds_toArray, List.set_cons_zero, List.set_cons_succ, i64_w, i32_w]
       rfl
      refine take_ (i := 7) (N := some 56) (v := ?_) (a' := ?_) #[true, true, true, true, true, false, false, true, false, false, false] rfl rfl (by kernel_rfl) (fun _ _ _ h => h) (Or.inl ⟨by rfl, ?_⟩) hHeld ?_ ?_
      rotate_left
      ·rintro w' ⟨s0, s1, s2, s3, s4, s5, s6, s7⟩
       go_simp
       with_reducible rfl
      rotate_left
      ·simp only [Act.put, List.setIfInBounds_toArray, List.set_cons_zero, List.set_cons_succ, i64_w, i32_w]
       rfl
      refine one_ (i := 5) (N := some 54) #[true, true, true, true, true, true, false, true, false, false, false] rfl rfl (by kernel_rfl) (by decide) (fun K hK => ?_)
      refine goes_ Tryz.func69 (by kernel_rfl) rfl #[.agg (IA ins)] (by rfl) rfl rfl (by simp only [List.map_toArray, List.map_cons, List.map_nil]; rfl) ?_
      with_reducible refine (takesC ins T eT'.out _).mono ?_
      rintro e wb ⟨rfl, hbb⟩
      refine ⟨_, rfl, ?_⟩
      have wbG := D.below hHeld.2.2.2.2.2.2.2 hbb
      have wbN := blk_below hHeld.2.2.2.2.2.2.1 hbb
      refine hK.out _ _ ⟨wbG.x4, hck wbG, (blk_cell wbN 0).trans rfl, (blk_cell wbN 1).trans rfl, (blk_cell wbN 2).trans rfl, (blk_cell wbN 3).trans rfl, wbN, wbG⟩ (fun hHeld => ?_)
      clear hK K
      refine norm_ (a' := ?_) ?_ ?_
      rotate_left
      ·show Act.put _ (some 54) _ = _
       simp only [Act.put, List.setIfInBounds_toArray, List.set_cons_zero, List.set_cons_succ, i64_w, i32_w]
       rfl
      refine pure_ (i := 6) (N := some 55) (v := ?_) (a' := ?_) #[true, true, true, true, true, true, true, true, false, false, false] rfl rfl (by kernel_rfl) (fun _ _ _ h => h) (Or.inl ⟨by rfl, ?_⟩) ?_ ?_
      rotate_left
      ·intro w'
       go_simp
       with_reducible rfl
      rotate_left
      ·simp only [Act.put, List.setIfInBounds_toArray, List.set_cons_zero, List.set_cons_succ, i64_w, i32_w]
       rfl
      refine one_ (i := 8) (N := some 57) #[true, true, true, true, true, true, true, true, true, false, false] rfl rfl (by kernel_rfl) (by decide) (fun K hK => ?_)
      refine goes_ Tryz.func70 (by kernel_rfl) rfl #[.agg (IA ins)] (by rfl) rfl rfl (by simp only [List.map_toArray, List.map_cons, List.map_nil]; rfl) ?_
      with_reducible refine (givesC ins G eG'.out _).mono ?_
      rintro e wc ⟨rfl, hbc⟩
      refine ⟨_, rfl, ?_⟩
      have wcG := D.below hHeld.2.2.2.2.2.2.2 hbc
      have wcN := blk_below hHeld.2.2.2.2.2.2.1 hbc
      refine hK.out _ _ ⟨wcG.x4, hck wcG, (blk_cell wcN 0).trans rfl, (blk_cell wcN 1).trans rfl, (blk_cell wcN 2).trans rfl, (blk_cell wcN 3).trans rfl, wcN, wcG⟩ (fun hHeld => ?_)
      clear hK K
      refine norm_ (a' := ?_) ?_ ?_
      rotate_left
      ·show Act.put _ (some 57) _ = _
       simp only [Act.put, List.setIfInBounds_toArray, List.set_cons_zero, List.set_cons_succ, i64_w, i32_w]
       rfl
      refine pure_ (i := 9) (N := some 58) (v := ?_) (a' := ?_) #[true, true, true, true, true, true, true, true, true, true, false] rfl rfl (by kernel_rfl) (fun _ _ _ h => h) (Or.inl ⟨by rfl, ?_⟩) ?_ ?_
      rotate_left
      ·intro w'
       go_simp
       with_reducible rfl
      rotate_left
      ·simp only [Act.put, List.setIfInBounds_toArray, List.set_cons_zero, List.set_cons_succ, i64_w, i32_w]
       rfl
      refine pure_ (i := 10) (N := some 8) (v := ?_) (a' := ?_) #[true, true, true, true, true, true, true, true, true, true, true] rfl rfl (by kernel_rfl) (fun _ _ _ h => h) (Or.inl ⟨by rfl, ?_⟩) ?_ ?_
      rotate_left
      ·intro w'
       go_simp
       with_reducible rfl
      rotate_left
      ·simp only [Act.put, List.setIfInBounds_toArray, List.set_cons_zero, List.set_cons_succ, i64_w, i32_w]
       rfl
      refine done_ (by kernel_rfl) ?_
      have hD := hHeld.2.2.2.2.2.2.2
      have n7 := hHeld.2.2.2.2.2.2.1
      clear hHeld hDd n7d
      obtain ⟨t, et⟩ : ∃ q, v - T + G = q := ⟨_, rfl⟩
      rw [et]
      have et' := Aside0.mk et
      clear w1_ w2_ et
      have hst : Hp.step ins k ps.length l = (if 12 < t then none else
       if goB ins.f0 = true then
        if told l ins.f1 t = true then
         if foB ins.f0 = true then
          if told (Ht.tell l ins.f1 t) ((k + 1 : Nat) : Int) t = true then some (Ht.tell (Ht.tell l ins.f1 t) ((k + 1 : Nat) : Int) t) else none
         else some (Ht.tell l ins.f1 t)
        else none
       else if foB ins.f0 = true then
        if told l ((k + 1 : Nat) : Int) t = true then some (Ht.tell l ((k + 1 : Nat) : Int) t) else none
       else some l) := by
       unfold Hp.step
       rw [if_pos hok'.out, evv'.out, if_neg (by simpa using hm1'.out), eT'.out, if_neg (of_decide_eq_false hlt'.out), eG'.out, et'.out]
      have hst' := Aside0.mk hst
      clear hst
      cases h12 : decide (12 < t) with
      | true =>
       have hdn : dep ps = none := by rw [hs'.out, hst'.out, if_pos (of_decide_eq_true h12)]
       have hB : okB ps = false := by unfold okB; rw [hdn]
       clear hdn
       go_wp2
       go_ret2
       rw [hB]
       exact ⟨.slice none 0 0, rfl, (fun h => absurd h (by simp)), hD.bel⟩
      | false =>
       have h12' := Aside0.mk h12
       have tb : -1 ≤ t ∧ t ≤ 12 := by have := of_decide_eq_false h12; have := hvb.out; have := htb.out; have := hgb.out; have h3 := et'.out; have h4 := of_decide_eq_false hlt'.out; omega
       have tb' := Aside0.mk tb
       clear tb
       have i70 : wc.cell? ⟨g7, 0, none⟩ = some (.int .i64 ins.f0) := (blk_cell n7 0).trans rfl
       have i71 : wc.cell? ⟨g7, 1, none⟩ = some (.int .i64 ins.f1) := (blk_cell n7 1).trans rfl
       have i72 : wc.cell? ⟨g7, 2, none⟩ = some (.int .i64 ins.f2.f0) := (blk_cell n7 2).trans rfl
       have i73 : wc.cell? ⟨g7, 3, none⟩ = some (.int .i64 ins.f2.f1) := (blk_cell n7 3).trans rfl
       have hkn := hkn'.out
       have hle := hle'.out
       cases hgo : goB ins.f0 with
       | false =>
        have hgo' := Aside0.mk hgo
        clear hgo
        go_wp2_with fail
        refine (goesC ins false hgo'.out _).mono ?_
        rintro e wa ⟨rfl, hba⟩
        replace hD := hD.below hba
        replace n7 := blk_below n7 hba
        clear i70 i71 i72 i73
        have i70 : wa.cell? ⟨g7, 0, none⟩ = some (.int .i64 ins.f0) := (blk_cell n7 0).trans rfl
        have i71 : wa.cell? ⟨g7, 1, none⟩ = some (.int .i64 ins.f1) := (blk_cell n7 1).trans rfl
        have i72 : wa.cell? ⟨g7, 2, none⟩ = some (.int .i64 ins.f2.f0) := (blk_cell n7 2).trans rfl
        have i73 : wa.cell? ⟨g7, 3, none⟩ = some (.int .i64 ins.f2.f1) := (blk_cell n7 3).trans rfl
        cases hfo : foB ins.f0 with
        | false =>
         have hfo' := Aside0.mk hfo
         clear hfo
         go_wp2_with fail
         refine (followsC ins false hfo'.out _).mono ?_
         rintro e wf ⟨rfl, hbf⟩
         replace hD := hD.below hbf
         clear i70 i71 i72 i73
         have hnx : Hp.run ps (ps.length - (k + 1)) (k + 1) (l) = dep ps := by
          have h_ := hs'.out
          rw [hst'.out, if_neg (of_decide_eq_false h12'.out), if_neg (by rw [hgo'.out]; simp), if_neg (by rw [hfo'.out]; simp)] at h_
          exact h_.symm
         have hbx : ∀ x ∈ l, -1 ≤ x ∧ x ≤ 12 := hbd'.out
         have hnx' := Aside0.mk hnx
         have hbx' := Aside0.mk hbx
         clear hnx hbx
         have hkk := hkn'.out
         go_wp2
         have wk : wrap64 ((k : Int) + 1) = ((k + 1 : Nat) : Int) := by unfold wrap64; omega
         go_roundw
         case rel => exact ⟨k + 1, _, hkk, by first | (rw [wk]; done) | rfl | (simp [wk]; done) | go_num, hnx'.out, hbx'.out, hD⟩
         case measure => first | (simp only [intOf, wk, Int.toNat_natCast]; omega) | (simp [intOf]; omega)
        | true =>
         have hfo' := Aside0.mk hfo
         clear hfo
         go_wp2_with fail
         refine (followsC ins true hfo'.out _).mono ?_
         rintro e wf ⟨rfl, hbf⟩
         replace hD := hD.below hbf
         replace n7 := blk_below n7 hbf
         clear i70 i71 i72 i73
         have hk2 : k + 1 < ps.length + 1 := by have := hkn'.out; omega
         cases ht2 : told (l) ((k + 1 : Nat) : Int) t with
         | false =>
          have ht2' := Aside0.mk ht2
          clear ht2
          go_wp2_with fail
          refine (hD.tellS k t hk2 n7 false ht2'.out).mono ?_
          rintro e wt ⟨rfl, hD9, _⟩
          have hD := hD9
          have hdn : dep ps = none := by rw [hs'.out, hst'.out, if_neg (of_decide_eq_false h12'.out), if_neg (by rw [hgo'.out]; simp), if_pos hfo'.out, if_neg (by rw [ht2'.out]; simp)]
          have hB : okB ps = false := by unfold okB; rw [hdn]
          clear hdn
          go_wp2
          go_ret2
          rw [hB]
          exact ⟨.slice none 0 0, rfl, (fun h => absurd h (by simp)), hD.bel⟩
         | true =>
          have ht2' := Aside0.mk ht2
          clear ht2
          go_wp2_with fail
          refine (hD.tellS k t hk2 n7 true ht2'.out).mono ?_
          rintro e wt ⟨rfl, hD9, _⟩
          have hD := hD9
          have hnx : Hp.run ps (ps.length - (k + 1)) (k + 1) (Ht.tell (l) ((k + 1 : Nat) : Int) t) = dep ps := by
           have h_ := hs'.out
           rw [hst'.out, if_neg (of_decide_eq_false h12'.out), if_neg (by rw [hgo'.out]; simp), if_pos hfo'.out, if_pos ht2'.out] at h_
           exact h_.symm
          have hbx : ∀ x ∈ Ht.tell (l) ((k + 1 : Nat) : Int) t, -1 ≤ x ∧ x ≤ 12 := tell_bd (hbd'.out) tb'.out
          have hnx' := Aside0.mk hnx
          have hbx' := Aside0.mk hbx
          clear hnx hbx
          have hkk := hkn'.out
          go_wp2
          have wk : wrap64 ((k : Int) + 1) = ((k + 1 : Nat) : Int) := by unfold wrap64; omega
          go_roundw
          case rel => exact ⟨k + 1, _, hkk, by first | (rw [wk]; done) | rfl | (simp [wk]; done) | go_num, hnx'.out, hbx'.out, hD⟩
          case measure => first | (simp only [intOf, wk, Int.toNat_natCast]; omega) | (simp [intOf]; omega)
       | true =>
        have hgo' := Aside0.mk hgo
        clear hgo
        obtain ⟨b0, b1⟩ := ok_goes hok'.out hgo'.out (by omega) (by have := hkn'.out; omega)
        go_wp2_with fail
        refine (goesC ins true hgo'.out _).mono ?_
        rintro e wa ⟨rfl, hba⟩
        replace hD := hD.below hba
        replace n7 := blk_below n7 hba
        clear i70 i71 i72 i73
        have i70 : wa.cell? ⟨g7, 0, none⟩ = some (.int .i64 ins.f0) := (blk_cell n7 0).trans rfl
        have i71 : wa.cell? ⟨g7, 1, none⟩ = some (.int .i64 ins.f1) := (blk_cell n7 1).trans rfl
        have i72 : wa.cell? ⟨g7, 2, none⟩ = some (.int .i64 ins.f2.f0) := (blk_cell n7 2).trans rfl
        have i73 : wa.cell? ⟨g7, 3, none⟩ = some (.int .i64 ins.f2.f1) := (blk_cell n7 3).trans rfl
        cases ht1 : told l ins.f1 t with
        | false =>
         have ht1' := Aside0.mk ht1
         clear ht1
         go_wp2_with fail
         refine (hD.tellB ins.f1 t b0 (by omega) n7 false ht1'.out).mono ?_
         rintro e wt ⟨rfl, hD9, _⟩
         have hD := hD9
         have hdn : dep ps = none := by rw [hs'.out, hst'.out, if_neg (of_decide_eq_false h12'.out), if_pos hgo'.out, if_neg (by rw [ht1'.out]; simp)]
         have hB : okB ps = false := by unfold okB; rw [hdn]
         clear hdn
         go_wp2
         go_ret2
         rw [hB]
         exact ⟨.slice none 0 0, rfl, (fun h => absurd h (by simp)), hD.bel⟩
        | true =>
         have ht1' := Aside0.mk ht1
         clear ht1
         go_wp2_with fail
         refine (hD.tellB ins.f1 t b0 (by omega) n7 true ht1'.out).mono ?_
         rintro e wt ⟨rfl, hD9, n79⟩
         replace hD := hD9
         clear n7 hD9 i70 i71 i72 i73 b0 b1
         have n7 := n79
         clear n79
         have i70 : wt.cell? ⟨g7, 0, none⟩ = some (.int .i64 ins.f0) := (blk_cell n7 0).trans rfl
         have i71 : wt.cell? ⟨g7, 1, none⟩ = some (.int .i64 ins.f1) := (blk_cell n7 1).trans rfl
         have i72 : wt.cell? ⟨g7, 2, none⟩ = some (.int .i64 ins.f2.f0) := (blk_cell n7 2).trans rfl
         have i73 : wt.cell? ⟨g7, 3, none⟩ = some (.int .i64 ins.f2.f1) := (blk_cell n7 3).trans rfl
         cases hfo : foB ins.f0 with
         | false =>
          have hfo' := Aside0.mk hfo
          clear hfo
          go_wp2_with fail
          refine (followsC ins false hfo'.out _).mono ?_
          rintro e wf ⟨rfl, hbf⟩
          replace hD := hD.below hbf
          clear i70 i71 i72 i73
          have hnx : Hp.run ps (ps.length - (k + 1)) (k + 1) (Ht.tell l ins.f1 t) = dep ps := by
           have h_ := hs'.out
           rw [hst'.out, if_neg (of_decide_eq_false h12'.out), if_pos hgo'.out, if_pos ht1'.out, if_neg (by rw [hfo'.out]; simp)] at h_
           exact h_.symm
          have hbx : ∀ x ∈ Ht.tell l ins.f1 t, -1 ≤ x ∧ x ≤ 12 := tell_bd hbd'.out tb'.out
          have hnx' := Aside0.mk hnx
          have hbx' := Aside0.mk hbx
          clear hnx hbx
          have hkk := hkn'.out
          go_wp2
          have wk : wrap64 ((k : Int) + 1) = ((k + 1 : Nat) : Int) := by unfold wrap64; omega
          go_roundw
          case rel => exact ⟨k + 1, _, hkk, by first | (rw [wk]; done) | rfl | (simp [wk]; done) | go_num, hnx'.out, hbx'.out, hD⟩
          case measure => first | (simp only [intOf, wk, Int.toNat_natCast]; omega) | (simp [intOf]; omega)
         | true =>
          have hfo' := Aside0.mk hfo
          clear hfo
          go_wp2_with fail
          refine (followsC ins true hfo'.out _).mono ?_
          rintro e wf ⟨rfl, hbf⟩
          replace hD := hD.below hbf
          replace n7 := blk_below n7 hbf
          clear i70 i71 i72 i73
          have hk2 : k + 1 < ps.length + 1 := by have := hkn'.out; omega
          cases ht2 : told (Ht.tell l ins.f1 t) ((k + 1 : Nat) : Int) t with
          | false =>
           have ht2' := Aside0.mk ht2
           clear ht2
           go_wp2_with fail
           refine (hD.tellS k t hk2 n7 false ht2'.out).mono ?_
           rintro e wt ⟨rfl, hD9, _⟩
           have hD := hD9
           have hdn : dep ps = none := by rw [hs'.out, hst'.out, if_neg (of_decide_eq_false h12'.out), if_pos hgo'.out, if_pos ht1'.out, if_pos hfo'.out, if_neg (by rw [ht2'.out]; simp)]
           have hB : okB ps = false := by unfold okB; rw [hdn]
           clear hdn
           go_wp2
           go_ret2
           rw [hB]
           exact ⟨.slice none 0 0, rfl, (fun h => absurd h (by simp)), hD.bel⟩
          | true =>
           have ht2' := Aside0.mk ht2
           clear ht2
           go_wp2_with fail
           refine (hD.tellS k t hk2 n7 true ht2'.out).mono ?_
           rintro e wt ⟨rfl, hD9, _⟩
           have hD := hD9
           have hnx : Hp.run ps (ps.length - (k + 1)) (k + 1) (Ht.tell (Ht.tell l ins.f1 t) ((k + 1 : Nat) : Int) t) = dep ps := by
            have h_ := hs'.out
            rw [hst'.out, if_neg (of_decide_eq_false h12'.out), if_pos hgo'.out, if_pos ht1'.out, if_pos hfo'.out, if_pos ht2'.out] at h_
            exact h_.symm
           have hbx : ∀ x ∈ Ht.tell (Ht.tell l ins.f1 t) ((k + 1 : Nat) : Int) t, -1 ≤ x ∧ x ≤ 12 := tell_bd (tell_bd hbd'.out tb'.out) tb'.out
           have hnx' := Aside0.mk hnx
           have hbx' := Aside0.mk hbx
           clear hnx hbx
           have hkk := hkn'.out
           go_wp2
           have wk : wrap64 ((k : Int) + 1) = ((k + 1 : Nat) : Int) := by unfold wrap64; omega
           go_roundw
           case rel => exact ⟨k + 1, _, hkk, by first | (rw [wk]; done) | rfl | (simp [wk]; done) | go_num, hnx'.out, hbx'.out, hD⟩
           case measure => first | (simp only [intOf, wk, Int.toNat_natCast]; omega) | (simp [intOf]; omega)
  ·have hkn2 : k = ps.length := by omega
   subst hkn2
   have d2 : decide (ps.length < ps.length) = false := by simp
   have hdn : dep ps = some l := by rw [← hrun, Nat.sub_self]; rfl
   have hB : okB ps = (rd l (ps.length : Int) == 0) := by unfold okB; rw [hdn]
   have hx := hD.at_ ps.length (by omega)
   have i4 := hD.x4
   generalize hq : rd l (ps.length : Int) = q at hx hB
   have hx0 := Aside0.mk hx
   have hdn2 := Aside0.mk hdn
   have hB2 := Aside0.mk hB
   clear hrun hk hdn hB hq hbd hkn
   clear hx i4
   go_upto_region 15 with (fail)
   have hDd := hD.drew
   have kk : (ps.length : Int) < (ps.length : Int) + 1 := by omega
   have hxd : wr.drew.cell? ⟨g, ps.length, none⟩ = some (.int .i64 q) := hx0.out
   clear hD
   refine start_ (n := 9) (S := fun w' => w'.cell? ⟨g4, 0, none⟩ = some (.slice (some ⟨g, 0, none⟩) (ps.length + 1) c) ∧ w'.cell? ⟨g, ps.length, none⟩ = some (.int .i64 q) ∧ D w g4 g (ps.length + 1) c l w') (ds := []) #[false, false, false, false, false, false, false, false, false] (by kernel_rfl) rfl rfl ⟨hDd.x4, hxd, hDd⟩ (fun hHeld => ?_)
   refine pure_ (i := 2) (N := some 88) (v := ?_) (a' := ?_) #[false, false, true, false, false, false, false, false, false] rfl rfl (by kernel_rfl) (fun _ _ _ h => h) (Or.inl ⟨by rfl, ?_⟩) ?_ ?_
   rotate_left
   ·intro w'
    go_simp
    with_reducible rfl
   rotate_left
   ·simp only [Act.put, List.setIfInBounds_toArray, List.set_cons_zero, List.set_cons_succ, i64_w, i32_w]
    rfl
   refine pure_ (i := 3) (N := some 89) (v := ?_) (a' := ?_) #[false, false, true, true, false, false, false, false, false] rfl rfl (by kernel_rfl) (fun _ _ _ h => h) (Or.inl ⟨by rfl, ?_⟩) ?_ ?_
   rotate_left
   ·intro w'
    go_simp
    with_reducible rfl
   rotate_left
   ·simp only [Act.put, List.setIfInBounds_toArray, List.set_cons_zero, List.set_cons_succ, i64_w, i32_w]
    rfl
   refine take_ (i := 0) (N := some 86) (v := ?_) (a' := ?_) #[true, false, true, true, false, false, false, false, false] rfl rfl (by kernel_rfl) (fun _ _ _ h => h) (Or.inl ⟨by rfl, ?_⟩) hHeld ?_ ?_
   rotate_left
   ·rintro w' ⟨s0, s1, s2⟩
    go_simp
    with_reducible rfl
   rotate_left
   ·simp only [Act.put, List.setIfInBounds_toArray, List.set_cons_zero, List.set_cons_succ, i64_w, i32_w]
    rfl
   refine pure_ (i := 7) (N := some 2) (v := ?_) (a' := ?_) #[true, false, true, true, false, false, false, true, false] rfl rfl (by kernel_rfl) (fun _ _ _ h => h) (Or.inl ⟨by rfl, ?_⟩) ?_ ?_
   rotate_left
   ·intro w'
    go_simp
    with_reducible rfl
   rotate_left
   ·simp only [Act.put, List.setIfInBounds_toArray, List.set_cons_zero, List.set_cons_succ, i64_w, i32_w]
    rfl
   refine take_ (i := 1) (N := some 87) (v := ?_) (a' := ?_) #[true, true, true, true, false, false, false, true, false] rfl rfl (by kernel_rfl) (fun _ _ _ h => h) (Or.inl ⟨by rfl, ?_⟩) hHeld ?_ ?_
   rotate_left
   ·rintro w' ⟨s0, s1, s2⟩
    go_simp
    with_reducible rfl
   rotate_left
   ·simp only [Act.put, List.setIfInBounds_toArray, List.set_cons_zero, List.set_cons_succ, i64_w, i32_w]
    rfl
   refine pure_ (i := 4) (N := some 90) (v := ?_) (a' := ?_) #[true, true, true, true, true, false, false, true, false] rfl rfl (by kernel_rfl) (fun _ _ _ h => h) (Or.inl ⟨by rfl, ?_⟩) ?_ ?_
   rotate_left
   ·intro w'
    go_simp
    with_reducible rfl
   rotate_left
   ·simp only [Act.put, List.setIfInBounds_toArray, List.set_cons_zero, List.set_cons_succ, i64_w, i32_w]
    rfl
   refine take_ (i := 5) (N := some 91) (v := ?_) (a' := ?_) #[true, true, true, true, true, true, false, true, false] rfl rfl (by kernel_rfl) (fun _ _ _ h => h) (Or.inl ⟨by rfl, ?_⟩) hHeld ?_ ?_
   rotate_left
   ·rintro w' ⟨s0, s1, s2⟩
    go_simp
    with_reducible rfl
   rotate_left
   ·simp only [Act.put, List.setIfInBounds_toArray, List.set_cons_zero, List.set_cons_succ, i64_w, i32_w]
    rfl
   refine pure_ (i := 6) (N := some 92) (v := ?_) (a' := ?_) #[true, true, true, true, true, true, true, true, false] rfl rfl (by kernel_rfl) (fun _ _ _ h => h) (Or.inl ⟨by rfl, ?_⟩) ?_ ?_
   rotate_left
   ·intro w'
    go_simp
    with_reducible rfl
   rotate_left
   ·simp only [Act.put, List.setIfInBounds_toArray, List.set_cons_zero, List.set_cons_succ, i64_w, i32_w]
    rfl
   refine pure_ (i := 8) (N := some 3) (v := ?_) (a' := ?_) #[true, true, true, true, true, true, true, true, true] rfl rfl (by kernel_rfl) (fun _ _ _ h => h) (Or.inl ⟨by rfl, ?_⟩) ?_ ?_
   rotate_left
   ·intro w'
    go_simp
    with_reducible rfl
   rotate_left
   ·simp only [Act.put, List.setIfInBounds_toArray, List.set_cons_zero, List.set_cons_succ, i64_w, i32_w]
    rfl
   refine done_ (by kernel_rfl) ?_
   have hD := hHeld.2.2
   clear hHeld
   go_wp2
   go_ret2
   rw [hB2.out]
   exact ⟨_, rfl, fun _ => ⟨g, c, l, hdn2.out, rfl, hD.r⟩, hD.bel⟩
end Go.Proofs.YtjamfddhcigchaaGreatDoor.Hd
