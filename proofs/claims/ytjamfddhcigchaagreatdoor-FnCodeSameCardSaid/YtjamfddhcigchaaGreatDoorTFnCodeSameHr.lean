/- slices.Repeat of one number, between 1 and 401 times: a row of the call's own that holds it so many times. -/
import Derived.Test.YtjamfddhcigchaaGreatDoorTFnCodeSameHt
namespace Go.Proofs.YtjamfddhcigchaaGreatDoor.Hr
open Go.RowKit Go.Proofs.YtjamfddhcigchaaGreatDoor.Ht Go.Proofs.YtjamfddhcigchaaGreatDoor.HFnCodeSame Go.Proofs.YtjamfddhcigchaaGreatDoorW.PrintWords Go.Proofs.YtjamfddhcigchaaGreatDoorW.PrintLast Go.Proofs.YtjamfddhcigchaaGreatDoorW.PrintMore
set_option linter.unusedVariables false
set_option linter.unusedSimpArgs false
attribute [local go_sem] max2_int min2_int max_two min_two
theorem fill {B g N c : Nat} {x : Int} (k : Nat) : ∀ (m : Nat) (W : World) (xs : List Int), RR B W g N c xs → xs.length = N → (∀ j, j < m → xs[j]? = some x) → m + k ≤ N → ∃ xs', RR B (W.setCells g m (List.replicate k (.int .i64 x))) g N c xs' ∧ xs'.length = N ∧ ∀ j, j < m + k → xs'[j]? = some x := by
 induction k with
 | zero => intro m W xs h hl hx _; exact ⟨xs, h, hl, fun j hj => hx j (by omega)⟩
 | succ k ih =>
  intro m W xs h hl hx hm
  rw [List.replicate_succ, World.setCells]
  have h2 := Kd.R_putn h (m : Int) x
  rw [Int.toNat_natCast] at h2
  obtain ⟨xs', h3, h4, h5⟩ := ih (m + 1) _ (xs.set m x) h2 (by rw [List.length_set]; exact hl) (fun j hj => by
   by_cases e : j = m
   ·subst e; rw [List.getElem?_set_self (by omega)]
   ·rw [List.getElem?_set_ne (by omega)]; exact hx j (by omega)) (by omega)
  exact ⟨xs', h3, h4, fun j hj => h5 j (by omega)⟩
theorem below_cells {w : World} {g : Nat} (hg : w.heap.size ≤ g) (vs : List Value) : ∀ (m : Nat) (W : World), Below w.heap.size w W → Below w.heap.size w (W.setCells g m vs) := by
 induction vs with
 | nil => intro m W h; exact h
 | cons v r ih => intro m W h; rw [World.setCells]; exact ih (m + 1) _ (below_set h hg)
theorem mul_ok (n : Nat) (h : n < 402) : bits_Mul.f 1 (n : Int) = some (0, (n : Int)) := by
 have : (List.range 402).all (fun n => decide (bits_Mul.f 1 ((n : Nat) : Int) = some (0, (n : Int)))) = true := by kernel_rfl
 have := List.all_eq_true.1 this n (List.mem_range.2 h)
 simpa using this
set_option maxRecDepth 100000 in
set_option maxHeartbeats 6400000 in
theorem repeat_any (A0 : Option Addr) (c0 : Nat) (x : Int) (N : Nat) (w : World) (hr : Kd.C (Kd.int .i64) w A0 1 [x]) (h1 : 1 ≤ N) (h401 : N ≤ 401) :
  Calls Tryz.prog 66 #[.slice A0 1 c0, .int .i64 (N : Int)] w fun e w' => ∃ g c, e = .returned (.slice (some ⟨g, 0, none⟩) N c) ∧ RR w.heap.size w' g N c (List.replicate N x) ∧ Below w.heap.size w w' := by
 have hm := fun W => bits_Mul.calls 1 (N : Int) 0 (N : Int) W (mul_ok N (by omega))
 have d1 : decide ((N : Int) < 0) = false := by simp
 have u1 : IntKind.u64.wrap (N : Int) = N := by rw [IntKind.wrap_u64]; omega
 have u2 : wrap64 (N : Int) = N := by unfold wrap64; omega
 have d2 : decide (9223372036854775807 < (N : Int)) = false := by simp; omega
 go_enter Tryz.func66, Tryz.ntmps66
 go_wp2_with fail
 refine (hm _).mono ?_
 rintro e w1 ⟨rfl, hb0⟩
 have hb1 : Below w.heap.size w w1 := hb0.below
 clear hm hb0
 go_upto_region 7 with (first | ((with_reducible refine gate_dst (N := 30) rfl ?_); refine Kd.R_make (Kd.int .i64) _ 3 rfl (N := 30) rfl 31 _ _ rfl (N : Int) rfl rfl Tryz.underlying31 (.int .i64 0) 8 info3 rfl (by decide) (by omega) 0 (ok := fun _ => True) (okp := fun _ => True) rfl (fun _ hk => hk) trivial (by omega) (by omega) (Below.refl _ _) (Nat.le_refl _) ?_; intro v1 w2 ho hbm hg_ hnew_; clear hg_ hnew_))
 rw [Int.toNat_natCast] at ho
 obtain ⟨g, cp, ev, gB, gL, _⟩ := Kd.R_form ho (by rw [List.length_replicate]; omega)
 rw [List.length_replicate] at ev
 subst ev
 have ho1 : RR w.heap.size w2 g N cp (List.replicate N 0) := Kd.R_lower ho hb1.size
 have hb2 : Below w.heap.size w w2 := hb1.trans (hbm.mono hb1.size)
 have gB2 : w.heap.size ≤ g := Nat.le_trans hb1.size gB
 have hr2 := Kd.C_below hr hb2
 clear ho hbm gB gL hb1 d1 d2 u1
 go_upto_block 0 with (first | ((with_reducible refine gate_dst (N := 33) rfl ?_); refine Kd.R_copy (enc := Value.int .i64) (h1 := fun _ => rfl) 0 (w0 := w) w.heap.size (by rfl) (.tmp 31) (.tmp 32) 31 31 3 rfl Tryz.underlying31 (by kernel_rfl) (.slice (some ⟨g, 0, none⟩) N cp) (List.replicate N 0) [x] A0 1 c0 (fun _ => True) rfl rfl ho1 hr2 hb2 hb2.size ?_; intro w3 ho3 hb3 _hg3; rw [List.length_replicate]))
 have e1 : min 1 N = 1 := by omega
 rw [List.length_replicate, e1] at ho3
 have hl3 : (List.take 1 [x] ++ List.drop 1 (List.replicate N 0)).length = N := by simp; omega
 have hx3 : ∀ j, j < 1 → (List.take 1 [x] ++ List.drop 1 (List.replicate N (0 : Int)))[j]? = some x := fun j hj => by
  have : j = 0 := by omega
  subst this; simp
 replace ho3 : RR w.heap.size w3 g N cp (List.take 1 [x] ++ List.drop 1 (List.replicate N 0)) := ho3
 generalize List.take 1 [x] ++ List.drop 1 (List.replicate N (0 : Int)) = xs at ho3 hl3 hx3
 clear ho1 hr2 hb2 e1 _hg3 hr
 go_wp2_with fail
 go_loopw [8] (fun n wr => ∃ (m : Nat) (xs : List Int), 1 ≤ m ∧ m ≤ N ∧ n = .int .i64 (m : Int) ∧ RR w.heap.size wr g N cp xs ∧ xs.length = N ∧ (∀ j, j < m → xs[j]? = some x) ∧ Below w.heap.size w wr) (fun n _ => N - (intOf n).toNat)
 case atStart => exact ⟨1, xs, by omega, by omega, rfl, ho3, hl3, hx3, hb3⟩
 case round =>
  clear ho3 hl3 hx3 hb3
  obtain ⟨m, ys, hm1, hmN, rfl, hR, hl, hx, hb⟩ := hrel
  by_cases hmn : m < N
  ·have d3 : decide ((m : Int) < (N : Int)) = true := by simp; omega
   have hRd := Kd.R_drew hR
   have hbd := below_drew1 hb
   have hmc : m ≤ cp := by have := (Kd.R_reads' hR).2.1; omega
   have nc : (cp = m) = False := eq_false (by have := (Kd.R_reads' hR).2.1; omega)
   obtain ⟨q, hq⟩ : ∃ q, min m (N - m) = q := ⟨_, rfl⟩
   have hq1 : 1 ≤ q ∧ q ≤ m ∧ m + q ≤ N := by omega
   have hcp : (Builtin.copy_ #[31, 31] 3 #[.slice (some ⟨g, m, none⟩) (N - m) (cp - m), .slice (some ⟨g, 0, none⟩) m cp]).run Tryz.prog wr.drew = .ok (.int .i64 (q : Int)) (wr.drew.setCells g m (List.replicate q (.int .i64 x))) := by
    have h := run_copy_cells (P := Tryz.prog) wr.drew 31 31 3 3 g m (N - m) (cp - m) ⟨g, 0, none⟩ m cp (List.replicate q (.int .i64 x)) Tryz.underlying31 (by kernel_rfl) (by rw [List.length_replicate]; exact hq.symm)
     (fun j v hv => by
      rw [List.getElem?_replicate] at hv
      split at hv
      ·rename_i hjq
       obtain ⟨h1, _⟩ := Kd.R_celln 0 hRd (j : Int) (by omega) (by omega)
       rw [Int.toNat_natCast] at h1
       rw [add_plain, h1, ← hv]
       have : rdOf 0 ys (j : Int) = x := by
        unfold rdOf; rw [Int.toNat_natCast, List.getD_eq_getElem?_getD, hx j (by omega)]; rfl
       rw [this]
      ·cases hv)
     (fun j hj => by
      rw [List.length_replicate] at hj
      obtain ⟨h1, _⟩ := Kd.R_celln 0 hRd ((m + j : Nat) : Int) (by omega) (by omega)
      rw [Int.toNat_natCast] at h1
      rw [h1]; rfl)
     (fun j hj => by
      rw [List.length_replicate] at hj
      obtain ⟨_, h1⟩ := Kd.R_celln 0 hRd ((m + j : Nat) : Int) (by omega) (by omega)
      rwa [Int.toNat_natCast] at h1)
     (fun v hv => by rw [List.mem_replicate] at hv; rw [hv.2]; rfl)
    rw [h, List.length_replicate]; rfl
   obtain ⟨xs2, hR2, hl2, hx2⟩ := fill q m wr.drew ys hRd hl hx hq1.2.2
   have hb2 := below_cells gB2 (List.replicate q (.int .i64 x)) m wr.drew hbd
   have hm2 : m + q ≤ N := hq1.2.2
   have wq : wrap64 ((m : Int) + (q : Int)) = ((m + q : Nat) : Int) := by unfold wrap64; omega
   have hx2' := Aside0.mk hx2
   have hl2' := Aside0.mk hl2
   have hq2 := Aside0.mk hq1
   clear hx2 hl2 hq hq1
   have hx' := Aside0.mk hx
   have hl' := Aside0.mk hl
   clear hx hl hR hb
   go_upto_region 9 with (fail)
   refine start_ (n := 10) (S := fun w' => RR w.heap.size w' g N cp ys ∧ Below w.heap.size w w') (ds := [7]) #[F_, F_, F_, F_, F_, F_, F_, F_, F_, F_] (by kernel_rfl) rfl rfl ⟨hRd, hbd⟩ (fun hHeld => ?_)
   refine pure_ (i := 0) (N := some 38) (v := ?_) (a' := ?_) #[T_, F_, F_, F_, F_, F_, F_, F_, F_, F_] rfl rfl (by kernel_rfl) (fun _ _ _ h => h) (Or.inl ⟨by rfl, ?_⟩) ?_ ?_
   rotate_left
   ·intro w'
    go_simp
    with_reducible rfl
   rotate_left
   ·simp only [Act.put, sA_, sB_, sC_, i64_w, i32_w]
    rfl
   refine pure_ (i := 1) (N := some 39) (v := ?_) (a' := ?_) #[T_, T_, F_, F_, F_, F_, F_, F_, F_, F_] rfl rfl (by kernel_rfl) (fun _ _ _ h => h) (Or.inl ⟨by rfl, ?_⟩) ?_ ?_
   rotate_left
   ·intro w'
    go_simp
    with_reducible rfl
   rotate_left
   ·simp only [Act.put, sA_, sB_, sC_, i64_w, i32_w]
    rfl
   refine pure_ (i := 2) (N := some 40) (v := ?_) (a' := ?_) #[T_, T_, T_, F_, F_, F_, F_, F_, F_, F_] rfl rfl (by kernel_rfl) (fun _ _ _ h => h) (Or.inl ⟨by rfl, ?_⟩) ?_ ?_
   rotate_left
   ·intro w'
    go_simp
    with_reducible rfl
   rotate_left
   ·simp only [Act.put, sA_, sB_, sC_, i64_w, i32_w]
    rfl
   refine pure_ (i := 3) (N := some 41) (v := ?_) (a' := ?_) #[T_, T_, T_, T_, F_, F_, F_, F_, F_, F_] rfl rfl (by kernel_rfl) (fun _ _ _ h => h) (Or.inl ⟨by rfl, ?_⟩) ?_ ?_
   rotate_left
   ·intro w'
    go_simp
    with_reducible rfl
   rotate_left
   ·simp only [Act.put, sA_, sB_, sC_, i64_w, i32_w]
    rfl
   refine pure_ (i := 4) (N := some 42) (v := ?_) (a' := ?_) #[T_, T_, T_, T_, T_, F_, F_, F_, F_, F_] rfl rfl (by kernel_rfl) (fun _ _ _ h => h) (Or.inl ⟨by rfl, ?_⟩) ?_ ?_
   rotate_left
   ·intro w'
    go_simp
    with_reducible rfl
   rotate_left
   ·simp only [Act.put, sA_, sB_, sC_, i64_w, i32_w]
    rfl
   refine pure_ (i := 5) (N := some 43) (v := ?_) (a' := ?_) #[T_, T_, T_, T_, T_, T_, F_, F_, F_, F_] rfl rfl (by kernel_rfl) (fun _ _ _ h => h) (Or.inl ⟨by rfl, ?_⟩) ?_ ?_
   rotate_left
   ·intro w'
    go_simp
    with_reducible rfl
   rotate_left
   ·simp only [Act.put, sA_, sB_, sC_, i64_w, i32_w]
    rfl
   refine pure_ (i := 6) (N := some 44) (v := ?_) (a' := ?_) #[T_, T_, T_, T_, T_, T_, T_, F_, F_, F_] rfl rfl (by kernel_rfl) (fun _ _ _ h => h) (Or.inl ⟨by rfl, ?_⟩) ?_ ?_
   rotate_left
   ·intro w'
    go_simp
    with_reducible rfl
   rotate_left
   ·simp only [Act.put, sA_, sB_, sC_, i64_w, i32_w]
    rfl
   refine last_ (i := 7) (N := some 45) #[T_, T_, T_, T_, T_, T_, T_, T_, F_, F_] rfl rfl (by kernel_rfl) (by decide) (fun K hK => ?_)
   refine value_ (w1 := ?_) (v := ?_) (by rfl) rfl ?_ ?_
   rotate_left 2
   ·go_simp
    constructor
    ·rfl
    ·rfl
   refine hK.out _ _ ?_
   clear hK K
   refine norm_ (a' := ?_) ?_ ?_
   rotate_left
   ·show Act.put _ (some 45) _ = _
    simp only [Act.put, sA_, sB_, sC_, i64_w, i32_w]
    rfl
   refine pure_ (i := 8) (N := some 46) (v := ?_) (a' := ?_) #[T_, T_, T_, T_, T_, T_, T_, T_, T_, F_] rfl rfl (by kernel_rfl) (fun _ _ _ h => h) (Or.inl ⟨by rfl, ?_⟩) ?_ ?_
   rotate_left
   ·intro w'
    go_simp
    with_reducible rfl
   rotate_left
   ·simp only [Act.put, sA_, sB_, sC_, i64_w, i32_w]
    rfl
   refine pure_ (i := 9) (N := some 8) (v := ?_) (a' := ?_) #[T_, T_, T_, T_, T_, T_, T_, T_, T_, T_] rfl rfl (by kernel_rfl) (fun _ _ _ h => h) (Or.inl ⟨by rfl, ?_⟩) ?_ ?_
   rotate_left
   ·intro w'
    go_simp
    with_reducible rfl
   rotate_left
   ·simp only [Act.put, sA_, sB_, sC_, i64_w, i32_w]
    rfl
   refine done_ (by kernel_rfl) ?_
   clear hHeld hcp hRd hbd
   generalize wr.drew.setCells _ _ _ = wz at hR2 hb2 ⊢
   go_wp2
   have hq1 := hq2.out
   go_roundw
   case rel => exact ⟨m + q, xs2, by omega, hm2, by first | rfl | (rw [wq]; done) | (rw [wq]) | (simp [wq]; done) | go_num, hR2, hl2'.out, hx2'.out, hb2⟩
   case measure => simp only [intOf, wq, Int.toNat_natCast]; omega
  ·have hmn2 : m = N := by omega
   subst hmn2
   have d3 : decide ((m : Int) < (m : Int)) = false := by simp
   have exs : ys = List.replicate m x := by
    apply List.ext_getElem? 
    intro j
    by_cases hj : j < m
    ·rw [hx j hj, List.getElem?_replicate, if_pos hj]
    ·rw [List.getElem?_eq_none (by omega), List.getElem?_replicate, if_neg hj]
   subst exs
   clear hl hx hmn hm1 hmN
   go_wp2
   go_ret
   exact ⟨_, _, rfl, hR, hb⟩
end Go.Proofs.YtjamfddhcigchaaGreatDoor.Hr
