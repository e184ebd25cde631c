-- Made by a program of this session (hp.py) over the kit's print: functions told by hand stand beside printed ones. Lean checks it.
import Derived.Test.YtjamfddhcigchaaGreatDoorTFnCodeSameHFnCodeSamex3
namespace Go.Proofs.YtjamfddhcigchaaGreatDoor.HFnCodeSame
open Go.RowKit Go.Proofs.YtjamfddhcigchaaGreatDoorW.PrintWords Go.Proofs.YtjamfddhcigchaaGreatDoorW.PrintLast Go.Proofs.YtjamfddhcigchaaGreatDoorW.PrintMore
attribute [local go_sem] max2_int min2_int max_two min_two max_three min_three max_four min_four
set_option linter.unusedVariables false
set_option linter.unusedSimpArgs false
mutual
def spec_l4Many.l0 : Nat → List (S122) → Int → Int → Int → Option (Int)
  | 0, _, _, _, _ => none
  | k + 1, x0, x1, x5, x6 => if x6 < (x0.length : Int) then (spec_l4Many.j1 k x0 x1 x5 x6 (decide (x1 > 0))) else (spec_l4Many.j1 k x0 x1 x5 x6 false)
def spec_l4Many.j1 : Nat → List (S122) → Int → Int → Int → Bool → Option (Int)
  | 0, _, _, _, _, _ => none
  | k + 1, x0, x1, x5, x6, x16 => if x16 = true then (if 0 ≤ x6 then (if x6 < (x0.length : Int) then ((spec_l4Many.f k ((rd_T122 x0 x6).f3) (wrap64 (x1 - 1))).bind fun t260 => ((spec_l4Many.f k ((rd_T122 x0 x6).f4) (wrap64 (x1 - 1))).bind fun t262 => (spec_l4Many.l0 k x0 x1 (wrap64 ((wrap64 (x5 + t260)) + t262)) (wrap64 (x6 + 1))))) else (none)) else (none)) else (some x5)
def spec_l4Many.f : Nat → List (S122) → Int → Option (Int)
  | 0, _, _ => none
  | k + 1, l0, a1 => spec_l4Many.l0 k l0 a1 (l0.length : Int) 0
end
def spec_l4Many.T5 : Bool × List (List Nat × List Nat) := (true, [([], []), ([], []), ([], []), ([1, 2], [1, 2]), ([3], [3]), ([4], [4]), ([], []), ([6], [6]), ([5, 7], [5, 7]), ([0, 8], [0, 8]), ([], []), ([], []), ([10, 11], [10, 11]), ([12], [12]), ([13], [13]), ([], []), ([15], [15]), ([14, 16, 8], [14, 16]), ([9, 17], [9, 17]), ([18, 17, 0, 1, 2, 3, 4, 5, 6, 7, 8, 9, 10, 11, 12, 13, 14, 15, 16, 17, 18], [0, 18])])
def spec_l4Many.B5 : List Nat := [0, 0, 0, 6, 14, 30, 0, 64, 254, 511, 0, 0, 3072, 7168, 15360, 0, 32768, 130558, 262143, 524287]
theorem spec_l4Many.tab5 : rtab .any (opsOf Tryz.f121 5) = spec_l4Many.T5 := by kernel_rfl
theorem spec_l4Many.bits5 : waitsOk spec_l4Many.T5.2 spec_l4Many.B5 = true := by kernel_rfl
set_option maxHeartbeats 8000000 in
set_option maxRecDepth 100000 in
theorem spec_l4Many.calls (k : Nat) : ∀ (A0 : Option Addr) (c0 : Nat) (l0 : List (S122)) (a1 : Int) (r : Int) (w : World) (hr0 : Kd.C k122 w A0 l0.length l0) (hc0 : l0.length ≤ c0) (h : spec_l4Many.f k l0 a1 = some r),
    Calls Tryz.prog 121 #[.slice A0 l0.length c0, .int .i64 a1] w fun e w' => e = .returned (.int .i64 r) ∧ Below w.heap.size w w' := by
 induction k using Nat.strongRecOn with
 | _ k ih =>
 intro A0 c0 l0 a1 r w hr0 hc0 h
 cases k with
 | zero => exact absurd h (by simp [spec_l4Many.f])
 | succ k =>
 simp only [spec_l4Many.f] at h
 have HR0 := aM_ hr0
 have HC0 := aM_ hc0
 clear hr0 hc0
 have HB := aM_ (Below.refl w.heap.size w)
 have H : (spec_l4Many.l0 k l0 a1 (l0.length : Int) 0) = some r := h
 clear h
 have H' := aM_ H
 clear H
 go_enter Tryz.func121, Tryz.ntmps121
 go_wp2
 go_loopg [5, 6] k (fun kq v5 v6 w' => ∃ (x5_1 : Int) (x6_1 : Int), v5 = .int .i64 x5_1 ∧ v6 = .int .i64 x6_1 ∧ Aside0 (spec_l4Many.l0 kq l0 a1 x5_1 x6_1 = some r) ∧ Aside0 (kq ≤ k) ∧ Aside0 (Below w.heap.size w w'))
 case atStart => exact ⟨((l0.length : Int)), (0), qF, qF, H', ⟨Nat.le_refl _⟩, ⟨qB HB⟩⟩
 case round =>
  clear H'
  try clear c1
  try clear p2
  obtain ⟨x5_1, x6_1, rfl, rfl, HA, HK1, HB⟩ := hrel
  cases gk with
  | zero => exact absurd HA.out (by simp [spec_l4Many.l0])
  | succ k1 =>
   have H := HA.out
   clear HA
   simp only [spec_l4Many.l0] at H
   have HC3 := aM_ H
   clear H
   go_upto_region 3 with (fail)
   go_cut [16] (fun v16 wc => ∃ (kq : Nat) (x16_2 : Bool), v16 = .bool x16_2 ∧ Aside0 (spec_l4Many.j1 kq l0 a1 x5_1 x6_1 x16_2 = some r) ∧ Aside0 (kq ≤ k1) ∧ Aside0 (Below w.heap.size w wc))
   case first =>
    have H := HC3.out
    clear HC3
    by_cases c4 : x6_1 < (l0.length : Int)
    rotate_left
    · rw [if_neg c4] at H
      have c4b0 : decide (x6_1 < (l0.length : Int)) = false := dF_ c4
      clear c4
      (first | rw [c4b0] | (simp only [i64_w, i32_w]; rw [c4b0]) | skip)
      have H' := aM_ H
      clear H
      go_wp2
      go_meet
      case rel => exact ⟨_, (false), qF, H', ⟨by have := HK1.out; first | omega | exact Nat.le_refl _⟩, ⟨qB HB⟩⟩
    rw [if_pos c4] at H
    have c4b0 : decide (x6_1 < (l0.length : Int)) = true := dT_ c4
    clear c4
    (first | rw [c4b0] | (simp only [i64_w, i32_w]; rw [c4b0]) | skip)
    have H' := aM_ H
    clear H
    go_wp2
    go_meet
    case rel => exact ⟨_, (decide (a1 > 0)), qF, H', ⟨by have := HK1.out; first | omega | exact Nat.le_refl _⟩, ⟨qB HB⟩⟩
   case rest =>
    clear HC3
    try clear c1
    try clear p2
    try clear c4
    try clear c4b0
    try clear p2
    obtain ⟨kq, x16_2, rfl, HA, HJ2, HB⟩ := hcut
    cases kq with
    | zero => exact absurd HA.out (by simp [spec_l4Many.j1])
    | succ kj2 =>
     have H := HA.out
     clear HA
     simp only [spec_l4Many.j1] at H
     by_cases c5 : x16_2 = true
     rotate_left
     · replace c5 := Bool.eq_false_iff.mpr c5
       subst c5
       rw [if_neg (show ¬ (false = true) by decide)] at H
       obtain rfl := oI_ H
       go_wp2
       go_ret
       exact ⟨qE, qB HB⟩
     subst c5
     rw [if_pos rfl] at H
     by_cases c6 : 0 ≤ x6_1
     rotate_left
     · rw [if_neg c6] at H
       exact absurd H (by simp)
     rw [if_pos c6] at H
     have c6b0 : decide (0 ≤ x6_1) = true := dT_ c6
     clear c6
     by_cases c7 : x6_1 < (l0.length : Int)
     rotate_left
     · rw [if_neg c7] at H
       exact absurd H (by simp)
     rw [if_pos c7] at H
     have c7b0 : decide (x6_1 < (l0.length : Int)) = true := dT_ c7
     clear c7
     replace H := oB_ H
     obtain ⟨t260, A80, H⟩ := H
     have A8 := aM_ A80
     clear A80
     replace H := oB_ H
     obtain ⟨t262, A90, H⟩ := H
     have A9 := aM_ A90
     clear A90
     have H' := aM_ H
     clear H
     try go_wp2
     have n0_ := aM_ (b1_ HB.out)
     clear HB
     revert n0_
     intro HB
     have p259 : 0 ≤ (x6_1 : Int) := oD_ (by first | (with_reducible assumption) | assumption)
     have q259 : x6_1 < (l0.length : Int) := oD_ (by first | (with_reducible assumption) | assumption)
     obtain ⟨ad259, A259_7, c259_7, A259_8, c259_8, A259_9, c259_9, e259, hx259_0, hx259_1, hx259_2, hx259_3, hx259_4, hx259_5, hx259_6, hx259_7, hx259_8, hx259_9, hl259_7, hi259_7, hl259_8, hi259_8, hl259_9, hi259_9⟩ := at_T122 HR0.out x6_1 p259 q259
     have hw259_9 := hx259_9
     have hw259_8 := hx259_8
     have hw259_7 := hx259_7
     have hw259_6 := hx259_6
     have hw259_5 := hx259_5
     have hw259_4 := hx259_4
     have hw259_3 := hx259_3
     have hw259_2 := hx259_2
     have hw259_1 := hx259_1
     have hw259_0 := hx259_0
     cases e259
     replace hx259_0 := qc HB hx259_0
     replace hx259_1 := qc HB hx259_1
     replace hx259_2 := qc HB hx259_2
     replace hx259_3 := qc HB hx259_3
     replace hx259_4 := qc HB hx259_4
     replace hx259_5 := qc HB hx259_5
     replace hx259_6 := qc HB hx259_6
     replace hx259_7 := qc HB hx259_7
     replace hx259_8 := qc HB hx259_8
     replace hx259_9 := qc HB hx259_9
     have HR259_7 := aM_ hi259_7
     have HC259_7 := aM_ hl259_7
     clear hi259_7 hl259_7
     have HR259_8 := aM_ hi259_8
     have HC259_8 := aM_ hl259_8
     clear hi259_8 hl259_8
     have HR259_9 := aM_ hi259_9
     have HC259_9 := aM_ hl259_9
     clear hi259_9 hl259_9
     replace p259 := eq_true p259
     replace q259 := eq_true q259
     have p261 : 0 ≤ (x6_1 : Int) := oD_ (by first | (with_reducible assumption) | assumption)
     have q261 : x6_1 < (l0.length : Int) := oD_ (by first | (with_reducible assumption) | assumption)
     obtain ⟨ad261, A261_7, c261_7, A261_8, c261_8, A261_9, c261_9, e261, hx261_0, hx261_1, hx261_2, hx261_3, hx261_4, hx261_5, hx261_6, hx261_7, hx261_8, hx261_9, hl261_7, hi261_7, hl261_8, hi261_8, hl261_9, hi261_9⟩ := at_T122 HR0.out x6_1 p261 q261
     have hw261_9 := hx261_9
     have hw261_8 := hx261_8
     have hw261_7 := hx261_7
     have hw261_6 := hx261_6
     have hw261_5 := hx261_5
     have hw261_4 := hx261_4
     have hw261_3 := hx261_3
     have hw261_2 := hx261_2
     have hw261_1 := hx261_1
     have hw261_0 := hx261_0
     obtain rfl : ad259 = ad261 := (by injection e261)
     replace hx261_0 := qc HB hx261_0
     replace hx261_1 := qc HB hx261_1
     replace hx261_2 := qc HB hx261_2
     replace hx261_3 := qc HB hx261_3
     replace hx261_4 := qc HB hx261_4
     replace hx261_5 := qc HB hx261_5
     replace hx261_6 := qc HB hx261_6
     replace hx261_7 := qc HB hx261_7
     replace hx261_8 := qc HB hx261_8
     replace hx261_9 := qc HB hx261_9
     have HR261_7 := aM_ hi261_7
     have HC261_7 := aM_ hl261_7
     clear hi261_7 hl261_7
     have HR261_8 := aM_ hi261_8
     have HC261_8 := aM_ hl261_8
     clear hi261_8 hl261_8
     have HR261_9 := aM_ hi261_9
     have HC261_9 := aM_ hl261_9
     clear hi261_9 hl261_9
     replace p261 := eq_true p261
     replace q261 := eq_true q261
     have ea_ := oI_ (hx259_7.symm.trans hx261_7)
     injection ea_ with ea_ en_ ec_
     subst ea_
     subst ec_
     clear en_
     have ea_ := oI_ (hx259_8.symm.trans hx261_8)
     injection ea_ with ea_ en_ ec_
     subst ea_
     subst ec_
     clear en_
     have ea_ := oI_ (hx259_9.symm.trans hx261_9)
     injection ea_ with ea_ en_ ec_
     subst ea_
     subst ec_
     clear en_
     refine start_ (n := 20) (S := fun w' => w'.cell? (ad259.add ((x6_1).toNat * 10)) = some (.int .i64 ((rd_T122 l0 x6_1).f0)) ∧ w'.cell? ⟨(ad259.add ((x6_1).toNat * 10)).block, (ad259.add ((x6_1).toNat * 10)).off + 1, none⟩ = some (.int .i64 ((rd_T122 l0 x6_1).f1.f0)) ∧ w'.cell? ⟨(ad259.add ((x6_1).toNat * 10)).block, (ad259.add ((x6_1).toNat * 10)).off + 2, none⟩ = some (.int .i64 ((rd_T122 l0 x6_1).f1.f1)) ∧ w'.cell? ⟨(ad259.add ((x6_1).toNat * 10)).block, (ad259.add ((x6_1).toNat * 10)).off + 3, none⟩ = some (.int .i64 ((rd_T122 l0 x6_1).f2.f0)) ∧ w'.cell? ⟨(ad259.add ((x6_1).toNat * 10)).block, (ad259.add ((x6_1).toNat * 10)).off + 4, none⟩ = some (.int .i64 ((rd_T122 l0 x6_1).f2.f1)) ∧ w'.cell? ⟨(ad259.add ((x6_1).toNat * 10)).block, (ad259.add ((x6_1).toNat * 10)).off + 5, none⟩ = some (.int .i64 ((rd_T122 l0 x6_1).f2.f2.f0)) ∧ w'.cell? ⟨(ad259.add ((x6_1).toNat * 10)).block, (ad259.add ((x6_1).toNat * 10)).off + 6, none⟩ = some (.int .i64 ((rd_T122 l0 x6_1).f2.f2.f1)) ∧ w'.cell? ⟨(ad259.add ((x6_1).toNat * 10)).block, (ad259.add ((x6_1).toNat * 10)).off + 7, none⟩ = some (.slice A259_7 ((rd_T122 l0 x6_1).f2.f3).length c259_7) ∧ w'.cell? ⟨(ad259.add ((x6_1).toNat * 10)).block, (ad259.add ((x6_1).toNat * 10)).off + 8, none⟩ = some (.slice A259_8 ((rd_T122 l0 x6_1).f3).length c259_8) ∧ w'.cell? ⟨(ad259.add ((x6_1).toNat * 10)).block, (ad259.add ((x6_1).toNat * 10)).off + 9, none⟩ = some (.slice A259_9 ((rd_T122 l0 x6_1).f4).length c259_9) ∧ w'.cell? (ad259.add ((x6_1).toNat * 10)) = some (.int .i64 ((rd_T122 l0 x6_1).f0)) ∧ w'.cell? ⟨(ad259.add ((x6_1).toNat * 10)).block, (ad259.add ((x6_1).toNat * 10)).off + 1, none⟩ = some (.int .i64 ((rd_T122 l0 x6_1).f1.f0)) ∧ w'.cell? ⟨(ad259.add ((x6_1).toNat * 10)).block, (ad259.add ((x6_1).toNat * 10)).off + 2, none⟩ = some (.int .i64 ((rd_T122 l0 x6_1).f1.f1)) ∧ w'.cell? ⟨(ad259.add ((x6_1).toNat * 10)).block, (ad259.add ((x6_1).toNat * 10)).off + 3, none⟩ = some (.int .i64 ((rd_T122 l0 x6_1).f2.f0)) ∧ w'.cell? ⟨(ad259.add ((x6_1).toNat * 10)).block, (ad259.add ((x6_1).toNat * 10)).off + 4, none⟩ = some (.int .i64 ((rd_T122 l0 x6_1).f2.f1)) ∧ w'.cell? ⟨(ad259.add ((x6_1).toNat * 10)).block, (ad259.add ((x6_1).toNat * 10)).off + 5, none⟩ = some (.int .i64 ((rd_T122 l0 x6_1).f2.f2.f0)) ∧ w'.cell? ⟨(ad259.add ((x6_1).toNat * 10)).block, (ad259.add ((x6_1).toNat * 10)).off + 6, none⟩ = some (.int .i64 ((rd_T122 l0 x6_1).f2.f2.f1)) ∧ w'.cell? ⟨(ad259.add ((x6_1).toNat * 10)).block, (ad259.add ((x6_1).toNat * 10)).off + 7, none⟩ = some (.slice A259_7 ((rd_T122 l0 x6_1).f2.f3).length c259_7) ∧ w'.cell? ⟨(ad259.add ((x6_1).toNat * 10)).block, (ad259.add ((x6_1).toNat * 10)).off + 8, none⟩ = some (.slice A259_8 ((rd_T122 l0 x6_1).f3).length c259_8) ∧ w'.cell? ⟨(ad259.add ((x6_1).toNat * 10)).block, (ad259.add ((x6_1).toNat * 10)).off + 9, none⟩ = some (.slice A259_9 ((rd_T122 l0 x6_1).f4).length c259_9)) (ds := []) #[F_, F_, F_, F_, F_, F_, F_, F_, F_, F_, F_, F_, F_, F_, F_, F_, F_, F_, F_, F_] (by kernel_rfl) rfl rfl ⟨(qc HB hw259_0), (qc HB hw259_1), (qc HB hw259_2), (qc HB hw259_3), (qc HB hw259_4), (qc HB hw259_5), (qc HB hw259_6), (qc HB hw259_7), (qc HB hw259_8), (qc HB hw259_9), (qc HB hw261_0), (qc HB hw261_1), (qc HB hw261_2), (qc HB hw261_3), (qc HB hw261_4), (qc HB hw261_5), (qc HB hw261_6), (qc HB hw261_7), (qc HB hw261_8), (qc HB hw261_9)⟩ (fun hHeld => ?_); refine with_tabW spec_l4Many.tab5 spec_l4Many.bits5 (fun HT_ HW_ => ?_)
     generalize wc.drew = w10 at HB HR259_7 HR259_8 HR259_9 HR261_7 HR261_8 HR261_9 hx259_0 hx259_1 hx259_2 hx259_3 hx259_4 hx259_5 hx259_6 hx259_7 hx259_8 hx259_9 hx261_0 hx261_1 hx261_2 hx261_3 hx261_4 hx261_5 hx261_6 hx261_7 hx261_8 hx261_9 hHeld ⊢
     refine pure_ (i := 0) (N := some 19) (v := ?_) (a' := ?_) #[T_, F_, F_, F_, F_, F_, F_, F_, F_, F_, F_, F_, F_, F_, F_, F_, F_, F_, F_, F_] rfl rfl (any_of HT_.out (by kernel_rfl)) (fun _ _ _ h => h) (Or.inl ⟨by rfl, ?_⟩) ?_ ?_
     rotate_left
     · intro w'
       go_simp
       with_reducible rfl
     rotate_left
     · simp only [Act.put, sA_, sB_, sC_, i64_w, i32_w]
       rfl
     refine pure_ (i := 1) (N := some 20) (v := ?_) (a' := ?_) #[T_, T_, F_, F_, F_, F_, F_, F_, F_, F_, F_, F_, F_, F_, F_, F_, F_, F_, F_, F_] rfl rfl (any_of HT_.out (by kernel_rfl)) (fun _ _ _ h => h) (Or.inl ⟨by rfl, ?_⟩) ?_ ?_
     rotate_left
     · intro w'
       go_simp
       with_reducible rfl
     rotate_left
     · simp only [Act.put, sA_, sB_, sC_, i64_w, i32_w]
       rfl
     refine pure_ (i := 2) (N := some 21) (v := ?_) (a' := ?_) #[T_, T_, T_, F_, F_, F_, F_, F_, F_, F_, F_, F_, F_, F_, F_, F_, F_, F_, F_, F_] rfl rfl (any_of HT_.out (by kernel_rfl)) (fun _ _ _ h => h) (Or.inl ⟨by rfl, ?_⟩) ?_ ?_
     rotate_left
     · intro w'
       go_simp
       with_reducible rfl
     rotate_left
     · simp only [Act.put, sA_, sB_, sC_, i64_w, i32_w]
       rfl
     refine pure_ (i := 3) (N := some 22) (v := ?_) (a' := ?_) #[T_, T_, T_, T_, F_, F_, F_, F_, F_, F_, F_, F_, F_, F_, F_, F_, F_, F_, F_, F_] rfl rfl (any_of HT_.out (by kernel_rfl)) (fun _ _ _ h => h) (Or.inl ⟨by rfl, ?_⟩) ?_ ?_
     rotate_left
     · intro w'
       go_simp
       with_reducible rfl
     rotate_left
     · simp only [Act.put, sA_, sB_, sC_, i64_w, i32_w]
       rfl
     refine pure_ (i := 4) (N := some 23) (v := ?_) (a' := ?_) #[T_, T_, T_, T_, T_, F_, F_, F_, F_, F_, F_, F_, F_, F_, F_, F_, F_, F_, F_, F_] rfl rfl (any_of HT_.out (by kernel_rfl)) (fun _ _ _ h => h) (Or.inl ⟨by rfl, ?_⟩) ?_ ?_
     rotate_left
     · intro w'
       go_simp
       with_reducible rfl
     rotate_left
     · simp only [Act.put, sA_, sB_, sC_, i64_w, i32_w]
       rfl
     refine pure_ (i := 6) (N := some 25) (v := ?_) (a' := ?_) #[T_, T_, T_, T_, T_, F_, T_, F_, F_, F_, F_, F_, F_, F_, F_, F_, F_, F_, F_, F_] rfl rfl (any_of HT_.out (by kernel_rfl)) (fun _ _ _ h => h) (Or.inl ⟨by rfl, ?_⟩) ?_ ?_
     rotate_left
     · intro w'
       go_simp
       with_reducible rfl
     rotate_left
     · simp only [Act.put, sA_, sB_, sC_, i64_w, i32_w]
       rfl
     refine pure_ (i := 7) (N := some 26) (v := ?_) (a' := ?_) #[T_, T_, T_, T_, T_, F_, T_, T_, F_, F_, F_, F_, F_, F_, F_, F_, F_, F_, F_, F_] rfl rfl (any_of HT_.out (by kernel_rfl)) (fun _ _ _ h => h) (Or.inl ⟨by rfl, ?_⟩) ?_ ?_
     rotate_left
     · intro w'
       go_simp
       with_reducible rfl
     rotate_left
     · simp only [Act.put, sA_, sB_, sC_, i64_w, i32_w]
       rfl
     refine pure_ (i := 10) (N := some 29) (v := ?_) (a' := ?_) #[T_, T_, T_, T_, T_, F_, T_, T_, F_, F_, T_, F_, F_, F_, F_, F_, F_, F_, F_, F_] rfl rfl (any_of HT_.out (by kernel_rfl)) (fun _ _ _ h => h) (Or.inl ⟨by rfl, ?_⟩) ?_ ?_
     rotate_left
     · intro w'
       go_simp
       with_reducible rfl
     rotate_left
     · simp only [Act.put, sA_, sB_, sC_, i64_w, i32_w]
       rfl
     refine pure_ (i := 11) (N := some 30) (v := ?_) (a' := ?_) #[T_, T_, T_, T_, T_, F_, T_, T_, F_, F_, T_, T_, F_, F_, F_, F_, F_, F_, F_, F_] rfl rfl (any_of HT_.out (by kernel_rfl)) (fun _ _ _ h => h) (Or.inl ⟨by rfl, ?_⟩) ?_ ?_
     rotate_left
     · intro w'
       go_simp
       with_reducible rfl
     rotate_left
     · simp only [Act.put, sA_, sB_, sC_, i64_w, i32_w]
       rfl
     refine pure_ (i := 12) (N := some 31) (v := ?_) (a' := ?_) #[T_, T_, T_, T_, T_, F_, T_, T_, F_, F_, T_, T_, T_, F_, F_, F_, F_, F_, F_, F_] rfl rfl (any_of HT_.out (by kernel_rfl)) (fun _ _ _ h => h) (Or.inl ⟨by rfl, ?_⟩) ?_ ?_
     rotate_left
     · intro w'
       go_simp
       with_reducible rfl
     rotate_left
     · simp only [Act.put, sA_, sB_, sC_, i64_w, i32_w]
       rfl
     refine pure_ (i := 13) (N := some 32) (v := ?_) (a' := ?_) #[T_, T_, T_, T_, T_, F_, T_, T_, F_, F_, T_, T_, T_, T_, F_, F_, F_, F_, F_, F_] rfl rfl (any_of HT_.out (by kernel_rfl)) (fun _ _ _ h => h) (Or.inl ⟨by rfl, ?_⟩) ?_ ?_
     rotate_left
     · intro w'
       go_simp
       with_reducible rfl
     rotate_left
     · simp only [Act.put, sA_, sB_, sC_, i64_w, i32_w]
       rfl
     refine pure_ (i := 15) (N := some 34) (v := ?_) (a' := ?_) #[T_, T_, T_, T_, T_, F_, T_, T_, F_, F_, T_, T_, T_, T_, F_, T_, F_, F_, F_, F_] rfl rfl (any_of HT_.out (by kernel_rfl)) (fun _ _ _ h => h) (Or.inl ⟨by rfl, ?_⟩) ?_ ?_
     rotate_left
     · intro w'
       go_simp
       with_reducible rfl
     rotate_left
     · simp only [Act.put, sA_, sB_, sC_, i64_w, i32_w]
       rfl
     refine pure_ (i := 16) (N := some 35) (v := ?_) (a' := ?_) #[T_, T_, T_, T_, T_, F_, T_, T_, F_, F_, T_, T_, T_, T_, F_, T_, T_, F_, F_, F_] rfl rfl (any_of HT_.out (by kernel_rfl)) (fun _ _ _ h => h) (Or.inl ⟨by rfl, ?_⟩) ?_ ?_
     rotate_left
     · intro w'
       go_simp
       with_reducible rfl
     rotate_left
     · simp only [Act.put, sA_, sB_, sC_, i64_w, i32_w]
       rfl
     refine take_ (i := 5) (N := some 24) (v := ?_) (a' := ?_) #[T_, T_, T_, T_, T_, T_, T_, T_, F_, F_, T_, T_, T_, T_, F_, T_, T_, F_, F_, F_] rfl rfl (take_ofW HT_.out HW_.out (by kernel_rfl)) (fun _ _ _ h => h) (Or.inl ⟨by rfl, ?_⟩) hHeld ?_ ?_
     rotate_left
     · rintro w' ⟨s0, s1, s2, s3, s4, s5, s6, s7, s8, s9, s10, s11, s12, s13, s14, s15, s16, s17, s18, s19⟩
       go_simp
       with_reducible rfl
     rotate_left
     · simp only [Act.put, sA_, sB_, sC_, i64_w, i32_w]
       rfl
     refine take_ (i := 14) (N := some 33) (v := ?_) (a' := ?_) #[T_, T_, T_, T_, T_, T_, T_, T_, F_, F_, T_, T_, T_, T_, T_, T_, T_, F_, F_, F_] rfl rfl (take_ofW HT_.out HW_.out (by kernel_rfl)) (fun _ _ _ h => h) (Or.inl ⟨by rfl, ?_⟩) hHeld ?_ ?_
     rotate_left
     · rintro w' ⟨s0, s1, s2, s3, s4, s5, s6, s7, s8, s9, s10, s11, s12, s13, s14, s15, s16, s17, s18, s19⟩
       go_simp
       with_reducible rfl
     rotate_left
     · simp only [Act.put, sA_, sB_, sC_, i64_w, i32_w]
       rfl
     refine one_ (i := 8) (N := some 27) #[T_, T_, T_, T_, T_, T_, T_, T_, T_, F_, T_, T_, T_, T_, T_, T_, T_, F_, F_, F_] rfl rfl (one_of HT_.out (by kernel_rfl)) (by decide) (fun K hK => ?_)
     refine goes_ Tryz.func121 (by kernel_rfl) rfl #[.slice A259_8 ((rd_T122 l0 x6_1).f3).length c259_8, .int .i64 (wrap64 (a1 - 1))] (by rfl) rfl rfl (by (try simp only [mA_, List.map_cons, List.map_nil]); first | done | rfl | (simp only [lD_, lT_]; rfl)) ?_
     with_reducible refine (ih kj2 (by have := HK1.out; have := HJ2.out; omega) _ _ ((rd_T122 l0 x6_1).f3) (wrap64 (a1 - 1)) t260 _ ?side1 ?side2 A8.out).mono ?_
     (case side1 => exact qC (Kd.C_below HR259_8.out HB.out))
     (case side2 => exact HC259_8.out)
     rintro e w11 ⟨rfl, hb⟩
     refine ⟨_, rfl, ?_⟩
     have n0_ := aM_ (bT_ (qB HB) hb)
     clear HB
     revert n0_
     intro HB
     (try clear hb)
     (try clear hb2)
     (try clear hk)
     (try clear hi)
     refine hK.out _ _ ⟨(qc HB hw259_0), (qc HB hw259_1), (qc HB hw259_2), (qc HB hw259_3), (qc HB hw259_4), (qc HB hw259_5), (qc HB hw259_6), (qc HB hw259_7), (qc HB hw259_8), (qc HB hw259_9), (qc HB hw261_0), (qc HB hw261_1), (qc HB hw261_2), (qc HB hw261_3), (qc HB hw261_4), (qc HB hw261_5), (qc HB hw261_6), (qc HB hw261_7), (qc HB hw261_8), (qc HB hw261_9)⟩ (fun hHeld => ?_)
     clear hK K
     refine norm_ (a' := ?_) ?_ ?_
     rotate_left
     · show Act.put _ (some 27) _ = _
       simp only [Act.put, sA_, sB_, sC_, i64_w, i32_w]
       rfl
     refine pure_ (i := 9) (N := some 28) (v := ?_) (a' := ?_) #[T_, T_, T_, T_, T_, T_, T_, T_, T_, T_, T_, T_, T_, T_, T_, T_, T_, F_, F_, F_] rfl rfl (any_of HT_.out (by kernel_rfl)) (fun _ _ _ h => h) (Or.inl ⟨by rfl, ?_⟩) ?_ ?_
     rotate_left
     · intro w'
       go_simp
       with_reducible rfl
     rotate_left
     · simp only [Act.put, sA_, sB_, sC_, i64_w, i32_w]
       rfl
     refine one_ (i := 17) (N := some 36) #[T_, T_, T_, T_, T_, T_, T_, T_, T_, T_, T_, T_, T_, T_, T_, T_, T_, T_, F_, F_] rfl rfl (one_of HT_.out (by kernel_rfl)) (by decide) (fun K hK => ?_)
     refine goes_ Tryz.func121 (by kernel_rfl) rfl #[.slice A259_9 ((rd_T122 l0 x6_1).f4).length c259_9, .int .i64 (wrap64 (a1 - 1))] (by rfl) rfl rfl (by (try simp only [mA_, List.map_cons, List.map_nil]); first | done | rfl | (simp only [lD_, lT_]; rfl)) ?_
     with_reducible refine (ih kj2 (by have := HK1.out; have := HJ2.out; omega) _ _ ((rd_T122 l0 x6_1).f4) (wrap64 (a1 - 1)) t262 _ ?side1 ?side2 A9.out).mono ?_
     (case side1 => exact qC (Kd.C_below HR261_9.out HB.out))
     (case side2 => exact HC261_9.out)
     rintro e w12 ⟨rfl, hb⟩
     refine ⟨_, rfl, ?_⟩
     have n0_ := aM_ (bT_ (qB HB) hb)
     clear HB
     revert n0_
     intro HB
     (try clear hb)
     (try clear hb2)
     (try clear hk)
     (try clear hi)
     refine hK.out _ _ ⟨(qc HB hw259_0), (qc HB hw259_1), (qc HB hw259_2), (qc HB hw259_3), (qc HB hw259_4), (qc HB hw259_5), (qc HB hw259_6), (qc HB hw259_7), (qc HB hw259_8), (qc HB hw259_9), (qc HB hw261_0), (qc HB hw261_1), (qc HB hw261_2), (qc HB hw261_3), (qc HB hw261_4), (qc HB hw261_5), (qc HB hw261_6), (qc HB hw261_7), (qc HB hw261_8), (qc HB hw261_9)⟩ (fun hHeld => ?_)
     clear hK K
     refine norm_ (a' := ?_) ?_ ?_
     rotate_left
     · show Act.put _ (some 36) _ = _
       simp only [Act.put, sA_, sB_, sC_, i64_w, i32_w]
       rfl
     refine pure_ (i := 18) (N := some 37) (v := ?_) (a' := ?_) #[T_, T_, T_, T_, T_, T_, T_, T_, T_, T_, T_, T_, T_, T_, T_, T_, T_, T_, T_, F_] rfl rfl (any_of HT_.out (by kernel_rfl)) (fun _ _ _ h => h) (Or.inl ⟨by rfl, ?_⟩) ?_ ?_
     rotate_left
     · intro w'
       go_simp
       with_reducible rfl
     rotate_left
     · simp only [Act.put, sA_, sB_, sC_, i64_w, i32_w]
       rfl
     refine pure_ (i := 19) (N := some 5) (v := ?_) (a' := ?_) #[T_, T_, T_, T_, T_, T_, T_, T_, T_, T_, T_, T_, T_, T_, T_, T_, T_, T_, T_, T_] rfl rfl (any_of HT_.out (by kernel_rfl)) (fun _ _ _ h => h) (Or.inl ⟨by rfl, ?_⟩) ?_ ?_
     rotate_left
     · intro w'
       go_simp
       with_reducible rfl
     rotate_left
     · simp only [Act.put, sA_, sB_, sC_, i64_w, i32_w]
       rfl
     refine done_ (done_of HT_.out (by kernel_rfl)) ?_
     try go_wp2
     go_roundg kj2
     case measure => have := HK1.out; have := HJ2.out; omega
     case rel => exact ⟨(wrap64 ((wrap64 (x5_1 + t260)) + t262)), (wrap64 (x6_1 + 1)), qF, qF, H', ⟨by have := HK1.out; have := HJ2.out; omega⟩, ⟨qB HB⟩⟩
def spec_AddrOk.f (a0_0 : Int) (a0_1 : Int) : Option (Bool) := if a0_0 ≥ 1 then (if a0_0 ≤ 3 then (if a0_1 ≥ 0 then (some (decide (a0_1 < 6))) else (some false)) else (some false)) else (some false)
set_option maxHeartbeats 8000000 in
set_option maxRecDepth 100000 in
theorem spec_AddrOk.calls (a0_0 : Int) (a0_1 : Int) (r : Bool) (w : World) (h : spec_AddrOk.f a0_0 a0_1 = some r) :
    Calls Tryz.prog 74 #[.agg #[.int .i64 a0_0, .int .i64 a0_1]] w fun e w' => e = .returned (.bool r) ∧ Below w.heap.size w w' := by
 have hu28 := Tryz.underlying28
 have HB := aM_ (Below.refl w.heap.size w)
 have H : (if a0_0 ≥ 1 then (if a0_0 ≤ 3 then (if a0_1 ≥ 0 then (some (decide (a0_1 < 6))) else (some false)) else (some false)) else (some false)) = some r := h
 clear h
 by_cases c2 : a0_0 ≥ 1
 rotate_left
 · rw [if_neg c2] at H
   have c2b0 : decide (1 ≤ a0_0) = false := dF_ c2
   clear c2
   obtain rfl := oI_ H
   go_enter Tryz.func74, Tryz.ntmps74
   go_wp2_with (first | ((with_reducible refine gate_dst (N := 1) rfl ?_); refine box_event ?hg (N := 1) ?hd (cs := #[.int .i64 a0_0, .int .i64 a0_1]) (t := 28) ?hr ?_; (case hd => rfl); (case hg => rfl); (case hr => first | (go_simp; done) | (go_simp; rfl)); intro gb263 hg w11 hbox hb; have n0_ := aM_ (bT_ (qB HB) hb); have n1_ := aM_ (hbox); have n2_ := aM_ ((by rw [hg]; exact (bZ_ (qB HB)) : w.heap.size ≤ gb263)); have n3_ := aM_ ((by rw [hg]; exact (bZ_ (qB HB)) : w.heap.size ≤ gb263)); clear HB; have HB := n0_; have BK263 := n1_; have GW263 := n2_; have GE263 := n3_; clear n0_ n1_ n2_ n3_ hb hbox hg; (obtain ⟨hcz12_0, hcz12_1⟩ := cells2 BK263.out); (obtain ⟨hfz12_0, hfz12_1⟩ := frozen2 BK263.out)))
   go_ret
   exact ⟨qE, qB HB⟩
 rw [if_pos c2] at H
 have c2b0 : decide (1 ≤ a0_0) = true := dT_ c2
 clear c2
 by_cases c3 : a0_0 ≤ 3
 rotate_left
 · rw [if_neg c3] at H
   have c3b0 : decide (a0_0 ≤ 3) = false := dF_ c3
   clear c3
   obtain rfl := oI_ H
   go_enter Tryz.func74, Tryz.ntmps74
   go_wp2_with (first | ((with_reducible refine gate_dst (N := 1) rfl ?_); refine box_event ?hg (N := 1) ?hd (cs := #[.int .i64 a0_0, .int .i64 a0_1]) (t := 28) ?hr ?_; (case hd => rfl); (case hg => rfl); (case hr => first | (go_simp; done) | (go_simp; rfl)); intro gb263 hg w9 hbox hb; have n0_ := aM_ (bT_ (qB HB) hb); have n1_ := aM_ (hbox); have n2_ := aM_ ((by rw [hg]; exact (bZ_ (qB HB)) : w.heap.size ≤ gb263)); have n3_ := aM_ ((by rw [hg]; exact (bZ_ (qB HB)) : w.heap.size ≤ gb263)); clear HB; have HB := n0_; have BK263 := n1_; have GW263 := n2_; have GE263 := n3_; clear n0_ n1_ n2_ n3_ hb hbox hg; (obtain ⟨hcz10_0, hcz10_1⟩ := cells2 BK263.out); (obtain ⟨hfz10_0, hfz10_1⟩ := frozen2 BK263.out)))
   go_ret
   exact ⟨qE, qB HB⟩
 rw [if_pos c3] at H
 have c3b0 : decide (a0_0 ≤ 3) = true := dT_ c3
 clear c3
 by_cases c4 : a0_1 ≥ 0
 · rw [if_pos c4] at H
   have c4b0 : decide (0 ≤ a0_1) = true := dT_ c4
   clear c4
   obtain rfl := oI_ H
   go_enter Tryz.func74, Tryz.ntmps74
   go_wp2_with (first | ((with_reducible refine gate_dst (N := 1) rfl ?_); refine box_event ?hg (N := 1) ?hd (cs := #[.int .i64 a0_0, .int .i64 a0_1]) (t := 28) ?hr ?_; (case hd => rfl); (case hg => rfl); (case hr => first | (go_simp; done) | (go_simp; rfl)); intro gb263 hg w5 hbox hb; have n0_ := aM_ (bT_ (qB HB) hb); have n1_ := aM_ (hbox); have n2_ := aM_ ((by rw [hg]; exact (bZ_ (qB HB)) : w.heap.size ≤ gb263)); have n3_ := aM_ ((by rw [hg]; exact (bZ_ (qB HB)) : w.heap.size ≤ gb263)); clear HB; have HB := n0_; have BK263 := n1_; have GW263 := n2_; have GE263 := n3_; clear n0_ n1_ n2_ n3_ hb hbox hg; (obtain ⟨hcz6_0, hcz6_1⟩ := cells2 BK263.out); (obtain ⟨hfz6_0, hfz6_1⟩ := frozen2 BK263.out)))
   go_ret
   exact ⟨qE, qB HB⟩
 rw [if_neg c4] at H
 have c4b0 : decide (0 ≤ a0_1) = false := dF_ c4
 clear c4
 obtain rfl := oI_ H
 go_enter Tryz.func74, Tryz.ntmps74
 go_wp2_with (first | ((with_reducible refine gate_dst (N := 1) rfl ?_); refine box_event ?hg (N := 1) ?hd (cs := #[.int .i64 a0_0, .int .i64 a0_1]) (t := 28) ?hr ?_; (case hd => rfl); (case hg => rfl); (case hr => first | (go_simp; done) | (go_simp; rfl)); intro gb263 hg w7 hbox hb; have n0_ := aM_ (bT_ (qB HB) hb); have n1_ := aM_ (hbox); have n2_ := aM_ ((by rw [hg]; exact (bZ_ (qB HB)) : w.heap.size ≤ gb263)); have n3_ := aM_ ((by rw [hg]; exact (bZ_ (qB HB)) : w.heap.size ≤ gb263)); clear HB; have HB := n0_; have BK263 := n1_; have GW263 := n2_; have GE263 := n3_; clear n0_ n1_ n2_ n3_ hb hbox hg; (obtain ⟨hcz8_0, hcz8_1⟩ := cells2 BK263.out); (obtain ⟨hfz8_0, hfz8_1⟩ := frozen2 BK263.out)))
 go_ret
 exact ⟨qE, qB HB⟩
def spec_l1Max.f (a0 : Int) (a1 : Int) : Option (Int) := if a0 > a1 then (some a0) else (some a1)
set_option maxHeartbeats 8000000 in
set_option maxRecDepth 100000 in
theorem spec_l1Max.calls (a0 : Int) (a1 : Int) (r : Int) (w : World) (h : spec_l1Max.f a0 a1 = some r) :
    Calls Tryz.prog 55 #[.int .i64 a0, .int .i64 a1] w fun e w' => e = .returned (.int .i64 r) ∧ Drawn0 w w' := by
 have H : (if a0 > a1 then (some a0) else (some a1)) = some r := h
 clear h
 by_cases c3 : a0 > a1
 · rw [if_pos c3] at H
   have c3b0 : decide (a1 < a0) = true := dT_ c3
   clear c3
   obtain rfl := oI_ H
   go_enter Tryz.func55, Tryz.ntmps55
   go_wp2
   go_ret
   exact ⟨qF, by repeat (first | exact Drawn0.refl _ | apply Drawn0.step)⟩
 rw [if_neg c3] at H
 have c3b0 : decide (a1 < a0) = false := dF_ c3
 clear c3
 obtain rfl := oI_ H
 go_enter Tryz.func55, Tryz.ntmps55
 go_wp2
 go_ret
 exact ⟨qF, by repeat (first | exact Drawn0.refl _ | apply Drawn0.step)⟩
def spec_l1Min.f (a0 : Int) (a1 : Int) : Option (Int) := if a0 < a1 then (some a0) else (some a1)
set_option maxHeartbeats 8000000 in
set_option maxRecDepth 100000 in
theorem spec_l1Min.calls (a0 : Int) (a1 : Int) (r : Int) (w : World) (h : spec_l1Min.f a0 a1 = some r) :
    Calls Tryz.prog 113 #[.int .i64 a0, .int .i64 a1] w fun e w' => e = .returned (.int .i64 r) ∧ Drawn0 w w' := by
 have H : (if a0 < a1 then (some a0) else (some a1)) = some r := h
 clear h
 by_cases c3 : a0 < a1
 · rw [if_pos c3] at H
   have c3b0 : decide (a0 < a1) = true := dT_ c3
   clear c3
   obtain rfl := oI_ H
   go_enter Tryz.func113, Tryz.ntmps113
   go_wp2
   go_ret
   exact ⟨qF, by repeat (first | exact Drawn0.refl _ | apply Drawn0.step)⟩
 rw [if_neg c3] at H
 have c3b0 : decide (a0 < a1) = false := dF_ c3
 clear c3
 obtain rfl := oI_ H
 go_enter Tryz.func113, Tryz.ntmps113
 go_wp2
 go_ret
 exact ⟨qF, by repeat (first | exact Drawn0.refl _ | apply Drawn0.step)⟩
def spec_NumCut.f (a0 : Int) : Option (Int) := (spec_l1Min.f 1000000 a0).bind fun t264 => ((spec_l1Max.f (-1000000) t264).bind fun t265 => (some t265))
set_option maxHeartbeats 8000000 in
set_option maxRecDepth 100000 in
theorem spec_NumCut.calls (a0 : Int) (r : Int) (w : World) (h : spec_NumCut.f a0 = some r) :
    Calls Tryz.prog 73 #[.int .i64 a0] w fun e w' => e = .returned (.int .i64 r) ∧ Drawn0 w w' := by
 have H : ((spec_l1Min.f 1000000 a0).bind fun t264 => ((spec_l1Max.f (-1000000) t264).bind fun t265 => (some t265))) = some r := h
 clear h
 replace H := oB_ H
 obtain ⟨t264, A20, H⟩ := H
 have A2 := aM_ A20
 clear A20
 replace H := oB_ H
 obtain ⟨t265, A30, H⟩ := H
 have A3 := aM_ A30
 clear A30
 obtain rfl := oI_ H
 go_enter Tryz.func73, Tryz.ntmps73
 go_wp2_with (first | ((with_reducible refine gc_ 113 ?_); refine gL_ (some 4) Tryz.func113 #[.int .i64 1000000, .int .i64 a0] ?_; (with_reducible refine (spec_l1Min.calls 1000000 a0 t264 _ A2.out).mono ?_); rintro e w' ⟨rfl, ⟨nd, rfl⟩⟩; refine ⟨_, rfl, ?_⟩) | ((with_reducible refine gc_ 55 ?_); refine gL_ (some 5) Tryz.func55 #[.int .i64 (-1000000), .int .i64 t264] ?_; (with_reducible refine (spec_l1Max.calls (-1000000) t264 t265 _ A3.out).mono ?_); rintro e w' ⟨rfl, ⟨nd, rfl⟩⟩; refine ⟨_, rfl, ?_⟩))
 go_ret
 exact ⟨qF, by repeat (first | exact Drawn0.refl _ | apply Drawn0.step)⟩
end Go.Proofs.YtjamfddhcigchaaGreatDoor.HFnCodeSame
