-- Made by a program of this session (hp.py) over the kit's print: functions told by hand stand beside printed ones. Lean checks it.
import Derived.Test.YtjamfddhcigchaaGreatDoorTFnCodeRunHFnCodeRunx5
namespace Go.Proofs.YtjamfddhcigchaaGreatDoor.HFnCodeRun
open Go.RowKit Go.Proofs.YtjamfddhcigchaaGreatDoorW.PrintWords Go.Proofs.YtjamfddhcigchaaGreatDoorW.PrintLast Go.Proofs.YtjamfddhcigchaaGreatDoorW.PrintMore
attribute [local go_sem] max2_int min2_int max_two min_two max_three min_three max_four min_four
set_option linter.unusedVariables false
set_option linter.unusedSimpArgs false
mutual
def spec_l4Many.l0 : Nat → List (S122) → Int → Int → Int → Option (Int)
  | 0, _, _, _, _ => none
  | k + 1, x0, x1, x5, x6 => if x6 < (x0.length : Int) then (spec_l4Many.j1 k x0 x1 x5 x6 (decide (x1 > 0))) else (spec_l4Many.j1 k x0 x1 x5 x6 false)
def spec_l4Many.j1 : Nat → List (S122) → Int → Int → Int → Bool → Option (Int)
  | 0, _, _, _, _, _ => none
  | k + 1, x0, x1, x5, x6, x16 => if x16 = true then (if 0 ≤ x6 then (if x6 < (x0.length : Int) then ((spec_l4Many.f k ((rd_T122 x0 x6).f3) (wrap64 (x1 - 1))).bind fun t260 => ((spec_l4Many.f k ((rd_T122 x0 x6).f4) (wrap64 (x1 - 1))).bind fun t262 => (spec_l4Many.l0 k x0 x1 (wrap64 ((wrap64 (x5 + t260)) + t262)) (wrap64 (x6 + 1))))) else (none)) else (none)) else (some x5)
def spec_l4Many.f : Nat → List (S122) → Int → Option (Int)
  | 0, _, _ => none
  | k + 1, l0, a1 => spec_l4Many.l0 k l0 a1 (l0.length : Int) 0
end
def spec_l4Many.T5 : Bool × List (List Nat × List Nat) := (true, [([], []), ([], []), ([], []), ([1, 2], [1, 2]), ([3], [3]), ([4], [4]), ([], []), ([6], [6]), ([5, 7], [5, 7]), ([0, 8], [0, 8]), ([], []), ([], []), ([10, 11], [10, 11]), ([12], [12]), ([13], [13]), ([], []), ([15], [15]), ([14, 16, 8], [14, 16]), ([9, 17], [9, 17]), ([18, 17, 0, 1, 2, 3, 4, 5, 6, 7, 8, 9, 10, 11, 12, 13, 14, 15, 16, 17, 18], [0, 18])])
def spec_l4Many.B5 : List Nat := [0, 0, 0, 6, 14, 30, 0, 64, 254, 511, 0, 0, 3072, 7168, 15360, 0, 32768, 130558, 262143, 524287]
theorem spec_l4Many.tab5 : rtab .any (opsOf Tryz.f121 5) = spec_l4Many.T5 := by kernel_rfl
theorem spec_l4Many.bits5 : waitsOk spec_l4Many.T5.2 spec_l4Many.B5 = true := by kernel_rfl
set_option maxHeartbeats 8000000 in
set_option maxRecDepth 100000 in
theorem spec_l4Many.calls (k : Nat) : ∀ (A0 : Option Addr) (c0 : Nat) (l0 : List (S122)) (a1 : Int) (r : Int) (w : World) (hr0 : Kd.C k122 w A0 l0.length l0) (hc0 : l0.length ≤ c0) (h : spec_l4Many.f k l0 a1 = some r),
    Calls Tryz.prog 121 #[.slice A0 l0.length c0, .int .i64 a1] w fun e w' => e = .returned (.int .i64 r) ∧ Below w.heap.size w w' := by
 induction k using Nat.strongRecOn with
 | _ k ih =>
 intro A0 c0 l0 a1 r w hr0 hc0 h
 cases k with
 | zero => exact absurd h (by simp [spec_l4Many.f])
 | succ k =>
 simp only [spec_l4Many.f] at h
 have HR0 := aM_ hr0
 have HC0 := aM_ hc0
 clear hr0 hc0
 have HB := aM_ (Below.refl w.heap.size w)
 have H : (spec_l4Many.l0 k l0 a1 (l0.length : Int) 0) = some r := h
 clear h
 have H' := aM_ H
 clear H
 go_enter Tryz.func121, Tryz.ntmps121
 go_wp2
 go_loopg [5, 6] k (fun kq v5 v6 w' => ∃ (x5_1 : Int) (x6_1 : Int), v5 = .int .i64 x5_1 ∧ v6 = .int .i64 x6_1 ∧ Aside0 (spec_l4Many.l0 kq l0 a1 x5_1 x6_1 = some r) ∧ Aside0 (kq ≤ k) ∧ Aside0 (Below w.heap.size w w'))
 case atStart => exact ⟨((l0.length : Int)), (0), qF, qF, H', ⟨Nat.le_refl _⟩, ⟨qB HB⟩⟩
 case round =>
  clear H'
  obtain ⟨x5_1, x6_1, rfl, rfl, HA, HK1, HB⟩ := hrel
  cases gk with
  | zero => exact absurd HA.out (by simp [spec_l4Many.l0])
  | succ k1 =>
   have H := HA.out
   clear HA
   simp only [spec_l4Many.l0] at H
   have HC3 := aM_ H
   clear H
   go_upto_region 3 with (fail)
   go_cut [16] (fun v16 wc => ∃ (kq : Nat) (x16_2 : Bool), v16 = .bool x16_2 ∧ Aside0 (spec_l4Many.j1 kq l0 a1 x5_1 x6_1 x16_2 = some r) ∧ Aside0 (kq ≤ k1) ∧ Aside0 (Below w.heap.size w wc))
   case first =>
    have H := HC3.out
    clear HC3
    by_cases c4 : x6_1 < (l0.length : Int)
    rotate_left
    · rw [if_neg c4] at H
      have c4b0 : decide (x6_1 < (l0.length : Int)) = false := dF_ c4
      clear c4
      (first | rw [c4b0] | (simp only [i64_w, i32_w]; rw [c4b0]) | skip)
      have H' := aM_ H
      clear H
      go_wp2
      go_meet
      case rel => exact ⟨_, (false), qF, H', ⟨by have := HK1.out; first | omega | exact Nat.le_refl _⟩, ⟨qB HB⟩⟩
    rw [if_pos c4] at H
    have c4b0 : decide (x6_1 < (l0.length : Int)) = true := dT_ c4
    clear c4
    (first | rw [c4b0] | (simp only [i64_w, i32_w]; rw [c4b0]) | skip)
    have H' := aM_ H
    clear H
    go_wp2
    go_meet
    case rel => exact ⟨_, (decide (a1 > 0)), qF, H', ⟨by have := HK1.out; first | omega | exact Nat.le_refl _⟩, ⟨qB HB⟩⟩
   case rest =>
    clear HC3
    obtain ⟨kq, x16_2, rfl, HA, HJ2, HB⟩ := hcut
    cases kq with
    | zero => exact absurd HA.out (by simp [spec_l4Many.j1])
    | succ kj2 =>
     have H := HA.out
     clear HA
     simp only [spec_l4Many.j1] at H
     by_cases c5 : x16_2 = true
     rotate_left
     · replace c5 := Bool.eq_false_iff.mpr c5
       subst c5
       rw [if_neg (show ¬ (false = true) by decide)] at H
       obtain rfl := oI_ H
       go_wp2
       go_ret
       exact ⟨qE, qB HB⟩
     subst c5
     rw [if_pos rfl] at H
     obtain ⟨H, c6b0⟩ := nP_ H
     obtain ⟨H, c7b0⟩ := nP_ H
     replace H := oB_ H
     obtain ⟨t260, A80, H⟩ := H
     have A8 := aM_ A80
     clear A80
     replace H := oB_ H
     obtain ⟨t262, A90, H⟩ := H
     have A9 := aM_ A90
     clear A90
     have H' := aM_ H
     clear H
     try go_wp2
     have n0_ := aM_ (b1_ HB.out)
     clear HB
     revert n0_
     intro HB
     have p259 : 0 ≤ (x6_1 : Int) := oD_ (by first | (with_reducible assumption) | assumption)
     have q259 : x6_1 < (l0.length : Int) := oD_ (by first | (with_reducible assumption) | assumption)
     obtain ⟨ad259, A259_7, c259_7, A259_8, c259_8, A259_9, c259_9, e259, hx259_0, hx259_1, hx259_2, hx259_3, hx259_4, hx259_5, hx259_6, hx259_7, hx259_8, hx259_9, hl259_7, hi259_7, hl259_8, hi259_8, hl259_9, hi259_9⟩ := at_T122 HR0.out x6_1 p259 q259
     have hw259_9 := hx259_9
     have hw259_8 := hx259_8
     have hw259_7 := hx259_7
     have hw259_6 := hx259_6
     have hw259_5 := hx259_5
     have hw259_4 := hx259_4
     have hw259_3 := hx259_3
     have hw259_2 := hx259_2
     have hw259_1 := hx259_1
     have hw259_0 := hx259_0
     cases e259
     replace hx259_0 := qc HB hx259_0
     replace hx259_1 := qc HB hx259_1
     replace hx259_2 := qc HB hx259_2
     replace hx259_3 := qc HB hx259_3
     replace hx259_4 := qc HB hx259_4
     replace hx259_5 := qc HB hx259_5
     replace hx259_6 := qc HB hx259_6
     replace hx259_7 := qc HB hx259_7
     replace hx259_8 := qc HB hx259_8
     replace hx259_9 := qc HB hx259_9
     have HR259_7 := aM_ hi259_7
     have HC259_7 := aM_ hl259_7
     clear hi259_7 hl259_7
     have HR259_8 := aM_ hi259_8
     have HC259_8 := aM_ hl259_8
     clear hi259_8 hl259_8
     have HR259_9 := aM_ hi259_9
     have HC259_9 := aM_ hl259_9
     clear hi259_9 hl259_9
     replace p259 := eq_true p259
     replace q259 := eq_true q259
     have p261 : 0 ≤ (x6_1 : Int) := oD_ (by first | (with_reducible assumption) | assumption)
     have q261 : x6_1 < (l0.length : Int) := oD_ (by first | (with_reducible assumption) | assumption)
     obtain ⟨ad261, A261_7, c261_7, A261_8, c261_8, A261_9, c261_9, e261, hx261_0, hx261_1, hx261_2, hx261_3, hx261_4, hx261_5, hx261_6, hx261_7, hx261_8, hx261_9, hl261_7, hi261_7, hl261_8, hi261_8, hl261_9, hi261_9⟩ := at_T122 HR0.out x6_1 p261 q261
     have hw261_9 := hx261_9
     have hw261_8 := hx261_8
     have hw261_7 := hx261_7
     have hw261_6 := hx261_6
     have hw261_5 := hx261_5
     have hw261_4 := hx261_4
     have hw261_3 := hx261_3
     have hw261_2 := hx261_2
     have hw261_1 := hx261_1
     have hw261_0 := hx261_0
     obtain rfl : ad259 = ad261 := (by injection e261)
     replace hx261_0 := qc HB hx261_0
     replace hx261_1 := qc HB hx261_1
     replace hx261_2 := qc HB hx261_2
     replace hx261_3 := qc HB hx261_3
     replace hx261_4 := qc HB hx261_4
     replace hx261_5 := qc HB hx261_5
     replace hx261_6 := qc HB hx261_6
     replace hx261_7 := qc HB hx261_7
     replace hx261_8 := qc HB hx261_8
     replace hx261_9 := qc HB hx261_9
     have HR261_7 := aM_ hi261_7
     have HC261_7 := aM_ hl261_7
     clear hi261_7 hl261_7
     have HR261_8 := aM_ hi261_8
     have HC261_8 := aM_ hl261_8
     clear hi261_8 hl261_8
     have HR261_9 := aM_ hi261_9
     have HC261_9 := aM_ hl261_9
     clear hi261_9 hl261_9
     replace p261 := eq_true p261
     replace q261 := eq_true q261
     have ea_ := oI_ (hx259_7.symm.trans hx261_7)
     injection ea_ with ea_ en_ ec_
     subst ea_
     subst ec_
     clear en_
     have ea_ := oI_ (hx259_8.symm.trans hx261_8)
     injection ea_ with ea_ en_ ec_
     subst ea_
     subst ec_
     clear en_
     have ea_ := oI_ (hx259_9.symm.trans hx261_9)
     injection ea_ with ea_ en_ ec_
     subst ea_
     subst ec_
     clear en_
     refine start_ (n := 20) (S := fun w' => w'.cell? (ad259.add ((x6_1).toNat * 10)) = some (.int .i64 ((rd_T122 l0 x6_1).f0)) ∧ w'.cell? ⟨(ad259.add ((x6_1).toNat * 10)).block, (ad259.add ((x6_1).toNat * 10)).off + 1, none⟩ = some (.int .i64 ((rd_T122 l0 x6_1).f1.f0)) ∧ w'.cell? ⟨(ad259.add ((x6_1).toNat * 10)).block, (ad259.add ((x6_1).toNat * 10)).off + 2, none⟩ = some (.int .i64 ((rd_T122 l0 x6_1).f1.f1)) ∧ w'.cell? ⟨(ad259.add ((x6_1).toNat * 10)).block, (ad259.add ((x6_1).toNat * 10)).off + 3, none⟩ = some (.int .i64 ((rd_T122 l0 x6_1).f2.f0)) ∧ w'.cell? ⟨(ad259.add ((x6_1).toNat * 10)).block, (ad259.add ((x6_1).toNat * 10)).off + 4, none⟩ = some (.int .i64 ((rd_T122 l0 x6_1).f2.f1)) ∧ w'.cell? ⟨(ad259.add ((x6_1).toNat * 10)).block, (ad259.add ((x6_1).toNat * 10)).off + 5, none⟩ = some (.int .i64 ((rd_T122 l0 x6_1).f2.f2.f0)) ∧ w'.cell? ⟨(ad259.add ((x6_1).toNat * 10)).block, (ad259.add ((x6_1).toNat * 10)).off + 6, none⟩ = some (.int .i64 ((rd_T122 l0 x6_1).f2.f2.f1)) ∧ w'.cell? ⟨(ad259.add ((x6_1).toNat * 10)).block, (ad259.add ((x6_1).toNat * 10)).off + 7, none⟩ = some (.slice A259_7 ((rd_T122 l0 x6_1).f2.f3).length c259_7) ∧ w'.cell? ⟨(ad259.add ((x6_1).toNat * 10)).block, (ad259.add ((x6_1).toNat * 10)).off + 8, none⟩ = some (.slice A259_8 ((rd_T122 l0 x6_1).f3).length c259_8) ∧ w'.cell? ⟨(ad259.add ((x6_1).toNat * 10)).block, (ad259.add ((x6_1).toNat * 10)).off + 9, none⟩ = some (.slice A259_9 ((rd_T122 l0 x6_1).f4).length c259_9) ∧ w'.cell? (ad259.add ((x6_1).toNat * 10)) = some (.int .i64 ((rd_T122 l0 x6_1).f0)) ∧ w'.cell? ⟨(ad259.add ((x6_1).toNat * 10)).block, (ad259.add ((x6_1).toNat * 10)).off + 1, none⟩ = some (.int .i64 ((rd_T122 l0 x6_1).f1.f0)) ∧ w'.cell? ⟨(ad259.add ((x6_1).toNat * 10)).block, (ad259.add ((x6_1).toNat * 10)).off + 2, none⟩ = some (.int .i64 ((rd_T122 l0 x6_1).f1.f1)) ∧ w'.cell? ⟨(ad259.add ((x6_1).toNat * 10)).block, (ad259.add ((x6_1).toNat * 10)).off + 3, none⟩ = some (.int .i64 ((rd_T122 l0 x6_1).f2.f0)) ∧ w'.cell? ⟨(ad259.add ((x6_1).toNat * 10)).block, (ad259.add ((x6_1).toNat * 10)).off + 4, none⟩ = some (.int .i64 ((rd_T122 l0 x6_1).f2.f1)) ∧ w'.cell? ⟨(ad259.add ((x6_1).toNat * 10)).block, (ad259.add ((x6_1).toNat * 10)).off + 5, none⟩ = some (.int .i64 ((rd_T122 l0 x6_1).f2.f2.f0)) ∧ w'.cell? ⟨(ad259.add ((x6_1).toNat * 10)).block, (ad259.add ((x6_1).toNat * 10)).off + 6, none⟩ = some (.int .i64 ((rd_T122 l0 x6_1).f2.f2.f1)) ∧ w'.cell? ⟨(ad259.add ((x6_1).toNat * 10)).block, (ad259.add ((x6_1).toNat * 10)).off + 7, none⟩ = some (.slice A259_7 ((rd_T122 l0 x6_1).f2.f3).length c259_7) ∧ w'.cell? ⟨(ad259.add ((x6_1).toNat * 10)).block, (ad259.add ((x6_1).toNat * 10)).off + 8, none⟩ = some (.slice A259_8 ((rd_T122 l0 x6_1).f3).length c259_8) ∧ w'.cell? ⟨(ad259.add ((x6_1).toNat * 10)).block, (ad259.add ((x6_1).toNat * 10)).off + 9, none⟩ = some (.slice A259_9 ((rd_T122 l0 x6_1).f4).length c259_9)) (ds := []) #[F_, F_, F_, F_, F_, F_, F_, F_, F_, F_, F_, F_, F_, F_, F_, F_, F_, F_, F_, F_] (by kernel_rfl) rfl rfl ⟨(qc HB hw259_0), (qc HB hw259_1), (qc HB hw259_2), (qc HB hw259_3), (qc HB hw259_4), (qc HB hw259_5), (qc HB hw259_6), (qc HB hw259_7), (qc HB hw259_8), (qc HB hw259_9), (qc HB hw261_0), (qc HB hw261_1), (qc HB hw261_2), (qc HB hw261_3), (qc HB hw261_4), (qc HB hw261_5), (qc HB hw261_6), (qc HB hw261_7), (qc HB hw261_8), (qc HB hw261_9)⟩ (fun hHeld => ?_); refine with_tabW spec_l4Many.tab5 spec_l4Many.bits5 (fun HT_ HW_ => ?_)
     generalize wc.drew = w10 at HB HR259_7 HR259_8 HR259_9 HR261_7 HR261_8 HR261_9 hx259_0 hx259_1 hx259_2 hx259_3 hx259_4 hx259_5 hx259_6 hx259_7 hx259_8 hx259_9 hx261_0 hx261_1 hx261_2 hx261_3 hx261_4 hx261_5 hx261_6 hx261_7 hx261_8 hx261_9 hHeld ⊢
     refine pu_ 0 19 ?_
     refine pu_ 1 20 ?_
     refine pu_ 2 21 ?_
     refine pu_ 3 22 ?_
     refine pu_ 4 23 ?_
     refine pu_ 6 25 ?_
     refine pu_ 7 26 ?_
     refine pu_ 10 29 ?_
     refine pu_ 11 30 ?_
     refine pu_ 12 31 ?_
     refine pu_ 13 32 ?_
     refine pu_ 15 34 ?_
     refine pu_ 16 35 ?_
     refine tk_ 5 24 hHeld ?_
     refine tk_ 14 33 hHeld ?_
     refine on_ 8 (some 27) fun K hK => ?_
     refine goes_ Tryz.func121 (by kernel_rfl) rfl #[.slice A259_8 ((rd_T122 l0 x6_1).f3).length c259_8, .int .i64 (wrap64 (a1 - 1))] (by rfl) rfl rfl (by (try simp only [mA_, List.map_cons, List.map_nil]); first | done | rfl | (simp only [lD_, lT_]; rfl)) ?_
     with_reducible refine (ih kj2 (by have := HK1.out; have := HJ2.out; omega) _ _ ((rd_T122 l0 x6_1).f3) (wrap64 (a1 - 1)) t260 _ ?side1 ?side2 A8.out).mono ?_
     (case side1 => exact qC (Kd.C_below HR259_8.out HB.out))
     (case side2 => exact HC259_8.out)
     rintro e w11 ⟨rfl, hb⟩
     refine ⟨_, rfl, ?_⟩
     have n0_ := aM_ (bT_ (qB HB) hb)
     clear HB
     revert n0_
     intro HB
     (try clear hb)
     (try clear hb2)
     (try clear hk)
     (try clear hi)
     refine hK.out _ _ ⟨(qc HB hw259_0), (qc HB hw259_1), (qc HB hw259_2), (qc HB hw259_3), (qc HB hw259_4), (qc HB hw259_5), (qc HB hw259_6), (qc HB hw259_7), (qc HB hw259_8), (qc HB hw259_9), (qc HB hw261_0), (qc HB hw261_1), (qc HB hw261_2), (qc HB hw261_3), (qc HB hw261_4), (qc HB hw261_5), (qc HB hw261_6), (qc HB hw261_7), (qc HB hw261_8), (qc HB hw261_9)⟩ (fun hHeld => ?_)
     clear hK K
     refine norm_ (a' := ?_) ?_ ?_
     rotate_left
     · show Act.put _ (some 27) _ = _
       simp only [Act.put, sA_, sB_, sC_, i64_w, i32_w]
       rfl
     refine pu_ 9 28 ?_
     refine on_ 17 (some 36) fun K hK => ?_
     refine goes_ Tryz.func121 (by kernel_rfl) rfl #[.slice A259_9 ((rd_T122 l0 x6_1).f4).length c259_9, .int .i64 (wrap64 (a1 - 1))] (by rfl) rfl rfl (by (try simp only [mA_, List.map_cons, List.map_nil]); first | done | rfl | (simp only [lD_, lT_]; rfl)) ?_
     with_reducible refine (ih kj2 (by have := HK1.out; have := HJ2.out; omega) _ _ ((rd_T122 l0 x6_1).f4) (wrap64 (a1 - 1)) t262 _ ?side1 ?side2 A9.out).mono ?_
     (case side1 => exact qC (Kd.C_below HR261_9.out HB.out))
     (case side2 => exact HC261_9.out)
     rintro e w12 ⟨rfl, hb⟩
     refine ⟨_, rfl, ?_⟩
     have n0_ := aM_ (bT_ (qB HB) hb)
     clear HB
     revert n0_
     intro HB
     (try clear hb)
     (try clear hb2)
     (try clear hk)
     (try clear hi)
     refine hK.out _ _ ⟨(qc HB hw259_0), (qc HB hw259_1), (qc HB hw259_2), (qc HB hw259_3), (qc HB hw259_4), (qc HB hw259_5), (qc HB hw259_6), (qc HB hw259_7), (qc HB hw259_8), (qc HB hw259_9), (qc HB hw261_0), (qc HB hw261_1), (qc HB hw261_2), (qc HB hw261_3), (qc HB hw261_4), (qc HB hw261_5), (qc HB hw261_6), (qc HB hw261_7), (qc HB hw261_8), (qc HB hw261_9)⟩ (fun hHeld => ?_)
     clear hK K
     refine norm_ (a' := ?_) ?_ ?_
     rotate_left
     · show Act.put _ (some 36) _ = _
       simp only [Act.put, sA_, sB_, sC_, i64_w, i32_w]
       rfl
     refine pu_ 18 37 ?_
     refine pu_ 19 5 ?_
     refine done_ (done_of HT_.out (by kernel_rfl)) ?_
     try go_wp2
     go_roundg kj2
     case measure => have := HK1.out; have := HJ2.out; omega
     case rel => exact ⟨(wrap64 ((wrap64 (x5_1 + t260)) + t262)), (wrap64 (x6_1 + 1)), qF, qF, H', ⟨by have := HK1.out; have := HJ2.out; omega⟩, ⟨qB HB⟩⟩
def spec_AddrOk.f (a0_0 : Int) (a0_1 : Int) : Option (Bool) := if a0_0 ≥ 1 then (if a0_0 ≤ 3 then (if a0_1 ≥ 0 then (some (decide (a0_1 < 6))) else (some false)) else (some false)) else (some false)
set_option maxHeartbeats 8000000 in
set_option maxRecDepth 100000 in
theorem spec_AddrOk.calls (a0_0 : Int) (a0_1 : Int) (r : Bool) (w : World) (h : spec_AddrOk.f a0_0 a0_1 = some r) :
    Calls Tryz.prog 74 #[.agg #[.int .i64 a0_0, .int .i64 a0_1]] w fun e w' => e = .returned (.bool r) ∧ Below w.heap.size w w' := by
 have hu28 := Tryz.underlying28
 have HB := aM_ (Below.refl w.heap.size w)
 have H : (if a0_0 ≥ 1 then (if a0_0 ≤ 3 then (if a0_1 ≥ 0 then (some (decide (a0_1 < 6))) else (some false)) else (some false)) else (some false)) = some r := h
 clear h
 by_cases c2 : a0_0 ≥ 1
 rotate_left
 · rw [if_neg c2] at H
   have c2b0 : decide (1 ≤ a0_0) = false := dF_ c2
   clear c2
   obtain rfl := oI_ H
   go_enter Tryz.func74, Tryz.ntmps74
   go_wp2_with (first | ((with_reducible refine gD_ 1 ?_); refine bxB 1 28 #[.int .i64 a0_0, .int .i64 a0_1] (qB HB) ?_; clear HB; intro gb263 w11 HB BK263 GW263; have GE263 := GW263; have hC12 := cf2 BK263.out))
   go_ret
   exact ⟨qE, qB HB⟩
 rw [if_pos c2] at H
 have c2b0 : decide (1 ≤ a0_0) = true := dT_ c2
 clear c2
 by_cases c3 : a0_0 ≤ 3
 rotate_left
 · rw [if_neg c3] at H
   have c3b0 : decide (a0_0 ≤ 3) = false := dF_ c3
   clear c3
   obtain rfl := oI_ H
   go_enter Tryz.func74, Tryz.ntmps74
   go_wp2_with (first | ((with_reducible refine gD_ 1 ?_); refine bxB 1 28 #[.int .i64 a0_0, .int .i64 a0_1] (qB HB) ?_; clear HB; intro gb263 w9 HB BK263 GW263; have GE263 := GW263; have hC10 := cf2 BK263.out))
   go_ret
   exact ⟨qE, qB HB⟩
 rw [if_pos c3] at H
 have c3b0 : decide (a0_0 ≤ 3) = true := dT_ c3
 clear c3
 by_cases c4 : a0_1 ≥ 0
 · rw [if_pos c4] at H
   have c4b0 : decide (0 ≤ a0_1) = true := dT_ c4
   clear c4
   obtain rfl := oI_ H
   go_enter Tryz.func74, Tryz.ntmps74
   go_wp2_with (first | ((with_reducible refine gD_ 1 ?_); refine bxB 1 28 #[.int .i64 a0_0, .int .i64 a0_1] (qB HB) ?_; clear HB; intro gb263 w5 HB BK263 GW263; have GE263 := GW263; have hC6 := cf2 BK263.out))
   go_ret
   exact ⟨qE, qB HB⟩
 rw [if_neg c4] at H
 have c4b0 : decide (0 ≤ a0_1) = false := dF_ c4
 clear c4
 obtain rfl := oI_ H
 go_enter Tryz.func74, Tryz.ntmps74
 go_wp2_with (first | ((with_reducible refine gD_ 1 ?_); refine bxB 1 28 #[.int .i64 a0_0, .int .i64 a0_1] (qB HB) ?_; clear HB; intro gb263 w7 HB BK263 GW263; have GE263 := GW263; have hC8 := cf2 BK263.out))
 go_ret
 exact ⟨qE, qB HB⟩
def spec_l1Max.f (a0 : Int) (a1 : Int) : Option (Int) := if a0 > a1 then (some a0) else (some a1)
set_option maxHeartbeats 8000000 in
set_option maxRecDepth 100000 in
theorem spec_l1Max.calls (a0 : Int) (a1 : Int) (r : Int) (w : World) (h : spec_l1Max.f a0 a1 = some r) :
    Calls Tryz.prog 55 #[.int .i64 a0, .int .i64 a1] w fun e w' => e = .returned (.int .i64 r) ∧ Drawn0 w w' := by
 have H : (if a0 > a1 then (some a0) else (some a1)) = some r := h
 clear h
 by_cases c3 : a0 > a1
 · rw [if_pos c3] at H
   have c3b0 : decide (a1 < a0) = true := dT_ c3
   clear c3
   obtain rfl := oI_ H
   go_enter Tryz.func55, Tryz.ntmps55
   go_wp2
   go_ret
   exact ⟨qF, by repeat (first | exact Drawn0.refl _ | apply Drawn0.step)⟩
 rw [if_neg c3] at H
 have c3b0 : decide (a1 < a0) = false := dF_ c3
 clear c3
 obtain rfl := oI_ H
 go_enter Tryz.func55, Tryz.ntmps55
 go_wp2
 go_ret
 exact ⟨qF, by repeat (first | exact Drawn0.refl _ | apply Drawn0.step)⟩
def spec_l1Min.f (a0 : Int) (a1 : Int) : Option (Int) := if a0 < a1 then (some a0) else (some a1)
set_option maxHeartbeats 8000000 in
set_option maxRecDepth 100000 in
theorem spec_l1Min.calls (a0 : Int) (a1 : Int) (r : Int) (w : World) (h : spec_l1Min.f a0 a1 = some r) :
    Calls Tryz.prog 113 #[.int .i64 a0, .int .i64 a1] w fun e w' => e = .returned (.int .i64 r) ∧ Drawn0 w w' := by
 have H : (if a0 < a1 then (some a0) else (some a1)) = some r := h
 clear h
 by_cases c3 : a0 < a1
 · rw [if_pos c3] at H
   have c3b0 : decide (a0 < a1) = true := dT_ c3
   clear c3
   obtain rfl := oI_ H
   go_enter Tryz.func113, Tryz.ntmps113
   go_wp2
   go_ret
   exact ⟨qF, by repeat (first | exact Drawn0.refl _ | apply Drawn0.step)⟩
 rw [if_neg c3] at H
 have c3b0 : decide (a0 < a1) = false := dF_ c3
 clear c3
 obtain rfl := oI_ H
 go_enter Tryz.func113, Tryz.ntmps113
 go_wp2
 go_ret
 exact ⟨qF, by repeat (first | exact Drawn0.refl _ | apply Drawn0.step)⟩
def spec_NumCut.f (a0 : Int) : Option (Int) := (spec_l1Min.f 1000000 a0).bind fun t264 => ((spec_l1Max.f (-1000000) t264).bind fun t265 => (some t265))
set_option maxHeartbeats 8000000 in
set_option maxRecDepth 100000 in
theorem spec_NumCut.calls (a0 : Int) (r : Int) (w : World) (h : spec_NumCut.f a0 = some r) :
    Calls Tryz.prog 73 #[.int .i64 a0] w fun e w' => e = .returned (.int .i64 r) ∧ Drawn0 w w' := by
 have H : ((spec_l1Min.f 1000000 a0).bind fun t264 => ((spec_l1Max.f (-1000000) t264).bind fun t265 => (some t265))) = some r := h
 clear h
 replace H := oB_ H
 obtain ⟨t264, A20, H⟩ := H
 have A2 := aM_ A20
 clear A20
 replace H := oB_ H
 obtain ⟨t265, A30, H⟩ := H
 have A3 := aM_ A30
 clear A30
 obtain rfl := oI_ H
 go_enter Tryz.func73, Tryz.ntmps73
 go_wp2_with (first | ((with_reducible refine gc_ 113 ?_); refine gL_ (some 4) Tryz.func113 #[.int .i64 1000000, .int .i64 a0] ?_; (with_reducible refine (spec_l1Min.calls 1000000 a0 t264 _ A2.out).mono ?_); rintro e w' ⟨rfl, ⟨nd, rfl⟩⟩; refine ⟨_, rfl, ?_⟩) | ((with_reducible refine gc_ 55 ?_); refine gL_ (some 5) Tryz.func55 #[.int .i64 (-1000000), .int .i64 t264] ?_; (with_reducible refine (spec_l1Max.calls (-1000000) t264 t265 _ A3.out).mono ?_); rintro e w' ⟨rfl, ⟨nd, rfl⟩⟩; refine ⟨_, rfl, ?_⟩))
 go_ret
 exact ⟨qF, by repeat (first | exact Drawn0.refl _ | apply Drawn0.step)⟩
end Go.Proofs.YtjamfddhcigchaaGreatDoor.HFnCodeRun
namespace Go.Proofs.YtjamfddhcigchaaGreatDoor.HFnCodeRun
open Go.RowKit Go.Proofs.YtjamfddhcigchaaGreatDoorW.PrintWords Go.Proofs.YtjamfddhcigchaaGreatDoorW.PrintLast Go.Proofs.YtjamfddhcigchaaGreatDoorW.PrintMore
attribute [local go_sem] max2_int min2_int max_two min_two max_three min_three max_four min_four
set_option linter.unusedVariables false
set_option linter.unusedSimpArgs false
mutual
def spec_l4List.l0 : Nat → Int → List (S122) → Int → List Int → Int → Option ((List (S122)) × Int)
  | 0, _, _, _, _, _ => none
  | k + 1, x1, x5, x6, x1000, x1001 => if x6 > 0 then (spec_l4List.j1 k x1 x5 x6 (decide (x1 > 0)) x1000 x1001) else (spec_l4List.j1 k x1 x5 x6 false x1000 x1001)
def spec_l4List.j1 : Nat → Int → List (S122) → Int → Bool → List Int → Int → Option ((List (S122)) × Int)
  | 0, _, _, _, _, _, _ => none
  | k + 1, x1, x5, x6, x15, x1000, x1001 => if x15 = true then ((spec_l12Rd_pick.f k x1000 x1001 7).bind fun bt187 => (if bt187.1 = 0 then (spec_l4List.j2 k x1 x5 x6 bt187.1 (bt187.1 == 0) x1000 bt187.2) else (spec_l4List.j2 k x1 x5 x6 bt187.1 (bt187.1 == 1) x1000 bt187.2))) else (some (x5, x1001))
def spec_l4List.j2 : Nat → Int → List (S122) → Int → Int → Bool → List Int → Int → Option ((List (S122)) × Int)
  | 0, _, _, _, _, _, _, _ => none
  | k + 1, x1, x5, x6, x19, x28, x1000, x1001 => if x28 = true then ((spec_l3Expr.f k x1000 x1001 3).bind fun bt189 => ((spec_l4List.f k x1000 bt189.2.2.2.2.2 (wrap64 (x1 - 1))).bind fun bt197 => ((spec_l4List.f k x1000 bt197.2 (wrap64 (x1 - 2))).bind fun bt201 => (if x5.length < 1099511627776 then (spec_l4List.l0 k x1 (x5 ++ [(⟨2, (⟨0, 0⟩ : S28), (⟨bt189.1, bt189.2.1, (⟨bt189.2.2.1, bt189.2.2.2.1⟩ : S28), bt189.2.2.2.2.1⟩ : S120), bt197.1, bt201.1⟩ : S122)]) (wrap64 (x6 - 1)) x1000 bt201.2) else (none))))) else (if x19 = 2 then (if x1 > 1 then ((spec_l4Count.f x1000 x1001).bind fun bt208 => (if x5.length < 1099511627776 then (spec_l4List.l0 k x1 (x5 ++ [(⟨bt208.1, (⟨bt208.2.1, bt208.2.2.1⟩ : S28), (⟨bt208.2.2.2.1, bt208.2.2.2.2.1, (⟨bt208.2.2.2.2.2.1, bt208.2.2.2.2.2.2.1⟩ : S28), bt208.2.2.2.2.2.2.2.1⟩ : S120), bt208.2.2.2.2.2.2.2.2.1, bt208.2.2.2.2.2.2.2.2.2.1⟩ : S122)]) (wrap64 (x6 - 1)) x1000 bt208.2.2.2.2.2.2.2.2.2.2) else (none))) else (spec_l4List.l0 k x1 x5 (wrap64 (x6 - 1)) x1000 x1001)) else (if x19 = 3 then ((spec_l12Rd_pick.f k x1000 x1001 3).bind fun bt228 => (if bt228.1 = 0 then ((spec_l3Expr.f k x1000 bt228.2 2).bind fun bt230 => ((spec_l4List.f k x1000 bt230.2.2.2.2.2 (wrap64 (x1 - 1))).bind fun bt238 => (if x5.length < 1099511627776 then (spec_l4List.l0 k x1 (x5 ++ [(⟨3, (⟨0, 0⟩ : S28), (⟨bt230.1, bt230.2.1, (⟨bt230.2.2.1, bt230.2.2.2.1⟩ : S28), bt230.2.2.2.2.1⟩ : S120), bt238.1, ([] : List (S122))⟩ : S122)]) (wrap64 (x6 - 1)) x1000 bt238.2) else (none)))) else (spec_l4List.l0 k x1 x5 (wrap64 (x6 - 1)) x1000 bt228.2))) else ((spec_l2To.f k x1000 x1001).bind fun bt245 => ((spec_l3Expr.f k x1000 bt245.2.2 3).bind fun bt248 => (if x5.length < 1099511627776 then (spec_l4List.l0 k x1 (x5 ++ [(⟨1, (⟨bt245.1, bt245.2.1⟩ : S28), (⟨bt248.1, bt248.2.1, (⟨bt248.2.2.1, bt248.2.2.2.1⟩ : S28), bt248.2.2.2.2.1⟩ : S120), ([] : List (S122)), ([] : List (S122))⟩ : S122)]) (wrap64 (x6 - 1)) x1000 bt248.2.2.2.2.2) else (none))))))
def spec_l4List.f : Nat → List Int → Int → Int → Option ((List (S122)) × Int)
  | 0, _, _, _ => none
  | k + 1, s0_0, s0_1, a1 => (spec_l12Rd_pick.f k s0_0 s0_1 4).bind fun bt185 => (spec_l4List.l0 k a1 (([] : List (S122))) bt185.1 s0_0 bt185.2)
end
set_option maxHeartbeats 8000000 in
set_option maxRecDepth 100000 in
theorem spec_l4List.calls (k : Nat) : ∀ (g : Nat) (s0_0 : List Int) (s0_1 : Int) (a1 : Int) (r1 : List (S122)) (r2 : Int) (w0 w : World) (hI : IsS98 w0 w g s0_0 s0_1) (hB : Below w0.heap.size w0 w) (h : spec_l4List.f k s0_0 s0_1 a1 = some (r1, r2)),
    Calls Tryz.prog 84 #[.pointer (some ⟨g, 0, none⟩), .int .i64 a1] w fun e w' => ∃ v0_ : Value, e = .returned (v0_) ∧ Kd.R k122 122 w' w.heap.size (fun _ => True) v0_ r1 ∧ IsS98 w0 w' g s0_0 r2 ∧ Below w0.heap.size w0 w' ∧ KeepBut w w' g none := by
 induction k using Nat.strongRecOn with
 | _ k ih =>
 intro g s0_0 s0_1 a1 r1 r2 w0 w hI hB h
 cases k with
 | zero => exact absurd h (by simp [spec_l4List.f])
 | succ k =>
 simp only [spec_l4List.f] at h
 have hu122 := Tryz.underlying122
 have HI0 := aM_ hI
 have HK := aM_ (KeepBut.refl w g none)
 have HL := aM_ hB.size
 clear hI
 have HW0 := aM_ hB.size
 have HB := aM_ hB
 clear hB
 have H : ((spec_l12Rd_pick.f k s0_0 s0_1 4).bind fun bt185 => (spec_l4List.l0 k a1 (([] : List (S122))) bt185.1 s0_0 bt185.2)) = some (r1, r2) := h
 clear h
 obtain ⟨y182, hy182⟩ : ∃ y_ : List (S122), y_ = (([] : List (S122))) := ⟨_, rfl⟩
 replace H : ((spec_l12Rd_pick.f k s0_0 s0_1 4).bind fun bt185 => (spec_l4List.l0 k a1 y182 bt185.1 s0_0 bt185.2)) = some (r1, r2) := by subst hy182; exact H
 have Ny182 := aM_ hy182
 clear hy182
 replace H := oB_ H
 obtain ⟨⟨t185, t186⟩, A30, H⟩ := H
 dsimp only at H
 have A3 := aM_ A30
 clear A30
 have H' := aM_ H
 clear H
 go_enter Tryz.func84, Tryz.ntmps84
 go_wp2_with (first | ((with_reducible refine gD_ 7 ?_); refine Kd.R_lit k122 _ 122 ?hg (N := 7) ?hd (xs := ([] : List (S122))) (inner := []) (ok := fun _ => True) (okp := fun _ => True) ?hr ?hp (fun _ hk => hk) trivial (Below.refl _ _) (Nat.le_refl _) (by simp) ?_; (case hd => rfl); (case hg => rfl); (case hr => first | (go_simp; done) | (go_simp; rfl)); (case hp => exact (Reps.none _ _)); intro v183 w4 ho5 hb hg_ hnew_; clear hg_ hnew_; (first | rw [← Ny182.out] at ho5 | (simp only [Int.reduceToNat] at ho5; rw [← Ny182.out] at ho5)); have n_ := aN4_ (Kd.R_lower ho5 (kz_ HK)) (IsS98.below (qI HI0) hb) (KeepBut.trans (qK HK) (KeepBut.of_below hb g none) (.inl rfl)) (bT_ (qS HB) hb); clear HI0 HK HB hb ho5; obtain ⟨HO184, HI0, HK, HB⟩ := n_) | ((with_reducible refine gc_ 58 ?_); refine gL_ (some 9) Tryz.func58 #[.pointer (some ⟨g, 0, none⟩), .int .i64 4] ?_; (with_reducible refine (spec_l12Rd_pick.calls k g s0_0 s0_1 4 t185 t186 w0 _ ?side1 ?side2 A3.out).mono ?_); (case side1 => exact qI HI0); (case side2 => exact qS HB); rintro e w6 ⟨rfl, hi, hb, hk⟩; refine ⟨_, rfl, ?_⟩; have n_ := aN4_ (Kd.R_mono (Kd.R_keep (IsS98.apart (show IsS98 w0 _ g s0_0 s0_1 from qI HI0) (qR HO184) (by decide)) hk (fun _ h => h.2)) (fun _ h => h.1)) (KeepBut.trans (qK HK) hk (.inl rfl)) (hb) (hi); clear HO184 HK HB HI0; obtain ⟨HO184, HK, HB, HI0⟩ := n_))
 go_loopg [5, 6] k (fun kq v5 v6 w' => ∃ (x5_1 : List (S122)) (x6_1 : Int) (x1001_1 : Int), v6 = .int .i64 x6_1 ∧ Aside0 (spec_l4List.l0 kq a1 x5_1 x6_1 s0_0 x1001_1 = some (r1, r2)) ∧ Aside0 (kq ≤ k) ∧ Aside0 (Kd.R k122 122 w' w.heap.size (fun _ => True) v5 x5_1) ∧ Aside0 (IsS98 w0 w' g s0_0 x1001_1) ∧ Aside0 (KeepBut w w' g none) ∧ Aside0 (Below w0.heap.size w0 w'))
 case atStart => exact ⟨(y182), (t185), (t186), qF, H', ⟨Nat.le_refl _⟩, ⟨qR HO184⟩, ⟨qI HI0⟩, ⟨qK HK⟩, ⟨qS HB⟩⟩
 case round =>
  clear H'
  obtain ⟨x5_1, x6_1, x1001_1, rfl, HA, HK1, HO_5, HI0, HK, HB⟩ := hrel
  cases gk with
  | zero => exact absurd HA.out (by simp [spec_l4List.l0])
  | succ k1 =>
   have H := HA.out
   clear HA
   simp only [spec_l4List.l0] at H
   have HC7 := aM_ H
   clear H
   go_upto_region 3 with (fail)
   go_cut [15] (fun v15 wc => ∃ (kq : Nat) (x15_6 : Bool), v15 = .bool x15_6 ∧ Aside0 (spec_l4List.j1 kq a1 x5_1 x6_1 x15_6 s0_0 x1001_1 = some (r1, r2)) ∧ Aside0 (kq ≤ k1) ∧ Aside0 (Kd.R k122 122 wc w.heap.size (fun _ => True) u5 x5_1) ∧ Aside0 (IsS98 w0 wc g s0_0 x1001_1) ∧ Aside0 (KeepBut w wc g none) ∧ Aside0 (Below w0.heap.size w0 wc))
   case first =>
    have H := HC7.out
    clear HC7
    by_cases c8 : x6_1 > 0
    rotate_left
    · rw [if_neg c8] at H
      have c8b0 : decide (0 < x6_1) = false := dF_ c8
      clear c8
      (first | rw [c8b0] | (simp only [i64_w, i32_w]; rw [c8b0]) | skip)
      have H' := aM_ H
      clear H
      go_wp2
      go_meet
      case rel => exact ⟨_, (false), qF, H', ⟨by have := HK1.out; first | omega | exact Nat.le_refl _⟩, ⟨qR HO_5⟩, ⟨qI HI0⟩, ⟨qK HK⟩, ⟨qS HB⟩⟩
    rw [if_pos c8] at H
    have c8b0 : decide (0 < x6_1) = true := dT_ c8
    clear c8
    (first | rw [c8b0] | (simp only [i64_w, i32_w]; rw [c8b0]) | skip)
    have H' := aM_ H
    clear H
    go_wp2
    go_meet
    case rel => exact ⟨_, (decide (a1 > 0)), qF, H', ⟨by have := HK1.out; first | omega | exact Nat.le_refl _⟩, ⟨qR HO_5⟩, ⟨qI HI0⟩, ⟨qK HK⟩, ⟨qS HB⟩⟩
   case rest =>
    clear HC7
    obtain ⟨kq, x15_6, rfl, HA, HJ6, HO_5, HI0, HK, HB⟩ := hcut
    cases kq with
    | zero => exact absurd HA.out (by simp [spec_l4List.j1])
    | succ kj6 =>
     have H := HA.out
     clear HA
     simp only [spec_l4List.j1] at H
     by_cases c9 : x15_6 = true
     rotate_left
     · replace c9 := Bool.eq_false_iff.mpr c9
       subst c9
       rw [if_neg (show ¬ (false = true) by decide)] at H
       simp only [Option.some.injEq, Prod.mk.injEq] at H
       obtain ⟨rfl, rfl⟩ := H
       go_wp2
       go_ret
       exact ⟨_, qE, qR HO_5, qI HI0, qS HB, qK HK⟩
     subst c9
     rw [if_pos rfl] at H
     replace H := oB_ H
     obtain ⟨⟨t187, t188⟩, A100, H⟩ := H
     dsimp only at H
     have A10 := aM_ A100
     clear A100
     have HC11 := aM_ H
     clear H
     go_upto_if 28 with (first | ((with_reducible refine gc_ 58 ?_); refine gL_ (some 19) Tryz.func58 #[.pointer (some ⟨g, 0, none⟩), .int .i64 7] ?_; (with_reducible refine (spec_l12Rd_pick.calls kj6 g s0_0 x1001_1 7 t187 t188 w0 _ ?side1 ?side2 A10.out).mono ?_); (case side1 => exact qI HI0); (case side2 => exact qS HB); rintro e w12 ⟨rfl, hi, hb, hk⟩; refine ⟨_, rfl, ?_⟩; have n_ := aN4_ (Kd.R_mono (Kd.R_keep (IsS98.apart (show IsS98 w0 _ g s0_0 x1001_1 from qI HI0) (qR HO_5) (by decide)) hk (fun _ h => h.2)) (fun _ h => h.1)) (KeepBut.trans (qK HK) hk (.inl rfl)) (hb) (hi); clear HO_5 HK HB HI0; obtain ⟨HO_5, HK, HB, HI0⟩ := n_))
     (try simp only [Act.put, sA_, sB_, sC_])
     go_cut [28] (fun v28 wc => ∃ (kq : Nat) (x28_10 : Bool), v28 = .bool x28_10 ∧ Aside0 (spec_l4List.j2 kq a1 x5_1 x6_1 t187 x28_10 s0_0 t188 = some (r1, r2)) ∧ Aside0 (kq ≤ kj6) ∧ Aside0 (Kd.R k122 122 wc w.heap.size (fun _ => True) u5 x5_1) ∧ Aside0 (IsS98 w0 wc g s0_0 t188) ∧ Aside0 (KeepBut w wc g none) ∧ Aside0 (Below w0.heap.size w0 wc))
     case first =>
      have H := HC11.out
      clear HC11
      by_cases c13 : t187 = 0
      rotate_left
      · rw [if_neg c13] at H
        have c13b0 : (t187 == 0) = false := beq_eq_false_iff_ne.mpr c13
        have c13b1 : (t187 != 0) = true := bne_iff_ne.mpr c13
        (first | rw [c13b0] | (simp only [i64_w, i32_w]; rw [c13b0]) | skip)
        have H' := aM_ H
        clear H
        go_wp2
        go_meet
        case rel => exact ⟨_, ((t187 == 1)), qF, H', ⟨by have := HK1.out; have := HJ6.out; first | omega | exact Nat.le_refl _⟩, ⟨qR HO_5⟩, ⟨qI HI0⟩, ⟨qK HK⟩, ⟨qS HB⟩⟩
      rw [if_pos c13] at H
      have c13b0 : (t187 == 0) = true := beq_iff_eq.mpr c13
      have c13b1 : (t187 != 0) = false := bne_eq_false_iff_eq.mpr c13
      clear c13
      (first | rw [c13b0] | (simp only [i64_w, i32_w]; rw [c13b0]) | skip)
      have H' := aM_ H
      clear H
      go_wp2
      go_meet
      case rel => exact ⟨_, ((t187 == 0)), qF, H', ⟨by have := HK1.out; have := HJ6.out; first | omega | exact Nat.le_refl _⟩, ⟨qR HO_5⟩, ⟨qI HI0⟩, ⟨qK HK⟩, ⟨qS HB⟩⟩
     case rest =>
      clear HC11
      obtain ⟨kq, x28_10, rfl, HA, HJ10, HO_5, HI0, HK, HB⟩ := hcut
      cases kq with
      | zero => exact absurd HA.out (by simp [spec_l4List.j2])
      | succ kj10 =>
       have H := HA.out
       clear HA
       simp only [spec_l4List.j2] at H
       by_cases c14 : x28_10 = true
       · subst c14
         rw [if_pos rfl] at H
         replace H := oB_ H
         obtain ⟨⟨t189, t190, t191, t192, t193, t196⟩, A150, H⟩ := H
         dsimp only at H
         have A15 := aM_ A150
         clear A150
         replace H := oB_ H
         obtain ⟨⟨t197, t200⟩, A160, H⟩ := H
         dsimp only at H
         have A16 := aM_ A160
         clear A160
         replace H := oB_ H
         obtain ⟨⟨t201, t204⟩, A170, H⟩ := H
         dsimp only at H
         have A17 := aM_ A170
         clear A170
         by_cases c18 : x5_1.length < 1099511627776
         rotate_left
         · rw [if_neg c18] at H
           exact absurd H (by simp)
         rw [if_pos c18] at H
         have LMc18 := aM_ c18
         clear c18
         obtain ⟨y205, hy205⟩ : ∃ y_ : List (S122), y_ = (x5_1 ++ [(⟨2, (⟨0, 0⟩ : S28), (⟨t189, t190, (⟨t191, t192⟩ : S28), t193⟩ : S120), t197, t201⟩ : S122)]) := ⟨_, rfl⟩
         replace H : (spec_l4List.l0 kj10 a1 y205 (wrap64 (x6_1 - 1)) s0_0 t204) = some (r1, r2) := by subst hy205; exact H
         have Ny205 := aM_ hy205
         clear hy205
         have H' := aM_ H
         clear H
         go_wp2_with (first | ((with_reducible refine gc_ 119 ?_); refine gL_ (some 33) Tryz.func119 #[.pointer (some ⟨g, 0, none⟩), .int .i64 3] ?_; (with_reducible refine (spec_l3Expr.calls kj10 g s0_0 t188 3 t189 t190 t191 t192 t193 t196 w0 _ ?side1 ?side2 A15.out).mono ?_); (case side1 => exact qI HI0); (case side2 => exact qS HB); rintro e w19 ⟨v194, rfl, ho0, hi, hb, hk⟩; refine ⟨_, rfl, ?_⟩; have n_ := aN5_ (Kd.R_mono (Kd.R_told (Kd.R_oldK (IsS98.apart (show IsS98 w0 _ g s0_0 t188 from qI HI0) (qR HO_5) (by decide)) hk) (Kd.R_base ho0)) (fun _ h_ => h_.1)) (Kd.R_lower ho0 (kz_ HK)) (KeepBut.trans (qK HK) hk (.inl rfl)) (hb) (hi); clear HO_5 HK HB HI0; obtain ⟨HO_5, HO195, HK, HB, HI0⟩ := n_) | ((with_reducible refine gc_ 84 ?_); refine gL_ (some 37) Tryz.func84 #[.pointer (some ⟨g, 0, none⟩), .int .i64 (wrap64 (a1 - 1))] ?_; (with_reducible refine (ih kj10 (by have := HK1.out; have := HJ6.out; have := HJ10.out; omega) g s0_0 t196 (wrap64 (a1 - 1)) t197 t200 w0 _ ?side1 ?side2 A16.out).mono ?_); (case side1 => exact qI HI0); (case side2 => exact qS HB); rintro e w20 ⟨v198, rfl, ho0, hi, hb, hk⟩; refine ⟨_, rfl, ?_⟩; have n_ := aN6_ (Kd.R_mono (Kd.R_told (Kd.R_oldK (IsS98.apart (show IsS98 w0 _ g s0_0 t196 from qI HI0) (qR HO_5) (by decide)) hk) (Kd.R_base ho0)) (fun _ h_ => h_.1)) (Kd.R_mono (Kd.R_keep (IsS98.apart (show IsS98 w0 _ g s0_0 t196 from qI HI0) (qR HO195) (by decide)) hk (fun _ h => h.2)) (fun _ h => h.1)) (Kd.R_lower (Kd.R_new' (Kd.R_new' ho0 (Kd.R_lt (qR HO_5))) (Kd.R_lt (qR HO195))) (kz_ HK)) (KeepBut.trans (qK HK) hk (.inl rfl)) (hb) (hi); clear HO_5 HO195 HK HB HI0; obtain ⟨HO_5, HO195, HO199, HK, HB, HI0⟩ := n_) | ((with_reducible refine gc_ 84 ?_); refine gL_ (some 41) Tryz.func84 #[.pointer (some ⟨g, 0, none⟩), .int .i64 (wrap64 (a1 - 2))] ?_; (with_reducible refine (ih kj10 (by have := HK1.out; have := HJ6.out; have := HJ10.out; omega) g s0_0 t200 (wrap64 (a1 - 2)) t201 t204 w0 _ ?side1 ?side2 A17.out).mono ?_); (case side1 => exact qI HI0); (case side2 => exact qS HB); rintro e w21 ⟨v202, rfl, ho0, hi, hb, hk⟩; refine ⟨_, rfl, ?_⟩; have n_ := aN7_ (Kd.R_mono (Kd.R_told (Kd.R_oldK (IsS98.apart (show IsS98 w0 _ g s0_0 t200 from qI HI0) (qR HO_5) (by decide)) hk) (Kd.R_base ho0)) (fun _ h_ => h_.1)) (Kd.R_mono (Kd.R_keep (IsS98.apart (show IsS98 w0 _ g s0_0 t200 from qI HI0) (qR HO195) (by decide)) hk (fun _ h => h.2)) (fun _ h => h.1)) (Kd.R_mono (Kd.R_told (Kd.R_oldK (IsS98.apart (show IsS98 w0 _ g s0_0 t200 from qI HI0) (qR HO199) (by decide)) hk) (Kd.R_base ho0)) (fun _ h_ => h_.1)) (Kd.R_lower (Kd.R_new' (Kd.R_new' (Kd.R_new' ho0 (Kd.R_lt (qR HO_5))) (Kd.R_lt (qR HO195))) (Kd.R_lt (qR HO199))) (kz_ HK)) (KeepBut.trans (qK HK) hk (.inl rfl)) (hb) (hi); clear HO_5 HO195 HO199 HK HB HI0; obtain ⟨HO_5, HO195, HO199, HO203, HK, HB, HI0⟩ := n_; obtain ⟨Ao22, co22, eo22⟩ := Kd.R_slice HO203.out; subst eo22; obtain ⟨Ao23, co23, eo23⟩ := Kd.R_slice HO199.out; subst eo23; obtain ⟨Ao24, co24, eo24⟩ := Kd.R_slice HO195.out; subst eo24) | ((with_reducible refine gate_builtin (b := .append) (xs := #[.tmp 31, .tmp 43]) rfl ?_); at_builtin; refine Kd.R_append k122 w.heap.size rfl (.tmp 31) (.tmp 43) 93 122 (.agg #[(.int .i64 0), (.int .i64 0), (.int .i64 0), (.int .i64 0), (.int .i64 0), (.int .i64 0), (.int .i64 0), (.slice none 0 0), (.slice none 0 0), (.slice none 0 0)]) 128 rfl Tryz.underlying93 info122 rfl (by decide) (by omega) u5 x5_1 (⟨2, (⟨0, 0⟩ : S28), (⟨t189, t190, (⟨t191, t192⟩ : S28), t193⟩ : S120), t197, t201⟩ : S122) [.int .i64 2, .int .i64 0, .int .i64 0, .int .i64 t189, .int .i64 t190, .int .i64 t191, .int .i64 t192, .slice Ao24 t193.length co24, .slice Ao23 t197.length co23, .slice Ao22 t201.length co22] (fun _ => True) (fun k_ => ((fun _ => True)) k_ ∧ some k_ ≠ (u5 : Value).ownBlock) rfl rfl ?aP (fun _ hk => hk) ?aF ?aO (Below.refl _ _) ?aS ?aL ?_; (case aP => exact k122_mkM _ _ _ (⟨2, (⟨0, 0⟩ : S28), (⟨t189, t190, (⟨t191, t192⟩ : S28), t193⟩ : S120), t197, t201⟩ : S122) (Kd.R_mono (Kd.R_apart' (HO195.out) (Kd.R_typed HO_5.out) (by decide)) (fun k_ hk => ⟨trivial, hk.2⟩)) (Kd.R_mono (HO199.out) (fun k_ hk => ⟨trivial, hk.1.1.2⟩)) (Kd.R_mono (HO203.out) (fun k_ hk => ⟨trivial, hk.1.1.2⟩))); (case aF => exact (fun _ _ => trivial)); (case aO => exact (qr (Kd.R_mono HO_5.out (fun _ hk => trivial)))); (case aS => exact (kz_ HK)); (case aL => have := LMc18.out; omega); intro v206 w25 ho hb hg hat; rw [← Ny205.out] at ho; have n_ := aN4_ (IsS98.grown (qI HI0) hg (IsS98.own_ne HI0.out HO_5.out (by decide))) (below_weaken (qS HB) HL.out hb) (KeepBut.trans (qK HK) (KeepBut.of_grown hg g) (Kd.R_base2 HO_5.out)) (ho); clear HI0 HB HK HO_5 HO195 HO199 HO203 ho hb hg hat; obtain ⟨HI0, HB, HK, HO207⟩ := n_))
         go_roundg kj10
         case measure => have := HK1.out; have := HJ6.out; have := HJ10.out; omega
         case rel => exact ⟨(y205), (wrap64 (x6_1 - 1)), (t204), qF, H', ⟨by have := HK1.out; have := HJ6.out; have := HJ10.out; omega⟩, ⟨qR HO207⟩, ⟨qI HI0⟩, ⟨qK HK⟩, ⟨qS HB⟩⟩
       replace c14 := Bool.eq_false_iff.mpr c14
       subst c14
       rw [if_neg (show ¬ (false = true) by decide)] at H
       by_cases c26 : t187 = 2
       · rw [if_pos c26] at H
         have c26b0 : (t187 == 2) = true := beq_iff_eq.mpr c26
         have c26b1 : (t187 != 2) = false := bne_eq_false_iff_eq.mpr c26
         clear c26
         by_cases c27 : a1 > 1
         rotate_left
         · rw [if_neg c27] at H
           have c27b0 : decide (1 < a1) = false := dF_ c27
           clear c27
           have H' := aM_ H
           clear H
           go_wp2
           go_roundg kj10
           case measure => have := HK1.out; have := HJ6.out; have := HJ10.out; omega
           case rel => exact ⟨(x5_1), (wrap64 (x6_1 - 1)), (t188), qF, H', ⟨by have := HK1.out; have := HJ6.out; have := HJ10.out; omega⟩, ⟨qR HO_5⟩, ⟨qI HI0⟩, ⟨qK HK⟩, ⟨qS HB⟩⟩
         rw [if_pos c27] at H
         have c27b0 : decide (1 < a1) = true := dT_ c27
         clear c27
         replace H := oB_ H
         obtain ⟨⟨t208, t209, t210, t211, t212, t213, t214, t215, t218, t221, t224⟩, A280, H⟩ := H
         dsimp only at H
         have A28 := aM_ A280
         clear A280
         by_cases c29 : x5_1.length < 1099511627776
         rotate_left
         · rw [if_neg c29] at H
           exact absurd H (by simp)
         rw [if_pos c29] at H
         have LMc29 := aM_ c29
         clear c29
         obtain ⟨y225, hy225⟩ : ∃ y_ : List (S122), y_ = (x5_1 ++ [(⟨t208, (⟨t209, t210⟩ : S28), (⟨t211, t212, (⟨t213, t214⟩ : S28), t215⟩ : S120), t218, t221⟩ : S122)]) := ⟨_, rfl⟩
         replace H : (spec_l4List.l0 kj10 a1 y225 (wrap64 (x6_1 - 1)) s0_0 t224) = some (r1, r2) := by subst hy225; exact H
         have Ny225 := aM_ hy225
         clear hy225
         have H' := aM_ H
         clear H
         go_wp2_with (first | ((with_reducible refine gc_ 86 ?_); refine gL_ (some 51) Tryz.func86 #[.pointer (some ⟨g, 0, none⟩)] ?_; (with_reducible refine (spec_l4Count.calls g s0_0 t188 t208 t209 t210 t211 t212 t213 t214 t215 t218 t221 t224 w0 _ ?side1 ?side2 A28.out).mono ?_); (case side1 => exact qI HI0); (case side2 => exact qS HB); rintro e w30 ⟨v216, v219, v222, rfl, ho0, ho1, ho2, hi, hb, hk⟩; refine ⟨_, rfl, ?_⟩; have n_ := aN7_ (Kd.R_mono (Kd.R_told (Kd.R_told (Kd.R_told (Kd.R_oldK (IsS98.apart (show IsS98 w0 _ g s0_0 t188 from qI HI0) (qR HO_5) (by decide)) hk) (Kd.R_base ho0)) (Kd.R_base ho1)) (Kd.R_base ho2)) (fun _ h_ => h_.1)) (Kd.R_lower ho0 (kz_ HK)) (Kd.R_lower (Kd.R_new' ho1 (Kd.R_lt (qR HO_5))) (kz_ HK)) (Kd.R_lower (Kd.R_new' ho2 (Kd.R_lt (qR HO_5))) (kz_ HK)) (KeepBut.trans (qK HK) hk (.inl rfl)) (hb) (hi); clear HO_5 HK HB HI0; obtain ⟨HO_5, HO217, HO220, HO223, HK, HB, HI0⟩ := n_; obtain ⟨Ao32, co32, eo32⟩ := Kd.R_slice HO217.out; subst eo32; obtain ⟨Ao33, co33, eo33⟩ := Kd.R_slice HO220.out; subst eo33; obtain ⟨Ao34, co34, eo34⟩ := Kd.R_slice HO223.out; subst eo34) | ((with_reducible refine gate_builtin (b := .append) (xs := #[.tmp 49, .tmp 52]) rfl ?_); at_builtin; refine Kd.R_append k122 w.heap.size rfl (.tmp 49) (.tmp 52) 93 122 (.agg #[(.int .i64 0), (.int .i64 0), (.int .i64 0), (.int .i64 0), (.int .i64 0), (.int .i64 0), (.int .i64 0), (.slice none 0 0), (.slice none 0 0), (.slice none 0 0)]) 128 rfl Tryz.underlying93 info122 rfl (by decide) (by omega) u5 x5_1 (⟨t208, (⟨t209, t210⟩ : S28), (⟨t211, t212, (⟨t213, t214⟩ : S28), t215⟩ : S120), t218, t221⟩ : S122) [.int .i64 t208, .int .i64 t209, .int .i64 t210, .int .i64 t211, .int .i64 t212, .int .i64 t213, .int .i64 t214, .slice Ao32 t215.length co32, .slice Ao33 t218.length co33, .slice Ao34 t221.length co34] (fun _ => True) (fun k_ => ((fun _ => True)) k_ ∧ some k_ ≠ (u5 : Value).ownBlock) rfl rfl ?aP (fun _ hk => hk) ?aF ?aO (Below.refl _ _) ?aS ?aL ?_; (case aP => exact k122_mkM _ _ _ (⟨t208, (⟨t209, t210⟩ : S28), (⟨t211, t212, (⟨t213, t214⟩ : S28), t215⟩ : S120), t218, t221⟩ : S122) (Kd.R_mono (Kd.R_apart' (HO217.out) (Kd.R_typed HO_5.out) (by decide)) (fun k_ hk => ⟨trivial, hk.2⟩)) (Kd.R_mono (HO220.out) (fun k_ hk => ⟨trivial, hk.2⟩)) (Kd.R_mono (HO223.out) (fun k_ hk => ⟨trivial, hk.2⟩))); (case aF => exact (fun _ _ => trivial)); (case aO => exact (qr (Kd.R_mono HO_5.out (fun _ hk => trivial)))); (case aS => exact (kz_ HK)); (case aL => have := LMc29.out; omega); intro v226 w31 ho hb hg hat; rw [← Ny225.out] at ho; have n_ := aN4_ (IsS98.grown (qI HI0) hg (IsS98.own_ne HI0.out HO_5.out (by decide))) (below_weaken (qS HB) HL.out hb) (KeepBut.trans (qK HK) (KeepBut.of_grown hg g) (Kd.R_base2 HO_5.out)) (ho); clear HI0 HB HK HO_5 HO217 HO220 HO223 ho hb hg hat; obtain ⟨HI0, HB, HK, HO227⟩ := n_))
         go_roundg kj10
         case measure => have := HK1.out; have := HJ6.out; have := HJ10.out; omega
         case rel => exact ⟨(y225), (wrap64 (x6_1 - 1)), (t224), qF, H', ⟨by have := HK1.out; have := HJ6.out; have := HJ10.out; omega⟩, ⟨qR HO227⟩, ⟨qI HI0⟩, ⟨qK HK⟩, ⟨qS HB⟩⟩
       rw [if_neg c26] at H
       have c26b0 : (t187 == 2) = false := beq_eq_false_iff_ne.mpr c26
       have c26b1 : (t187 != 2) = true := bne_iff_ne.mpr c26
       by_cases c35 : t187 = 3
       rotate_left
       · rw [if_neg c35] at H
         have c35b0 : (t187 == 3) = false := beq_eq_false_iff_ne.mpr c35
         have c35b1 : (t187 != 3) = true := bne_iff_ne.mpr c35
         replace H := oB_ H
         obtain ⟨⟨t245, t246, t247⟩, A480, H⟩ := H
         dsimp only at H
         have A48 := aM_ A480
         clear A480
         replace H := oB_ H
         obtain ⟨⟨t248, t249, t250, t251, t252, t255⟩, A490, H⟩ := H
         dsimp only at H
         have A49 := aM_ A490
         clear A490
         by_cases c50 : x5_1.length < 1099511627776
         rotate_left
         · rw [if_neg c50] at H
           exact absurd H (by simp)
         rw [if_pos c50] at H
         have LMc50 := aM_ c50
         clear c50
         obtain ⟨y256, hy256⟩ : ∃ y_ : List (S122), y_ = (x5_1 ++ [(⟨1, (⟨t245, t246⟩ : S28), (⟨t248, t249, (⟨t250, t251⟩ : S28), t252⟩ : S120), ([] : List (S122)), ([] : List (S122))⟩ : S122)]) := ⟨_, rfl⟩
         replace H : (spec_l4List.l0 kj10 a1 y256 (wrap64 (x6_1 - 1)) s0_0 t255) = some (r1, r2) := by subst hy256; exact H
         have Ny256 := aM_ hy256
         clear hy256
         have H' := aM_ H
         clear H
         go_wp2_with (first | ((with_reducible refine gc_ 120 ?_); refine gL_ (some 22) Tryz.func120 #[.pointer (some ⟨g, 0, none⟩)] ?_; (with_reducible refine (spec_l2To.calls kj10 g s0_0 t188 t245 t246 t247 w0 _ ?side1 ?side2 A48.out).mono ?_); (case side1 => exact qI HI0); (case side2 => exact qS HB); rintro e w51 ⟨rfl, hi, hb, hk⟩; refine ⟨_, rfl, ?_⟩; have n_ := aN4_ (Kd.R_mono (Kd.R_keep (IsS98.apart (show IsS98 w0 _ g s0_0 t188 from qI HI0) (qR HO_5) (by decide)) hk (fun _ h => h.2)) (fun _ h => h.1)) (KeepBut.trans (qK HK) hk (.inl rfl)) (hb) (hi); clear HO_5 HK HB HI0; obtain ⟨HO_5, HK, HB, HI0⟩ := n_) | ((with_reducible refine gc_ 119 ?_); refine gL_ (some 24) Tryz.func119 #[.pointer (some ⟨g, 0, none⟩), .int .i64 3] ?_; (with_reducible refine (spec_l3Expr.calls kj10 g s0_0 t247 3 t248 t249 t250 t251 t252 t255 w0 _ ?side1 ?side2 A49.out).mono ?_); (case side1 => exact qI HI0); (case side2 => exact qS HB); rintro e w52 ⟨v253, rfl, ho0, hi, hb, hk⟩; refine ⟨_, rfl, ?_⟩; have n_ := aN5_ (Kd.R_mono (Kd.R_told (Kd.R_oldK (IsS98.apart (show IsS98 w0 _ g s0_0 t247 from qI HI0) (qR HO_5) (by decide)) hk) (Kd.R_base ho0)) (fun _ h_ => h_.1)) (Kd.R_lower ho0 (kz_ HK)) (KeepBut.trans (qK HK) hk (.inl rfl)) (hb) (hi); clear HO_5 HK HB HI0; obtain ⟨HO_5, HO254, HK, HB, HI0⟩ := n_; obtain ⟨Ao53, co53, eo53⟩ := Kd.R_slice HO254.out; subst eo53) | ((with_reducible refine gate_builtin (b := .append) (xs := #[.tmp 20, .tmp 26]) rfl ?_); at_builtin; refine Kd.R_append k122 w.heap.size rfl (.tmp 20) (.tmp 26) 93 122 (.agg #[(.int .i64 0), (.int .i64 0), (.int .i64 0), (.int .i64 0), (.int .i64 0), (.int .i64 0), (.int .i64 0), (.slice none 0 0), (.slice none 0 0), (.slice none 0 0)]) 128 rfl Tryz.underlying93 info122 rfl (by decide) (by omega) u5 x5_1 (⟨1, (⟨t245, t246⟩ : S28), (⟨t248, t249, (⟨t250, t251⟩ : S28), t252⟩ : S120), ([] : List (S122)), ([] : List (S122))⟩ : S122) [.int .i64 1, .int .i64 t245, .int .i64 t246, .int .i64 t248, .int .i64 t249, .int .i64 t250, .int .i64 t251, .slice Ao53 t252.length co53, .slice none 0 0, .slice none 0 0] (fun _ => True) (fun k_ => ((fun _ => True)) k_ ∧ some k_ ≠ (u5 : Value).ownBlock) rfl rfl ?aP (fun _ hk => hk) ?aF ?aO (Below.refl _ _) ?aS ?aL ?_; (case aP => exact k122_mkM _ _ _ (⟨1, (⟨t245, t246⟩ : S28), (⟨t248, t249, (⟨t250, t251⟩ : S28), t252⟩ : S120), ([] : List (S122)), ([] : List (S122))⟩ : S122) (Kd.R_mono (Kd.R_apart' (HO254.out) (Kd.R_typed HO_5.out) (by decide)) (fun k_ hk => ⟨trivial, hk.2⟩)) (Kd.R_nil _ _ _ _ _) (Kd.R_nil _ _ _ _ _)); (case aF => exact (fun _ _ => trivial)); (case aO => exact (qr (Kd.R_mono HO_5.out (fun _ hk => trivial)))); (case aS => exact (kz_ HK)); (case aL => have := LMc50.out; omega); intro v257 w54 ho hb hg hat; rw [← Ny256.out] at ho; have n_ := aN4_ (IsS98.grown (qI HI0) hg (IsS98.own_ne HI0.out HO_5.out (by decide))) (below_weaken (qS HB) HL.out hb) (KeepBut.trans (qK HK) (KeepBut.of_grown hg g) (Kd.R_base2 HO_5.out)) (ho); clear HI0 HB HK HO_5 HO254 ho hb hg hat; obtain ⟨HI0, HB, HK, HO258⟩ := n_))
         go_roundg kj10
         case measure => have := HK1.out; have := HJ6.out; have := HJ10.out; omega
         case rel => exact ⟨(y256), (wrap64 (x6_1 - 1)), (t255), qF, H', ⟨by have := HK1.out; have := HJ6.out; have := HJ10.out; omega⟩, ⟨qR HO258⟩, ⟨qI HI0⟩, ⟨qK HK⟩, ⟨qS HB⟩⟩
       rw [if_pos c35] at H
       have c35b0 : (t187 == 3) = true := beq_iff_eq.mpr c35
       have c35b1 : (t187 != 3) = false := bne_eq_false_iff_eq.mpr c35
       clear c35
       replace H := oB_ H
       obtain ⟨⟨t228, t229⟩, A360, H⟩ := H
       dsimp only at H
       have A36 := aM_ A360
       clear A360
       by_cases c37 : t228 = 0
       rotate_left
       · rw [if_neg c37] at H
         have c37b0 : (t228 == 0) = false := beq_eq_false_iff_ne.mpr c37
         have c37b1 : (t228 != 0) = true := bne_iff_ne.mpr c37
         have H' := aM_ H
         clear H
         go_wp2_with (first | ((with_reducible refine gc_ 58 ?_); refine gL_ (some 57) Tryz.func58 #[.pointer (some ⟨g, 0, none⟩), .int .i64 3] ?_; (with_reducible refine (spec_l12Rd_pick.calls kj10 g s0_0 t188 3 t228 t229 w0 _ ?side1 ?side2 A36.out).mono ?_); (case side1 => exact qI HI0); (case side2 => exact qS HB); rintro e w47 ⟨rfl, hi, hb, hk⟩; refine ⟨_, rfl, ?_⟩; have n_ := aN4_ (Kd.R_mono (Kd.R_keep (IsS98.apart (show IsS98 w0 _ g s0_0 t188 from qI HI0) (qR HO_5) (by decide)) hk (fun _ h => h.2)) (fun _ h => h.1)) (KeepBut.trans (qK HK) hk (.inl rfl)) (hb) (hi); clear HO_5 HK HB HI0; obtain ⟨HO_5, HK, HB, HI0⟩ := n_))
         go_roundg kj10
         case measure => have := HK1.out; have := HJ6.out; have := HJ10.out; omega
         case rel => exact ⟨(x5_1), (wrap64 (x6_1 - 1)), (t229), qF, H', ⟨by have := HK1.out; have := HJ6.out; have := HJ10.out; omega⟩, ⟨qR HO_5⟩, ⟨qI HI0⟩, ⟨qK HK⟩, ⟨qS HB⟩⟩
       rw [if_pos c37] at H
       have c37b0 : (t228 == 0) = true := beq_iff_eq.mpr c37
       have c37b1 : (t228 != 0) = false := bne_eq_false_iff_eq.mpr c37
       clear c37
       replace H := oB_ H
       obtain ⟨⟨t230, t231, t232, t233, t234, t237⟩, A380, H⟩ := H
       dsimp only at H
       have A38 := aM_ A380
       clear A380
       replace H := oB_ H
       obtain ⟨⟨t238, t241⟩, A390, H⟩ := H
       dsimp only at H
       have A39 := aM_ A390
       clear A390
       by_cases c40 : x5_1.length < 1099511627776
       rotate_left
       · rw [if_neg c40] at H
         exact absurd H (by simp)
       rw [if_pos c40] at H
       have LMc40 := aM_ c40
       clear c40
       obtain ⟨y242, hy242⟩ : ∃ y_ : List (S122), y_ = (x5_1 ++ [(⟨3, (⟨0, 0⟩ : S28), (⟨t230, t231, (⟨t232, t233⟩ : S28), t234⟩ : S120), t238, ([] : List (S122))⟩ : S122)]) := ⟨_, rfl⟩
       replace H : (spec_l4List.l0 kj10 a1 y242 (wrap64 (x6_1 - 1)) s0_0 t241) = some (r1, r2) := by subst hy242; exact H
       have Ny242 := aM_ hy242
       clear hy242
       have H' := aM_ H
       clear H
       go_wp2_with (first | ((with_reducible refine gc_ 58 ?_); refine gL_ (some 57) Tryz.func58 #[.pointer (some ⟨g, 0, none⟩), .int .i64 3] ?_; (with_reducible refine (spec_l12Rd_pick.calls kj10 g s0_0 t188 3 t228 t229 w0 _ ?side1 ?side2 A36.out).mono ?_); (case side1 => exact qI HI0); (case side2 => exact qS HB); rintro e w41 ⟨rfl, hi, hb, hk⟩; refine ⟨_, rfl, ?_⟩; have n_ := aN4_ (Kd.R_mono (Kd.R_keep (IsS98.apart (show IsS98 w0 _ g s0_0 t188 from qI HI0) (qR HO_5) (by decide)) hk (fun _ h => h.2)) (fun _ h => h.1)) (KeepBut.trans (qK HK) hk (.inl rfl)) (hb) (hi); clear HO_5 HK HB HI0; obtain ⟨HO_5, HK, HB, HI0⟩ := n_) | ((with_reducible refine gc_ 119 ?_); refine gL_ (some 61) Tryz.func119 #[.pointer (some ⟨g, 0, none⟩), .int .i64 2] ?_; (with_reducible refine (spec_l3Expr.calls kj10 g s0_0 t229 2 t230 t231 t232 t233 t234 t237 w0 _ ?side1 ?side2 A38.out).mono ?_); (case side1 => exact qI HI0); (case side2 => exact qS HB); rintro e w42 ⟨v235, rfl, ho0, hi, hb, hk⟩; refine ⟨_, rfl, ?_⟩; have n_ := aN5_ (Kd.R_mono (Kd.R_told (Kd.R_oldK (IsS98.apart (show IsS98 w0 _ g s0_0 t229 from qI HI0) (qR HO_5) (by decide)) hk) (Kd.R_base ho0)) (fun _ h_ => h_.1)) (Kd.R_lower ho0 (kz_ HK)) (KeepBut.trans (qK HK) hk (.inl rfl)) (hb) (hi); clear HO_5 HK HB HI0; obtain ⟨HO_5, HO236, HK, HB, HI0⟩ := n_) | ((with_reducible refine gc_ 84 ?_); refine gL_ (some 65) Tryz.func84 #[.pointer (some ⟨g, 0, none⟩), .int .i64 (wrap64 (a1 - 1))] ?_; (with_reducible refine (ih kj10 (by have := HK1.out; have := HJ6.out; have := HJ10.out; omega) g s0_0 t237 (wrap64 (a1 - 1)) t238 t241 w0 _ ?side1 ?side2 A39.out).mono ?_); (case side1 => exact qI HI0); (case side2 => exact qS HB); rintro e w43 ⟨v239, rfl, ho0, hi, hb, hk⟩; refine ⟨_, rfl, ?_⟩; have n_ := aN6_ (Kd.R_mono (Kd.R_told (Kd.R_oldK (IsS98.apart (show IsS98 w0 _ g s0_0 t237 from qI HI0) (qR HO_5) (by decide)) hk) (Kd.R_base ho0)) (fun _ h_ => h_.1)) (Kd.R_mono (Kd.R_keep (IsS98.apart (show IsS98 w0 _ g s0_0 t237 from qI HI0) (qR HO236) (by decide)) hk (fun _ h => h.2)) (fun _ h => h.1)) (Kd.R_lower (Kd.R_new' (Kd.R_new' ho0 (Kd.R_lt (qR HO_5))) (Kd.R_lt (qR HO236))) (kz_ HK)) (KeepBut.trans (qK HK) hk (.inl rfl)) (hb) (hi); clear HO_5 HO236 HK HB HI0; obtain ⟨HO_5, HO236, HO240, HK, HB, HI0⟩ := n_; obtain ⟨Ao44, co44, eo44⟩ := Kd.R_slice HO240.out; subst eo44; obtain ⟨Ao45, co45, eo45⟩ := Kd.R_slice HO236.out; subst eo45) | ((with_reducible refine gate_builtin (b := .append) (xs := #[.tmp 59, .tmp 67]) rfl ?_); at_builtin; refine Kd.R_append k122 w.heap.size rfl (.tmp 59) (.tmp 67) 93 122 (.agg #[(.int .i64 0), (.int .i64 0), (.int .i64 0), (.int .i64 0), (.int .i64 0), (.int .i64 0), (.int .i64 0), (.slice none 0 0), (.slice none 0 0), (.slice none 0 0)]) 128 rfl Tryz.underlying93 info122 rfl (by decide) (by omega) u5 x5_1 (⟨3, (⟨0, 0⟩ : S28), (⟨t230, t231, (⟨t232, t233⟩ : S28), t234⟩ : S120), t238, ([] : List (S122))⟩ : S122) [.int .i64 3, .int .i64 0, .int .i64 0, .int .i64 t230, .int .i64 t231, .int .i64 t232, .int .i64 t233, .slice Ao45 t234.length co45, .slice Ao44 t238.length co44, .slice none 0 0] (fun _ => True) (fun k_ => ((fun _ => True)) k_ ∧ some k_ ≠ (u5 : Value).ownBlock) rfl rfl ?aP (fun _ hk => hk) ?aF ?aO (Below.refl _ _) ?aS ?aL ?_; (case aP => exact k122_mkM _ _ _ (⟨3, (⟨0, 0⟩ : S28), (⟨t230, t231, (⟨t232, t233⟩ : S28), t234⟩ : S120), t238, ([] : List (S122))⟩ : S122) (Kd.R_mono (Kd.R_apart' (HO236.out) (Kd.R_typed HO_5.out) (by decide)) (fun k_ hk => ⟨trivial, hk.2⟩)) (Kd.R_mono (HO240.out) (fun k_ hk => ⟨trivial, hk.1.2⟩)) (Kd.R_nil _ _ _ _ _)); (case aF => exact (fun _ _ => trivial)); (case aO => exact (qr (Kd.R_mono HO_5.out (fun _ hk => trivial)))); (case aS => exact (kz_ HK)); (case aL => have := LMc40.out; omega); intro v243 w46 ho hb hg hat; rw [← Ny242.out] at ho; have n_ := aN4_ (IsS98.grown (qI HI0) hg (IsS98.own_ne HI0.out HO_5.out (by decide))) (below_weaken (qS HB) HL.out hb) (KeepBut.trans (qK HK) (KeepBut.of_grown hg g) (Kd.R_base2 HO_5.out)) (ho); clear HI0 HB HK HO_5 HO236 HO240 ho hb hg hat; obtain ⟨HI0, HB, HK, HO244⟩ := n_))
       go_roundg kj10
       case measure => have := HK1.out; have := HJ6.out; have := HJ10.out; omega
       case rel => exact ⟨(y242), (wrap64 (x6_1 - 1)), (t241), qF, H', ⟨by have := HK1.out; have := HJ6.out; have := HJ10.out; omega⟩, ⟨qR HO244⟩, ⟨qI HI0⟩, ⟨qK HK⟩, ⟨qS HB⟩⟩
end Go.Proofs.YtjamfddhcigchaaGreatDoor.HFnCodeRun
namespace Go.Proofs.YtjamfddhcigchaaGreatDoor.HFnCodeRun
open Go.RowKit Go.Proofs.YtjamfddhcigchaaGreatDoorW.PrintWords Go.Proofs.YtjamfddhcigchaaGreatDoorW.PrintLast Go.Proofs.YtjamfddhcigchaaGreatDoorW.PrintMore
attribute [local go_sem] max2_int min2_int max_two min_two max_three min_three max_four min_four
set_option linter.unusedVariables false
set_option linter.unusedSimpArgs false
attribute [local go_sem high] eqA28
mutual
def spec_l3Form.j0 : Nat → Int → Bool → Int → Int → Int → Int → List (S120) → Option (Bool)
  | 0, _, _, _, _, _, _, _ => none
  | k + 1, x1, x16, x267000, x267001, x267002, x267003, x267004 => if x16 = true then (some false) else (if x267000 = 1 then ((spec_NumCut.f x267001).bind fun t268 => (if t268 = x267001 then (spec_l3Form.j1 k x1 false x267000 x267001 x267002 x267003 x267004) else (spec_l3Form.j1 k x1 true x267000 x267001 x267002 x267003 x267004))) else (spec_l3Form.j1 k x1 (x267001 != 0) x267000 x267001 x267002 x267003 x267004))
def spec_l3Form.j1 : Nat → Int → Bool → Int → Int → Int → Int → List (S120) → Option (Bool)
  | 0, _, _, _, _, _, _, _ => none
  | k + 1, x1, x37, x267000, x267001, x267002, x267003, x267004 => if x37 = true then (some false) else (if x267000 = 2 then ((spec_AddrOk.f x267002 x267003).bind fun t269 => (if t269 = true then (spec_l3Form.j2 k x1 false x267000 x267001 x267002 x267003 x267004) else (spec_l3Form.j2 k x1 true x267000 x267001 x267002 x267003 x267004))) else (spec_l3Form.j2 k x1 (!(x267002 == 0) || (!(x267003 == 0))) x267000 x267001 x267002 x267003 x267004))
def spec_l3Form.j2 : Nat → Int → Bool → Int → Int → Int → Int → List (S120) → Option (Bool)
  | 0, _, _, _, _, _, _, _ => none
  | k + 1, x1, x57, x267000, x267001, x267002, x267003, x267004 => if x57 = true then (some false) else (spec_l3Form.l0 k x1 0 x267000 x267001 x267002 x267003 x267004)
def spec_l3Form.l0 : Nat → Int → Int → Int → Int → Int → Int → List (S120) → Option (Bool)
  | 0, _, _, _, _, _, _, _ => none
  | k + 1, x1, x5, x267000, x267001, x267002, x267003, x267004 => if x5 < (x267004.length : Int) then (if 0 ≤ x5 then ((spec_l3Form.f k ((rd_T120 x267004 x5).f0) ((rd_T120 x267004 x5).f1) ((rd_T120 x267004 x5).f2.f0) ((rd_T120 x267004 x5).f2.f1) ((rd_T120 x267004 x5).f3) (wrap64 (x1 - 1))).bind fun t271 => (if t271 = true then (spec_l3Form.l0 k x1 (wrap64 (x5 + 1)) x267000 x267001 x267002 x267003 x267004) else (some false))) else (none)) else (some true)
def spec_l3Form.f : Nat → Int → Int → Int → Int → List (S120) → Int → Option (Bool)
  | 0, _, _, _, _, _, _ => none
  | k + 1, a0_0, a0_1, a0_2, a0_3, l0_4, a1 => if a1 < 1 then (spec_l3Form.j0 k a1 true a0_0 a0_1 a0_2 a0_3 l0_4) else ((spec_l3Kids.f k a0_0).bind fun t267 => (spec_l3Form.j0 k a1 (t267 != (l0_4.length : Int)) a0_0 a0_1 a0_2 a0_3 l0_4))
end
set_option maxHeartbeats 8000000 in
set_option maxRecDepth 100000 in
theorem spec_l3Form.calls (k : Nat) : ∀ (a0_0 : Int) (a0_1 : Int) (a0_2 : Int) (a0_3 : Int) (A0_4 : Option Addr) (c0_4 : Nat) (l0_4 : List (S120)) (a1 : Int) (r : Bool) (w : World) (hr0_4 : Kd.C k120 w A0_4 l0_4.length l0_4) (hc0_4 : l0_4.length ≤ c0_4) (h : spec_l3Form.f k a0_0 a0_1 a0_2 a0_3 l0_4 a1 = some r),
    Calls Tryz.prog 136 #[.agg #[.int .i64 a0_0, .int .i64 a0_1, .int .i64 a0_2, .int .i64 a0_3, .slice A0_4 l0_4.length c0_4], .int .i64 a1] w fun e w' => e = .returned (.bool r) ∧ Below w.heap.size w w' := by
 induction k using Nat.strongRecOn with
 | _ k ih =>
 intro a0_0 a0_1 a0_2 a0_3 A0_4 c0_4 l0_4 a1 r w hr0_4 hc0_4 h
 cases k with
 | zero => exact absurd h (by simp [spec_l3Form.f])
 | succ k =>
 simp only [spec_l3Form.f] at h
 have hu120 := Tryz.underlying120
 have hu28 := Tryz.underlying28
 have HR0_4 := aM_ hr0_4
 have HC0_4 := aM_ hc0_4
 clear hr0_4 hc0_4
 have HB := aM_ (Below.refl w.heap.size w)
 have H : (if a1 < 1 then (spec_l3Form.j0 k a1 true a0_0 a0_1 a0_2 a0_3 l0_4) else ((spec_l3Kids.f k a0_0).bind fun t267 => (spec_l3Form.j0 k a1 (t267 != (l0_4.length : Int)) a0_0 a0_1 a0_2 a0_3 l0_4))) = some r := h
 clear h
 have HC3 := aM_ H
 clear H
 go_enter Tryz.func136, Tryz.ntmps136
 go_upto_region 1 with (first | ((with_reducible refine gD_ 2 ?_); (try (refine gate_guard (by rfl) ?_; dsimp only)); refine bxB 2 120 #[.int .i64 a0_0, .int .i64 a0_1, .int .i64 a0_2, .int .i64 a0_3, .slice A0_4 l0_4.length c0_4] (qB HB) ?_; clear HB; intro gb266 w4 HB BK266 GW266; have GE266 := GW266))
 repeat (go_quiet (first | ((with_reducible refine gD_ 2 ?_); (try (refine gate_guard (by rfl) ?_; dsimp only)); refine bxB 2 120 #[.int .i64 a0_0, .int .i64 a0_1, .int .i64 a0_2, .int .i64 a0_3, .slice A0_4 l0_4.length c0_4] (qB HB) ?_; clear HB; intro gb266 w4 HB BK266 GW266; have GE266 := GW266)); go_upto_region 1 with (first | ((with_reducible refine gD_ 2 ?_); (try (refine gate_guard (by rfl) ?_; dsimp only)); refine bxB 2 120 #[.int .i64 a0_0, .int .i64 a0_1, .int .i64 a0_2, .int .i64 a0_3, .slice A0_4 l0_4.length c0_4] (qB HB) ?_; clear HB; intro gb266 w4 HB BK266 GW266; have GE266 := GW266)))
 (try simp only [Act.put, sA_, sB_, sC_])
 go_cut [16] (fun v16 wc => ∃ (kq : Nat) (x16_2 : Bool), v16 = .bool x16_2 ∧ Aside0 (spec_l3Form.j0 kq a1 x16_2 a0_0 a0_1 a0_2 a0_3 l0_4 = some r) ∧ Aside0 (kq ≤ k) ∧ Aside0 (wc.heap[gb266]? = some (.cells #[.int .i64 a0_0, .int .i64 a0_1, .int .i64 a0_2, .int .i64 a0_3, (.slice A0_4 l0_4.length c0_4)] 120 (0, 0))) ∧ Aside0 (Below w.heap.size w wc))
 case first =>
  have H := HC3.out
  clear HC3
  by_cases c5 : a1 < 1
  · rw [if_pos c5] at H
    have c5b0 : decide (a1 < 1) = true := dT_ c5
    clear c5
    (first | rw [c5b0] | (simp only [i64_w, i32_w]; rw [c5b0]) | skip)
    have H' := aM_ H
    clear H
    go_wp2
    repeat (go_quiet (fail); try go_wp2)
    go_meet
    case rel => exact ⟨_, (true), qF, H', ⟨by first | omega | exact Nat.le_refl _⟩, ⟨qg BK266⟩, ⟨qB HB⟩⟩
  rw [if_neg c5] at H
  have c5b0 : decide (a1 < 1) = false := dF_ c5
  clear c5
  (first | rw [c5b0] | (simp only [i64_w, i32_w]; rw [c5b0]) | skip)
  replace H := oB_ H
  obtain ⟨t267, A60, H⟩ := H
  have A6 := aM_ A60
  clear A60
  have H' := aM_ H
  clear H
  have hC7 := cf5 BK266.out
  go_wp2_with (first | (go_at_call 133; (with_reducible refine (spec_l3Kids.calls k a0_0 t267 _ A6.out).mono ?_); rintro e w' ⟨rfl, ⟨nd, rfl⟩⟩; (try first | exact ⟨rfl, _, World.drewN_drewN _ _ _⟩ | exact ⟨rfl, _, Eq.trans (World.drewN_drewN _ _ _) (congrArg (World.drewN _) (Nat.add_assoc _ _ _))⟩)))
  repeat (go_quiet (first | (go_at_call 133; (with_reducible refine (spec_l3Kids.calls k a0_0 t267 _ A6.out).mono ?_); rintro e w' ⟨rfl, ⟨nd, rfl⟩⟩; (try first | exact ⟨rfl, _, World.drewN_drewN _ _ _⟩ | exact ⟨rfl, _, Eq.trans (World.drewN_drewN _ _ _) (congrArg (World.drewN _) (Nat.add_assoc _ _ _))⟩))); try go_wp2_with (first | (go_at_call 133; (with_reducible refine (spec_l3Kids.calls k a0_0 t267 _ A6.out).mono ?_); rintro e w' ⟨rfl, ⟨nd, rfl⟩⟩; (try first | exact ⟨rfl, _, World.drewN_drewN _ _ _⟩ | exact ⟨rfl, _, Eq.trans (World.drewN_drewN _ _ _) (congrArg (World.drewN _) (Nat.add_assoc _ _ _))⟩))))
  go_meet
  case rel => exact ⟨_, ((t267 != (l0_4.length : Int))), qF, H', ⟨by first | omega | exact Nat.le_refl _⟩, ⟨qg BK266⟩, ⟨qB HB⟩⟩
 case rest =>
  clear HC3
  obtain ⟨kq, x16_2, rfl, HA, HJ2, BK266, HB⟩ := hcut
  cases kq with
  | zero => exact absurd HA.out (by simp [spec_l3Form.j0])
  | succ kj2 =>
   have H := HA.out
   clear HA
   simp only [spec_l3Form.j0] at H
   by_cases c8 : x16_2 = true
   · subst c8
     rw [if_pos rfl] at H
     obtain rfl := oI_ H
     go_wp2
     repeat (go_quiet (fail); try go_wp2)
     go_ret
     exact ⟨qE, qB HB⟩
   replace c8 := Bool.eq_false_iff.mpr c8
   subst c8
   rw [if_neg (show ¬ (false = true) by decide)] at H
   have HC9 := aM_ H
   clear H
   go_upto_region 3 with (fail)
   repeat (go_quiet (fail); go_upto_region 3 with (fail))
   go_cut [37] (fun v37 wc => ∃ (kq : Nat) (x37_8 : Bool), v37 = .bool x37_8 ∧ Aside0 (spec_l3Form.j1 kq a1 x37_8 a0_0 a0_1 a0_2 a0_3 l0_4 = some r) ∧ Aside0 (kq ≤ kj2) ∧ Aside0 (wc.heap[gb266]? = some (.cells #[.int .i64 a0_0, .int .i64 a0_1, .int .i64 a0_2, .int .i64 a0_3, (.slice A0_4 l0_4.length c0_4)] 120 (0, 0))) ∧ Aside0 (Below w.heap.size w wc))
   case first =>
    have H := HC9.out
    clear HC9
    by_cases c10 : a0_0 = 1
    rotate_left
    · rw [if_neg c10] at H
      have c10b0 : (a0_0 == 1) = false := beq_eq_false_iff_ne.mpr c10
      have c10b1 : (a0_0 != 1) = true := bne_iff_ne.mpr c10
      (first | rw [c10b0] | (simp only [i64_w, i32_w]; rw [c10b0]) | skip)
      have H' := aM_ H
      clear H
      have hC15 := cf5 BK266.out
      go_wp2
      repeat (go_quiet (fail); try go_wp2)
      go_meet
      case rel => exact ⟨_, ((a0_1 != 0)), qF, H', ⟨by have := HJ2.out; first | omega | exact Nat.le_refl _⟩, ⟨qg BK266⟩, ⟨qB HB⟩⟩
    rw [if_pos c10] at H
    have c10b0 : (a0_0 == 1) = true := beq_iff_eq.mpr c10
    have c10b1 : (a0_0 != 1) = false := bne_eq_false_iff_eq.mpr c10
    clear c10
    (first | rw [c10b0] | (simp only [i64_w, i32_w]; rw [c10b0]) | skip)
    replace H := oB_ H
    obtain ⟨t268, A110, H⟩ := H
    have A11 := aM_ A110
    clear A110
    by_cases c12 : t268 = a0_1
    rotate_left
    · rw [if_neg c12] at H
      have c12b0 : (t268 == a0_1) = false := beq_eq_false_iff_ne.mpr c12
      have c12b1 : (t268 != a0_1) = true := bne_iff_ne.mpr c12
      have H' := aM_ H
      clear H
      have hC14 := cf5 BK266.out
      go_wp2_with (first | (go_at_call 73; (with_reducible refine (spec_NumCut.calls a0_1 t268 _ A11.out).mono ?_); rintro e w' ⟨rfl, ⟨nd, rfl⟩⟩; (try first | exact ⟨rfl, _, World.drewN_drewN _ _ _⟩ | exact ⟨rfl, _, Eq.trans (World.drewN_drewN _ _ _) (congrArg (World.drewN _) (Nat.add_assoc _ _ _))⟩)))
      repeat (go_quiet (first | (go_at_call 73; (with_reducible refine (spec_NumCut.calls a0_1 t268 _ A11.out).mono ?_); rintro e w' ⟨rfl, ⟨nd, rfl⟩⟩; (try first | exact ⟨rfl, _, World.drewN_drewN _ _ _⟩ | exact ⟨rfl, _, Eq.trans (World.drewN_drewN _ _ _) (congrArg (World.drewN _) (Nat.add_assoc _ _ _))⟩))); try go_wp2_with (first | (go_at_call 73; (with_reducible refine (spec_NumCut.calls a0_1 t268 _ A11.out).mono ?_); rintro e w' ⟨rfl, ⟨nd, rfl⟩⟩; (try first | exact ⟨rfl, _, World.drewN_drewN _ _ _⟩ | exact ⟨rfl, _, Eq.trans (World.drewN_drewN _ _ _) (congrArg (World.drewN _) (Nat.add_assoc _ _ _))⟩))))
      go_meet
      case rel => exact ⟨_, (true), qF, H', ⟨by have := HJ2.out; first | omega | exact Nat.le_refl _⟩, ⟨qg BK266⟩, ⟨qB HB⟩⟩
    rw [if_pos c12] at H
    have c12b0 : (t268 == a0_1) = true := beq_iff_eq.mpr c12
    have c12b1 : (t268 != a0_1) = false := bne_eq_false_iff_eq.mpr c12
    clear c12
    have H' := aM_ H
    clear H
    have hC13 := cf5 BK266.out
    go_wp2_with (first | (go_at_call 73; (with_reducible refine (spec_NumCut.calls a0_1 t268 _ A11.out).mono ?_); rintro e w' ⟨rfl, ⟨nd, rfl⟩⟩; (try first | exact ⟨rfl, _, World.drewN_drewN _ _ _⟩ | exact ⟨rfl, _, Eq.trans (World.drewN_drewN _ _ _) (congrArg (World.drewN _) (Nat.add_assoc _ _ _))⟩)))
    repeat (go_quiet (first | (go_at_call 73; (with_reducible refine (spec_NumCut.calls a0_1 t268 _ A11.out).mono ?_); rintro e w' ⟨rfl, ⟨nd, rfl⟩⟩; (try first | exact ⟨rfl, _, World.drewN_drewN _ _ _⟩ | exact ⟨rfl, _, Eq.trans (World.drewN_drewN _ _ _) (congrArg (World.drewN _) (Nat.add_assoc _ _ _))⟩))); try go_wp2_with (first | (go_at_call 73; (with_reducible refine (spec_NumCut.calls a0_1 t268 _ A11.out).mono ?_); rintro e w' ⟨rfl, ⟨nd, rfl⟩⟩; (try first | exact ⟨rfl, _, World.drewN_drewN _ _ _⟩ | exact ⟨rfl, _, Eq.trans (World.drewN_drewN _ _ _) (congrArg (World.drewN _) (Nat.add_assoc _ _ _))⟩))))
    go_meet
    case rel => exact ⟨_, (false), qF, H', ⟨by have := HJ2.out; first | omega | exact Nat.le_refl _⟩, ⟨qg BK266⟩, ⟨qB HB⟩⟩
   case rest =>
    clear HC9
    obtain ⟨kq, x37_8, rfl, HA, HJ8, BK266, HB⟩ := hcut
    cases kq with
    | zero => exact absurd HA.out (by simp [spec_l3Form.j1])
    | succ kj8 =>
     have H := HA.out
     clear HA
     simp only [spec_l3Form.j1] at H
     by_cases c16 : x37_8 = true
     · subst c16
       rw [if_pos rfl] at H
       obtain rfl := oI_ H
       go_wp2
       repeat (go_quiet (fail); try go_wp2)
       go_ret
       exact ⟨qE, qB HB⟩
     replace c16 := Bool.eq_false_iff.mpr c16
     subst c16
     rw [if_neg (show ¬ (false = true) by decide)] at H
     have HC17 := aM_ H
     clear H
     go_upto_region 5 with (fail)
     repeat (go_quiet (fail); go_upto_region 5 with (fail))
     go_cut [57] (fun v57 wc => ∃ (kq : Nat) (x57_16 : Bool), v57 = .bool x57_16 ∧ Aside0 (spec_l3Form.j2 kq a1 x57_16 a0_0 a0_1 a0_2 a0_3 l0_4 = some r) ∧ Aside0 (kq ≤ kj8) ∧ Aside0 (wc.heap[gb266]? = some (.cells #[.int .i64 a0_0, .int .i64 a0_1, .int .i64 a0_2, .int .i64 a0_3, (.slice A0_4 l0_4.length c0_4)] 120 (0, 0))) ∧ Aside0 (Below w.heap.size w wc))
     case first =>
      have H := HC17.out
      clear HC17
      by_cases c18 : a0_0 = 2
      rotate_left
      · rw [if_neg c18] at H
        have c18b0 : (a0_0 == 2) = false := beq_eq_false_iff_ne.mpr c18
        have c18b1 : (a0_0 != 2) = true := bne_iff_ne.mpr c18
        (first | rw [c18b0] | (simp only [i64_w, i32_w]; rw [c18b0]) | skip)
        have H' := aM_ H
        clear H
        have hC26 := cf5 BK266.out
        go_wp2
        repeat (go_quiet (fail); try go_wp2)
        go_meet
        case rel => exact ⟨_, ((!(a0_2 == 0) || (!(a0_3 == 0)))), qF, H', ⟨by have := HJ2.out; have := HJ8.out; first | omega | exact Nat.le_refl _⟩, ⟨qg BK266⟩, ⟨qB HB⟩⟩
      rw [if_pos c18] at H
      have c18b0 : (a0_0 == 2) = true := beq_iff_eq.mpr c18
      have c18b1 : (a0_0 != 2) = false := bne_eq_false_iff_eq.mpr c18
      clear c18
      (first | rw [c18b0] | (simp only [i64_w, i32_w]; rw [c18b0]) | skip)
      replace H := oB_ H
      obtain ⟨t269, A190, H⟩ := H
      have A19 := aM_ A190
      clear A190
      by_cases c20 : t269 = true
      rotate_left
      · replace c20 := Bool.eq_false_iff.mpr c20
        subst c20
        rw [if_neg (show ¬ (false = true) by decide)] at H
        have H' := aM_ H
        clear H
        have hC24 := cf5 BK266.out
        go_wp2_with (first | (go_at_call 74; (with_reducible refine (spec_AddrOk.calls a0_2 a0_3 false _ A19.out).mono ?_); rintro e w25 ⟨rfl, hb⟩; have n_ := aN2_ (blk_below (qg BK266) hb) (bT_ (qB HB) hb); clear BK266 HB; obtain ⟨BK266, HB⟩ := n_))
        repeat (go_quiet (first | (go_at_call 74; (with_reducible refine (spec_AddrOk.calls a0_2 a0_3 false _ A19.out).mono ?_); rintro e w25 ⟨rfl, hb⟩; have n_ := aN2_ (blk_below (qg BK266) hb) (bT_ (qB HB) hb); clear BK266 HB; obtain ⟨BK266, HB⟩ := n_)); try go_wp2_with (first | (go_at_call 74; (with_reducible refine (spec_AddrOk.calls a0_2 a0_3 false _ A19.out).mono ?_); rintro e w25 ⟨rfl, hb⟩; have n_ := aN2_ (blk_below (qg BK266) hb) (bT_ (qB HB) hb); clear BK266 HB; obtain ⟨BK266, HB⟩ := n_)))
        go_meet
        case rel => exact ⟨_, (true), qF, H', ⟨by have := HJ2.out; have := HJ8.out; first | omega | exact Nat.le_refl _⟩, ⟨qg BK266⟩, ⟨qB HB⟩⟩
      subst c20
      rw [if_pos rfl] at H
      have H' := aM_ H
      clear H
      have hC21 := cf5 BK266.out
      go_wp2_with (first | (go_at_call 74; (with_reducible refine (spec_AddrOk.calls a0_2 a0_3 true _ A19.out).mono ?_); rintro e w22 ⟨rfl, hb⟩; have n_ := aN2_ (blk_below (qg BK266) hb) (bT_ (qB HB) hb); clear BK266 HB; obtain ⟨BK266, HB⟩ := n_; have hC23 := cf5 BK266.out))
      repeat (go_quiet (first | (go_at_call 74; (with_reducible refine (spec_AddrOk.calls a0_2 a0_3 true _ A19.out).mono ?_); rintro e w22 ⟨rfl, hb⟩; have n_ := aN2_ (blk_below (qg BK266) hb) (bT_ (qB HB) hb); clear BK266 HB; obtain ⟨BK266, HB⟩ := n_; have hC23 := cf5 BK266.out)); try go_wp2_with (first | (go_at_call 74; (with_reducible refine (spec_AddrOk.calls a0_2 a0_3 true _ A19.out).mono ?_); rintro e w22 ⟨rfl, hb⟩; have n_ := aN2_ (blk_below (qg BK266) hb) (bT_ (qB HB) hb); clear BK266 HB; obtain ⟨BK266, HB⟩ := n_; have hC23 := cf5 BK266.out)))
      go_meet
      case rel => exact ⟨_, (false), qF, H', ⟨by have := HJ2.out; have := HJ8.out; first | omega | exact Nat.le_refl _⟩, ⟨qg BK266⟩, ⟨qB HB⟩⟩
     case rest =>
      clear HC17
      obtain ⟨kq, x57_16, rfl, HA, HJ16, BK266, HB⟩ := hcut
      cases kq with
      | zero => exact absurd HA.out (by simp [spec_l3Form.j2])
      | succ kj16 =>
       have H := HA.out
       clear HA
       simp only [spec_l3Form.j2] at H
       by_cases c27 : x57_16 = true
       · subst c27
         rw [if_pos rfl] at H
         obtain rfl := oI_ H
         go_wp2
         repeat (go_quiet (fail); try go_wp2)
         go_ret
         exact ⟨qE, qB HB⟩
       replace c27 := Bool.eq_false_iff.mpr c27
       subst c27
       rw [if_neg (show ¬ (false = true) by decide)] at H
       have H' := aM_ H
       clear H
       go_wp2
       repeat (go_quiet (fail); try go_wp2)
       go_loopg [5] kj16 (fun kq v5 w' => ∃ (x5_4 : Int), v5 = .int .i64 x5_4 ∧ Aside0 (spec_l3Form.l0 kq a1 x5_4 a0_0 a0_1 a0_2 a0_3 l0_4 = some r) ∧ Aside0 (kq ≤ kj16) ∧ Aside0 (w'.heap[gb266]? = some (.cells #[.int .i64 a0_0, .int .i64 a0_1, .int .i64 a0_2, .int .i64 a0_3, (.slice A0_4 l0_4.length c0_4)] 120 (0, 0))) ∧ Aside0 (Below w.heap.size w w'))
       case atStart => exact ⟨(0), qF, H', ⟨Nat.le_refl _⟩, ⟨qg BK266⟩, ⟨qB HB⟩⟩
       case round =>
        clear H'
        obtain ⟨x5_4, rfl, HA, HK4, BK266, HB⟩ := hrel
        cases gk with
        | zero => exact absurd HA.out (by simp [spec_l3Form.l0])
        | succ k4 =>
         have H := HA.out
         clear HA
         simp only [spec_l3Form.l0] at H
         by_cases c28 : x5_4 < (l0_4.length : Int)
         rotate_left
         · rw [if_neg c28] at H
           have c28b0 : decide (x5_4 < (l0_4.length : Int)) = false := dF_ c28
           clear c28
           obtain rfl := oI_ H
           have hC36 := cf5 BK266.out
           go_wp2
           repeat (go_quiet (fail); try go_wp2)
           go_ret
           exact ⟨qE, qB HB⟩
         rw [if_pos c28] at H
         have c28b0 : decide (x5_4 < (l0_4.length : Int)) = true := dT_ c28
         clear c28
         obtain ⟨H, c29b0⟩ := nP_ H
         replace H := oB_ H
         obtain ⟨t271, A300, H⟩ := H
         have A30 := aM_ A300
         clear A300
         by_cases c31 : t271 = true
         rotate_left
         · replace c31 := Bool.eq_false_iff.mpr c31
           subst c31
           rw [if_neg (show ¬ (false = true) by decide)] at H
           obtain rfl := oI_ H
           have hC34 := cf5 BK266.out
           have p270 : 0 ≤ (x5_4 : Int) := oD_ (by first | (with_reducible assumption) | assumption)
           have q270 : x5_4 < (l0_4.length : Int) := oD_ (by first | (with_reducible assumption) | assumption)
           obtain ⟨ad270, A270_4, c270_4, e270, hx270_0, hx270_1, hx270_2, hx270_3, hx270_4, hl270_4, hi270_4⟩ := at_T120 HR0_4.out x5_4 p270 q270
           cases e270
           replace hx270_0 := qc HB hx270_0
           replace hx270_1 := qc HB hx270_1
           replace hx270_2 := qc HB hx270_2
           replace hx270_3 := qc HB hx270_3
           replace hx270_4 := qc HB hx270_4
           have HR270_4 := aM_ hi270_4
           have HC270_4 := aM_ hl270_4
           clear hi270_4 hl270_4
           replace p270 := eq_true p270
           replace q270 := eq_true q270
           go_wp2_with (first | (go_at_call 136; (with_reducible refine (ih k4 (by have := HJ2.out; have := HJ8.out; have := HJ16.out; have := HK4.out; omega) ((rd_T120 l0_4 x5_4).f0) ((rd_T120 l0_4 x5_4).f1) ((rd_T120 l0_4 x5_4).f2.f0) ((rd_T120 l0_4 x5_4).f2.f1) _ _ ((rd_T120 l0_4 x5_4).f3) (wrap64 (a1 - 1)) false _ ?side1 ?side2 A30.out).mono ?_); (case side1 => exact qC (Kd.C_below HR270_4.out HB.out)); (case side2 => exact HC270_4.out); rintro e w35 ⟨rfl, hb⟩; have n_ := aN2_ (blk_below (qg BK266) hb) (bT_ (qB HB) hb); clear BK266 HB; obtain ⟨BK266, HB⟩ := n_))
           repeat (go_quiet (first | (go_at_call 136; (with_reducible refine (ih k4 (by have := HJ2.out; have := HJ8.out; have := HJ16.out; have := HK4.out; omega) ((rd_T120 l0_4 x5_4).f0) ((rd_T120 l0_4 x5_4).f1) ((rd_T120 l0_4 x5_4).f2.f0) ((rd_T120 l0_4 x5_4).f2.f1) _ _ ((rd_T120 l0_4 x5_4).f3) (wrap64 (a1 - 1)) false _ ?side1 ?side2 A30.out).mono ?_); (case side1 => exact qC (Kd.C_below HR270_4.out HB.out)); (case side2 => exact HC270_4.out); rintro e w35 ⟨rfl, hb⟩; have n_ := aN2_ (blk_below (qg BK266) hb) (bT_ (qB HB) hb); clear BK266 HB; obtain ⟨BK266, HB⟩ := n_)); try go_wp2_with (first | (go_at_call 136; (with_reducible refine (ih k4 (by have := HJ2.out; have := HJ8.out; have := HJ16.out; have := HK4.out; omega) ((rd_T120 l0_4 x5_4).f0) ((rd_T120 l0_4 x5_4).f1) ((rd_T120 l0_4 x5_4).f2.f0) ((rd_T120 l0_4 x5_4).f2.f1) _ _ ((rd_T120 l0_4 x5_4).f3) (wrap64 (a1 - 1)) false _ ?side1 ?side2 A30.out).mono ?_); (case side1 => exact qC (Kd.C_below HR270_4.out HB.out)); (case side2 => exact HC270_4.out); rintro e w35 ⟨rfl, hb⟩; have n_ := aN2_ (blk_below (qg BK266) hb) (bT_ (qB HB) hb); clear BK266 HB; obtain ⟨BK266, HB⟩ := n_)))
           go_ret
           exact ⟨qE, qB HB⟩
         subst c31
         rw [if_pos rfl] at H
         have H' := aM_ H
         clear H
         have hC32 := cf5 BK266.out
         have p270 : 0 ≤ (x5_4 : Int) := oD_ (by first | (with_reducible assumption) | assumption)
         have q270 : x5_4 < (l0_4.length : Int) := oD_ (by first | (with_reducible assumption) | assumption)
         obtain ⟨ad270, A270_4, c270_4, e270, hx270_0, hx270_1, hx270_2, hx270_3, hx270_4, hl270_4, hi270_4⟩ := at_T120 HR0_4.out x5_4 p270 q270
         cases e270
         replace hx270_0 := qc HB hx270_0
         replace hx270_1 := qc HB hx270_1
         replace hx270_2 := qc HB hx270_2
         replace hx270_3 := qc HB hx270_3
         replace hx270_4 := qc HB hx270_4
         have HR270_4 := aM_ hi270_4
         have HC270_4 := aM_ hl270_4
         clear hi270_4 hl270_4
         replace p270 := eq_true p270
         replace q270 := eq_true q270
         go_wp2_with (first | (go_at_call 136; (with_reducible refine (ih k4 (by have := HJ2.out; have := HJ8.out; have := HJ16.out; have := HK4.out; omega) ((rd_T120 l0_4 x5_4).f0) ((rd_T120 l0_4 x5_4).f1) ((rd_T120 l0_4 x5_4).f2.f0) ((rd_T120 l0_4 x5_4).f2.f1) _ _ ((rd_T120 l0_4 x5_4).f3) (wrap64 (a1 - 1)) true _ ?side1 ?side2 A30.out).mono ?_); (case side1 => exact qC (Kd.C_below HR270_4.out HB.out)); (case side2 => exact HC270_4.out); rintro e w33 ⟨rfl, hb⟩; have n_ := aN2_ (blk_below (qg BK266) hb) (bT_ (qB HB) hb); clear BK266 HB; obtain ⟨BK266, HB⟩ := n_))
         repeat (go_quiet (first | (go_at_call 136; (with_reducible refine (ih k4 (by have := HJ2.out; have := HJ8.out; have := HJ16.out; have := HK4.out; omega) ((rd_T120 l0_4 x5_4).f0) ((rd_T120 l0_4 x5_4).f1) ((rd_T120 l0_4 x5_4).f2.f0) ((rd_T120 l0_4 x5_4).f2.f1) _ _ ((rd_T120 l0_4 x5_4).f3) (wrap64 (a1 - 1)) true _ ?side1 ?side2 A30.out).mono ?_); (case side1 => exact qC (Kd.C_below HR270_4.out HB.out)); (case side2 => exact HC270_4.out); rintro e w33 ⟨rfl, hb⟩; have n_ := aN2_ (blk_below (qg BK266) hb) (bT_ (qB HB) hb); clear BK266 HB; obtain ⟨BK266, HB⟩ := n_)); try go_wp2_with (first | (go_at_call 136; (with_reducible refine (ih k4 (by have := HJ2.out; have := HJ8.out; have := HJ16.out; have := HK4.out; omega) ((rd_T120 l0_4 x5_4).f0) ((rd_T120 l0_4 x5_4).f1) ((rd_T120 l0_4 x5_4).f2.f0) ((rd_T120 l0_4 x5_4).f2.f1) _ _ ((rd_T120 l0_4 x5_4).f3) (wrap64 (a1 - 1)) true _ ?side1 ?side2 A30.out).mono ?_); (case side1 => exact qC (Kd.C_below HR270_4.out HB.out)); (case side2 => exact HC270_4.out); rintro e w33 ⟨rfl, hb⟩; have n_ := aN2_ (blk_below (qg BK266) hb) (bT_ (qB HB) hb); clear BK266 HB; obtain ⟨BK266, HB⟩ := n_)))
         go_roundg k4
         case measure => have := HJ2.out; have := HJ8.out; have := HJ16.out; have := HK4.out; omega
         case rel => exact ⟨(wrap64 (x5_4 + 1)), qF, H', ⟨by have := HJ2.out; have := HJ8.out; have := HJ16.out; have := HK4.out; omega⟩, ⟨qg BK266⟩, ⟨qB HB⟩⟩
end Go.Proofs.YtjamfddhcigchaaGreatDoor.HFnCodeRun
namespace Go.Proofs.YtjamfddhcigchaaGreatDoor.HFnCodeRun
open Go.RowKit Go.Proofs.YtjamfddhcigchaaGreatDoorW.PrintWords Go.Proofs.YtjamfddhcigchaaGreatDoorW.PrintLast Go.Proofs.YtjamfddhcigchaaGreatDoorW.PrintMore
attribute [local go_sem] max2_int min2_int max_two min_two max_three min_three max_four min_four
set_option linter.unusedVariables false
set_option linter.unusedSimpArgs false
mutual
def spec_l3Many.l0 : Nat → Int → Int → Int → Int → Int → Int → Int → List (S120) → Option (Int)
  | 0, _, _, _, _, _, _, _, _ => none
  | k + 1, x1, x5, x6, x273000, x273001, x273002, x273003, x273004 => if x6 < (x273004.length : Int) then (if x1 > 0 then (if 0 ≤ x6 then ((spec_l3Many.f k ((rd_T120 x273004 x6).f0) ((rd_T120 x273004 x6).f1) ((rd_T120 x273004 x6).f2.f0) ((rd_T120 x273004 x6).f2.f1) ((rd_T120 x273004 x6).f3) (wrap64 (x1 - 1))).bind fun t274 => (spec_l3Many.l0 k x1 (wrap64 (x5 + t274)) (wrap64 (x6 + 1)) x273000 x273001 x273002 x273003 x273004)) else (none)) else (some x5)) else (some x5)
def spec_l3Many.f : Nat → Int → Int → Int → Int → List (S120) → Int → Option (Int)
  | 0, _, _, _, _, _, _ => none
  | k + 1, a0_0, a0_1, a0_2, a0_3, l0_4, a1 => spec_l3Many.l0 k a1 1 0 a0_0 a0_1 a0_2 a0_3 l0_4
end
set_option maxHeartbeats 8000000 in
set_option maxRecDepth 100000 in
theorem spec_l3Many.calls (k : Nat) : ∀ (a0_0 : Int) (a0_1 : Int) (a0_2 : Int) (a0_3 : Int) (A0_4 : Option Addr) (c0_4 : Nat) (l0_4 : List (S120)) (a1 : Int) (r : Int) (w : World) (hr0_4 : Kd.C k120 w A0_4 l0_4.length l0_4) (hc0_4 : l0_4.length ≤ c0_4) (h : spec_l3Many.f k a0_0 a0_1 a0_2 a0_3 l0_4 a1 = some r),
    Calls Tryz.prog 137 #[.agg #[.int .i64 a0_0, .int .i64 a0_1, .int .i64 a0_2, .int .i64 a0_3, .slice A0_4 l0_4.length c0_4], .int .i64 a1] w fun e w' => e = .returned (.int .i64 r) ∧ Below w.heap.size w w' := by
 induction k using Nat.strongRecOn with
 | _ k ih =>
 intro a0_0 a0_1 a0_2 a0_3 A0_4 c0_4 l0_4 a1 r w hr0_4 hc0_4 h
 cases k with
 | zero => exact absurd h (by simp [spec_l3Many.f])
 | succ k =>
 simp only [spec_l3Many.f] at h
 have hu120 := Tryz.underlying120
 have HR0_4 := aM_ hr0_4
 have HC0_4 := aM_ hc0_4
 clear hr0_4 hc0_4
 have HB := aM_ (Below.refl w.heap.size w)
 have H : (spec_l3Many.l0 k a1 1 0 a0_0 a0_1 a0_2 a0_3 l0_4) = some r := h
 clear h
 have H' := aM_ H
 clear H
 go_enter Tryz.func137, Tryz.ntmps137
 go_wp2_with (first | ((with_reducible refine gD_ 2 ?_); refine bxB 2 120 #[.int .i64 a0_0, .int .i64 a0_1, .int .i64 a0_2, .int .i64 a0_3, .slice A0_4 l0_4.length c0_4] (qB HB) ?_; clear HB; intro gb272 w3 HB BK272 GW272; have GE272 := GW272))
 go_loopg [5, 6] k (fun kq v5 v6 w' => ∃ (x5_1 : Int) (x6_1 : Int), v5 = .int .i64 x5_1 ∧ v6 = .int .i64 x6_1 ∧ Aside0 (spec_l3Many.l0 kq a1 x5_1 x6_1 a0_0 a0_1 a0_2 a0_3 l0_4 = some r) ∧ Aside0 (kq ≤ k) ∧ Aside0 (w'.heap[gb272]? = some (.cells #[.int .i64 a0_0, .int .i64 a0_1, .int .i64 a0_2, .int .i64 a0_3, (.slice A0_4 l0_4.length c0_4)] 120 (0, 0))) ∧ Aside0 (Below w.heap.size w w'))
 case atStart => exact ⟨(1), (0), qF, qF, H', ⟨Nat.le_refl _⟩, ⟨qg BK272⟩, ⟨qB HB⟩⟩
 case round =>
  clear H'
  obtain ⟨x5_1, x6_1, rfl, rfl, HA, HK1, BK272, HB⟩ := hrel
  cases gk with
  | zero => exact absurd HA.out (by simp [spec_l3Many.l0])
  | succ k1 =>
   have H := HA.out
   clear HA
   simp only [spec_l3Many.l0] at H
   by_cases c4 : x6_1 < (l0_4.length : Int)
   rotate_left
   · rw [if_neg c4] at H
     have c4b0 : decide (x6_1 < (l0_4.length : Int)) = false := dF_ c4
     clear c4
     obtain rfl := oI_ H
     have hC11 := cf5 BK272.out
     go_wp2
     go_ret
     exact ⟨qE, qB HB⟩
   rw [if_pos c4] at H
   have c4b0 : decide (x6_1 < (l0_4.length : Int)) = true := dT_ c4
   clear c4
   by_cases c5 : a1 > 0
   rotate_left
   · rw [if_neg c5] at H
     have c5b0 : decide (0 < a1) = false := dF_ c5
     clear c5
     obtain rfl := oI_ H
     have hC10 := cf5 BK272.out
     go_wp2
     go_ret
     exact ⟨qE, qB HB⟩
   rw [if_pos c5] at H
   have c5b0 : decide (0 < a1) = true := dT_ c5
   clear c5
   obtain ⟨H, c6b0⟩ := nP_ H
   replace H := oB_ H
   obtain ⟨t274, A70, H⟩ := H
   have A7 := aM_ A70
   clear A70
   have H' := aM_ H
   clear H
   have hC8 := cf5 BK272.out
   have p273 : 0 ≤ (x6_1 : Int) := oD_ (by first | (with_reducible assumption) | assumption)
   have q273 : x6_1 < (l0_4.length : Int) := oD_ (by first | (with_reducible assumption) | assumption)
   obtain ⟨ad273, A273_4, c273_4, e273, hx273_0, hx273_1, hx273_2, hx273_3, hx273_4, hl273_4, hi273_4⟩ := at_T120 HR0_4.out x6_1 p273 q273
   cases e273
   replace hx273_0 := qc HB hx273_0
   replace hx273_1 := qc HB hx273_1
   replace hx273_2 := qc HB hx273_2
   replace hx273_3 := qc HB hx273_3
   replace hx273_4 := qc HB hx273_4
   have HR273_4 := aM_ hi273_4
   have HC273_4 := aM_ hl273_4
   clear hi273_4 hl273_4
   replace p273 := eq_true p273
   replace q273 := eq_true q273
   go_wp2_with (first | ((with_reducible refine gc_ 137 ?_); refine gL_ (some 26) Tryz.func137 #[.agg #[.int .i64 ((rd_T120 l0_4 x6_1).f0), .int .i64 ((rd_T120 l0_4 x6_1).f1), .int .i64 ((rd_T120 l0_4 x6_1).f2.f0), .int .i64 ((rd_T120 l0_4 x6_1).f2.f1), .slice A273_4 ((rd_T120 l0_4 x6_1).f3).length c273_4], .int .i64 (wrap64 (a1 - 1))] ?_; (with_reducible refine (ih k1 (by have := HK1.out; omega) ((rd_T120 l0_4 x6_1).f0) ((rd_T120 l0_4 x6_1).f1) ((rd_T120 l0_4 x6_1).f2.f0) ((rd_T120 l0_4 x6_1).f2.f1) _ _ ((rd_T120 l0_4 x6_1).f3) (wrap64 (a1 - 1)) t274 _ ?side1 ?side2 A7.out).mono ?_); (case side1 => exact qC (Kd.C_below HR273_4.out HB.out)); (case side2 => exact HC273_4.out); rintro e w9 ⟨rfl, hb⟩; refine ⟨_, rfl, ?_⟩; have n_ := aN2_ (blk_below (qg BK272) hb) (bT_ (qB HB) hb); clear BK272 HB; obtain ⟨BK272, HB⟩ := n_))
   go_roundg k1
   case measure => have := HK1.out; omega
   case rel => exact ⟨(wrap64 (x5_1 + t274)), (wrap64 (x6_1 + 1)), qF, qF, H', ⟨by have := HK1.out; omega⟩, ⟨qg BK272⟩, ⟨qB HB⟩⟩
def spec_ExprOk.f (k : Nat) (a0_0 : Int) (a0_1 : Int) (a0_2 : Int) (a0_3 : Int) (l0_4 : List (S120)) : Option (Bool) := (spec_l3Form.f k a0_0 a0_1 a0_2 a0_3 l0_4 6).bind fun t276 => (if t276 = true then ((spec_l3Many.f k a0_0 a0_1 a0_2 a0_3 l0_4 6).bind fun t277 => (some (decide (t277 ≤ 14)))) else (some false))
set_option maxHeartbeats 8000000 in
set_option maxRecDepth 100000 in
theorem spec_ExprOk.calls (k : Nat) (a0_0 : Int) (a0_1 : Int) (a0_2 : Int) (a0_3 : Int) (A0_4 : Option Addr) (c0_4 : Nat) (l0_4 : List (S120)) (r : Bool) (w : World) (hr0_4 : Kd.C k120 w A0_4 l0_4.length l0_4) (hc0_4 : l0_4.length ≤ c0_4) (h : spec_ExprOk.f k a0_0 a0_1 a0_2 a0_3 l0_4 = some r) :
    Calls Tryz.prog 134 #[.agg #[.int .i64 a0_0, .int .i64 a0_1, .int .i64 a0_2, .int .i64 a0_3, .slice A0_4 l0_4.length c0_4]] w fun e w' => e = .returned (.bool r) ∧ Below w.heap.size w w' := by
 have hu120 := Tryz.underlying120
 have HR0_4 := aM_ hr0_4
 have HC0_4 := aM_ hc0_4
 clear hr0_4 hc0_4
 have HB := aM_ (Below.refl w.heap.size w)
 have H : ((spec_l3Form.f k a0_0 a0_1 a0_2 a0_3 l0_4 6).bind fun t276 => (if t276 = true then ((spec_l3Many.f k a0_0 a0_1 a0_2 a0_3 l0_4 6).bind fun t277 => (some (decide (t277 ≤ 14)))) else (some false))) = some r := h
 clear h
 replace H := oB_ H
 obtain ⟨t276, A20, H⟩ := H
 have A2 := aM_ A20
 clear A20
 by_cases c3 : t276 = true
 rotate_left
 · replace c3 := Bool.eq_false_iff.mpr c3
   subst c3
   rw [if_neg (show ¬ (false = true) by decide)] at H
   obtain rfl := oI_ H
   go_enter Tryz.func134, Tryz.ntmps134
   go_wp2_with (first | ((with_reducible refine gD_ 1 ?_); refine bxB 1 120 #[.int .i64 a0_0, .int .i64 a0_1, .int .i64 a0_2, .int .i64 a0_3, .slice A0_4 l0_4.length c0_4] (qB HB) ?_; clear HB; intro gb275 w10 HB BK275 GW275; have GE275 := GW275; have hC11 := cf5 BK275.out) | ((with_reducible refine gc_ 136 ?_); refine gL_ (some 4) Tryz.func136 #[.agg #[.int .i64 a0_0, .int .i64 a0_1, .int .i64 a0_2, .int .i64 a0_3, .slice A0_4 l0_4.length c0_4], .int .i64 6] ?_; (with_reducible refine (spec_l3Form.calls k a0_0 a0_1 a0_2 a0_3 _ _ l0_4 6 false _ ?side1 ?side2 A2.out).mono ?_); (case side1 => exact qC (Kd.C_below HR0_4.out HB.out)); (case side2 => exact HC0_4.out); rintro e w12 ⟨rfl, hb⟩; refine ⟨_, rfl, ?_⟩; have n_ := aN2_ (blk_below (qg BK275) hb) (bT_ (qB HB) hb); clear BK275 HB; obtain ⟨BK275, HB⟩ := n_))
   go_ret
   exact ⟨qE, qB HB⟩
 subst c3
 rw [if_pos rfl] at H
 replace H := oB_ H
 obtain ⟨t277, A40, H⟩ := H
 have A4 := aM_ A40
 clear A40
 obtain rfl := oI_ H
 go_enter Tryz.func134, Tryz.ntmps134
 go_wp2_with (first | ((with_reducible refine gD_ 1 ?_); refine bxB 1 120 #[.int .i64 a0_0, .int .i64 a0_1, .int .i64 a0_2, .int .i64 a0_3, .slice A0_4 l0_4.length c0_4] (qB HB) ?_; clear HB; intro gb275 w5 HB BK275 GW275; have GE275 := GW275; have hC6 := cf5 BK275.out) | ((with_reducible refine gc_ 136 ?_); refine gL_ (some 4) Tryz.func136 #[.agg #[.int .i64 a0_0, .int .i64 a0_1, .int .i64 a0_2, .int .i64 a0_3, .slice A0_4 l0_4.length c0_4], .int .i64 6] ?_; (with_reducible refine (spec_l3Form.calls k a0_0 a0_1 a0_2 a0_3 _ _ l0_4 6 true _ ?side1 ?side2 A2.out).mono ?_); (case side1 => exact qC (Kd.C_below HR0_4.out HB.out)); (case side2 => exact HC0_4.out); rintro e w7 ⟨rfl, hb⟩; refine ⟨_, rfl, ?_⟩; have n_ := aN2_ (blk_below (qg BK275) hb) (bT_ (qB HB) hb); clear BK275 HB; obtain ⟨BK275, HB⟩ := n_; have hC8 := cf5 BK275.out) | (go_at_call 137; (with_reducible refine (spec_l3Many.calls k a0_0 a0_1 a0_2 a0_3 _ _ l0_4 6 t277 _ ?side1 ?side2 A4.out).mono ?_); (case side1 => exact qC (Kd.C_below HR0_4.out HB.out)); (case side2 => exact HC0_4.out); rintro e w9 ⟨rfl, hb⟩; have n_ := aN2_ (blk_below (qg BK275) hb) (bT_ (qB HB) hb); clear BK275 HB; obtain ⟨BK275, HB⟩ := n_))
 go_ret
 exact ⟨qE, qB HB⟩
end Go.Proofs.YtjamfddhcigchaaGreatDoor.HFnCodeRun
