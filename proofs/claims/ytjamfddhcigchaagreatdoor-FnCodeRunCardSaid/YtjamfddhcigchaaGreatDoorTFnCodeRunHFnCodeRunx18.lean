-- Made by a program of this session (hp.py) over the kit's print: functions told by hand stand beside printed ones. Lean checks it.
import Derived.Test.YtjamfddhcigchaaGreatDoorTFnCodeRunHFnCodeRunx9
namespace Go.Proofs.YtjamfddhcigchaaGreatDoor.HFnCodeRun
open Go.RowKit Go.Proofs.YtjamfddhcigchaaGreatDoorW.PrintWords Go.Proofs.YtjamfddhcigchaaGreatDoorW.PrintLast Go.Proofs.YtjamfddhcigchaaGreatDoorW.PrintMore
attribute [local go_sem] max2_int min2_int max_two min_two max_three min_three max_four min_four
set_option linter.unusedVariables false
set_option linter.unusedSimpArgs false
attribute [local go_sem high] eqA28
def spec_l5Ins.j0 : Nat → Int → Int → Bool → Int → Bool → Int → Int → Int → Int → Option (Bool)
  | 0, _, _, _, _, _, _, _, _, _ => none
  | k + 1, x1, x2, x7, x13, x72, x488000, x488001, x488002, x488003 => if x72 = true then (if x7 = true then (if x488001 > x1 then (some (decide (x488001 ≤ x2))) else (some false)) else (some false)) else (if x13 = 8 then (if x7 = true then (if x488001 ≥ 0 then (some (decide (x488001 < x1))) else (some false)) else (some false)) else (some false))
def spec_l5Ins.f (k : Nat) (a0_0 : Int) (a0_1 : Int) (a0_2 : Int) (a0_3 : Int) (a1 : Int) (a2 : Int) : Option (Bool) := if a0_0 = 1 then (if (a0_2 == 0 && (a0_3 == 0)) = true then ((spec_NumCut.f a0_1).bind fun t488 => (some (t488 == a0_1))) else (some false)) else (if a0_0 = 2 then ((spec_AddrOk.f a0_2 a0_3).bind fun t489 => (if t489 = true then (some (a0_1 == 0)) else (some false))) else (if a0_0 = 3 then ((spec_AddrOk.f a0_2 a0_3).bind fun t490 => (if t490 = true then (if a0_2 = 1 then (some false) else (some (a0_1 == 0))) else (some false))) else (if a0_0 = 4 then (if (a0_2 == 0 && (a0_3 == 0)) = true then (if a0_1 ≥ 3 then (some (decide (a0_1 ≤ 9))) else (some false)) else (some false)) else (if a0_0 = 5 then (if (a0_2 == 0 && (a0_3 == 0)) = true then (some (a0_1 == 0)) else (some false)) else (if a0_0 = 6 then (spec_l5Ins.j0 k a1 a2 (a0_2 == 0 && (a0_3 == 0)) a0_0 (a0_0 == 6) a0_0 a0_1 a0_2 a0_3) else (spec_l5Ins.j0 k a1 a2 (a0_2 == 0 && (a0_3 == 0)) a0_0 (a0_0 == 7) a0_0 a0_1 a0_2 a0_3))))))
set_option maxHeartbeats 8000000 in
set_option maxRecDepth 100000 in
theorem spec_l5Ins.calls (k : Nat) (a0_0 : Int) (a0_1 : Int) (a0_2 : Int) (a0_3 : Int) (a1 : Int) (a2 : Int) (r : Bool) (w : World) (h : spec_l5Ins.f k a0_0 a0_1 a0_2 a0_3 a1 a2 = some r) :
    Calls Tryz.prog 41 #[.agg #[.int .i64 a0_0, .int .i64 a0_1, .int .i64 a0_2, .int .i64 a0_3], .int .i64 a1, .int .i64 a2] w fun e w' => e = .returned (.bool r) ∧ Below w.heap.size w w' := by
 have hu30 := Tryz.underlying30
 have hu28 := Tryz.underlying28
 have HB := aM_ (Below.refl w.heap.size w)
 have H : (if a0_0 = 1 then (if (a0_2 == 0 && (a0_3 == 0)) = true then ((spec_NumCut.f a0_1).bind fun t488 => (some (t488 == a0_1))) else (some false)) else (if a0_0 = 2 then ((spec_AddrOk.f a0_2 a0_3).bind fun t489 => (if t489 = true then (some (a0_1 == 0)) else (some false))) else (if a0_0 = 3 then ((spec_AddrOk.f a0_2 a0_3).bind fun t490 => (if t490 = true then (if a0_2 = 1 then (some false) else (some (a0_1 == 0))) else (some false))) else (if a0_0 = 4 then (if (a0_2 == 0 && (a0_3 == 0)) = true then (if a0_1 ≥ 3 then (some (decide (a0_1 ≤ 9))) else (some false)) else (some false)) else (if a0_0 = 5 then (if (a0_2 == 0 && (a0_3 == 0)) = true then (some (a0_1 == 0)) else (some false)) else (if a0_0 = 6 then (spec_l5Ins.j0 k a1 a2 (a0_2 == 0 && (a0_3 == 0)) a0_0 (a0_0 == 6) a0_0 a0_1 a0_2 a0_3) else (spec_l5Ins.j0 k a1 a2 (a0_2 == 0 && (a0_3 == 0)) a0_0 (a0_0 == 7) a0_0 a0_1 a0_2 a0_3))))))) = some r := h
 clear h
 by_cases c4 : a0_0 = 1
 · rw [if_pos c4] at H
   have c4b0 : (a0_0 == 1) = true := beq_iff_eq.mpr c4
   have c4b1 : (a0_0 != 1) = false := bne_eq_false_iff_eq.mpr c4
   clear c4
   by_cases c5 : (a0_2 == 0 && (a0_3 == 0)) = true
   rotate_left
   · rw [if_neg c5] at H
     have c5b0 : (a0_2 == 0 && (a0_3 == 0)) = false := by simpa using c5
     (try (have c5b1 : decide (a0_2 = 0 && (a0_3 == 0)) = false := by simpa using c5))
     (try (have c5b2 : (a0_2 == 0 && (a0_3 == 0)) = false := by simpa using c5))
     (try (have c5b3 : ¬ (a0_2 = 0 && (a0_3 == 0)) := by simpa using c5))
     clear c5
     obtain rfl := oI_ H
     go_enter Tryz.func41, Tryz.ntmps41
     go_wp2_with (first | ((with_reducible refine gD_ 3 ?_); refine bxB 3 30 #[.int .i64 a0_0, .int .i64 a0_1, .int .i64 a0_2, .int .i64 a0_3] (qB HB) ?_; clear HB; intro gb487 w9 HB BK487 GW487; have GE487 := GW487; have hC10 := cf4 BK487.out))
     repeat (go_quiet (first | ((with_reducible refine gD_ 3 ?_); refine bxB 3 30 #[.int .i64 a0_0, .int .i64 a0_1, .int .i64 a0_2, .int .i64 a0_3] (qB HB) ?_; clear HB; intro gb487 w9 HB BK487 GW487; have GE487 := GW487; have hC10 := cf4 BK487.out)); try go_wp2_with (first | ((with_reducible refine gD_ 3 ?_); refine bxB 3 30 #[.int .i64 a0_0, .int .i64 a0_1, .int .i64 a0_2, .int .i64 a0_3] (qB HB) ?_; clear HB; intro gb487 w9 HB BK487 GW487; have GE487 := GW487; have hC10 := cf4 BK487.out)))
     go_ret
     exact ⟨qE, qB HB⟩
   rw [if_pos c5] at H
   have c5b0 : (a0_2 == 0 && (a0_3 == 0)) = true := c5
   (try (have c5b1 : decide (a0_2 = 0 && (a0_3 == 0)) = true := by simpa using c5))
   (try (have c5b2 : (a0_2 == 0 && (a0_3 == 0)) = true := by simpa using c5))
   clear c5
   replace H := oB_ H
   obtain ⟨t488, A60, H⟩ := H
   have A6 := aM_ A60
   clear A60
   obtain rfl := oI_ H
   go_enter Tryz.func41, Tryz.ntmps41
   go_wp2_with (first | ((with_reducible refine gD_ 3 ?_); refine bxB 3 30 #[.int .i64 a0_0, .int .i64 a0_1, .int .i64 a0_2, .int .i64 a0_3] (qB HB) ?_; clear HB; intro gb487 w7 HB BK487 GW487; have GE487 := GW487; have hC8 := cf4 BK487.out) | (go_at_call 73; (with_reducible refine (spec_NumCut.calls a0_1 t488 _ A6.out).mono ?_); rintro e w' ⟨rfl, ⟨nd, rfl⟩⟩; (try first | exact ⟨rfl, _, World.drewN_drewN _ _ _⟩ | exact ⟨rfl, _, Eq.trans (World.drewN_drewN _ _ _) (congrArg (World.drewN _) (Nat.add_assoc _ _ _))⟩)))
   repeat (go_quiet (first | ((with_reducible refine gD_ 3 ?_); refine bxB 3 30 #[.int .i64 a0_0, .int .i64 a0_1, .int .i64 a0_2, .int .i64 a0_3] (qB HB) ?_; clear HB; intro gb487 w7 HB BK487 GW487; have GE487 := GW487; have hC8 := cf4 BK487.out) | (go_at_call 73; (with_reducible refine (spec_NumCut.calls a0_1 t488 _ A6.out).mono ?_); rintro e w' ⟨rfl, ⟨nd, rfl⟩⟩; (try first | exact ⟨rfl, _, World.drewN_drewN _ _ _⟩ | exact ⟨rfl, _, Eq.trans (World.drewN_drewN _ _ _) (congrArg (World.drewN _) (Nat.add_assoc _ _ _))⟩))); try go_wp2_with (first | ((with_reducible refine gD_ 3 ?_); refine bxB 3 30 #[.int .i64 a0_0, .int .i64 a0_1, .int .i64 a0_2, .int .i64 a0_3] (qB HB) ?_; clear HB; intro gb487 w7 HB BK487 GW487; have GE487 := GW487; have hC8 := cf4 BK487.out) | (go_at_call 73; (with_reducible refine (spec_NumCut.calls a0_1 t488 _ A6.out).mono ?_); rintro e w' ⟨rfl, ⟨nd, rfl⟩⟩; (try first | exact ⟨rfl, _, World.drewN_drewN _ _ _⟩ | exact ⟨rfl, _, Eq.trans (World.drewN_drewN _ _ _) (congrArg (World.drewN _) (Nat.add_assoc _ _ _))⟩))))
   go_ret
   exact ⟨qE, qB HB⟩
 rw [if_neg c4] at H
 have c4b0 : (a0_0 == 1) = false := beq_eq_false_iff_ne.mpr c4
 have c4b1 : (a0_0 != 1) = true := bne_iff_ne.mpr c4
 by_cases c11 : a0_0 = 2
 · rw [if_pos c11] at H
   have c11b0 : (a0_0 == 2) = true := beq_iff_eq.mpr c11
   have c11b1 : (a0_0 != 2) = false := bne_eq_false_iff_eq.mpr c11
   clear c11
   replace H := oB_ H
   obtain ⟨t489, A120, H⟩ := H
   have A12 := aM_ A120
   clear A120
   by_cases c13 : t489 = true
   rotate_left
   · replace c13 := Bool.eq_false_iff.mpr c13
     subst c13
     rw [if_neg (show ¬ (false = true) by decide)] at H
     obtain rfl := oI_ H
     go_enter Tryz.func41, Tryz.ntmps41
     go_wp2_with (first | ((with_reducible refine gD_ 3 ?_); refine bxB 3 30 #[.int .i64 a0_0, .int .i64 a0_1, .int .i64 a0_2, .int .i64 a0_3] (qB HB) ?_; clear HB; intro gb487 w18 HB BK487 GW487; have GE487 := GW487; have hC19 := cf4 BK487.out) | (go_at_call 74; (with_reducible refine (spec_AddrOk.calls a0_2 a0_3 false _ A12.out).mono ?_); rintro e w20 ⟨rfl, hb⟩; have n_ := aN2_ (blk_below (qg BK487) hb) (bT_ (qB HB) hb); clear BK487 HB; obtain ⟨BK487, HB⟩ := n_))
     repeat (go_quiet (first | ((with_reducible refine gD_ 3 ?_); refine bxB 3 30 #[.int .i64 a0_0, .int .i64 a0_1, .int .i64 a0_2, .int .i64 a0_3] (qB HB) ?_; clear HB; intro gb487 w18 HB BK487 GW487; have GE487 := GW487; have hC19 := cf4 BK487.out) | (go_at_call 74; (with_reducible refine (spec_AddrOk.calls a0_2 a0_3 false _ A12.out).mono ?_); rintro e w20 ⟨rfl, hb⟩; have n_ := aN2_ (blk_below (qg BK487) hb) (bT_ (qB HB) hb); clear BK487 HB; obtain ⟨BK487, HB⟩ := n_)); try go_wp2_with (first | ((with_reducible refine gD_ 3 ?_); refine bxB 3 30 #[.int .i64 a0_0, .int .i64 a0_1, .int .i64 a0_2, .int .i64 a0_3] (qB HB) ?_; clear HB; intro gb487 w18 HB BK487 GW487; have GE487 := GW487; have hC19 := cf4 BK487.out) | (go_at_call 74; (with_reducible refine (spec_AddrOk.calls a0_2 a0_3 false _ A12.out).mono ?_); rintro e w20 ⟨rfl, hb⟩; have n_ := aN2_ (blk_below (qg BK487) hb) (bT_ (qB HB) hb); clear BK487 HB; obtain ⟨BK487, HB⟩ := n_)))
     go_ret
     exact ⟨qE, qB HB⟩
   subst c13
   rw [if_pos rfl] at H
   obtain rfl := oI_ H
   go_enter Tryz.func41, Tryz.ntmps41
   go_wp2_with (first | ((with_reducible refine gD_ 3 ?_); refine bxB 3 30 #[.int .i64 a0_0, .int .i64 a0_1, .int .i64 a0_2, .int .i64 a0_3] (qB HB) ?_; clear HB; intro gb487 w14 HB BK487 GW487; have GE487 := GW487; have hC15 := cf4 BK487.out) | (go_at_call 74; (with_reducible refine (spec_AddrOk.calls a0_2 a0_3 true _ A12.out).mono ?_); rintro e w16 ⟨rfl, hb⟩; have n_ := aN2_ (blk_below (qg BK487) hb) (bT_ (qB HB) hb); clear BK487 HB; obtain ⟨BK487, HB⟩ := n_; have hC17 := cf4 BK487.out))
   repeat (go_quiet (first | ((with_reducible refine gD_ 3 ?_); refine bxB 3 30 #[.int .i64 a0_0, .int .i64 a0_1, .int .i64 a0_2, .int .i64 a0_3] (qB HB) ?_; clear HB; intro gb487 w14 HB BK487 GW487; have GE487 := GW487; have hC15 := cf4 BK487.out) | (go_at_call 74; (with_reducible refine (spec_AddrOk.calls a0_2 a0_3 true _ A12.out).mono ?_); rintro e w16 ⟨rfl, hb⟩; have n_ := aN2_ (blk_below (qg BK487) hb) (bT_ (qB HB) hb); clear BK487 HB; obtain ⟨BK487, HB⟩ := n_; have hC17 := cf4 BK487.out)); try go_wp2_with (first | ((with_reducible refine gD_ 3 ?_); refine bxB 3 30 #[.int .i64 a0_0, .int .i64 a0_1, .int .i64 a0_2, .int .i64 a0_3] (qB HB) ?_; clear HB; intro gb487 w14 HB BK487 GW487; have GE487 := GW487; have hC15 := cf4 BK487.out) | (go_at_call 74; (with_reducible refine (spec_AddrOk.calls a0_2 a0_3 true _ A12.out).mono ?_); rintro e w16 ⟨rfl, hb⟩; have n_ := aN2_ (blk_below (qg BK487) hb) (bT_ (qB HB) hb); clear BK487 HB; obtain ⟨BK487, HB⟩ := n_; have hC17 := cf4 BK487.out)))
   go_ret
   exact ⟨qE, qB HB⟩
 rw [if_neg c11] at H
 have c11b0 : (a0_0 == 2) = false := beq_eq_false_iff_ne.mpr c11
 have c11b1 : (a0_0 != 2) = true := bne_iff_ne.mpr c11
 by_cases c21 : a0_0 = 3
 · rw [if_pos c21] at H
   have c21b0 : (a0_0 == 3) = true := beq_iff_eq.mpr c21
   have c21b1 : (a0_0 != 3) = false := bne_eq_false_iff_eq.mpr c21
   clear c21
   replace H := oB_ H
   obtain ⟨t490, A220, H⟩ := H
   have A22 := aM_ A220
   clear A220
   by_cases c23 : t490 = true
   rotate_left
   · replace c23 := Bool.eq_false_iff.mpr c23
     subst c23
     rw [if_neg (show ¬ (false = true) by decide)] at H
     obtain rfl := oI_ H
     go_enter Tryz.func41, Tryz.ntmps41
     go_wp2_with (first | ((with_reducible refine gD_ 3 ?_); refine bxB 3 30 #[.int .i64 a0_0, .int .i64 a0_1, .int .i64 a0_2, .int .i64 a0_3] (qB HB) ?_; clear HB; intro gb487 w33 HB BK487 GW487; have GE487 := GW487; have hC34 := cf4 BK487.out) | (go_at_call 74; (with_reducible refine (spec_AddrOk.calls a0_2 a0_3 false _ A22.out).mono ?_); rintro e w35 ⟨rfl, hb⟩; have n_ := aN2_ (blk_below (qg BK487) hb) (bT_ (qB HB) hb); clear BK487 HB; obtain ⟨BK487, HB⟩ := n_))
     repeat (go_quiet (first | ((with_reducible refine gD_ 3 ?_); refine bxB 3 30 #[.int .i64 a0_0, .int .i64 a0_1, .int .i64 a0_2, .int .i64 a0_3] (qB HB) ?_; clear HB; intro gb487 w33 HB BK487 GW487; have GE487 := GW487; have hC34 := cf4 BK487.out) | (go_at_call 74; (with_reducible refine (spec_AddrOk.calls a0_2 a0_3 false _ A22.out).mono ?_); rintro e w35 ⟨rfl, hb⟩; have n_ := aN2_ (blk_below (qg BK487) hb) (bT_ (qB HB) hb); clear BK487 HB; obtain ⟨BK487, HB⟩ := n_)); try go_wp2_with (first | ((with_reducible refine gD_ 3 ?_); refine bxB 3 30 #[.int .i64 a0_0, .int .i64 a0_1, .int .i64 a0_2, .int .i64 a0_3] (qB HB) ?_; clear HB; intro gb487 w33 HB BK487 GW487; have GE487 := GW487; have hC34 := cf4 BK487.out) | (go_at_call 74; (with_reducible refine (spec_AddrOk.calls a0_2 a0_3 false _ A22.out).mono ?_); rintro e w35 ⟨rfl, hb⟩; have n_ := aN2_ (blk_below (qg BK487) hb) (bT_ (qB HB) hb); clear BK487 HB; obtain ⟨BK487, HB⟩ := n_)))
     go_ret
     exact ⟨qE, qB HB⟩
   subst c23
   rw [if_pos rfl] at H
   by_cases c24 : a0_2 = 1
   rotate_left
   · rw [if_neg c24] at H
     have c24b0 : (a0_2 == 1) = false := beq_eq_false_iff_ne.mpr c24
     have c24b1 : (a0_2 != 1) = true := bne_iff_ne.mpr c24
     obtain rfl := oI_ H
     go_enter Tryz.func41, Tryz.ntmps41
     go_wp2_with (first | ((with_reducible refine gD_ 3 ?_); refine bxB 3 30 #[.int .i64 a0_0, .int .i64 a0_1, .int .i64 a0_2, .int .i64 a0_3] (qB HB) ?_; clear HB; intro gb487 w29 HB BK487 GW487; have GE487 := GW487; have hC30 := cf4 BK487.out) | (go_at_call 74; (with_reducible refine (spec_AddrOk.calls a0_2 a0_3 true _ A22.out).mono ?_); rintro e w31 ⟨rfl, hb⟩; have n_ := aN2_ (blk_below (qg BK487) hb) (bT_ (qB HB) hb); clear BK487 HB; obtain ⟨BK487, HB⟩ := n_; have hC32 := cf4 BK487.out))
     repeat (go_quiet (first | ((with_reducible refine gD_ 3 ?_); refine bxB 3 30 #[.int .i64 a0_0, .int .i64 a0_1, .int .i64 a0_2, .int .i64 a0_3] (qB HB) ?_; clear HB; intro gb487 w29 HB BK487 GW487; have GE487 := GW487; have hC30 := cf4 BK487.out) | (go_at_call 74; (with_reducible refine (spec_AddrOk.calls a0_2 a0_3 true _ A22.out).mono ?_); rintro e w31 ⟨rfl, hb⟩; have n_ := aN2_ (blk_below (qg BK487) hb) (bT_ (qB HB) hb); clear BK487 HB; obtain ⟨BK487, HB⟩ := n_; have hC32 := cf4 BK487.out)); try go_wp2_with (first | ((with_reducible refine gD_ 3 ?_); refine bxB 3 30 #[.int .i64 a0_0, .int .i64 a0_1, .int .i64 a0_2, .int .i64 a0_3] (qB HB) ?_; clear HB; intro gb487 w29 HB BK487 GW487; have GE487 := GW487; have hC30 := cf4 BK487.out) | (go_at_call 74; (with_reducible refine (spec_AddrOk.calls a0_2 a0_3 true _ A22.out).mono ?_); rintro e w31 ⟨rfl, hb⟩; have n_ := aN2_ (blk_below (qg BK487) hb) (bT_ (qB HB) hb); clear BK487 HB; obtain ⟨BK487, HB⟩ := n_; have hC32 := cf4 BK487.out)))
     go_ret
     exact ⟨qE, qB HB⟩
   rw [if_pos c24] at H
   have c24b0 : (a0_2 == 1) = true := beq_iff_eq.mpr c24
   have c24b1 : (a0_2 != 1) = false := bne_eq_false_iff_eq.mpr c24
   clear c24
   obtain rfl := oI_ H
   go_enter Tryz.func41, Tryz.ntmps41
   go_wp2_with (first | ((with_reducible refine gD_ 3 ?_); refine bxB 3 30 #[.int .i64 a0_0, .int .i64 a0_1, .int .i64 a0_2, .int .i64 a0_3] (qB HB) ?_; clear HB; intro gb487 w25 HB BK487 GW487; have GE487 := GW487; have hC26 := cf4 BK487.out) | (go_at_call 74; (with_reducible refine (spec_AddrOk.calls a0_2 a0_3 true _ A22.out).mono ?_); rintro e w27 ⟨rfl, hb⟩; have n_ := aN2_ (blk_below (qg BK487) hb) (bT_ (qB HB) hb); clear BK487 HB; obtain ⟨BK487, HB⟩ := n_; have hC28 := cf4 BK487.out))
   repeat (go_quiet (first | ((with_reducible refine gD_ 3 ?_); refine bxB 3 30 #[.int .i64 a0_0, .int .i64 a0_1, .int .i64 a0_2, .int .i64 a0_3] (qB HB) ?_; clear HB; intro gb487 w25 HB BK487 GW487; have GE487 := GW487; have hC26 := cf4 BK487.out) | (go_at_call 74; (with_reducible refine (spec_AddrOk.calls a0_2 a0_3 true _ A22.out).mono ?_); rintro e w27 ⟨rfl, hb⟩; have n_ := aN2_ (blk_below (qg BK487) hb) (bT_ (qB HB) hb); clear BK487 HB; obtain ⟨BK487, HB⟩ := n_; have hC28 := cf4 BK487.out)); try go_wp2_with (first | ((with_reducible refine gD_ 3 ?_); refine bxB 3 30 #[.int .i64 a0_0, .int .i64 a0_1, .int .i64 a0_2, .int .i64 a0_3] (qB HB) ?_; clear HB; intro gb487 w25 HB BK487 GW487; have GE487 := GW487; have hC26 := cf4 BK487.out) | (go_at_call 74; (with_reducible refine (spec_AddrOk.calls a0_2 a0_3 true _ A22.out).mono ?_); rintro e w27 ⟨rfl, hb⟩; have n_ := aN2_ (blk_below (qg BK487) hb) (bT_ (qB HB) hb); clear BK487 HB; obtain ⟨BK487, HB⟩ := n_; have hC28 := cf4 BK487.out)))
   go_ret
   exact ⟨qE, qB HB⟩
 rw [if_neg c21] at H
 have c21b0 : (a0_0 == 3) = false := beq_eq_false_iff_ne.mpr c21
 have c21b1 : (a0_0 != 3) = true := bne_iff_ne.mpr c21
 by_cases c36 : a0_0 = 4
 · rw [if_pos c36] at H
   have c36b0 : (a0_0 == 4) = true := beq_iff_eq.mpr c36
   have c36b1 : (a0_0 != 4) = false := bne_eq_false_iff_eq.mpr c36
   clear c36
   by_cases c37 : (a0_2 == 0 && (a0_3 == 0)) = true
   rotate_left
   · rw [if_neg c37] at H
     have c37b0 : (a0_2 == 0 && (a0_3 == 0)) = false := by simpa using c37
     (try (have c37b1 : decide (a0_2 = 0 && (a0_3 == 0)) = false := by simpa using c37))
     (try (have c37b2 : (a0_2 == 0 && (a0_3 == 0)) = false := by simpa using c37))
     (try (have c37b3 : ¬ (a0_2 = 0 && (a0_3 == 0)) := by simpa using c37))
     clear c37
     obtain rfl := oI_ H
     go_enter Tryz.func41, Tryz.ntmps41
     go_wp2_with (first | ((with_reducible refine gD_ 3 ?_); refine bxB 3 30 #[.int .i64 a0_0, .int .i64 a0_1, .int .i64 a0_2, .int .i64 a0_3] (qB HB) ?_; clear HB; intro gb487 w43 HB BK487 GW487; have GE487 := GW487; have hC44 := cf4 BK487.out))
     repeat (go_quiet (first | ((with_reducible refine gD_ 3 ?_); refine bxB 3 30 #[.int .i64 a0_0, .int .i64 a0_1, .int .i64 a0_2, .int .i64 a0_3] (qB HB) ?_; clear HB; intro gb487 w43 HB BK487 GW487; have GE487 := GW487; have hC44 := cf4 BK487.out)); try go_wp2_with (first | ((with_reducible refine gD_ 3 ?_); refine bxB 3 30 #[.int .i64 a0_0, .int .i64 a0_1, .int .i64 a0_2, .int .i64 a0_3] (qB HB) ?_; clear HB; intro gb487 w43 HB BK487 GW487; have GE487 := GW487; have hC44 := cf4 BK487.out)))
     go_ret
     exact ⟨qE, qB HB⟩
   rw [if_pos c37] at H
   have c37b0 : (a0_2 == 0 && (a0_3 == 0)) = true := c37
   (try (have c37b1 : decide (a0_2 = 0 && (a0_3 == 0)) = true := by simpa using c37))
   (try (have c37b2 : (a0_2 == 0 && (a0_3 == 0)) = true := by simpa using c37))
   clear c37
   by_cases c38 : a0_1 ≥ 3
   · rw [if_pos c38] at H
     have c38b0 : decide (3 ≤ a0_1) = true := dT_ c38
     clear c38
     obtain rfl := oI_ H
     go_enter Tryz.func41, Tryz.ntmps41
     go_wp2_with (first | ((with_reducible refine gD_ 3 ?_); refine bxB 3 30 #[.int .i64 a0_0, .int .i64 a0_1, .int .i64 a0_2, .int .i64 a0_3] (qB HB) ?_; clear HB; intro gb487 w39 HB BK487 GW487; have GE487 := GW487; have hC40 := cf4 BK487.out))
     repeat (go_quiet (first | ((with_reducible refine gD_ 3 ?_); refine bxB 3 30 #[.int .i64 a0_0, .int .i64 a0_1, .int .i64 a0_2, .int .i64 a0_3] (qB HB) ?_; clear HB; intro gb487 w39 HB BK487 GW487; have GE487 := GW487; have hC40 := cf4 BK487.out)); try go_wp2_with (first | ((with_reducible refine gD_ 3 ?_); refine bxB 3 30 #[.int .i64 a0_0, .int .i64 a0_1, .int .i64 a0_2, .int .i64 a0_3] (qB HB) ?_; clear HB; intro gb487 w39 HB BK487 GW487; have GE487 := GW487; have hC40 := cf4 BK487.out)))
     go_ret
     exact ⟨qE, qB HB⟩
   rw [if_neg c38] at H
   have c38b0 : decide (3 ≤ a0_1) = false := dF_ c38
   clear c38
   obtain rfl := oI_ H
   go_enter Tryz.func41, Tryz.ntmps41
   go_wp2_with (first | ((with_reducible refine gD_ 3 ?_); refine bxB 3 30 #[.int .i64 a0_0, .int .i64 a0_1, .int .i64 a0_2, .int .i64 a0_3] (qB HB) ?_; clear HB; intro gb487 w41 HB BK487 GW487; have GE487 := GW487; have hC42 := cf4 BK487.out))
   repeat (go_quiet (first | ((with_reducible refine gD_ 3 ?_); refine bxB 3 30 #[.int .i64 a0_0, .int .i64 a0_1, .int .i64 a0_2, .int .i64 a0_3] (qB HB) ?_; clear HB; intro gb487 w41 HB BK487 GW487; have GE487 := GW487; have hC42 := cf4 BK487.out)); try go_wp2_with (first | ((with_reducible refine gD_ 3 ?_); refine bxB 3 30 #[.int .i64 a0_0, .int .i64 a0_1, .int .i64 a0_2, .int .i64 a0_3] (qB HB) ?_; clear HB; intro gb487 w41 HB BK487 GW487; have GE487 := GW487; have hC42 := cf4 BK487.out)))
   go_ret
   exact ⟨qE, qB HB⟩
 rw [if_neg c36] at H
 have c36b0 : (a0_0 == 4) = false := beq_eq_false_iff_ne.mpr c36
 have c36b1 : (a0_0 != 4) = true := bne_iff_ne.mpr c36
 by_cases c45 : a0_0 = 5
 · rw [if_pos c45] at H
   have c45b0 : (a0_0 == 5) = true := beq_iff_eq.mpr c45
   have c45b1 : (a0_0 != 5) = false := bne_eq_false_iff_eq.mpr c45
   clear c45
   by_cases c46 : (a0_2 == 0 && (a0_3 == 0)) = true
   · rw [if_pos c46] at H
     have c46b0 : (a0_2 == 0 && (a0_3 == 0)) = true := c46
     (try (have c46b1 : decide (a0_2 = 0 && (a0_3 == 0)) = true := by simpa using c46))
     (try (have c46b2 : (a0_2 == 0 && (a0_3 == 0)) = true := by simpa using c46))
     clear c46
     obtain rfl := oI_ H
     go_enter Tryz.func41, Tryz.ntmps41
     go_wp2_with (first | ((with_reducible refine gD_ 3 ?_); refine bxB 3 30 #[.int .i64 a0_0, .int .i64 a0_1, .int .i64 a0_2, .int .i64 a0_3] (qB HB) ?_; clear HB; intro gb487 w47 HB BK487 GW487; have GE487 := GW487; have hC48 := cf4 BK487.out))
     repeat (go_quiet (first | ((with_reducible refine gD_ 3 ?_); refine bxB 3 30 #[.int .i64 a0_0, .int .i64 a0_1, .int .i64 a0_2, .int .i64 a0_3] (qB HB) ?_; clear HB; intro gb487 w47 HB BK487 GW487; have GE487 := GW487; have hC48 := cf4 BK487.out)); try go_wp2_with (first | ((with_reducible refine gD_ 3 ?_); refine bxB 3 30 #[.int .i64 a0_0, .int .i64 a0_1, .int .i64 a0_2, .int .i64 a0_3] (qB HB) ?_; clear HB; intro gb487 w47 HB BK487 GW487; have GE487 := GW487; have hC48 := cf4 BK487.out)))
     go_ret
     exact ⟨qE, qB HB⟩
   rw [if_neg c46] at H
   have c46b0 : (a0_2 == 0 && (a0_3 == 0)) = false := by simpa using c46
   (try (have c46b1 : decide (a0_2 = 0 && (a0_3 == 0)) = false := by simpa using c46))
   (try (have c46b2 : (a0_2 == 0 && (a0_3 == 0)) = false := by simpa using c46))
   (try (have c46b3 : ¬ (a0_2 = 0 && (a0_3 == 0)) := by simpa using c46))
   clear c46
   obtain rfl := oI_ H
   go_enter Tryz.func41, Tryz.ntmps41
   go_wp2_with (first | ((with_reducible refine gD_ 3 ?_); refine bxB 3 30 #[.int .i64 a0_0, .int .i64 a0_1, .int .i64 a0_2, .int .i64 a0_3] (qB HB) ?_; clear HB; intro gb487 w49 HB BK487 GW487; have GE487 := GW487; have hC50 := cf4 BK487.out))
   repeat (go_quiet (first | ((with_reducible refine gD_ 3 ?_); refine bxB 3 30 #[.int .i64 a0_0, .int .i64 a0_1, .int .i64 a0_2, .int .i64 a0_3] (qB HB) ?_; clear HB; intro gb487 w49 HB BK487 GW487; have GE487 := GW487; have hC50 := cf4 BK487.out)); try go_wp2_with (first | ((with_reducible refine gD_ 3 ?_); refine bxB 3 30 #[.int .i64 a0_0, .int .i64 a0_1, .int .i64 a0_2, .int .i64 a0_3] (qB HB) ?_; clear HB; intro gb487 w49 HB BK487 GW487; have GE487 := GW487; have hC50 := cf4 BK487.out)))
   go_ret
   exact ⟨qE, qB HB⟩
 rw [if_neg c45] at H
 have c45b0 : (a0_0 == 5) = false := beq_eq_false_iff_ne.mpr c45
 have c45b1 : (a0_0 != 5) = true := bne_iff_ne.mpr c45
 have HC51 := aM_ H
 clear H
 go_enter Tryz.func41, Tryz.ntmps41
 go_upto_if 72 with (first | ((with_reducible refine gD_ 3 ?_); refine bxB 3 30 #[.int .i64 a0_0, .int .i64 a0_1, .int .i64 a0_2, .int .i64 a0_3] (qB HB) ?_; clear HB; intro gb487 w52 HB BK487 GW487; have GE487 := GW487; have hC53 := cf4 BK487.out))
 repeat (go_quiet (first | ((with_reducible refine gD_ 3 ?_); refine bxB 3 30 #[.int .i64 a0_0, .int .i64 a0_1, .int .i64 a0_2, .int .i64 a0_3] (qB HB) ?_; clear HB; intro gb487 w52 HB BK487 GW487; have GE487 := GW487; have hC53 := cf4 BK487.out)); go_upto_if 72 with (first | ((with_reducible refine gD_ 3 ?_); refine bxB 3 30 #[.int .i64 a0_0, .int .i64 a0_1, .int .i64 a0_2, .int .i64 a0_3] (qB HB) ?_; clear HB; intro gb487 w52 HB BK487 GW487; have GE487 := GW487; have hC53 := cf4 BK487.out)))
 (try simp only [Act.put, sA_, sB_, sC_])
 go_cut [72] (fun v72 wc => ∃ (kq : Nat) (x72_50 : Bool), v72 = .bool x72_50 ∧ Aside0 (spec_l5Ins.j0 kq a1 a2 (a0_2 == 0 && (a0_3 == 0)) a0_0 x72_50 a0_0 a0_1 a0_2 a0_3 = some r) ∧ Aside0 (kq ≤ k) ∧ Aside0 (wc.heap[gb487]? = some (.cells #[.int .i64 a0_0, .int .i64 a0_1, .int .i64 a0_2, .int .i64 a0_3] 30 (0, 0))) ∧ Aside0 (Below w.heap.size w wc))
 case first =>
  have H := HC51.out
  clear HC51
  by_cases c54 : a0_0 = 6
  rotate_left
  · rw [if_neg c54] at H
    have c54b0 : (a0_0 == 6) = false := beq_eq_false_iff_ne.mpr c54
    have c54b1 : (a0_0 != 6) = true := bne_iff_ne.mpr c54
    (first | rw [c54b0] | (simp only [i64_w, i32_w]; rw [c54b0]) | skip)
    have H' := aM_ H
    clear H
    go_wp2
    repeat (go_quiet (fail); try go_wp2)
    go_meet
    case rel => exact ⟨_, ((a0_0 == 7)), qF, H', ⟨by first | omega | exact Nat.le_refl _⟩, ⟨qg BK487⟩, ⟨qB HB⟩⟩
  rw [if_pos c54] at H
  have c54b0 : (a0_0 == 6) = true := beq_iff_eq.mpr c54
  have c54b1 : (a0_0 != 6) = false := bne_eq_false_iff_eq.mpr c54
  clear c54
  (first | rw [c54b0] | (simp only [i64_w, i32_w]; rw [c54b0]) | skip)
  have H' := aM_ H
  clear H
  go_wp2
  repeat (go_quiet (fail); try go_wp2)
  go_meet
  case rel => exact ⟨_, ((a0_0 == 6)), qF, H', ⟨by first | omega | exact Nat.le_refl _⟩, ⟨qg BK487⟩, ⟨qB HB⟩⟩
 case rest =>
  clear HC51
  obtain ⟨kq, x72_50, rfl, HA, HJ50, BK487, HB⟩ := hcut
  cases kq with
  | zero => exact absurd HA.out (by simp [spec_l5Ins.j0])
  | succ kj50 =>
   have H := HA.out
   clear HA
   simp only [spec_l5Ins.j0] at H
   by_cases c55 : x72_50 = true
   · subst c55
     rw [if_pos rfl] at H
     by_cases c56 : (a0_2 == 0 && (a0_3 == 0)) = true
     rotate_left
     · rw [if_neg c56] at H
       have c56b0 : (a0_2 == 0 && (a0_3 == 0)) = false := by simpa using c56
       (try (have c56b1 : decide (a0_2 = 0 && (a0_3 == 0)) = false := by simpa using c56))
       (try (have c56b2 : (a0_2 == 0 && (a0_3 == 0)) = false := by simpa using c56))
       (try (have c56b3 : ¬ (a0_2 = 0 && (a0_3 == 0)) := by simpa using c56))
       clear c56
       obtain rfl := oI_ H
       go_wp2
       repeat (go_quiet (fail); try go_wp2)
       go_ret
       exact ⟨qE, qB HB⟩
     rw [if_pos c56] at H
     have c56b0 : (a0_2 == 0 && (a0_3 == 0)) = true := c56
     (try (have c56b1 : decide (a0_2 = 0 && (a0_3 == 0)) = true := by simpa using c56))
     (try (have c56b2 : (a0_2 == 0 && (a0_3 == 0)) = true := by simpa using c56))
     clear c56
     by_cases c57 : a0_1 > a1
     · rw [if_pos c57] at H
       have c57b0 : decide (a1 < a0_1) = true := dT_ c57
       clear c57
       obtain rfl := oI_ H
       have hC58 := cf4 BK487.out
       go_wp2
       repeat (go_quiet (fail); try go_wp2)
       go_ret
       exact ⟨qE, qB HB⟩
     rw [if_neg c57] at H
     have c57b0 : decide (a1 < a0_1) = false := dF_ c57
     clear c57
     obtain rfl := oI_ H
     have hC59 := cf4 BK487.out
     go_wp2
     repeat (go_quiet (fail); try go_wp2)
     go_ret
     exact ⟨qE, qB HB⟩
   replace c55 := Bool.eq_false_iff.mpr c55
   subst c55
   rw [if_neg (show ¬ (false = true) by decide)] at H
   by_cases c60 : a0_0 = 8
   rotate_left
   · rw [if_neg c60] at H
     have c60b0 : (a0_0 == 8) = false := beq_eq_false_iff_ne.mpr c60
     have c60b1 : (a0_0 != 8) = true := bne_iff_ne.mpr c60
     obtain rfl := oI_ H
     go_wp2
     repeat (go_quiet (fail); try go_wp2)
     go_ret
     exact ⟨qE, qB HB⟩
   rw [if_pos c60] at H
   have c60b0 : (a0_0 == 8) = true := beq_iff_eq.mpr c60
   have c60b1 : (a0_0 != 8) = false := bne_eq_false_iff_eq.mpr c60
   clear c60
   by_cases c61 : (a0_2 == 0 && (a0_3 == 0)) = true
   rotate_left
   · rw [if_neg c61] at H
     have c61b0 : (a0_2 == 0 && (a0_3 == 0)) = false := by simpa using c61
     (try (have c61b1 : decide (a0_2 = 0 && (a0_3 == 0)) = false := by simpa using c61))
     (try (have c61b2 : (a0_2 == 0 && (a0_3 == 0)) = false := by simpa using c61))
     (try (have c61b3 : ¬ (a0_2 = 0 && (a0_3 == 0)) := by simpa using c61))
     clear c61
     obtain rfl := oI_ H
     go_wp2
     repeat (go_quiet (fail); try go_wp2)
     go_ret
     exact ⟨qE, qB HB⟩
   rw [if_pos c61] at H
   have c61b0 : (a0_2 == 0 && (a0_3 == 0)) = true := c61
   (try (have c61b1 : decide (a0_2 = 0 && (a0_3 == 0)) = true := by simpa using c61))
   (try (have c61b2 : (a0_2 == 0 && (a0_3 == 0)) = true := by simpa using c61))
   clear c61
   by_cases c62 : a0_1 ≥ 0
   · rw [if_pos c62] at H
     have c62b0 : decide (0 ≤ a0_1) = true := dT_ c62
     clear c62
     obtain rfl := oI_ H
     have hC63 := cf4 BK487.out
     go_wp2
     repeat (go_quiet (fail); try go_wp2)
     go_ret
     exact ⟨qE, qB HB⟩
   rw [if_neg c62] at H
   have c62b0 : decide (0 ≤ a0_1) = false := dF_ c62
   clear c62
   obtain rfl := oI_ H
   have hC64 := cf4 BK487.out
   go_wp2
   repeat (go_quiet (fail); try go_wp2)
   go_ret
   exact ⟨qE, qB HB⟩
mutual
def spec_l5Turn.j0 : Nat → Int → Bool → Option (Int × Int)
  | 0, _, _ => none
  | k + 1, x5, x6 => if x6 = true then (some (1, 0)) else (if x5 = 3 then (spec_l5Turn.j1 k x5 (x5 == 3)) else (spec_l5Turn.j1 k x5 (x5 == 6)))
def spec_l5Turn.j1 : Nat → Int → Bool → Option (Int × Int)
  | 0, _, _ => none
  | k + 1, x5, x9 => if x9 = true then (some ((-1), 1)) else (if x5 = 4 then (some ((-1), 2)) else (if x5 = 5 then (some (0, 1)) else (some (0, 0))))
end
def spec_l5Turn.f (k : Nat) (a0_0 : Int) (a0_1 : Int) (a0_2 : Int) (a0_3 : Int) : Option (Int × Int) := if a0_0 = 1 then (spec_l5Turn.j0 k a0_0 (a0_0 == 1)) else (spec_l5Turn.j0 k a0_0 (a0_0 == 2))
set_option maxHeartbeats 8000000 in
set_option maxRecDepth 100000 in
theorem spec_l5Turn.calls (k : Nat) (a0_0 : Int) (a0_1 : Int) (a0_2 : Int) (a0_3 : Int) (r1 : Int) (r2 : Int) (w : World) (h : spec_l5Turn.f k a0_0 a0_1 a0_2 a0_3 = some (r1, r2)) :
    Calls Tryz.prog 75 #[.agg #[.int .i64 a0_0, .int .i64 a0_1, .int .i64 a0_2, .int .i64 a0_3]] w fun e w' => e = .returned (.tuple #[.int .i64 r1, .int .i64 r2]) ∧ Below w.heap.size w w' := by
 have hu30 := Tryz.underlying30
 have HB := aM_ (Below.refl w.heap.size w)
 have H : (if a0_0 = 1 then (spec_l5Turn.j0 k a0_0 (a0_0 == 1)) else (spec_l5Turn.j0 k a0_0 (a0_0 == 2))) = some (r1, r2) := h
 clear h
 have HC2 := aM_ H
 clear H
 go_enter Tryz.func75, Tryz.ntmps75
 go_upto_if 6 with (first | ((with_reducible refine gD_ 1 ?_); refine bxB 1 30 #[.int .i64 a0_0, .int .i64 a0_1, .int .i64 a0_2, .int .i64 a0_3] (qB HB) ?_; clear HB; intro gb491 w3 HB BK491 GW491; have GE491 := GW491; have hC4 := cf4 BK491.out))
 (try simp only [Act.put, sA_, sB_, sC_])
 go_cut [6] (fun v6 wc => ∃ (kq : Nat) (x6_1 : Bool), v6 = .bool x6_1 ∧ Aside0 (spec_l5Turn.j0 kq a0_0 x6_1 = some (r1, r2)) ∧ Aside0 (kq ≤ k) ∧ Aside0 (wc.heap[gb491]? = some (.cells #[.int .i64 a0_0, .int .i64 a0_1, .int .i64 a0_2, .int .i64 a0_3] 30 (0, 0))) ∧ Aside0 (Below w.heap.size w wc))
 case first =>
  have H := HC2.out
  clear HC2
  by_cases c5 : a0_0 = 1
  rotate_left
  · rw [if_neg c5] at H
    have c5b0 : (a0_0 == 1) = false := beq_eq_false_iff_ne.mpr c5
    have c5b1 : (a0_0 != 1) = true := bne_iff_ne.mpr c5
    (first | rw [c5b0] | (simp only [i64_w, i32_w]; rw [c5b0]) | skip)
    have H' := aM_ H
    clear H
    go_wp2
    go_meet
    case rel => exact ⟨_, ((a0_0 == 2)), qF, H', ⟨by first | omega | exact Nat.le_refl _⟩, ⟨qg BK491⟩, ⟨qB HB⟩⟩
  rw [if_pos c5] at H
  have c5b0 : (a0_0 == 1) = true := beq_iff_eq.mpr c5
  have c5b1 : (a0_0 != 1) = false := bne_eq_false_iff_eq.mpr c5
  clear c5
  (first | rw [c5b0] | (simp only [i64_w, i32_w]; rw [c5b0]) | skip)
  have H' := aM_ H
  clear H
  go_wp2
  go_meet
  case rel => exact ⟨_, ((a0_0 == 1)), qF, H', ⟨by first | omega | exact Nat.le_refl _⟩, ⟨qg BK491⟩, ⟨qB HB⟩⟩
 case rest =>
  clear HC2
  obtain ⟨kq, x6_1, rfl, HA, HJ1, BK491, HB⟩ := hcut
  cases kq with
  | zero => exact absurd HA.out (by simp [spec_l5Turn.j0])
  | succ kj1 =>
   have H := HA.out
   clear HA
   simp only [spec_l5Turn.j0] at H
   by_cases c6 : x6_1 = true
   · subst c6
     rw [if_pos rfl] at H
     simp only [Option.some.injEq, Prod.mk.injEq] at H
     obtain ⟨rfl, rfl⟩ := H
     go_wp2
     go_ret2
     exact ⟨qE, qB HB⟩
   replace c6 := Bool.eq_false_iff.mpr c6
   subst c6
   rw [if_neg (show ¬ (false = true) by decide)] at H
   have HC7 := aM_ H
   clear H
   go_upto_if 9 with (fail)
   go_cut [9] (fun v9 wc => ∃ (kq : Nat) (x9_6 : Bool), v9 = .bool x9_6 ∧ Aside0 (spec_l5Turn.j1 kq a0_0 x9_6 = some (r1, r2)) ∧ Aside0 (kq ≤ kj1) ∧ Aside0 (wc.heap[gb491]? = some (.cells #[.int .i64 a0_0, .int .i64 a0_1, .int .i64 a0_2, .int .i64 a0_3] 30 (0, 0))) ∧ Aside0 (Below w.heap.size w wc))
   case first =>
    have H := HC7.out
    clear HC7
    by_cases c8 : a0_0 = 3
    rotate_left
    · rw [if_neg c8] at H
      have c8b0 : (a0_0 == 3) = false := beq_eq_false_iff_ne.mpr c8
      have c8b1 : (a0_0 != 3) = true := bne_iff_ne.mpr c8
      (first | rw [c8b0] | (simp only [i64_w, i32_w]; rw [c8b0]) | skip)
      have H' := aM_ H
      clear H
      go_wp2
      go_meet
      case rel => exact ⟨_, ((a0_0 == 6)), qF, H', ⟨by have := HJ1.out; first | omega | exact Nat.le_refl _⟩, ⟨qg BK491⟩, ⟨qB HB⟩⟩
    rw [if_pos c8] at H
    have c8b0 : (a0_0 == 3) = true := beq_iff_eq.mpr c8
    have c8b1 : (a0_0 != 3) = false := bne_eq_false_iff_eq.mpr c8
    clear c8
    (first | rw [c8b0] | (simp only [i64_w, i32_w]; rw [c8b0]) | skip)
    have H' := aM_ H
    clear H
    go_wp2
    go_meet
    case rel => exact ⟨_, ((a0_0 == 3)), qF, H', ⟨by have := HJ1.out; first | omega | exact Nat.le_refl _⟩, ⟨qg BK491⟩, ⟨qB HB⟩⟩
   case rest =>
    clear HC7
    obtain ⟨kq, x9_6, rfl, HA, HJ6, BK491, HB⟩ := hcut
    cases kq with
    | zero => exact absurd HA.out (by simp [spec_l5Turn.j1])
    | succ kj6 =>
     have H := HA.out
     clear HA
     simp only [spec_l5Turn.j1] at H
     by_cases c9 : x9_6 = true
     · subst c9
       rw [if_pos rfl] at H
       simp only [Option.some.injEq, Prod.mk.injEq] at H
       obtain ⟨rfl, rfl⟩ := H
       go_wp2
       go_ret2
       exact ⟨qE, qB HB⟩
     replace c9 := Bool.eq_false_iff.mpr c9
     subst c9
     rw [if_neg (show ¬ (false = true) by decide)] at H
     by_cases c10 : a0_0 = 4
     · rw [if_pos c10] at H
       have c10b0 : (a0_0 == 4) = true := beq_iff_eq.mpr c10
       have c10b1 : (a0_0 != 4) = false := bne_eq_false_iff_eq.mpr c10
       clear c10
       simp only [Option.some.injEq, Prod.mk.injEq] at H
       obtain ⟨rfl, rfl⟩ := H
       go_wp2
       go_ret2
       exact ⟨qE, qB HB⟩
     rw [if_neg c10] at H
     have c10b0 : (a0_0 == 4) = false := beq_eq_false_iff_ne.mpr c10
     have c10b1 : (a0_0 != 4) = true := bne_iff_ne.mpr c10
     by_cases c11 : a0_0 = 5
     rotate_left
     · rw [if_neg c11] at H
       have c11b0 : (a0_0 == 5) = false := beq_eq_false_iff_ne.mpr c11
       have c11b1 : (a0_0 != 5) = true := bne_iff_ne.mpr c11
       simp only [Option.some.injEq, Prod.mk.injEq] at H
       obtain ⟨rfl, rfl⟩ := H
       go_wp2
       go_ret2
       exact ⟨qE, qB HB⟩
     rw [if_pos c11] at H
     have c11b0 : (a0_0 == 5) = true := beq_iff_eq.mpr c11
     have c11b1 : (a0_0 != 5) = false := bne_eq_false_iff_eq.mpr c11
     clear c11
     simp only [Option.some.injEq, Prod.mk.injEq] at H
     obtain ⟨rfl, rfl⟩ := H
     go_wp2
     go_ret2
     exact ⟨qE, qB HB⟩
def spec_l5Jumps.f (a0_0 : Int) (a0_1 : Int) (a0_2 : Int) (a0_3 : Int) : Option (Bool) := if a0_0 = 6 then (some true) else (if a0_0 = 7 then (some true) else (some (a0_0 == 8)))
set_option maxHeartbeats 8000000 in
set_option maxRecDepth 100000 in
theorem spec_l5Jumps.calls (a0_0 : Int) (a0_1 : Int) (a0_2 : Int) (a0_3 : Int) (r : Bool) (w : World) (h : spec_l5Jumps.f a0_0 a0_1 a0_2 a0_3 = some r) :
    Calls Tryz.prog 76 #[.agg #[.int .i64 a0_0, .int .i64 a0_1, .int .i64 a0_2, .int .i64 a0_3]] w fun e w' => e = .returned (.bool r) ∧ Below w.heap.size w w' := by
 have hu30 := Tryz.underlying30
 have HB := aM_ (Below.refl w.heap.size w)
 have H : (if a0_0 = 6 then (some true) else (if a0_0 = 7 then (some true) else (some (a0_0 == 8)))) = some r := h
 clear h
 by_cases c2 : a0_0 = 6
 · rw [if_pos c2] at H
   have c2b0 : (a0_0 == 6) = true := beq_iff_eq.mpr c2
   have c2b1 : (a0_0 != 6) = false := bne_eq_false_iff_eq.mpr c2
   clear c2
   obtain rfl := oI_ H
   go_enter Tryz.func76, Tryz.ntmps76
   go_wp2_with (first | ((with_reducible refine gD_ 1 ?_); refine bxB 1 30 #[.int .i64 a0_0, .int .i64 a0_1, .int .i64 a0_2, .int .i64 a0_3] (qB HB) ?_; clear HB; intro gb492 w3 HB BK492 GW492; have GE492 := GW492; have hC4 := cf4 BK492.out))
   go_ret
   exact ⟨qE, qB HB⟩
 rw [if_neg c2] at H
 have c2b0 : (a0_0 == 6) = false := beq_eq_false_iff_ne.mpr c2
 have c2b1 : (a0_0 != 6) = true := bne_iff_ne.mpr c2
 by_cases c5 : a0_0 = 7
 rotate_left
 · rw [if_neg c5] at H
   have c5b0 : (a0_0 == 7) = false := beq_eq_false_iff_ne.mpr c5
   have c5b1 : (a0_0 != 7) = true := bne_iff_ne.mpr c5
   obtain rfl := oI_ H
   go_enter Tryz.func76, Tryz.ntmps76
   go_wp2_with (first | ((with_reducible refine gD_ 1 ?_); refine bxB 1 30 #[.int .i64 a0_0, .int .i64 a0_1, .int .i64 a0_2, .int .i64 a0_3] (qB HB) ?_; clear HB; intro gb492 w8 HB BK492 GW492; have GE492 := GW492; have hC9 := cf4 BK492.out))
   go_ret
   exact ⟨qE, qB HB⟩
 rw [if_pos c5] at H
 have c5b0 : (a0_0 == 7) = true := beq_iff_eq.mpr c5
 have c5b1 : (a0_0 != 7) = false := bne_eq_false_iff_eq.mpr c5
 clear c5
 obtain rfl := oI_ H
 go_enter Tryz.func76, Tryz.ntmps76
 go_wp2_with (first | ((with_reducible refine gD_ 1 ?_); refine bxB 1 30 #[.int .i64 a0_0, .int .i64 a0_1, .int .i64 a0_2, .int .i64 a0_3] (qB HB) ?_; clear HB; intro gb492 w6 HB BK492 GW492; have GE492 := GW492; have hC7 := cf4 BK492.out))
 go_ret
 exact ⟨qE, qB HB⟩
end Go.Proofs.YtjamfddhcigchaaGreatDoor.HFnCodeRun
namespace Go.Proofs.YtjamfddhcigchaaGreatDoor.HFnCodeRun
open Go.RowKit Go.Proofs.YtjamfddhcigchaaGreatDoorW.PrintWords Go.Proofs.YtjamfddhcigchaaGreatDoorW.PrintLast Go.Proofs.YtjamfddhcigchaaGreatDoorW.PrintMore
attribute [local go_sem] max2_int min2_int max_two min_two max_three min_three max_four min_four
set_option linter.unusedVariables false
set_option linter.unusedSimpArgs false
mutual
def spec_l5Depths.l0 : Nat → List (S30) → List Int → Int → Option (List Int)
  | 0, _, _, _ => none
  | k + 1, x0, x3, x4 => if x4 ≤ (x0.length : Int) then (if 0 ≤ x4 then (if x4 < (x3.length : Int) then (spec_l5Depths.l0 k x0 (x3.set (x4 : Int).toNat (-1)) (wrap64 (x4 + 1))) else (none)) else (none)) else (spec_l5Depths.l1 k x0 x3 0)
def spec_l5Depths.l1 : Nat → List (S30) → List Int → Int → Option (List Int)
  | 0, _, _, _ => none
  | k + 1, x0, x3, x5 => if x5 < (x0.length : Int) then (if 0 ≤ x5 then ((spec_l5Turn.f k ((rd_T30 x0 x5).f0) ((rd_T30 x0 x5).f1) ((rd_T30 x0 x5).f2.f0) ((rd_T30 x0 x5).f2.f1)).bind fun bt498 => (if x5 < (x3.length : Int) then (if (rd x3 x5) < bt498.2 then (spec_l5Depths.j2 k x0 x3 x5 bt498.1 true) else (spec_l5Depths.j2 k x0 x3 x5 bt498.1 (decide ((wrap64 ((rd x3 x5) + bt498.1)) > 12)))) else (none))) else (none)) else (some x3)
def spec_l5Depths.j2 : Nat → List (S30) → List Int → Int → Int → Bool → Option (List Int)
  | 0, _, _, _, _, _ => none
  | k + 1, x0, x3, x5, x6, x51 => if x51 = true then (some ([] : List Int)) else (if 0 ≤ x5 then (if x5 < (x3.length : Int) then (if x5 < (x0.length : Int) then ((spec_l5Jumps.f ((rd_T30 x0 x5).f0) ((rd_T30 x0 x5).f1) ((rd_T30 x0 x5).f2.f0) ((rd_T30 x0 x5).f2.f1)).bind fun t504 => (if t504 = true then (spec_l5Depths.j3 k x0 x3 x5 (wrap64 ((rd x3 x5) + x6)) ((rd_T30 x0 x5).f1)) else (spec_l5Depths.j3 k x0 x3 x5 (wrap64 ((rd x3 x5) + x6)) (wrap64 (x5 + 1))))) else (none)) else (none)) else (none))
def spec_l5Depths.j3 : Nat → List (S30) → List Int → Int → Int → Int → Option (List Int)
  | 0, _, _, _, _, _ => none
  | k + 1, x0, x3, x5, x8, x9 => if x9 ≤ x5 then (if 0 ≤ x9 then (if x9 < (x3.length : Int) then (if (rd x3 x9) = x8 then (if x9 > x5 then (if (rd x3 x9) ≥ 0 then (spec_l5Depths.j4 k x0 x3 x5 x8 x9 ((rd x3 x9) != x8)) else (spec_l5Depths.j4 k x0 x3 x5 x8 x9 false)) else (spec_l5Depths.j4 k x0 x3 x5 x8 x9 false)) else (spec_l5Depths.j4 k x0 x3 x5 x8 x9 true)) else (none)) else (none)) else (if x9 > x5 then (if 0 ≤ x9 then (if x9 < (x3.length : Int) then (if (rd x3 x9) ≥ 0 then (spec_l5Depths.j4 k x0 x3 x5 x8 x9 ((rd x3 x9) != x8)) else (spec_l5Depths.j4 k x0 x3 x5 x8 x9 false)) else (none)) else (none)) else (spec_l5Depths.j4 k x0 x3 x5 x8 x9 false))
def spec_l5Depths.j4 : Nat → List (S30) → List Int → Int → Int → Int → Bool → Option (List Int)
  | 0, _, _, _, _, _, _ => none
  | k + 1, x0, x3, x5, x8, x9, x100 => if x100 = true then (some ([] : List Int)) else (if 0 ≤ x9 then (if x9 < (x3.length : Int) then ((some (x3.set (x9 : Int).toNat x8 : List Int)).bind fun y511 => (if 0 ≤ x5 then (if x5 < (x0.length : Int) then (if ((rd_T30 x0 x5).f0) = 7 then (spec_l5Depths.j5 k x0 y511 x5 x8 true) else (spec_l5Depths.j5 k x0 y511 x5 x8 (((rd_T30 x0 x5).f0) == 8))) else (none)) else (none))) else (none)) else (none))
def spec_l5Depths.j5 : Nat → List (S30) → List Int → Int → Int → Bool → Option (List Int)
  | 0, _, _, _, _, _ => none
  | k + 1, x0, x3, x5, x8, x118 => if x118 = true then (spec_l5Depths.l1 k x0 x3 (wrap64 (x5 + 1))) else (if 0 ≤ (wrap64 (x5 + 1)) then (if (wrap64 (x5 + 1)) < (x3.length : Int) then (if (rd x3 (wrap64 (x5 + 1))) ≥ 0 then (if (rd x3 (wrap64 (x5 + 1))) = x8 then (spec_l5Depths.l1 k x0 (x3.set ((wrap64 (x5 + 1)) : Int).toNat x8) (wrap64 (x5 + 1))) else (some ([] : List Int))) else (spec_l5Depths.l1 k x0 (x3.set ((wrap64 (x5 + 1)) : Int).toNat x8) (wrap64 (x5 + 1)))) else (none)) else (none))
end
def spec_l5Depths.f (k : Nat) (l0 : List (S30)) : Option (List Int) := if 0 ≤ (wrap64 ((l0.length : Int) + 1)) then (if (wrap64 ((l0.length : Int) + 1) : Int).toNat ≤ 35184372088832 then (spec_l5Depths.l0 k l0 (List.replicate (wrap64 ((l0.length : Int) + 1) : Int).toNat 0) 1) else (none)) else (none)
set_option maxHeartbeats 8000000 in
set_option maxRecDepth 100000 in
theorem spec_l5Depths.calls (k : Nat) (A0 : Option Addr) (c0 : Nat) (l0 : List (S30)) (r : List Int) (w : World) (hr0 : Kd.C k30 w A0 l0.length l0) (hc0 : l0.length ≤ c0) (h : spec_l5Depths.f k l0 = some r) :
    Calls Tryz.prog 42 #[.slice A0 l0.length c0] w fun e w' => ∃ v0_ : Value, e = .returned (v0_) ∧ Kd.R (Kd.int .i64) 3 w' w.heap.size (fun _ => True) v0_ r ∧ Below w.heap.size w w' := by
 have hu30 := Tryz.underlying30
 have HR0 := aM_ hr0
 have HC0 := aM_ hc0
 clear hr0 hc0
 have HB := aM_ (Below.refl w.heap.size w)
 have H : (if 0 ≤ (wrap64 ((l0.length : Int) + 1)) then (if (wrap64 ((l0.length : Int) + 1) : Int).toNat ≤ 35184372088832 then (spec_l5Depths.l0 k l0 (List.replicate (wrap64 ((l0.length : Int) + 1) : Int).toNat 0) 1) else (none)) else (none)) = some r := h
 clear h
 obtain ⟨ji2, hji2⟩ : ∃ j_ : Int, (wrap64 ((l0.length : Int) + 1)) = j_ := ⟨_, rfl⟩
 replace H : (if 0 ≤ (ji2) then (if (ji2 : Int).toNat ≤ 35184372088832 then (spec_l5Depths.l0 k l0 (List.replicate (ji2 : Int).toNat 0) 1) else (none)) else (none)) = some r := by first | (rw [hji2] at H; exact H) | (simp only [hji2] at H ⊢; exact H)
 have hji2w : (IntKind.i64.wrap ((l0.length : Int) + 1)) = ji2 := (i64_w _).trans hji2
 by_cases c3 : 0 ≤ (ji2)
 rotate_left
 · rw [if_neg c3] at H
   exact absurd H (by simp)
 rw [if_pos c3] at H
 have c3b0 := eq_true c3
 have c3b1 : decide (0 ≤ (ji2)) = true := dT_ c3
 clear c3
 by_cases c4 : (ji2 : Int).toNat ≤ 35184372088832
 rotate_left
 · rw [if_neg c4] at H
   exact absurd H (by simp)
 rw [if_pos c4] at H
 have c4b0 := eq_true c4
 have c4b1 : decide ((ji2 : Int).toNat ≤ 35184372088832) = true := dT_ c4
 clear c4
 obtain ⟨y493, hy493⟩ : ∃ y_ : List Int, y_ = (List.replicate (ji2 : Int).toNat 0) := ⟨_, rfl⟩
 replace H : (spec_l5Depths.l0 k l0 y493 1) = some r := by subst hy493; exact H
 have Ny493 := aM_ hy493
 clear hy493
 have H' := aM_ H
 clear H
 go_enter Tryz.func42, Tryz.ntmps42
 go_wp2_with (first | ((with_reducible refine gD_ 13 ?_); refine Kd.R_make (Kd.int .i64) _ 3 rfl (N := 13) rfl 31 _ _ rfl ji2 rfl rfl Tryz.underlying31 (.int .i64 0) 8 info3 rfl (by decide) (by omega) 0 (ok := fun _ => True) (okp := fun _ => True) rfl (fun _ hk => hk) trivial (oD_ (by first | (with_reducible assumption) | assumption)) (Nat.le_trans (Nat.mul_le_mul_right _ (oD_ (by first | (with_reducible assumption) | assumption) : ji2.toNat ≤ 35184372088832)) (by omega)) (Below.refl _ _) (Nat.le_refl _) ?_; intro v494 w5 ho6 hb hg_ hnew_; clear hg_ hnew_; (first | rw [← Ny493.out] at ho6 | (simp only [Int.reduceToNat] at ho6; rw [← Ny493.out] at ho6)); have n_ := aN2_ (Kd.R_lower ho6 (bZ_ (qB HB))) (bT_ (qB HB) hb); clear HB hb ho6; obtain ⟨HO495, HB⟩ := n_))
 go_loopg [4] k (fun kq v4 w' => ∃ (x3_1 : List Int) (x4_1 : Int), v4 = .int .i64 x4_1 ∧ Aside0 (spec_l5Depths.l0 kq l0 x3_1 x4_1 = some r) ∧ Aside0 (kq ≤ k) ∧ Aside0 (Kd.R (Kd.int .i64) 3 w' w.heap.size (fun _ => True) v494 x3_1) ∧ Aside0 (Below w.heap.size w w'))
 case atStart => exact ⟨(y493), (1), qF, H', ⟨Nat.le_refl _⟩, ⟨qR HO495⟩, ⟨qB HB⟩⟩
 case round =>
  clear H'
  obtain ⟨x3_1, x4_1, rfl, HA, HK1, HO_3, HB⟩ := hrel
  cases gk with
  | zero => exact absurd HA.out (by simp [spec_l5Depths.l0])
  | succ k1 =>
   have H := HA.out
   clear HA
   simp only [spec_l5Depths.l0] at H
   by_cases c7 : x4_1 ≤ (l0.length : Int)
   · rw [if_pos c7] at H
     have c7b0 : decide (x4_1 ≤ (l0.length : Int)) = true := dT_ c7
     clear c7
     obtain ⟨H, c8b0⟩ := nP_ H
     obtain ⟨H, c9b0⟩ := nP_ H
     obtain ⟨y496, hy496⟩ : ∃ y_ : List Int, y_ = (x3_1.set (x4_1 : Int).toNat (-1)) := ⟨_, rfl⟩
     replace H : (spec_l5Depths.l0 k1 l0 y496 (wrap64 (x4_1 + 1))) = some r := by subst hy496; exact H
     have Ny496 := aM_ hy496
     clear hy496
     have H' := aM_ H
     clear H
     have p10 : 0 ≤ (x4_1 : Int) := oD_ (by first | (with_reducible assumption) | assumption)
     have q10 : (x4_1 : Int) < ((x3_1.length : Int) : Int) := oD_ (by first | (with_reducible assumption) | assumption)
     obtain ⟨go10, co10, eo10, gb10, gl10, cl10, HG10⟩ := Kd.R_form HO_3.out (by omega)
     (first | cases eo10 | (injection eo10 with ea_ en_ ec_; (first | subst ea_ | (injection ea_ with ea_; subst ea_)); subst ec_; clear en_))
     have GB10 := aM_ gb10
     have GG10 := aM_ HG10
     clear gb10 gl10 HG10
     obtain ⟨hx10_0, hf10_0⟩ := Kd.R_celln 0 HO_3.out (x4_1 : Int) p10 q10
     replace p10 := eq_true p10
     replace q10 := eq_true q10
     have HP11 := Kd.R_putg HO_3.out (x4_1 : Int) (-1)
     go_wp2_with (first | ((with_reducible refine gate_store (t := 3) (p := 22) rfl ?_); refine store_event (t := 3) (p := 22) (v := ?vo_w12) (w1 := (wr.setCell ⟨go10, (x4_1 : Int).toNat, none⟩ (.int .i64 (-1)))) ?hg ?ho ?hn ?hr ?_; (case ho => rfl); (case hg => rfl); (case hn => rfl); (case hr => first | (go_simp; done) | (go_simp; rfl)); intro w12 hw; have hg : wr.grownBy w12 (some go10) := (by rw [hw]; exact HP11.2); have hp_ : Kd.R (Kd.int .i64) 3 w12 w.heap.size (fun _ => True) (.slice (some ⟨go10, 0, none⟩) x3_1.length co10) y496 := (by rw [hw, Ny496.out]; exact HP11.1); clear HP11; have n_ := aN2_ (hp_) ((by rw [hw]; exact bS_ (HB.out) GB10.out : Below w.heap.size w w12)); clear HO_3 HB hg hw hp_; obtain ⟨HO_3, HB⟩ := n_))
     go_roundg k1
     case measure => have := HK1.out; omega
     case rel => exact ⟨(y496), (wrap64 (x4_1 + 1)), qF, H', ⟨by have := HK1.out; omega⟩, ⟨qR HO_3⟩, ⟨qB HB⟩⟩
   rw [if_neg c7] at H
   have c7b0 : decide (x4_1 ≤ (l0.length : Int)) = false := dF_ c7
   clear c7
   have H' := aM_ H
   clear H
   go_wp2
   go_loopg [5] k1 (fun kq v5 w' => ∃ (x3_2 : List Int) (x5_2 : Int), v5 = .int .i64 x5_2 ∧ Aside0 (spec_l5Depths.l1 kq l0 x3_2 x5_2 = some r) ∧ Aside0 (kq ≤ k1) ∧ Aside0 (Kd.R (Kd.int .i64) 3 w' w.heap.size (fun _ => True) v494 x3_2) ∧ Aside0 (Below w.heap.size w w'))
   case atStart => exact ⟨(x3_1), (0), qF, H', ⟨Nat.le_refl _⟩, ⟨qR HO_3⟩, ⟨qB HB⟩⟩
   case round =>
    clear H'
    obtain ⟨x3_2, x5_2, rfl, HA, HK2, HO_3, HB⟩ := hrel
    cases gk with
    | zero => exact absurd HA.out (by simp [spec_l5Depths.l1])
    | succ k2 =>
     have H := HA.out
     clear HA
     simp only [spec_l5Depths.l1] at H
     by_cases c13 : x5_2 < (l0.length : Int)
     rotate_left
     · rw [if_neg c13] at H
       have c13b0 : decide (x5_2 < (l0.length : Int)) = false := dF_ c13
       clear c13
       obtain rfl := oI_ H
       go_wp2
       go_ret
       exact ⟨_, by first | rfl | (simp [errW_none, errW_some] <;> rfl) | (simp only [← hji2]; first | rfl | (simp [errW_none, errW_some] <;> rfl)) | (simp [*, errW_none, errW_some] <;> rfl), qR HO_3, qB HB⟩
     rw [if_pos c13] at H
     have c13b0 : decide (x5_2 < (l0.length : Int)) = true := dT_ c13
     clear c13
     obtain ⟨H, c14b0⟩ := nP_ H
     replace H := oB_ H
     obtain ⟨⟨t498, t499⟩, A150, H⟩ := H
     dsimp only at H
     have A15 := aM_ A150
     clear A150
     have HC16 := aM_ H
     clear H
     have p497 : 0 ≤ (x5_2 : Int) := oD_ (by first | (with_reducible assumption) | assumption)
     have q497 : x5_2 < (l0.length : Int) := oD_ (by first | (with_reducible assumption) | assumption)
     obtain ⟨ad497, e497, hx497_0, hx497_1, hx497_2, hx497_3⟩ := at_T30 HR0.out x5_2 p497 q497
     cases e497
     replace hx497_0 := qc HB hx497_0
     replace hx497_1 := qc HB hx497_1
     replace hx497_2 := qc HB hx497_2
     replace hx497_3 := qc HB hx497_3
     replace p497 := eq_true p497
     replace q497 := eq_true q497
     go_upto_region 10 with (first | ((with_reducible refine gc_ 75 ?_); refine gL_ (some 34) Tryz.func75 #[.agg #[.int .i64 ((rd_T30 l0 x5_2).f0), .int .i64 ((rd_T30 l0 x5_2).f1), .int .i64 ((rd_T30 l0 x5_2).f2.f0), .int .i64 ((rd_T30 l0 x5_2).f2.f1)]] ?_; (with_reducible refine (spec_l5Turn.calls k2 ((rd_T30 l0 x5_2).f0) ((rd_T30 l0 x5_2).f1) ((rd_T30 l0 x5_2).f2.f0) ((rd_T30 l0 x5_2).f2.f1) t498 t499 _ A15.out).mono ?_); rintro e w17 ⟨rfl, hb⟩; refine ⟨_, rfl, ?_⟩; have n_ := aN2_ (Kd.R_below (qR HO_3) hb) (bT_ (qB HB) hb); clear HO_3 HB; obtain ⟨HO_3, HB⟩ := n_))
     (try simp only [Act.put, sA_, sB_, sC_])
     go_cut [51] (fun v51 wc => ∃ (kq : Nat) (x51_15 : Bool), v51 = .bool x51_15 ∧ Aside0 (spec_l5Depths.j2 kq l0 x3_2 x5_2 t498 x51_15 = some r) ∧ Aside0 (kq ≤ k2) ∧ Aside0 (Kd.R (Kd.int .i64) 3 wc w.heap.size (fun _ => True) v494 x3_2) ∧ Aside0 (Below w.heap.size w wc))
     case first =>
      have H := HC16.out
      clear HC16
      obtain ⟨H, c18b0⟩ := nP_ H
      (first | rw [c18b0] | (simp only [i64_w, i32_w]; rw [c18b0]) | skip)
      by_cases c19 : (rd x3_2 x5_2) < t499
      · rw [if_pos c19] at H
        have c19b0 : decide ((rd x3_2 x5_2) < t499) = true := dT_ c19
        clear c19
        have H' := aM_ H
        clear H
        obtain ⟨Ao20, co20, eo20⟩ := Kd.R_slice HO_3.out
        subst eo20
        have p500 := pq_ x5_2 (x3_2.length : Int)
        obtain ⟨ad500, e500, hx500_0⟩ := Kd.at_int (Kd.R_reads' HO_3.out).2.2 x5_2 p500.1.1 p500.1.2
        cases e500
        obtain ⟨-, p500, q500⟩ := p500
        go_wp2
        go_meet
        case rel => exact ⟨_, (true), qF, H', ⟨by have := HK1.out; have := HK2.out; first | omega | exact Nat.le_refl _⟩, ⟨qR HO_3⟩, ⟨qB HB⟩⟩
      rw [if_neg c19] at H
      have c19b0 : decide ((rd x3_2 x5_2) < t499) = false := dF_ c19
      clear c19
      have H' := aM_ H
      clear H
      obtain ⟨Ao21, co21, eo21⟩ := Kd.R_slice HO_3.out
      subst eo21
      have p500 := pq_ x5_2 (x3_2.length : Int)
      obtain ⟨ad500, e500, hx500_0⟩ := Kd.at_int (Kd.R_reads' HO_3.out).2.2 x5_2 p500.1.1 p500.1.2
      cases e500
      obtain ⟨-, p500, q500⟩ := p500
      have p501 := pq_ x5_2 (x3_2.length : Int)
      obtain ⟨ad501, e501, hx501_0⟩ := Kd.at_int (Kd.R_reads' HO_3.out).2.2 x5_2 p501.1.1 p501.1.2
      obtain rfl : ad500 = ad501 := (by injection e501)
      obtain ⟨-, p501, q501⟩ := p501
      go_wp2
      go_meet
      case rel => exact ⟨_, (decide ((wrap64 ((rd x3_2 x5_2) + t498)) > 12)), qF, H', ⟨by have := HK1.out; have := HK2.out; first | omega | exact Nat.le_refl _⟩, ⟨qR HO_3⟩, ⟨qB HB⟩⟩
     case rest =>
      clear HC16
      obtain ⟨kq, x51_15, rfl, HA, HJ15, HO_3, HB⟩ := hcut
      cases kq with
      | zero => exact absurd HA.out (by simp [spec_l5Depths.j2])
      | succ kj15 =>
       have H := HA.out
       clear HA
       simp only [spec_l5Depths.j2] at H
       by_cases c22 : x51_15 = true
       · subst c22
         rw [if_pos rfl] at H
         obtain rfl := oI_ H
         go_wp2
         go_ret
         exact ⟨_, by first | rfl | (simp [errW_none, errW_some] <;> rfl) | (simp only [← hji2]; first | rfl | (simp [errW_none, errW_some] <;> rfl)) | (simp [*, errW_none, errW_some] <;> rfl), by first | exact Kd.R_nil _ _ _ _ _ | exact Kd.N_nil _ _ _ _ _ | exact Kd.V_nil _ _ _ _ _ | exact Kd.Q_nil _ _ _ _ _ | exact Kd.S_nil _ _ _ _ _, qB HB⟩
       replace c22 := Bool.eq_false_iff.mpr c22
       subst c22
       rw [if_neg (show ¬ (false = true) by decide)] at H
       obtain ⟨H, c23b0⟩ := nP_ H
       obtain ⟨H, c24b0⟩ := nP_ H
       obtain ⟨H, c25b0⟩ := nP_ H
       replace H := oB_ H
       obtain ⟨t504, A260, H⟩ := H
       have A26 := aM_ A260
       clear A260
       have HC27 := aM_ H
       clear H
       obtain ⟨Ao28, co28, eo28⟩ := Kd.R_slice HO_3.out
       subst eo28
       have p502 := pq_ x5_2 (x3_2.length : Int)
       obtain ⟨ad502, e502, hx502_0⟩ := Kd.at_int (Kd.R_reads' HO_3.out).2.2 x5_2 p502.1.1 p502.1.2
       cases e502
       obtain ⟨-, p502, q502⟩ := p502
       have p503 : 0 ≤ (x5_2 : Int) := oD_ (by first | (with_reducible assumption) | assumption)
       have q503 : x5_2 < (l0.length : Int) := oD_ (by first | (with_reducible assumption) | assumption)
       obtain ⟨ad503, e503, hx503_0, hx503_1, hx503_2, hx503_3⟩ := at_T30 HR0.out x5_2 p503 q503
       obtain rfl : ad497 = ad503 := (by injection e503)
       replace hx503_0 := qc HB hx503_0
       replace hx503_1 := qc HB hx503_1
       replace hx503_2 := qc HB hx503_2
       replace hx503_3 := qc HB hx503_3
       replace p503 := eq_true p503
       replace q503 := eq_true q503
       go_upto_if 64 with (first | ((with_reducible refine gc_ 76 ?_); refine gL_ (some 64) Tryz.func76 #[.agg #[.int .i64 ((rd_T30 l0 x5_2).f0), .int .i64 ((rd_T30 l0 x5_2).f1), .int .i64 ((rd_T30 l0 x5_2).f2.f0), .int .i64 ((rd_T30 l0 x5_2).f2.f1)]] ?_; (with_reducible refine (spec_l5Jumps.calls ((rd_T30 l0 x5_2).f0) ((rd_T30 l0 x5_2).f1) ((rd_T30 l0 x5_2).f2.f0) ((rd_T30 l0 x5_2).f2.f1) t504 _ A26.out).mono ?_); rintro e w29 ⟨rfl, hb⟩; refine ⟨_, rfl, ?_⟩; have n_ := aN2_ (Kd.R_below (qR HO_3) hb) (bT_ (qB HB) hb); clear HO_3 HB; obtain ⟨HO_3, HB⟩ := n_))
       (try simp only [Act.put, sA_, sB_, sC_])
       go_cut [9] (fun v9 wc => ∃ (kq : Nat) (x9_26 : Int), v9 = .int .i64 x9_26 ∧ Aside0 (spec_l5Depths.j3 kq l0 x3_2 x5_2 (wrap64 ((rd x3_2 x5_2) + t498)) x9_26 = some r) ∧ Aside0 (kq ≤ kj15) ∧ Aside0 (Kd.R (Kd.int .i64) 3 wc w.heap.size (fun _ => True) (.slice (some ad502) x3_2.length co28) x3_2) ∧ Aside0 (Below w.heap.size w wc))
       case first =>
        have H := HC27.out
        clear HC27
        by_cases c30 : t504 = true
        rotate_left
        · replace c30 := Bool.eq_false_iff.mpr c30
          subst c30
          rw [if_neg (show ¬ (false = true) by decide)] at H
          have H' := aM_ H
          clear H
          go_wp2
          go_meet
          case rel => exact ⟨_, (wrap64 (x5_2 + 1)), qF, H', ⟨by have := HK1.out; have := HK2.out; have := HJ15.out; first | omega | exact Nat.le_refl _⟩, ⟨qR HO_3⟩, ⟨qB HB⟩⟩
        subst c30
        rw [if_pos rfl] at H
        have H' := aM_ H
        clear H
        have p505 : 0 ≤ (x5_2 : Int) := oD_ (by first | (with_reducible assumption) | assumption)
        have q505 : x5_2 < (l0.length : Int) := oD_ (by first | (with_reducible assumption) | assumption)
        obtain ⟨ad505, e505, hx505_0, hx505_1, hx505_2, hx505_3⟩ := at_T30 HR0.out x5_2 p505 q505
        obtain rfl : ad497 = ad505 := (by injection e505)
        replace hx505_0 := qc HB hx505_0
        replace hx505_1 := qc HB hx505_1
        replace hx505_2 := qc HB hx505_2
        replace hx505_3 := qc HB hx505_3
        replace p505 := eq_true p505
        replace q505 := eq_true q505
        go_wp2
        go_meet
        case rel => exact ⟨_, ((rd_T30 l0 x5_2).f1), qF, H', ⟨by have := HK1.out; have := HK2.out; have := HJ15.out; first | omega | exact Nat.le_refl _⟩, ⟨qR HO_3⟩, ⟨qB HB⟩⟩
       case rest =>
        clear HC27
        obtain ⟨kq, x9_26, rfl, HA, HJ26, HO_3, HB⟩ := hcut
        cases kq with
        | zero => exact absurd HA.out (by simp [spec_l5Depths.j3])
        | succ kj26 =>
         have H := HA.out
         clear HA
         simp only [spec_l5Depths.j3] at H
         have HC31 := aM_ H
         clear H
         go_upto_region 16 with (fail)
         go_cut [100] (fun v100 wc => ∃ (kq : Nat) (x100_30 : Bool), v100 = .bool x100_30 ∧ Aside0 (spec_l5Depths.j4 kq l0 x3_2 x5_2 (wrap64 ((rd x3_2 x5_2) + t498)) x9_26 x100_30 = some r) ∧ Aside0 (kq ≤ kj26) ∧ Aside0 (Kd.R (Kd.int .i64) 3 wc w.heap.size (fun _ => True) (.slice (some ad502) x3_2.length co28) x3_2) ∧ Aside0 (Below w.heap.size w wc))
         case first =>
          have H := HC31.out
          clear HC31
          by_cases c32 : x9_26 ≤ x5_2
          rotate_left
          · rw [if_neg c32] at H
            have c32b0 : decide (x9_26 ≤ x5_2) = false := dF_ c32
            clear c32
            (first | rw [c32b0] | (simp only [i64_w, i32_w]; rw [c32b0]) | skip)
            by_cases c38 : x9_26 > x5_2
            rotate_left
            · rw [if_neg c38] at H
              have c38b0 : decide (x5_2 < x9_26) = false := dF_ c38
              clear c38
              have H' := aM_ H
              clear H
              go_wp2
              go_meet
              case rel => exact ⟨_, (false), qF, H', ⟨by have := HK1.out; have := HK2.out; have := HJ15.out; have := HJ26.out; first | omega | exact Nat.le_refl _⟩, ⟨qR HO_3⟩, ⟨qB HB⟩⟩
            rw [if_pos c38] at H
            have c38b0 : decide (x5_2 < x9_26) = true := dT_ c38
            clear c38
            obtain ⟨H, c39b0⟩ := nP_ H
            obtain ⟨H, c40b0⟩ := nP_ H
            by_cases c41 : (rd x3_2 x9_26) ≥ 0
            rotate_left
            · rw [if_neg c41] at H
              have c41b0 : decide (0 ≤ (rd x3_2 x9_26)) = false := dF_ c41
              clear c41
              have H' := aM_ H
              clear H
              have p509 := pq_ x9_26 (x3_2.length : Int)
              obtain ⟨ad509, e509, hx509_0⟩ := Kd.at_int (Kd.R_reads' HO_3.out).2.2 x9_26 p509.1.1 p509.1.2
              obtain rfl : ad502 = ad509 := (by injection e509)
              obtain ⟨-, p509, q509⟩ := p509
              go_wp2
              go_meet
              case rel => exact ⟨_, (false), qF, H', ⟨by have := HK1.out; have := HK2.out; have := HJ15.out; have := HJ26.out; first | omega | exact Nat.le_refl _⟩, ⟨qR HO_3⟩, ⟨qB HB⟩⟩
            rw [if_pos c41] at H
            have c41b0 : decide (0 ≤ (rd x3_2 x9_26)) = true := dT_ c41
            clear c41
            have H' := aM_ H
            clear H
            have p509 := pq_ x9_26 (x3_2.length : Int)
            obtain ⟨ad509, e509, hx509_0⟩ := Kd.at_int (Kd.R_reads' HO_3.out).2.2 x9_26 p509.1.1 p509.1.2
            obtain rfl : ad502 = ad509 := (by injection e509)
            obtain ⟨-, p509, q509⟩ := p509
            have p510 := pq_ x9_26 (x3_2.length : Int)
            obtain ⟨ad510, e510, hx510_0⟩ := Kd.at_int (Kd.R_reads' HO_3.out).2.2 x9_26 p510.1.1 p510.1.2
            obtain rfl : ad502 = ad510 := (by injection e510)
            obtain ⟨-, p510, q510⟩ := p510
            go_wp2
            go_meet
            case rel => exact ⟨_, (((rd x3_2 x9_26) != (wrap64 ((rd x3_2 x5_2) + t498)))), qF, H', ⟨by have := HK1.out; have := HK2.out; have := HJ15.out; have := HJ26.out; first | omega | exact Nat.le_refl _⟩, ⟨qR HO_3⟩, ⟨qB HB⟩⟩
          rw [if_pos c32] at H
          have c32b0 : decide (x9_26 ≤ x5_2) = true := dT_ c32
          clear c32
          (first | rw [c32b0] | (simp only [i64_w, i32_w]; rw [c32b0]) | skip)
          obtain ⟨H, c33b0⟩ := nP_ H
          obtain ⟨H, c34b0⟩ := nP_ H
          by_cases c35 : (rd x3_2 x9_26) = (wrap64 ((rd x3_2 x5_2) + t498))
          rotate_left
          · rw [if_neg c35] at H
            have c35b0 : ((rd x3_2 x9_26) == (wrap64 ((rd x3_2 x5_2) + t498))) = false := beq_eq_false_iff_ne.mpr c35
            have c35b1 : ((rd x3_2 x9_26) != (wrap64 ((rd x3_2 x5_2) + t498))) = true := bne_iff_ne.mpr c35
            have H' := aM_ H
            clear H
            have p506 := pq_ x9_26 (x3_2.length : Int)
            obtain ⟨ad506, e506, hx506_0⟩ := Kd.at_int (Kd.R_reads' HO_3.out).2.2 x9_26 p506.1.1 p506.1.2
            obtain rfl : ad502 = ad506 := (by injection e506)
            obtain ⟨-, p506, q506⟩ := p506
            go_wp2
            go_meet
            case rel => exact ⟨_, (true), qF, H', ⟨by have := HK1.out; have := HK2.out; have := HJ15.out; have := HJ26.out; first | omega | exact Nat.le_refl _⟩, ⟨qR HO_3⟩, ⟨qB HB⟩⟩
          rw [if_pos c35] at H
          have c35b0 : ((rd x3_2 x9_26) == (wrap64 ((rd x3_2 x5_2) + t498))) = true := beq_iff_eq.mpr c35
          have c35b1 : ((rd x3_2 x9_26) != (wrap64 ((rd x3_2 x5_2) + t498))) = false := bne_eq_false_iff_eq.mpr c35
          clear c35
          by_cases c36 : x9_26 > x5_2
          rotate_left
          · rw [if_neg c36] at H
            have c36b0 : decide (x5_2 < x9_26) = false := dF_ c36
            clear c36
            have H' := aM_ H
            clear H
            have p506 := pq_ x9_26 (x3_2.length : Int)
            obtain ⟨ad506, e506, hx506_0⟩ := Kd.at_int (Kd.R_reads' HO_3.out).2.2 x9_26 p506.1.1 p506.1.2
            obtain rfl : ad502 = ad506 := (by injection e506)
            obtain ⟨-, p506, q506⟩ := p506
            go_wp2
            go_meet
            case rel => exact ⟨_, (false), qF, H', ⟨by have := HK1.out; have := HK2.out; have := HJ15.out; have := HJ26.out; first | omega | exact Nat.le_refl _⟩, ⟨qR HO_3⟩, ⟨qB HB⟩⟩
          rw [if_pos c36] at H
          have c36b0 : decide (x5_2 < x9_26) = true := dT_ c36
          clear c36
          by_cases c37 : (rd x3_2 x9_26) ≥ 0
          rotate_left
          · rw [if_neg c37] at H
            have c37b0 : decide (0 ≤ (rd x3_2 x9_26)) = false := dF_ c37
            clear c37
            have H' := aM_ H
            clear H
            have p506 := pq_ x9_26 (x3_2.length : Int)
            obtain ⟨ad506, e506, hx506_0⟩ := Kd.at_int (Kd.R_reads' HO_3.out).2.2 x9_26 p506.1.1 p506.1.2
            obtain rfl : ad502 = ad506 := (by injection e506)
            obtain ⟨-, p506, q506⟩ := p506
            have p507 := pq_ x9_26 (x3_2.length : Int)
            obtain ⟨ad507, e507, hx507_0⟩ := Kd.at_int (Kd.R_reads' HO_3.out).2.2 x9_26 p507.1.1 p507.1.2
            obtain rfl : ad502 = ad507 := (by injection e507)
            obtain ⟨-, p507, q507⟩ := p507
            go_wp2
            go_meet
            case rel => exact ⟨_, (false), qF, H', ⟨by have := HK1.out; have := HK2.out; have := HJ15.out; have := HJ26.out; first | omega | exact Nat.le_refl _⟩, ⟨qR HO_3⟩, ⟨qB HB⟩⟩
          rw [if_pos c37] at H
          have c37b0 : decide (0 ≤ (rd x3_2 x9_26)) = true := dT_ c37
          clear c37
          have H' := aM_ H
          clear H
          have p506 := pq_ x9_26 (x3_2.length : Int)
          obtain ⟨ad506, e506, hx506_0⟩ := Kd.at_int (Kd.R_reads' HO_3.out).2.2 x9_26 p506.1.1 p506.1.2
          obtain rfl : ad502 = ad506 := (by injection e506)
          obtain ⟨-, p506, q506⟩ := p506
          have p507 := pq_ x9_26 (x3_2.length : Int)
          obtain ⟨ad507, e507, hx507_0⟩ := Kd.at_int (Kd.R_reads' HO_3.out).2.2 x9_26 p507.1.1 p507.1.2
          obtain rfl : ad502 = ad507 := (by injection e507)
          obtain ⟨-, p507, q507⟩ := p507
          have p508 := pq_ x9_26 (x3_2.length : Int)
          obtain ⟨ad508, e508, hx508_0⟩ := Kd.at_int (Kd.R_reads' HO_3.out).2.2 x9_26 p508.1.1 p508.1.2
          obtain rfl : ad502 = ad508 := (by injection e508)
          obtain ⟨-, p508, q508⟩ := p508
          go_wp2
          go_meet
          case rel => exact ⟨_, (((rd x3_2 x9_26) != (wrap64 ((rd x3_2 x5_2) + t498)))), qF, H', ⟨by have := HK1.out; have := HK2.out; have := HJ15.out; have := HJ26.out; first | omega | exact Nat.le_refl _⟩, ⟨qR HO_3⟩, ⟨qB HB⟩⟩
         case rest =>
          clear HC31
          obtain ⟨kq, x100_30, rfl, HA, HJ30, HO_3, HB⟩ := hcut
          cases kq with
          | zero => exact absurd HA.out (by simp [spec_l5Depths.j4])
          | succ kj30 =>
           have H := HA.out
           clear HA
           simp only [spec_l5Depths.j4] at H
           by_cases c42 : x100_30 = true
           · subst c42
             rw [if_pos rfl] at H
             obtain rfl := oI_ H
             go_wp2
             go_ret
             exact ⟨_, by first | rfl | (simp [errW_none, errW_some] <;> rfl) | (simp only [← hji2]; first | rfl | (simp [errW_none, errW_some] <;> rfl)) | (simp [*, errW_none, errW_some] <;> rfl), by first | exact Kd.R_nil _ _ _ _ _ | exact Kd.N_nil _ _ _ _ _ | exact Kd.V_nil _ _ _ _ _ | exact Kd.Q_nil _ _ _ _ _ | exact Kd.S_nil _ _ _ _ _, qB HB⟩
           replace c42 := Bool.eq_false_iff.mpr c42
           subst c42
           rw [if_neg (show ¬ (false = true) by decide)] at H
           obtain ⟨H, c43b0⟩ := nP_ H
           obtain ⟨H, c44b0⟩ := nP_ H
           obtain ⟨y511, hy511⟩ : ∃ y_ : List Int, y_ = (x3_2.set (x9_26 : Int).toNat (wrap64 ((rd x3_2 x5_2) + t498))) := ⟨_, rfl⟩
           replace H : (if 0 ≤ x5_2 then (if x5_2 < (l0.length : Int) then (if ((rd_T30 l0 x5_2).f0) = 7 then (spec_l5Depths.j5 kj30 l0 y511 x5_2 (wrap64 ((rd x3_2 x5_2) + t498)) true) else (spec_l5Depths.j5 kj30 l0 y511 x5_2 (wrap64 ((rd x3_2 x5_2) + t498)) (((rd_T30 l0 x5_2).f0) == 8))) else (none)) else (none)) = some r := by subst hy511; exact H
           have Ny511 := aM_ hy511
           clear hy511
           have HC46 := aM_ H
           clear H
           have p45 : 0 ≤ (x9_26 : Int) := oD_ (by first | (with_reducible assumption) | assumption)
           have q45 : (x9_26 : Int) < ((x3_2.length : Int) : Int) := oD_ (by first | (with_reducible assumption) | assumption)
           obtain ⟨go45, co45, eo45, gb45, gl45, cl45, HG45⟩ := Kd.R_form HO_3.out (by omega)
           (first | cases eo45 | (injection eo45 with ea_ en_ ec_; (first | subst ea_ | (injection ea_ with ea_; subst ea_)); subst ec_; clear en_))
           have GB45 := aM_ gb45
           have GG45 := aM_ HG45
           clear gb45 gl45 HG45
           (first | simp only [add_plain] at hx502_0 | skip)
           (first | simp only [add_plain] at hx506_0 | skip)
           (first | simp only [add_plain] at hx507_0 | skip)
           (first | simp only [add_plain] at hx508_0 | skip)
           (first | simp only [add_plain] at hx509_0 | skip)
           (first | simp only [add_plain] at hx510_0 | skip)
           obtain ⟨hx45_0, hf45_0⟩ := Kd.R_celln 0 HO_3.out (x9_26 : Int) p45 q45
           replace p45 := eq_true p45
           replace q45 := eq_true q45
           have HP47 := Kd.R_putg HO_3.out (x9_26 : Int) (wrap64 ((rd x3_2 x5_2) + t498))
           go_upto_region 19 with (first | ((with_reducible refine gate_store (t := 3) (p := 104) rfl ?_); refine store_event (t := 3) (p := 104) (v := ?vo_w48) (w1 := (wc.setCell ⟨go45, (x9_26 : Int).toNat, none⟩ (.int .i64 (wrap64 ((rd x3_2 x5_2) + t498))))) ?hg ?ho ?hn ?hr ?_; (case ho => rfl); (case hg => rfl); (case hn => rfl); (case hr => first | (go_simp; done) | (go_simp; rfl)); intro w48 hw; have hg : wc.grownBy w48 (some go45) := (by rw [hw]; exact HP47.2); have hp_ : Kd.R (Kd.int .i64) 3 w48 w.heap.size (fun _ => True) (.slice (some ⟨go45, 0, none⟩) x3_2.length co28) y511 := (by rw [hw, Ny511.out]; exact HP47.1); clear HP47; have n_ := aN2_ (hp_) ((by rw [hw]; exact bS_ (HB.out) GB45.out : Below w.heap.size w w48)); clear HO_3 HB hg hw hp_; obtain ⟨HO_3, HB⟩ := n_))
           (try simp only [Act.put, sA_, sB_, sC_])
           go_cut [118] (fun v118 wc => ∃ (kq : Nat) (x118_45 : Bool), v118 = .bool x118_45 ∧ Aside0 (spec_l5Depths.j5 kq l0 y511 x5_2 (wrap64 ((rd x3_2 x5_2) + t498)) x118_45 = some r) ∧ Aside0 (kq ≤ kj30) ∧ Aside0 (Kd.R (Kd.int .i64) 3 wc w.heap.size (fun _ => True) (.slice (some ⟨go45, 0, none⟩) x3_2.length co28) y511) ∧ Aside0 (Below w.heap.size w wc))
           case first =>
            have H := HC46.out
            clear HC46
            obtain ⟨H, c49b0⟩ := nP_ H
            (first | rw [c49b0] | (simp only [i64_w, i32_w]; rw [c49b0]) | skip)
            obtain ⟨H, c50b0⟩ := nP_ H
            by_cases c51 : ((rd_T30 l0 x5_2).f0) = 7
            · rw [if_pos c51] at H
              have c51b0 : (((rd_T30 l0 x5_2).f0) == 7) = true := beq_iff_eq.mpr c51
              have c51b1 : (((rd_T30 l0 x5_2).f0) != 7) = false := bne_eq_false_iff_eq.mpr c51
              clear c51
              have H' := aM_ H
              clear H
              have p512 : 0 ≤ (x5_2 : Int) := oD_ (by first | (with_reducible assumption) | assumption)
              have q512 : x5_2 < (l0.length : Int) := oD_ (by first | (with_reducible assumption) | assumption)
              obtain ⟨ad512, e512, hx512_0, hx512_1, hx512_2, hx512_3⟩ := at_T30 HR0.out x5_2 p512 q512
              obtain rfl : ad497 = ad512 := (by injection e512)
              replace hx512_0 := qc HB hx512_0
              replace hx512_1 := qc HB hx512_1
              replace hx512_2 := qc HB hx512_2
              replace hx512_3 := qc HB hx512_3
              replace p512 := eq_true p512
              replace q512 := eq_true q512
              go_wp2
              go_meet
              case rel => exact ⟨_, (true), qF, H', ⟨by have := HK1.out; have := HK2.out; have := HJ15.out; have := HJ26.out; have := HJ30.out; first | omega | exact Nat.le_refl _⟩, ⟨qR HO_3⟩, ⟨qB HB⟩⟩
            rw [if_neg c51] at H
            have c51b0 : (((rd_T30 l0 x5_2).f0) == 7) = false := beq_eq_false_iff_ne.mpr c51
            have c51b1 : (((rd_T30 l0 x5_2).f0) != 7) = true := bne_iff_ne.mpr c51
            have H' := aM_ H
            clear H
            have p512 : 0 ≤ (x5_2 : Int) := oD_ (by first | (with_reducible assumption) | assumption)
            have q512 : x5_2 < (l0.length : Int) := oD_ (by first | (with_reducible assumption) | assumption)
            obtain ⟨ad512, e512, hx512_0, hx512_1, hx512_2, hx512_3⟩ := at_T30 HR0.out x5_2 p512 q512
            obtain rfl : ad497 = ad512 := (by injection e512)
            replace hx512_0 := qc HB hx512_0
            replace hx512_1 := qc HB hx512_1
            replace hx512_2 := qc HB hx512_2
            replace hx512_3 := qc HB hx512_3
            replace p512 := eq_true p512
            replace q512 := eq_true q512
            have p513 : 0 ≤ (x5_2 : Int) := oD_ (by first | (with_reducible assumption) | assumption)
            have q513 : x5_2 < (l0.length : Int) := oD_ (by first | (with_reducible assumption) | assumption)
            obtain ⟨ad513, e513, hx513_0, hx513_1, hx513_2, hx513_3⟩ := at_T30 HR0.out x5_2 p513 q513
            obtain rfl : ad497 = ad513 := (by injection e513)
            replace hx513_0 := qc HB hx513_0
            replace hx513_1 := qc HB hx513_1
            replace hx513_2 := qc HB hx513_2
            replace hx513_3 := qc HB hx513_3
            replace p513 := eq_true p513
            replace q513 := eq_true q513
            go_wp2
            go_meet
            case rel => exact ⟨_, ((((rd_T30 l0 x5_2).f0) == 8)), qF, H', ⟨by have := HK1.out; have := HK2.out; have := HJ15.out; have := HJ26.out; have := HJ30.out; first | omega | exact Nat.le_refl _⟩, ⟨qR HO_3⟩, ⟨qB HB⟩⟩
           case rest =>
            clear HC46
            obtain ⟨kq, x118_45, rfl, HA, HJ45, HO_3, HB⟩ := hcut
            have hl3_45 := (Kd.R_reads' HO_3.out).1
            rw [hl3_45] at HO_3
            (try simp only [hl3_45])
            cases kq with
            | zero => exact absurd HA.out (by simp [spec_l5Depths.j5])
            | succ kj45 =>
             have H := HA.out
             clear HA
             simp only [spec_l5Depths.j5] at H
             by_cases c52 : x118_45 = true
             · subst c52
               rw [if_pos rfl] at H
               have H' := aM_ H
               clear H
               go_wp2
               (try simp only [← hl3_45])
               go_roundg kj45
               case measure => have := HK1.out; have := HK2.out; have := HJ15.out; have := HJ26.out; have := HJ30.out; have := HJ45.out; omega
               case rel => exact ⟨(y511), (wrap64 (x5_2 + 1)), qF, H', ⟨by have := HK1.out; have := HK2.out; have := HJ15.out; have := HJ26.out; have := HJ30.out; have := HJ45.out; omega⟩, ⟨by (try simp only [hl3_45]); (with_reducible repeat (first | apply rA_ | apply rN_ | apply rD_)); exact HO_3.out⟩, ⟨qB HB⟩⟩
             replace c52 := Bool.eq_false_iff.mpr c52
             subst c52
             rw [if_neg (show ¬ (false = true) by decide)] at H
             obtain ⟨ji53, hji53⟩ : ∃ j_ : Int, (wrap64 (x5_2 + 1)) = j_ := ⟨_, rfl⟩
             replace H : (if 0 ≤ (ji53) then (if (ji53) < (y511.length : Int) then (if (rd y511 (ji53)) ≥ 0 then (if (rd y511 (ji53)) = (wrap64 ((rd x3_2 x5_2) + t498)) then (spec_l5Depths.l1 kj45 l0 (y511.set ((ji53) : Int).toNat (wrap64 ((rd x3_2 x5_2) + t498))) ji53) else (some ([] : List Int))) else (spec_l5Depths.l1 kj45 l0 (y511.set ((ji53) : Int).toNat (wrap64 ((rd x3_2 x5_2) + t498))) ji53)) else (none)) else (none)) = some r := by first | (rw [hji53] at H; exact H) | (simp only [hji53] at H ⊢; exact H)
             have hji53w : (IntKind.i64.wrap (x5_2 + 1)) = ji53 := (i64_w _).trans hji53
             obtain ⟨H, c54b0⟩ := nP_ H
             obtain ⟨H, c55b0⟩ := nP_ H
             by_cases c56 : (rd y511 (ji53)) ≥ 0
             rotate_left
             · rw [if_neg c56] at H
               have c56b0 : decide (0 ≤ (rd y511 (ji53))) = false := dF_ c56
               clear c56
               obtain ⟨y517, hy517⟩ : ∃ y_ : List Int, y_ = (y511.set ((ji53) : Int).toNat (wrap64 ((rd x3_2 x5_2) + t498))) := ⟨_, rfl⟩
               replace H : (spec_l5Depths.l1 kj45 l0 y517 ji53) = some r := by subst hy517; exact H
               have Ny517 := aM_ hy517
               clear hy517
               have H' := aM_ H
               clear H
               have p514 := pq_ ((ji53)) (y511.length : Int)
               obtain ⟨ad514, e514, hx514_0⟩ := Kd.at_int (Kd.R_reads' HO_3.out).2.2 (ji53) p514.1.1 p514.1.2
               obtain rfl : (⟨go45, 0, none⟩ : Addr) = ad514 := (by injection e514)
               (first | simp only [add_plain] at hx514_0 | simp only [add_at] at hx514_0 | simp only [Addr.add, Nat.zero_add] at hx514_0 | skip)
               obtain ⟨-, p514, q514⟩ := p514
               have p61 := pq_ ((ji53)) ((y511.length : Int) : Int)
               obtain ⟨hx61_0, hf61_0⟩ := Kd.R_celln 0 HO_3.out ((ji53) : Int) p61.1.1 p61.1.2
               obtain ⟨-, p61, q61⟩ := p61
               have HP62 := Kd.R_putg HO_3.out ((ji53) : Int) (wrap64 ((rd x3_2 x5_2) + t498))
               go_wp2_with (first | ((with_reducible refine gate_store (t := 3) (p := 138) rfl ?_); refine store_event (t := 3) (p := 138) (v := ?vo_w63) (w1 := (wc.setCell ⟨go45, ((ji53) : Int).toNat, none⟩ (.int .i64 (wrap64 ((rd x3_2 x5_2) + t498))))) ?hg ?ho ?hn ?hr ?_; (case ho => rfl); (case hg => rfl); (case hn => rfl); (case hr => first | (go_simp; done) | (go_simp; rfl)); intro w63 hw; have hg : wc.grownBy w63 (some go45) := (by rw [hw]; exact HP62.2); have hp_ : Kd.R (Kd.int .i64) 3 w63 w.heap.size (fun _ => True) (.slice (some ⟨go45, 0, none⟩) y511.length co28) y517 := (by rw [hw, Ny517.out]; exact HP62.1); clear HP62; have n_ := aN2_ (hp_) ((by rw [hw]; exact bS_ (HB.out) GB45.out : Below w.heap.size w w63)); clear HO_3 HB hg hw hp_; obtain ⟨HO_3, HB⟩ := n_))
               (try simp only [← hl3_45])
               go_roundg kj45
               case measure => have := HK1.out; have := HK2.out; have := HJ15.out; have := HJ26.out; have := HJ30.out; have := HJ45.out; omega
               case rel => exact ⟨(y517), (ji53), (by first | rfl | (simp; done) | (simp only [← hji53] <;> (first | rfl | simp)) | (simp [*]; done)), H', ⟨by have := HK1.out; have := HK2.out; have := HJ15.out; have := HJ26.out; have := HJ30.out; have := HJ45.out; omega⟩, ⟨by (try simp only [hl3_45]); (with_reducible repeat (first | apply rA_ | apply rN_ | apply rD_)); exact HO_3.out⟩, ⟨qB HB⟩⟩
             rw [if_pos c56] at H
             have c56b0 : decide (0 ≤ (rd y511 (ji53))) = true := dT_ c56
             clear c56
             by_cases c57 : (rd y511 (ji53)) = (wrap64 ((rd x3_2 x5_2) + t498))
             rotate_left
             · rw [if_neg c57] at H
               have c57b0 : ((rd y511 (ji53)) == (wrap64 ((rd x3_2 x5_2) + t498))) = false := beq_eq_false_iff_ne.mpr c57
               have c57b1 : ((rd y511 (ji53)) != (wrap64 ((rd x3_2 x5_2) + t498))) = true := bne_iff_ne.mpr c57
               obtain rfl := oI_ H
               have p514 := pq_ ((ji53)) (y511.length : Int)
               obtain ⟨ad514, e514, hx514_0⟩ := Kd.at_int (Kd.R_reads' HO_3.out).2.2 (ji53) p514.1.1 p514.1.2
               obtain rfl : (⟨go45, 0, none⟩ : Addr) = ad514 := (by injection e514)
               (first | simp only [add_plain] at hx514_0 | simp only [add_at] at hx514_0 | simp only [Addr.add, Nat.zero_add] at hx514_0 | skip)
               obtain ⟨-, p514, q514⟩ := p514
               have p515 := pq_ ((ji53)) (y511.length : Int)
               obtain ⟨ad515, e515, hx515_0⟩ := Kd.at_int (Kd.R_reads' HO_3.out).2.2 (ji53) p515.1.1 p515.1.2
               obtain rfl : (⟨go45, 0, none⟩ : Addr) = ad515 := (by injection e515)
               (first | simp only [add_plain] at hx515_0 | simp only [add_at] at hx515_0 | simp only [Addr.add, Nat.zero_add] at hx515_0 | skip)
               obtain ⟨-, p515, q515⟩ := p515
               go_wp2
               go_ret
               exact ⟨_, by first | rfl | (simp [errW_none, errW_some] <;> rfl) | (simp only [← hji2, ← hji53]; first | rfl | (simp [errW_none, errW_some] <;> rfl)) | (simp [*, errW_none, errW_some] <;> rfl), by first | exact Kd.R_nil _ _ _ _ _ | exact Kd.N_nil _ _ _ _ _ | exact Kd.V_nil _ _ _ _ _ | exact Kd.Q_nil _ _ _ _ _ | exact Kd.S_nil _ _ _ _ _, qB HB⟩
             rw [if_pos c57] at H
             have c57b0 : ((rd y511 (ji53)) == (wrap64 ((rd x3_2 x5_2) + t498))) = true := beq_iff_eq.mpr c57
             have c57b1 : ((rd y511 (ji53)) != (wrap64 ((rd x3_2 x5_2) + t498))) = false := bne_eq_false_iff_eq.mpr c57
             clear c57
             obtain ⟨y516, hy516⟩ : ∃ y_ : List Int, y_ = (y511.set ((ji53) : Int).toNat (wrap64 ((rd x3_2 x5_2) + t498))) := ⟨_, rfl⟩
             replace H : (spec_l5Depths.l1 kj45 l0 y516 ji53) = some r := by subst hy516; exact H
             have Ny516 := aM_ hy516
             clear hy516
             have H' := aM_ H
             clear H
             have p514 := pq_ ((ji53)) (y511.length : Int)
             obtain ⟨ad514, e514, hx514_0⟩ := Kd.at_int (Kd.R_reads' HO_3.out).2.2 (ji53) p514.1.1 p514.1.2
             obtain rfl : (⟨go45, 0, none⟩ : Addr) = ad514 := (by injection e514)
             (first | simp only [add_plain] at hx514_0 | simp only [add_at] at hx514_0 | simp only [Addr.add, Nat.zero_add] at hx514_0 | skip)
             obtain ⟨-, p514, q514⟩ := p514
             have p515 := pq_ ((ji53)) (y511.length : Int)
             obtain ⟨ad515, e515, hx515_0⟩ := Kd.at_int (Kd.R_reads' HO_3.out).2.2 (ji53) p515.1.1 p515.1.2
             obtain rfl : (⟨go45, 0, none⟩ : Addr) = ad515 := (by injection e515)
             (first | simp only [add_plain] at hx515_0 | simp only [add_at] at hx515_0 | simp only [Addr.add, Nat.zero_add] at hx515_0 | skip)
             obtain ⟨-, p515, q515⟩ := p515
             have p58 := pq_ ((ji53)) ((y511.length : Int) : Int)
             obtain ⟨hx58_0, hf58_0⟩ := Kd.R_celln 0 HO_3.out ((ji53) : Int) p58.1.1 p58.1.2
             obtain ⟨-, p58, q58⟩ := p58
             have HP59 := Kd.R_putg HO_3.out ((ji53) : Int) (wrap64 ((rd x3_2 x5_2) + t498))
             go_wp2_with (first | ((with_reducible refine gate_store (t := 3) (p := 138) rfl ?_); refine store_event (t := 3) (p := 138) (v := ?vo_w60) (w1 := (wc.setCell ⟨go45, ((ji53) : Int).toNat, none⟩ (.int .i64 (wrap64 ((rd x3_2 x5_2) + t498))))) ?hg ?ho ?hn ?hr ?_; (case ho => rfl); (case hg => rfl); (case hn => rfl); (case hr => first | (go_simp; done) | (go_simp; rfl)); intro w60 hw; have hg : wc.grownBy w60 (some go45) := (by rw [hw]; exact HP59.2); have hp_ : Kd.R (Kd.int .i64) 3 w60 w.heap.size (fun _ => True) (.slice (some ⟨go45, 0, none⟩) y511.length co28) y516 := (by rw [hw, Ny516.out]; exact HP59.1); clear HP59; have n_ := aN2_ (hp_) ((by rw [hw]; exact bS_ (HB.out) GB45.out : Below w.heap.size w w60)); clear HO_3 HB hg hw hp_; obtain ⟨HO_3, HB⟩ := n_))
             (try simp only [← hl3_45])
             go_roundg kj45
             case measure => have := HK1.out; have := HK2.out; have := HJ15.out; have := HJ26.out; have := HJ30.out; have := HJ45.out; omega
             case rel => exact ⟨(y516), (ji53), (by first | rfl | (simp; done) | (simp only [← hji53] <;> (first | rfl | simp)) | (simp [*]; done)), H', ⟨by have := HK1.out; have := HK2.out; have := HJ15.out; have := HJ26.out; have := HJ30.out; have := HJ45.out; omega⟩, ⟨by (try simp only [hl3_45]); (with_reducible repeat (first | apply rA_ | apply rN_ | apply rD_)); exact HO_3.out⟩, ⟨qB HB⟩⟩
end Go.Proofs.YtjamfddhcigchaaGreatDoor.HFnCodeRun
namespace Go.Proofs.YtjamfddhcigchaaGreatDoor.HFnCodeRun
open Go.RowKit Go.Proofs.YtjamfddhcigchaaGreatDoorW.PrintWords Go.Proofs.YtjamfddhcigchaaGreatDoorW.PrintLast Go.Proofs.YtjamfddhcigchaaGreatDoorW.PrintMore
attribute [local go_sem] max2_int min2_int max_two min_two max_three min_three max_four min_four
set_option linter.unusedVariables false
set_option linter.unusedSimpArgs false
def spec_CodeOk.l0 : Nat → List (S30) → Int → Option (Bool)
  | 0, _, _ => none
  | k + 1, x0, x3 => if x3 < (x0.length : Int) then (if 0 ≤ x3 then ((spec_l5Ins.f k ((rd_T30 x0 x3).f0) ((rd_T30 x0 x3).f1) ((rd_T30 x0 x3).f2.f0) ((rd_T30 x0 x3).f2.f1) x3 (x0.length : Int)).bind fun t519 => (if t519 = true then (spec_CodeOk.l0 k x0 (wrap64 (x3 + 1))) else (some false))) else (none)) else ((spec_l5Depths.f k x0).bind fun t520 => (if (t520.length : Int) = (wrap64 ((x0.length : Int) + 1)) then (if 0 ≤ (x0.length : Int) then (if (x0.length : Int) < (t520.length : Int) then (some ((rd t520 (x0.length : Int)) == 0)) else (none)) else (none)) else (some false)))
def spec_CodeOk.f (k : Nat) (l0 : List (S30)) : Option (Bool) := if (l0.length : Int) > 400 then (some false) else (spec_CodeOk.l0 k l0 0)
set_option maxHeartbeats 8000000 in
set_option maxRecDepth 100000 in
theorem spec_CodeOk.calls (k : Nat) (A0 : Option Addr) (c0 : Nat) (l0 : List (S30)) (r : Bool) (w : World) (hr0 : Kd.C k30 w A0 l0.length l0) (hc0 : l0.length ≤ c0) (h : spec_CodeOk.f k l0 = some r) :
    Calls Tryz.prog 16 #[.slice A0 l0.length c0] w fun e w' => e = .returned (.bool r) ∧ Below w.heap.size w w' := by
 have hu30 := Tryz.underlying30
 have HR0 := aM_ hr0
 have HC0 := aM_ hc0
 clear hr0 hc0
 have HB := aM_ (Below.refl w.heap.size w)
 have H : (if (l0.length : Int) > 400 then (some false) else (spec_CodeOk.l0 k l0 0)) = some r := h
 clear h
 by_cases c2 : (l0.length : Int) > 400
 · rw [if_pos c2] at H
   have c2b0 : decide (400 < (l0.length : Int)) = true := dT_ c2
   have c2b1 : decide (400 < l0.length) = true := dT_ (by omega)
   clear c2
   obtain rfl := oI_ H
   go_enter Tryz.func16, Tryz.ntmps16
   go_wp2
   go_ret
   exact ⟨qE, qB HB⟩
 rw [if_neg c2] at H
 have c2b0 : decide (400 < (l0.length : Int)) = false := dF_ c2
 have c2b1 : decide (400 < l0.length) = false := dF_ (by omega)
 clear c2
 have H' := aM_ H
 clear H
 go_enter Tryz.func16, Tryz.ntmps16
 go_wp2
 go_loopg [3] k (fun kq v3 w' => ∃ (x3_1 : Int), v3 = .int .i64 x3_1 ∧ Aside0 (spec_CodeOk.l0 kq l0 x3_1 = some r) ∧ Aside0 (kq ≤ k) ∧ Aside0 (Below w.heap.size w w'))
 case atStart => exact ⟨(0), qF, H', ⟨Nat.le_refl _⟩, ⟨qB HB⟩⟩
 case round =>
  clear H'
  obtain ⟨x3_1, rfl, HA, HK1, HB⟩ := hrel
  cases gk with
  | zero => exact absurd HA.out (by simp [spec_CodeOk.l0])
  | succ k1 =>
   have H := HA.out
   clear HA
   simp only [spec_CodeOk.l0] at H
   by_cases c3 : x3_1 < (l0.length : Int)
   · rw [if_pos c3] at H
     have c3b0 : decide (x3_1 < (l0.length : Int)) = true := dT_ c3
     clear c3
     obtain ⟨H, c4b0⟩ := nP_ H
     replace H := oB_ H
     obtain ⟨t519, A50, H⟩ := H
     have A5 := aM_ A50
     clear A50
     by_cases c6 : t519 = true
     rotate_left
     · replace c6 := Bool.eq_false_iff.mpr c6
       subst c6
       rw [if_neg (show ¬ (false = true) by decide)] at H
       obtain rfl := oI_ H
       have p518 : 0 ≤ (x3_1 : Int) := oD_ (by first | (with_reducible assumption) | assumption)
       have q518 : x3_1 < (l0.length : Int) := oD_ (by first | (with_reducible assumption) | assumption)
       obtain ⟨ad518, e518, hx518_0, hx518_1, hx518_2, hx518_3⟩ := at_T30 HR0.out x3_1 p518 q518
       cases e518
       replace hx518_0 := qc HB hx518_0
       replace hx518_1 := qc HB hx518_1
       replace hx518_2 := qc HB hx518_2
       replace hx518_3 := qc HB hx518_3
       replace p518 := eq_true p518
       replace q518 := eq_true q518
       go_wp2_with (first | ((with_reducible refine gc_ 41 ?_); refine gL_ (some 21) Tryz.func41 #[.agg #[.int .i64 ((rd_T30 l0 x3_1).f0), .int .i64 ((rd_T30 l0 x3_1).f1), .int .i64 ((rd_T30 l0 x3_1).f2.f0), .int .i64 ((rd_T30 l0 x3_1).f2.f1)], .int .i64 x3_1, .int .i64 (l0.length : Int)] ?_; (with_reducible refine (spec_l5Ins.calls k1 ((rd_T30 l0 x3_1).f0) ((rd_T30 l0 x3_1).f1) ((rd_T30 l0 x3_1).f2.f0) ((rd_T30 l0 x3_1).f2.f1) x3_1 (l0.length : Int) false _ A5.out).mono ?_); rintro e w8 ⟨rfl, hb⟩; refine ⟨_, rfl, ?_⟩; have n0_ := aM_ (bT_ (qB HB) hb); clear HB; revert n0_; intro HB))
       go_ret
       exact ⟨qE, qB HB⟩
     subst c6
     rw [if_pos rfl] at H
     have H' := aM_ H
     clear H
     have p518 : 0 ≤ (x3_1 : Int) := oD_ (by first | (with_reducible assumption) | assumption)
     have q518 : x3_1 < (l0.length : Int) := oD_ (by first | (with_reducible assumption) | assumption)
     obtain ⟨ad518, e518, hx518_0, hx518_1, hx518_2, hx518_3⟩ := at_T30 HR0.out x3_1 p518 q518
     cases e518
     replace hx518_0 := qc HB hx518_0
     replace hx518_1 := qc HB hx518_1
     replace hx518_2 := qc HB hx518_2
     replace hx518_3 := qc HB hx518_3
     replace p518 := eq_true p518
     replace q518 := eq_true q518
     go_wp2_with (first | ((with_reducible refine gc_ 41 ?_); refine gL_ (some 21) Tryz.func41 #[.agg #[.int .i64 ((rd_T30 l0 x3_1).f0), .int .i64 ((rd_T30 l0 x3_1).f1), .int .i64 ((rd_T30 l0 x3_1).f2.f0), .int .i64 ((rd_T30 l0 x3_1).f2.f1)], .int .i64 x3_1, .int .i64 (l0.length : Int)] ?_; (with_reducible refine (spec_l5Ins.calls k1 ((rd_T30 l0 x3_1).f0) ((rd_T30 l0 x3_1).f1) ((rd_T30 l0 x3_1).f2.f0) ((rd_T30 l0 x3_1).f2.f1) x3_1 (l0.length : Int) true _ A5.out).mono ?_); rintro e w7 ⟨rfl, hb⟩; refine ⟨_, rfl, ?_⟩; have n0_ := aM_ (bT_ (qB HB) hb); clear HB; revert n0_; intro HB))
     go_roundg k1
     case measure => have := HK1.out; omega
     case rel => exact ⟨(wrap64 (x3_1 + 1)), qF, H', ⟨by have := HK1.out; omega⟩, ⟨qB HB⟩⟩
   rw [if_neg c3] at H
   have c3b0 : decide (x3_1 < (l0.length : Int)) = false := dF_ c3
   clear c3
   replace H := oB_ H
   obtain ⟨t520, A90, H⟩ := H
   have A9 := aM_ A90
   clear A90
   by_cases c10 : (t520.length : Int) = (wrap64 ((l0.length : Int) + 1))
   rotate_left
   · rw [if_neg c10] at H
     have c10b0 : ((t520.length : Int) == (wrap64 ((l0.length : Int) + 1))) = false := beq_eq_false_iff_ne.mpr c10
     have c10b1 : ((t520.length : Int) != (wrap64 ((l0.length : Int) + 1))) = true := bne_iff_ne.mpr c10
     obtain rfl := oI_ H
     go_wp2_with (first | ((with_reducible refine gc_ 42 ?_); refine gL_ (some 24) Tryz.func42 #[.slice A0 l0.length c0] ?_; (with_reducible refine (spec_l5Depths.calls k1 _ _ l0 t520 _ ?side1 ?side2 A9.out).mono ?_); (case side1 => exact qC (Kd.C_below HR0.out HB.out)); (case side2 => exact HC0.out); rintro e w15 ⟨v521, rfl, ho0, hb⟩; refine ⟨_, rfl, ?_⟩; have n_ := aN2_ (Kd.R_lower ho0 (bZ_ (qB HB))) (bT_ (qB HB) hb); clear HB; obtain ⟨HO522, HB⟩ := n_; obtain ⟨Ao16, co16, eo16⟩ := Kd.R_slice HO522.out; subst eo16))
     go_ret
     exact ⟨qE, qB HB⟩
   rw [if_pos c10] at H
   have c10b0 : ((t520.length : Int) == (wrap64 ((l0.length : Int) + 1))) = true := beq_iff_eq.mpr c10
   have c10b1 : ((t520.length : Int) != (wrap64 ((l0.length : Int) + 1))) = false := bne_eq_false_iff_eq.mpr c10
   clear c10
   obtain ⟨H, c11b0⟩ := nP_ H
   have c11b1 : decide (0 ≤ l0.length) = true := dT_ (by have := of_decide_eq_true c11b0; omega)
   obtain ⟨H, c12b0⟩ := nP_ H
   have c12b1 : decide (l0.length < t520.length) = true := dT_ (by have := of_decide_eq_true c12b0; omega)
   obtain rfl := oI_ H
   go_wp2_with (first | ((with_reducible refine gc_ 42 ?_); refine gL_ (some 24) Tryz.func42 #[.slice A0 l0.length c0] ?_; (with_reducible refine (spec_l5Depths.calls k1 _ _ l0 t520 _ ?side1 ?side2 A9.out).mono ?_); (case side1 => exact qC (Kd.C_below HR0.out HB.out)); (case side2 => exact HC0.out); rintro e w13 ⟨v521, rfl, ho0, hb⟩; refine ⟨_, rfl, ?_⟩; have n_ := aN2_ (Kd.R_lower ho0 (bZ_ (qB HB))) (bT_ (qB HB) hb); clear HB; obtain ⟨HO522, HB⟩ := n_; obtain ⟨Ao14, co14, eo14⟩ := Kd.R_slice HO522.out; subst eo14; have p523 := pq_ ((l0.length : Int)) (t520.length : Int); obtain ⟨ad523, e523, hx523_0⟩ := Kd.at_int (Kd.R_reads' HO522.out).2.2 (l0.length : Int) p523.1.1 p523.1.2; cases e523; (try simp only [Go.IntWalk.toNatUp] at hx523_0); obtain ⟨-, p523, q523⟩ := p523))
   go_ret
   exact ⟨qE, qB HB⟩
def spec_l2List.l0 : Nat → List Int → Int → Option (Bool)
  | 0, _, _ => none
  | k + 1, x0, x3 => if x3 < (x0.length : Int) then (if 0 ≤ x3 then ((spec_NumCut.f (rd x0 x3)).bind fun t525 => (if t525 = (rd x0 x3) then (spec_l2List.l0 k x0 (wrap64 (x3 + 1))) else (some false))) else (none)) else (some ((x0.length : Int) == 6))
def spec_l2List.f (k : Nat) (l0 : List Int) : Option (Bool) := spec_l2List.l0 k l0 0
set_option maxHeartbeats 8000000 in
set_option maxRecDepth 100000 in
theorem spec_l2List.calls (k : Nat) (A0 : Option Addr) (c0 : Nat) (l0 : List Int) (r : Bool) (w : World) (hr0 : Kd.C (Kd.int .i64) w A0 l0.length l0) (hc0 : l0.length ≤ c0) (h : spec_l2List.f k l0 = some r) :
    Calls Tryz.prog 78 #[.slice A0 l0.length c0] w fun e w' => e = .returned (.bool r) ∧ Drawn0 w w' := by
 have HR0 := aM_ hr0
 have HC0 := aM_ hc0
 clear hr0 hc0
 have H : (spec_l2List.l0 k l0 0) = some r := h
 clear h
 have H' := aM_ H
 clear H
 go_enter Tryz.func78, Tryz.ntmps78
 go_wp2
 repeat (go_quiet (fail); try go_wp2)
 go_loopg [3] k (fun kq v3 w' => ∃ (x3_1 : Int), v3 = .int .i64 x3_1 ∧ Aside0 (spec_l2List.l0 kq l0 x3_1 = some r) ∧ Aside0 (kq ≤ k) ∧ Drawn0 w w')
 case atStart => exact ⟨(0), qF, H', ⟨Nat.le_refl _⟩, by repeat (first | exact Drawn0.refl _ | apply Drawn0.step)⟩
 case round =>
  clear H'
  obtain ⟨x3_1, rfl, HA, HK1, ⟨m1, rfl⟩⟩ := hrel
  cases gk with
  | zero => exact absurd HA.out (by simp [spec_l2List.l0])
  | succ k1 =>
   have H := HA.out
   clear HA
   simp only [spec_l2List.l0] at H
   by_cases c2 : x3_1 < (l0.length : Int)
   rotate_left
   · rw [if_neg c2] at H
     have c2b0 : decide (x3_1 < (l0.length : Int)) = false := dF_ c2
     clear c2
     obtain rfl := oI_ H
     go_wp2
     repeat (go_quiet (fail); try go_wp2)
     go_ret
     exact ⟨qF, by repeat (first | exact Drawn0.refl _ | apply Drawn0.step)⟩
   rw [if_pos c2] at H
   have c2b0 : decide (x3_1 < (l0.length : Int)) = true := dT_ c2
   clear c2
   obtain ⟨H, c3b0⟩ := nP_ H
   replace H := oB_ H
   obtain ⟨t525, A40, H⟩ := H
   have A4 := aM_ A40
   clear A40
   by_cases c5 : t525 = (rd l0 x3_1)
   rotate_left
   · rw [if_neg c5] at H
     have c5b0 : (t525 == (rd l0 x3_1)) = false := beq_eq_false_iff_ne.mpr c5
     have c5b1 : (t525 != (rd l0 x3_1)) = true := bne_iff_ne.mpr c5
     obtain rfl := oI_ H
     have p524 := pq_ x3_1 (l0.length : Int)
     obtain ⟨ad524, e524, hx524_0⟩ := Kd.at_int HR0.out x3_1 p524.1.1 p524.1.2
     cases e524
     obtain ⟨-, p524, q524⟩ := p524
     go_wp2_with (first | (go_at_call 73; (with_reducible refine (spec_NumCut.calls (rd l0 x3_1) t525 _ A4.out).mono ?_); rintro e w' ⟨rfl, ⟨nd, rfl⟩⟩; (try first | exact ⟨rfl, _, World.drewN_drewN _ _ _⟩ | exact ⟨rfl, _, Eq.trans (World.drewN_drewN _ _ _) (congrArg (World.drewN _) (Nat.add_assoc _ _ _))⟩); have p526 := pq_ x3_1 (l0.length : Int); obtain ⟨ad526, e526, hx526_0⟩ := Kd.at_int HR0.out x3_1 p526.1.1 p526.1.2; obtain rfl : ad524 = ad526 := (by injection e526); obtain ⟨-, p526, q526⟩ := p526))
     repeat (go_quiet (first | (go_at_call 73; (with_reducible refine (spec_NumCut.calls (rd l0 x3_1) t525 _ A4.out).mono ?_); rintro e w' ⟨rfl, ⟨nd, rfl⟩⟩; (try first | exact ⟨rfl, _, World.drewN_drewN _ _ _⟩ | exact ⟨rfl, _, Eq.trans (World.drewN_drewN _ _ _) (congrArg (World.drewN _) (Nat.add_assoc _ _ _))⟩); have p526 := pq_ x3_1 (l0.length : Int); obtain ⟨ad526, e526, hx526_0⟩ := Kd.at_int HR0.out x3_1 p526.1.1 p526.1.2; obtain rfl : ad524 = ad526 := (by injection e526); obtain ⟨-, p526, q526⟩ := p526)); try go_wp2_with (first | (go_at_call 73; (with_reducible refine (spec_NumCut.calls (rd l0 x3_1) t525 _ A4.out).mono ?_); rintro e w' ⟨rfl, ⟨nd, rfl⟩⟩; (try first | exact ⟨rfl, _, World.drewN_drewN _ _ _⟩ | exact ⟨rfl, _, Eq.trans (World.drewN_drewN _ _ _) (congrArg (World.drewN _) (Nat.add_assoc _ _ _))⟩); have p526 := pq_ x3_1 (l0.length : Int); obtain ⟨ad526, e526, hx526_0⟩ := Kd.at_int HR0.out x3_1 p526.1.1 p526.1.2; obtain rfl : ad524 = ad526 := (by injection e526); obtain ⟨-, p526, q526⟩ := p526)))
     go_ret
     exact ⟨qF, by repeat (first | exact Drawn0.refl _ | apply Drawn0.step)⟩
   rw [if_pos c5] at H
   have c5b0 : (t525 == (rd l0 x3_1)) = true := beq_iff_eq.mpr c5
   have c5b1 : (t525 != (rd l0 x3_1)) = false := bne_eq_false_iff_eq.mpr c5
   clear c5
   have H' := aM_ H
   clear H
   have p524 := pq_ x3_1 (l0.length : Int)
   obtain ⟨ad524, e524, hx524_0⟩ := Kd.at_int HR0.out x3_1 p524.1.1 p524.1.2
   cases e524
   obtain ⟨-, p524, q524⟩ := p524
   go_wp2_with (first | (go_at_call 73; (with_reducible refine (spec_NumCut.calls (rd l0 x3_1) t525 _ A4.out).mono ?_); rintro e w' ⟨rfl, ⟨nd, rfl⟩⟩; (try first | exact ⟨rfl, _, World.drewN_drewN _ _ _⟩ | exact ⟨rfl, _, Eq.trans (World.drewN_drewN _ _ _) (congrArg (World.drewN _) (Nat.add_assoc _ _ _))⟩); have p526 := pq_ x3_1 (l0.length : Int); obtain ⟨ad526, e526, hx526_0⟩ := Kd.at_int HR0.out x3_1 p526.1.1 p526.1.2; obtain rfl : ad524 = ad526 := (by injection e526); obtain ⟨-, p526, q526⟩ := p526))
   repeat (go_quiet (first | (go_at_call 73; (with_reducible refine (spec_NumCut.calls (rd l0 x3_1) t525 _ A4.out).mono ?_); rintro e w' ⟨rfl, ⟨nd, rfl⟩⟩; (try first | exact ⟨rfl, _, World.drewN_drewN _ _ _⟩ | exact ⟨rfl, _, Eq.trans (World.drewN_drewN _ _ _) (congrArg (World.drewN _) (Nat.add_assoc _ _ _))⟩); have p526 := pq_ x3_1 (l0.length : Int); obtain ⟨ad526, e526, hx526_0⟩ := Kd.at_int HR0.out x3_1 p526.1.1 p526.1.2; obtain rfl : ad524 = ad526 := (by injection e526); obtain ⟨-, p526, q526⟩ := p526)); try go_wp2_with (first | (go_at_call 73; (with_reducible refine (spec_NumCut.calls (rd l0 x3_1) t525 _ A4.out).mono ?_); rintro e w' ⟨rfl, ⟨nd, rfl⟩⟩; (try first | exact ⟨rfl, _, World.drewN_drewN _ _ _⟩ | exact ⟨rfl, _, Eq.trans (World.drewN_drewN _ _ _) (congrArg (World.drewN _) (Nat.add_assoc _ _ _))⟩); have p526 := pq_ x3_1 (l0.length : Int); obtain ⟨ad526, e526, hx526_0⟩ := Kd.at_int HR0.out x3_1 p526.1.1 p526.1.2; obtain rfl : ad524 = ad526 := (by injection e526); obtain ⟨-, p526, q526⟩ := p526)))
   go_roundg k1
   case measure => have := HK1.out; omega
   case rel => exact ⟨(wrap64 (x3_1 + 1)), qF, H', ⟨by have := HK1.out; omega⟩, by repeat (first | exact Drawn0.refl _ | apply Drawn0.step)⟩
def spec_MemOk.f (k : Nat) (l0_0 : List Int) (l0_1 : List Int) (l0_2 : List Int) : Option (Bool) := (spec_l2List.f k l0_0).bind fun t528 => (if t528 = true then ((spec_l2List.f k l0_1).bind fun t529 => (if t529 = true then ((spec_l2List.f k l0_2).bind fun t530 => (some t530)) else (some false))) else (some false))
set_option maxHeartbeats 8000000 in
set_option maxRecDepth 100000 in
theorem spec_MemOk.calls (k : Nat) (A0_0 : Option Addr) (c0_0 : Nat) (l0_0 : List Int) (A0_1 : Option Addr) (c0_1 : Nat) (l0_1 : List Int) (A0_2 : Option Addr) (c0_2 : Nat) (l0_2 : List Int) (r : Bool) (w : World) (hr0_0 : Kd.C (Kd.int .i64) w A0_0 l0_0.length l0_0) (hc0_0 : l0_0.length ≤ c0_0) (hr0_1 : Kd.C (Kd.int .i64) w A0_1 l0_1.length l0_1) (hc0_1 : l0_1.length ≤ c0_1) (hr0_2 : Kd.C (Kd.int .i64) w A0_2 l0_2.length l0_2) (hc0_2 : l0_2.length ≤ c0_2) (h : spec_MemOk.f k l0_0 l0_1 l0_2 = some r) :
    Calls Tryz.prog 46 #[.agg #[.slice A0_0 l0_0.length c0_0, .slice A0_1 l0_1.length c0_1, .slice A0_2 l0_2.length c0_2]] w fun e w' => e = .returned (.bool r) ∧ Below w.heap.size w w' := by
 have hu33 := Tryz.underlying33
 have HR0_0 := aM_ hr0_0
 have HC0_0 := aM_ hc0_0
 clear hr0_0 hc0_0
 have HR0_1 := aM_ hr0_1
 have HC0_1 := aM_ hc0_1
 clear hr0_1 hc0_1
 have HR0_2 := aM_ hr0_2
 have HC0_2 := aM_ hc0_2
 clear hr0_2 hc0_2
 have HB := aM_ (Below.refl w.heap.size w)
 have H : ((spec_l2List.f k l0_0).bind fun t528 => (if t528 = true then ((spec_l2List.f k l0_1).bind fun t529 => (if t529 = true then ((spec_l2List.f k l0_2).bind fun t530 => (some t530)) else (some false))) else (some false))) = some r := h
 clear h
 replace H := oB_ H
 obtain ⟨t528, A20, H⟩ := H
 have A2 := aM_ A20
 clear A20
 by_cases c3 : t528 = true
 rotate_left
 · replace c3 := Bool.eq_false_iff.mpr c3
   subst c3
   rw [if_neg (show ¬ (false = true) by decide)] at H
   obtain rfl := oI_ H
   go_enter Tryz.func46, Tryz.ntmps46
   go_wp2_with (first | ((with_reducible refine gD_ 1 ?_); refine bxB 1 33 #[.slice A0_0 l0_0.length c0_0, .slice A0_1 l0_1.length c0_1, .slice A0_2 l0_2.length c0_2] (qB HB) ?_; clear HB; intro gb527 w11 HB BK527 GW527; have GE527 := GW527; have hC12 := cf3 BK527.out) | ((with_reducible refine gc_ 78 ?_); refine gL_ (some 5) Tryz.func78 #[.slice A0_0 l0_0.length c0_0] ?_; (with_reducible refine (spec_l2List.calls k _ _ l0_0 false _ ?side1 ?side2 A2.out).mono ?_); (case side1 => exact qC (Kd.C_below HR0_0.out HB.out)); (case side2 => exact HC0_0.out); rintro e w' ⟨rfl, ⟨nd, rfl⟩⟩; refine ⟨_, rfl, ?_⟩))
   go_ret
   exact ⟨qE, qB HB⟩
 subst c3
 rw [if_pos rfl] at H
 replace H := oB_ H
 obtain ⟨t529, A40, H⟩ := H
 have A4 := aM_ A40
 clear A40
 by_cases c5 : t529 = true
 rotate_left
 · replace c5 := Bool.eq_false_iff.mpr c5
   subst c5
   rw [if_neg (show ¬ (false = true) by decide)] at H
   obtain rfl := oI_ H
   go_enter Tryz.func46, Tryz.ntmps46
   go_wp2_with (first | ((with_reducible refine gD_ 1 ?_); refine bxB 1 33 #[.slice A0_0 l0_0.length c0_0, .slice A0_1 l0_1.length c0_1, .slice A0_2 l0_2.length c0_2] (qB HB) ?_; clear HB; intro gb527 w9 HB BK527 GW527; have GE527 := GW527; have hC10 := cf3 BK527.out) | ((with_reducible refine gc_ 78 ?_); refine gL_ (some 5) Tryz.func78 #[.slice A0_0 l0_0.length c0_0] ?_; (with_reducible refine (spec_l2List.calls k _ _ l0_0 true _ ?side1 ?side2 A2.out).mono ?_); (case side1 => exact qC (Kd.C_below HR0_0.out HB.out)); (case side2 => exact HC0_0.out); rintro e w' ⟨rfl, ⟨nd, rfl⟩⟩; refine ⟨_, rfl, ?_⟩) | (go_at_call 78; (with_reducible refine (spec_l2List.calls k _ _ l0_1 false _ ?side1 ?side2 A4.out).mono ?_); (case side1 => repeat (first | exact (Kd.C_below HR0_1.out (qB HB)) | (with_reducible refine Kd.C_alloc ?_ _) | (with_reducible refine Kd.C_drewN ?_ _) | (with_reducible refine Kd.C_drew ?_))); (case side2 => exact HC0_1.out); rintro e w' ⟨rfl, ⟨nd, rfl⟩⟩))
   go_ret
   exact ⟨qE, qB HB⟩
 subst c5
 rw [if_pos rfl] at H
 replace H := oB_ H
 obtain ⟨t530, A60, H⟩ := H
 have A6 := aM_ A60
 clear A60
 obtain rfl := oI_ H
 go_enter Tryz.func46, Tryz.ntmps46
 go_wp2_with (first | ((with_reducible refine gD_ 1 ?_); refine bxB 1 33 #[.slice A0_0 l0_0.length c0_0, .slice A0_1 l0_1.length c0_1, .slice A0_2 l0_2.length c0_2] (qB HB) ?_; clear HB; intro gb527 w7 HB BK527 GW527; have GE527 := GW527; have hC8 := cf3 BK527.out) | ((with_reducible refine gc_ 78 ?_); refine gL_ (some 5) Tryz.func78 #[.slice A0_0 l0_0.length c0_0] ?_; (with_reducible refine (spec_l2List.calls k _ _ l0_0 true _ ?side1 ?side2 A2.out).mono ?_); (case side1 => exact qC (Kd.C_below HR0_0.out HB.out)); (case side2 => exact HC0_0.out); rintro e w' ⟨rfl, ⟨nd, rfl⟩⟩; refine ⟨_, rfl, ?_⟩) | (go_at_call 78; (with_reducible refine (spec_l2List.calls k _ _ l0_1 true _ ?side1 ?side2 A4.out).mono ?_); (case side1 => repeat (first | exact (Kd.C_below HR0_1.out (qB HB)) | (with_reducible refine Kd.C_alloc ?_ _) | (with_reducible refine Kd.C_drewN ?_ _) | (with_reducible refine Kd.C_drew ?_))); (case side2 => exact HC0_1.out); rintro e w' ⟨rfl, ⟨nd, rfl⟩⟩) | (go_at_call 78; (with_reducible refine (spec_l2List.calls k _ _ l0_2 t530 _ ?side1 ?side2 A6.out).mono ?_); (case side1 => repeat (first | exact (Kd.C_below HR0_2.out (qB HB)) | (with_reducible refine Kd.C_alloc ?_ _) | (with_reducible refine Kd.C_drewN ?_ _) | (with_reducible refine Kd.C_drew ?_))); (case side2 => exact HC0_2.out); rintro e w' ⟨rfl, ⟨nd, rfl⟩⟩))
 go_ret
 exact ⟨qE, qB HB⟩
def spec_NumOn.f (a0 : Int) : Option (Bool) := some (a0 != 0)
set_option maxHeartbeats 8000000 in
set_option maxRecDepth 100000 in
theorem spec_NumOn.calls (a0 : Int) (r : Bool) (w : World) (h : spec_NumOn.f a0 = some r) :
    Calls Tryz.prog 79 #[.int .i64 a0] w fun e w' => e = .returned (.bool r) ∧ Drawn0 w w' := by
 have H : (some (a0 != 0)) = some r := h
 clear h
 obtain rfl := oI_ H
 go_enter Tryz.func79, Tryz.ntmps79
 go_wp2
 go_ret
 exact ⟨qF, by repeat (first | exact Drawn0.refl _ | apply Drawn0.step)⟩
def spec_l2Get.f (l0_0 : List Int) (l0_1 : List Int) (l0_2 : List Int) (a1_0 : Int) (a1_1 : Int) : Option (Int) := if a1_0 = 1 then (if 0 ≤ a1_1 then (if a1_1 < (l0_0.length : Int) then (some (rd l0_0 a1_1)) else (none)) else (none)) else (if a1_0 = 2 then (if 0 ≤ a1_1 then (if a1_1 < (l0_1.length : Int) then (some (rd l0_1 a1_1)) else (none)) else (none)) else (if 0 ≤ a1_1 then (if a1_1 < (l0_2.length : Int) then (some (rd l0_2 a1_1)) else (none)) else (none)))
set_option maxHeartbeats 8000000 in
set_option maxRecDepth 100000 in
theorem spec_l2Get.calls (A0_0 : Option Addr) (c0_0 : Nat) (l0_0 : List Int) (A0_1 : Option Addr) (c0_1 : Nat) (l0_1 : List Int) (A0_2 : Option Addr) (c0_2 : Nat) (l0_2 : List Int) (a1_0 : Int) (a1_1 : Int) (r : Int) (w : World) (hr0_0 : Kd.C (Kd.int .i64) w A0_0 l0_0.length l0_0) (hc0_0 : l0_0.length ≤ c0_0) (hr0_1 : Kd.C (Kd.int .i64) w A0_1 l0_1.length l0_1) (hc0_1 : l0_1.length ≤ c0_1) (hr0_2 : Kd.C (Kd.int .i64) w A0_2 l0_2.length l0_2) (hc0_2 : l0_2.length ≤ c0_2) (h : spec_l2Get.f l0_0 l0_1 l0_2 a1_0 a1_1 = some r) :
    Calls Tryz.prog 114 #[.agg #[.slice A0_0 l0_0.length c0_0, .slice A0_1 l0_1.length c0_1, .slice A0_2 l0_2.length c0_2], .agg #[.int .i64 a1_0, .int .i64 a1_1]] w fun e w' => e = .returned (.int .i64 r) ∧ Below w.heap.size w w' := by
 have hu33 := Tryz.underlying33
 have hu28 := Tryz.underlying28
 have HR0_0 := aM_ hr0_0
 have HC0_0 := aM_ hc0_0
 clear hr0_0 hc0_0
 have HR0_1 := aM_ hr0_1
 have HC0_1 := aM_ hc0_1
 clear hr0_1 hc0_1
 have HR0_2 := aM_ hr0_2
 have HC0_2 := aM_ hc0_2
 clear hr0_2 hc0_2
 have HB := aM_ (Below.refl w.heap.size w)
 have H : (if a1_0 = 1 then (if 0 ≤ a1_1 then (if a1_1 < (l0_0.length : Int) then (some (rd l0_0 a1_1)) else (none)) else (none)) else (if a1_0 = 2 then (if 0 ≤ a1_1 then (if a1_1 < (l0_1.length : Int) then (some (rd l0_1 a1_1)) else (none)) else (none)) else (if 0 ≤ a1_1 then (if a1_1 < (l0_2.length : Int) then (some (rd l0_2 a1_1)) else (none)) else (none)))) = some r := h
 clear h
 by_cases c3 : a1_0 = 1
 · rw [if_pos c3] at H
   have c3b0 : (a1_0 == 1) = true := beq_iff_eq.mpr c3
   have c3b1 : (a1_0 != 1) = false := bne_eq_false_iff_eq.mpr c3
   clear c3
   obtain ⟨H, c4b0⟩ := nP_ H
   obtain ⟨H, c5b0⟩ := nP_ H
   obtain rfl := oI_ H
   go_enter Tryz.func114, Tryz.ntmps114
   go_wp2_with (first | ((with_reducible refine gD_ 2 ?_); refine bxB 2 33 #[.slice A0_0 l0_0.length c0_0, .slice A0_1 l0_1.length c0_1, .slice A0_2 l0_2.length c0_2] (qB HB) ?_; clear HB; intro gb531 w6 HB BK531 GW531; have GE531 := GW531) | ((with_reducible refine gD_ 3 ?_); refine bx_ 3 28 #[.int .i64 a1_0, .int .i64 a1_1] ?_; intro gb532 hg w7 hbox hb; have n_ := aN7_ (blk_below (qg BK531) hb) (bT_ (qB HB) hb) (hbox) ((by rw [hg]; exact (bZ_ (qB HB)) : w.heap.size ≤ gb532)) ((by rw [hg]; exact (bZ_ (qB HB)) : w.heap.size ≤ gb532)) ((by rw [hg]; exact Nat.ne_of_lt (blk_lt (qg BK531)) : gb531 ≠ gb532)) ((by rw [hg]; exact Nat.ne_of_gt (blk_lt (qg BK531)) : gb532 ≠ gb531)); clear BK531 HB hb hbox hg; obtain ⟨BK531, HB, BK532, GW532, GE532, NB531_532, NB532_531⟩ := n_; have hnb8 := NB532_531.out; have hnc8 := NB531_532.out; have hC9 := cf2 BK532.out; have hC10 := cf3 BK531.out; have p533 := pq_ a1_1 (l0_0.length : Int); obtain ⟨ad533, e533, hx533_0⟩ := Kd.at_int HR0_0.out a1_1 p533.1.1 p533.1.2; cases e533; replace hx533_0 := qc HB hx533_0; obtain ⟨-, p533, q533⟩ := p533))
   go_ret
   exact ⟨qE, qB HB⟩
 rw [if_neg c3] at H
 have c3b0 : (a1_0 == 1) = false := beq_eq_false_iff_ne.mpr c3
 have c3b1 : (a1_0 != 1) = true := bne_iff_ne.mpr c3
 by_cases c11 : a1_0 = 2
 rotate_left
 · rw [if_neg c11] at H
   have c11b0 : (a1_0 == 2) = false := beq_eq_false_iff_ne.mpr c11
   have c11b1 : (a1_0 != 2) = true := bne_iff_ne.mpr c11
   obtain ⟨H, c19b0⟩ := nP_ H
   obtain ⟨H, c20b0⟩ := nP_ H
   obtain rfl := oI_ H
   go_enter Tryz.func114, Tryz.ntmps114
   go_wp2_with (first | ((with_reducible refine gD_ 2 ?_); refine bxB 2 33 #[.slice A0_0 l0_0.length c0_0, .slice A0_1 l0_1.length c0_1, .slice A0_2 l0_2.length c0_2] (qB HB) ?_; clear HB; intro gb531 w21 HB BK531 GW531; have GE531 := GW531) | ((with_reducible refine gD_ 3 ?_); refine bx_ 3 28 #[.int .i64 a1_0, .int .i64 a1_1] ?_; intro gb532 hg w22 hbox hb; have n_ := aN7_ (blk_below (qg BK531) hb) (bT_ (qB HB) hb) (hbox) ((by rw [hg]; exact (bZ_ (qB HB)) : w.heap.size ≤ gb532)) ((by rw [hg]; exact (bZ_ (qB HB)) : w.heap.size ≤ gb532)) ((by rw [hg]; exact Nat.ne_of_lt (blk_lt (qg BK531)) : gb531 ≠ gb532)) ((by rw [hg]; exact Nat.ne_of_gt (blk_lt (qg BK531)) : gb532 ≠ gb531)); clear BK531 HB hb hbox hg; obtain ⟨BK531, HB, BK532, GW532, GE532, NB531_532, NB532_531⟩ := n_; have hnb23 := NB532_531.out; have hnc23 := NB531_532.out; have hC24 := cf2 BK532.out; have hC25 := cf3 BK531.out; have p535 := pq_ a1_1 (l0_2.length : Int); obtain ⟨ad535, e535, hx535_0⟩ := Kd.at_int HR0_2.out a1_1 p535.1.1 p535.1.2; cases e535; replace hx535_0 := qc HB hx535_0; obtain ⟨-, p535, q535⟩ := p535))
   go_ret
   exact ⟨qE, qB HB⟩
 rw [if_pos c11] at H
 have c11b0 : (a1_0 == 2) = true := beq_iff_eq.mpr c11
 have c11b1 : (a1_0 != 2) = false := bne_eq_false_iff_eq.mpr c11
 clear c11
 obtain ⟨H, c12b0⟩ := nP_ H
 obtain ⟨H, c13b0⟩ := nP_ H
 obtain rfl := oI_ H
 go_enter Tryz.func114, Tryz.ntmps114
 go_wp2_with (first | ((with_reducible refine gD_ 2 ?_); refine bxB 2 33 #[.slice A0_0 l0_0.length c0_0, .slice A0_1 l0_1.length c0_1, .slice A0_2 l0_2.length c0_2] (qB HB) ?_; clear HB; intro gb531 w14 HB BK531 GW531; have GE531 := GW531) | ((with_reducible refine gD_ 3 ?_); refine bx_ 3 28 #[.int .i64 a1_0, .int .i64 a1_1] ?_; intro gb532 hg w15 hbox hb; have n_ := aN7_ (blk_below (qg BK531) hb) (bT_ (qB HB) hb) (hbox) ((by rw [hg]; exact (bZ_ (qB HB)) : w.heap.size ≤ gb532)) ((by rw [hg]; exact (bZ_ (qB HB)) : w.heap.size ≤ gb532)) ((by rw [hg]; exact Nat.ne_of_lt (blk_lt (qg BK531)) : gb531 ≠ gb532)) ((by rw [hg]; exact Nat.ne_of_gt (blk_lt (qg BK531)) : gb532 ≠ gb531)); clear BK531 HB hb hbox hg; obtain ⟨BK531, HB, BK532, GW532, GE532, NB531_532, NB532_531⟩ := n_; have hnb16 := NB532_531.out; have hnc16 := NB531_532.out; have hC17 := cf2 BK532.out; have hC18 := cf3 BK531.out; have p534 := pq_ a1_1 (l0_1.length : Int); obtain ⟨ad534, e534, hx534_0⟩ := Kd.at_int HR0_1.out a1_1 p534.1.1 p534.1.2; cases e534; replace hx534_0 := qc HB hx534_0; obtain ⟨-, p534, q534⟩ := p534))
 go_ret
 exact ⟨qE, qB HB⟩
end Go.Proofs.YtjamfddhcigchaaGreatDoor.HFnCodeRun
