-- Made by a program of this session (hp.py) over the kit's print: functions told by hand stand beside printed ones. Lean checks it.
import Derived.Test.YtjamfddhcigchaaGreatDoorTFnCodeRunHFnCodeRunx3
namespace Go.Proofs.YtjamfddhcigchaaGreatDoor.HFnCodeRun
open Go.RowKit Go.Proofs.YtjamfddhcigchaaGreatDoorW.PrintWords Go.Proofs.YtjamfddhcigchaaGreatDoorW.PrintLast Go.Proofs.YtjamfddhcigchaaGreatDoorW.PrintMore
attribute [local go_sem] max2_int min2_int max_two min_two max_three min_three max_four min_four
set_option linter.unusedVariables false
set_option linter.unusedSimpArgs false
def spec_l2Addr.f (k : Nat) (s0_0 : List Int) (s0_1 : Int) : Option (Int × Int × Int) := (spec_l12Rd_pick.f k s0_0 s0_1 3).bind fun bt142 => ((spec_l12Rd_pick.f k s0_0 bt142.2 3).bind fun bt144 => (some (wrap64 (1 + bt142.1), bt144.1, bt144.2)))
set_option maxHeartbeats 8000000 in
set_option maxRecDepth 100000 in
theorem spec_l2Addr.calls (k : Nat) (g : Nat) (s0_0 : List Int) (s0_1 : Int) (r1 : Int) (r2 : Int) (r3 : Int) (w0 w : World) (hI : IsS98 w0 w g s0_0 s0_1) (hB : Below w0.heap.size w0 w) (h : spec_l2Addr.f k s0_0 s0_1 = some (r1, r2, r3)) :
    Calls Tryz.prog 87 #[.pointer (some ⟨g, 0, none⟩)] w fun e w' => e = .returned (.agg #[.int .i64 r1, .int .i64 r2]) ∧ IsS98 w0 w' g s0_0 r3 ∧ Below w0.heap.size w0 w' ∧ KeepBut w w' g none := by
 have hu28 := Tryz.underlying28
 have HI0 := aM_ hI
 have HK := aM_ (KeepBut.refl w g none)
 have HL := aM_ hB.size
 clear hI
 have HW0 := aM_ hB.size
 have HB := aM_ hB
 clear hB
 have H : ((spec_l12Rd_pick.f k s0_0 s0_1 3).bind fun bt142 => ((spec_l12Rd_pick.f k s0_0 bt142.2 3).bind fun bt144 => (some (wrap64 (1 + bt142.1), bt144.1, bt144.2)))) = some (r1, r2, r3) := h
 clear h
 replace H := oB_ H
 obtain ⟨⟨t142, t143⟩, A20, H⟩ := H
 dsimp only at H
 have A2 := aM_ A20
 clear A20
 replace H := oB_ H
 obtain ⟨⟨t144, t145⟩, A30, H⟩ := H
 dsimp only at H
 have A3 := aM_ A30
 clear A30
 simp only [Option.some.injEq, Prod.mk.injEq] at H
 obtain ⟨rfl, rfl, rfl⟩ := H
 go_enter Tryz.func87, Tryz.ntmps87
 go_wp2_with (first | ((with_reducible refine gD_ 2 ?_); refine bx_ 2 28 #[.int .i64 0, .int .i64 0] ?_; intro gb141 hg w4 hbox hb; have n_ := aN8_ (IsS98.below (qI HI0) hb) (KeepBut.trans (qK HK) (KeepBut.of_below hb g none) (.inl rfl)) (bT_ (qS HB) hb) (hbox) ((by rw [hg]; exact (kz_ HK) : w.heap.size ≤ gb141)) ((Nat.le_trans HW0.out (by rw [hg]; exact (kz_ HK) : w.heap.size ≤ gb141) : w0.heap.size ≤ gb141)) ((by rw [hg]; exact Nat.ne_of_lt (IsS98.lt (show IsS98 w0 _ g s0_0 s0_1 from qI HI0)) : g ≠ gb141)) ((by rw [hg]; exact Nat.ne_of_gt (IsS98.lt (show IsS98 w0 _ g s0_0 s0_1 from qI HI0)) : gb141 ≠ g)); clear HI0 HK HB hb hbox hg; obtain ⟨HI0, HK, HB, BK141, GW141, GE141, NB0_141, NB141_0⟩ := n_) | ((with_reducible refine gc_ 58 ?_); refine gL_ (some 4) Tryz.func58 #[.pointer (some ⟨g, 0, none⟩), .int .i64 3] ?_; (with_reducible refine (spec_l12Rd_pick.calls k g s0_0 s0_1 3 t142 t143 w0 _ ?side1 ?side2 A2.out).mono ?_); (case side1 => exact qI HI0); (case side2 => exact qS HB); rintro e w5 ⟨rfl, hi, hb, hk⟩; refine ⟨_, rfl, ?_⟩; have n_ := aN4_ (KeepBut.blk hk (qg BK141) NB141_0.out (by simp)) (KeepBut.trans (qK HK) hk (.inl rfl)) (hb) (hi); clear BK141 HK HB HI0; obtain ⟨BK141, HK, HB, HI0⟩ := n_) | ((with_reducible refine gc_ 58 ?_); refine gL_ (some 7) Tryz.func58 #[.pointer (some ⟨g, 0, none⟩), .int .i64 3] ?_; (with_reducible refine (spec_l12Rd_pick.calls k g s0_0 t143 3 t144 t145 w0 _ ?side1 ?side2 A3.out).mono ?_); (case side1 => exact qI HI0); (case side2 => exact qS HB); rintro e w6 ⟨rfl, hi, hb, hk⟩; refine ⟨_, rfl, ?_⟩; have n_ := aN4_ (KeepBut.blk hk (qg BK141) NB141_0.out (by simp)) (KeepBut.trans (qK HK) hk (.inl rfl)) (hb) (hi); clear BK141 HK HB HI0; obtain ⟨BK141, HK, HB, HI0⟩ := n_; have hnb7 := NB141_0.out; have hnc7 := NB0_141.out; have hC8 := cf2 BK141.out))
 refine bodyPost_ret (results_cell_row rfl _ _ gb141 28 #[.int .i64 (wrap64 (1 + t142)), .int .i64 t144] (0, 0) _ rfl (kq BK141) Tryz.underlying28 rfl (by kernel_rfl)) rfl ?_
 exact ⟨qE, qI HI0, qS HB, qK HK⟩
def spec_l3Kids.j0 : Nat → Int → Bool → Option (Int)
  | 0, _, _ => none
  | k + 1, x0, x3 => if x3 = true then (some 0) else (if x0 = 10 then (some 1) else (if x0 ≥ 3 then (if x0 ≤ 9 then (some 2) else (some (-1))) else (some (-1))))
def spec_l3Kids.f (k : Nat) (a0 : Int) : Option (Int) := if a0 = 1 then (spec_l3Kids.j0 k a0 true) else (spec_l3Kids.j0 k a0 (a0 == 2))
set_option maxHeartbeats 8000000 in
set_option maxRecDepth 100000 in
theorem spec_l3Kids.calls (k : Nat) (a0 : Int) (r : Int) (w : World) (h : spec_l3Kids.f k a0 = some r) :
    Calls Tryz.prog 133 #[.int .i64 a0] w fun e w' => e = .returned (.int .i64 r) ∧ Drawn0 w w' := by
 have H : (if a0 = 1 then (spec_l3Kids.j0 k a0 true) else (spec_l3Kids.j0 k a0 (a0 == 2))) = some r := h
 clear h
 have HC2 := aM_ H
 clear H
 go_enter Tryz.func133, Tryz.ntmps133
 go_upto_region 1 with (fail)
 go_cut [3] (fun v3 wc => ∃ (kq : Nat) (x3_1 : Bool), v3 = .bool x3_1 ∧ Aside0 (spec_l3Kids.j0 kq a0 x3_1 = some r) ∧ Aside0 (kq ≤ k) ∧ Drawn0 w wc)
 case first =>
  have H := HC2.out
  clear HC2
  by_cases c3 : a0 = 1
  rotate_left
  · rw [if_neg c3] at H
    have c3b0 : (a0 == 1) = false := beq_eq_false_iff_ne.mpr c3
    have c3b1 : (a0 != 1) = true := bne_iff_ne.mpr c3
    (first | rw [c3b0] | (simp only [i64_w, i32_w]; rw [c3b0]) | skip)
    have H' := aM_ H
    clear H
    go_wp2
    go_meet
    case rel => exact ⟨_, ((a0 == 2)), qF, H', ⟨by first | omega | exact Nat.le_refl _⟩, by repeat (first | exact Drawn0.refl _ | apply Drawn0.step)⟩
  rw [if_pos c3] at H
  have c3b0 : (a0 == 1) = true := beq_iff_eq.mpr c3
  have c3b1 : (a0 != 1) = false := bne_eq_false_iff_eq.mpr c3
  clear c3
  (first | rw [c3b0] | (simp only [i64_w, i32_w]; rw [c3b0]) | skip)
  have H' := aM_ H
  clear H
  go_wp2
  go_meet
  case rel => exact ⟨_, (true), qF, H', ⟨by first | omega | exact Nat.le_refl _⟩, by repeat (first | exact Drawn0.refl _ | apply Drawn0.step)⟩
 case rest =>
  clear HC2
  obtain ⟨kq, x3_1, rfl, HA, HJ1, ⟨mc1, rfl⟩⟩ := hcut
  cases kq with
  | zero => exact absurd HA.out (by simp [spec_l3Kids.j0])
  | succ kj1 =>
   have H := HA.out
   clear HA
   simp only [spec_l3Kids.j0] at H
   by_cases c4 : x3_1 = true
   · subst c4
     rw [if_pos rfl] at H
     obtain rfl := oI_ H
     go_wp2
     go_ret
     exact ⟨qF, by repeat (first | exact Drawn0.refl _ | apply Drawn0.step)⟩
   replace c4 := Bool.eq_false_iff.mpr c4
   subst c4
   rw [if_neg (show ¬ (false = true) by decide)] at H
   by_cases c5 : a0 = 10
   · rw [if_pos c5] at H
     have c5b0 : (a0 == 10) = true := beq_iff_eq.mpr c5
     have c5b1 : (a0 != 10) = false := bne_eq_false_iff_eq.mpr c5
     clear c5
     obtain rfl := oI_ H
     go_wp2
     go_ret
     exact ⟨qF, by repeat (first | exact Drawn0.refl _ | apply Drawn0.step)⟩
   rw [if_neg c5] at H
   have c5b0 : (a0 == 10) = false := beq_eq_false_iff_ne.mpr c5
   have c5b1 : (a0 != 10) = true := bne_iff_ne.mpr c5
   by_cases c6 : a0 ≥ 3
   rotate_left
   · rw [if_neg c6] at H
     have c6b0 : decide (3 ≤ a0) = false := dF_ c6
     clear c6
     obtain rfl := oI_ H
     go_wp2
     go_ret
     exact ⟨qF, by repeat (first | exact Drawn0.refl _ | apply Drawn0.step)⟩
   rw [if_pos c6] at H
   have c6b0 : decide (3 ≤ a0) = true := dT_ c6
   clear c6
   by_cases c7 : a0 ≤ 9
   · rw [if_pos c7] at H
     have c7b0 : decide (a0 ≤ 9) = true := dT_ c7
     clear c7
     obtain rfl := oI_ H
     go_wp2
     go_ret
     exact ⟨qF, by repeat (first | exact Drawn0.refl _ | apply Drawn0.step)⟩
   rw [if_neg c7] at H
   have c7b0 : decide (a0 ≤ 9) = false := dF_ c7
   clear c7
   obtain rfl := oI_ H
   go_wp2
   go_ret
   exact ⟨qF, by repeat (first | exact Drawn0.refl _ | apply Drawn0.step)⟩
mutual
def spec_l3Expr.j0 : Nat → Int → Bool → List Int → Int → Option (Int × Int × Int × Int × (List (S120)) × Int)
  | 0, _, _, _, _ => none
  | k + 1, x1, x13, x1000, x1001 => if x13 = true then ((spec_l12Rd_pick.f k x1000 x1001 3).bind fun bt149 => (if bt149.1 = 0 then ((spec_l12Rd_num.f k x1000 bt149.2 (([0, 1, 2, 3, (-1), 5, 1000000] : List Int))).bind fun bt154 => (some (1, bt154.1, 0, 0, ([] : List (S120)), bt154.2))) else ((spec_l2Addr.f k x1000 bt149.2).bind fun bt156 => (some (2, 0, bt156.1, bt156.2.1, ([] : List (S120)), bt156.2.2))))) else ((spec_l12Rd_num.f k x1000 x1001 (([3, 3, 4, 5, 6, 6, 7, 8, 9, 10] : List Int))).bind fun bt162 => ((spec_l3Kids.f k bt162.1).bind fun t165 => (spec_l3Expr.l0 k x1 t165 x1000 bt162.2 bt162.1 0 0 0 ([] : List (S120)))))
def spec_l3Expr.l0 : Nat → Int → Int → List Int → Int → Int → Int → Int → Int → List (S120) → Option (Int × Int × Int × Int × (List (S120)) × Int)
  | 0, _, _, _, _, _, _, _, _, _ => none
  | k + 1, x1, x6, x1000, x1001, x165000, x165001, x165002, x165003, x165004 => if x6 > 0 then ((spec_l3Expr.f k x1000 x1001 (wrap64 (x1 - 1))).bind fun bt166 => (if x165004.length < 2513169434916 then (spec_l3Expr.l0 k x1 (wrap64 (x6 - 1)) x1000 bt166.2.2.2.2.2 x165000 x165001 x165002 x165003 (x165004 ++ [(⟨bt166.1, bt166.2.1, (⟨bt166.2.2.1, bt166.2.2.2.1⟩ : S28), bt166.2.2.2.2.1⟩ : S120)])) else (none))) else (some (x165000, x165001, x165002, x165003, x165004, x1001))
def spec_l3Expr.f : Nat → List Int → Int → Int → Option (Int × Int × Int × Int × (List (S120)) × Int)
  | 0, _, _, _ => none
  | k + 1, s0_0, s0_1, a1 => if a1 ≤ 1 then (spec_l3Expr.j0 k a1 true s0_0 s0_1) else ((spec_l12Rd_pick.f k s0_0 s0_1 4).bind fun bt147 => (spec_l3Expr.j0 k a1 (bt147.1 == 0) s0_0 bt147.2))
end
def spec_l3Expr.T9 : Bool × List (List Nat × List Nat) := (true, [([], []), ([0], [0]), ([], []), ([], []), ([3], [3]), ([2, 4], [2, 4]), ([5], [5]), ([1, 6, 5], [1, 6]), ([0, 1, 2, 3, 4, 5, 6, 7], []), ([8, 7, 7, 0, 1, 2, 3, 4, 5, 6, 7], [7, 8])])
def spec_l3Expr.B9 : List Nat := [0, 1, 0, 0, 8, 28, 60, 127, 255, 511]
theorem spec_l3Expr.tab9 : rtab .any (opsOf Tryz.f119 9) = spec_l3Expr.T9 := by kernel_rfl
theorem spec_l3Expr.bits9 : waitsOk spec_l3Expr.T9.2 spec_l3Expr.B9 = true := by kernel_rfl
set_option maxHeartbeats 8000000 in
set_option maxRecDepth 100000 in
theorem spec_l3Expr.calls (k : Nat) : ∀ (g : Nat) (s0_0 : List Int) (s0_1 : Int) (a1 : Int) (r1 : Int) (r2 : Int) (r3 : Int) (r4 : Int) (r5 : List (S120)) (r6 : Int) (w0 w : World) (hI : IsS98 w0 w g s0_0 s0_1) (hB : Below w0.heap.size w0 w) (h : spec_l3Expr.f k s0_0 s0_1 a1 = some (r1, r2, r3, r4, r5, r6)),
    Calls Tryz.prog 119 #[.pointer (some ⟨g, 0, none⟩), .int .i64 a1] w fun e w' => ∃ v4_ : Value, e = .returned (.agg #[.int .i64 r1, .int .i64 r2, .int .i64 r3, .int .i64 r4, v4_]) ∧ Kd.R k120 120 w' w.heap.size (fun _ => True) v4_ r5 ∧ IsS98 w0 w' g s0_0 r6 ∧ Below w0.heap.size w0 w' ∧ KeepBut w w' g none := by
 induction k using Nat.strongRecOn with
 | _ k ih =>
 intro g s0_0 s0_1 a1 r1 r2 r3 r4 r5 r6 w0 w hI hB h
 cases k with
 | zero => exact absurd h (by simp [spec_l3Expr.f])
 | succ k =>
 simp only [spec_l3Expr.f] at h
 have hu120 := Tryz.underlying120
 have HI0 := aM_ hI
 have HK := aM_ (KeepBut.refl w g none)
 have HL := aM_ hB.size
 clear hI
 have HW0 := aM_ hB.size
 have HB := aM_ hB
 clear hB
 have H : (if a1 ≤ 1 then (spec_l3Expr.j0 k a1 true s0_0 s0_1) else ((spec_l12Rd_pick.f k s0_0 s0_1 4).bind fun bt147 => (spec_l3Expr.j0 k a1 (bt147.1 == 0) s0_0 bt147.2))) = some (r1, r2, r3, r4, r5, r6) := h
 clear h
 have HC3 := aM_ H
 clear H
 go_enter Tryz.func119, Tryz.ntmps119
 go_upto_region 1 with (first | ((with_reducible refine gD_ 4 ?_); refine bx_ 4 120 #[.int .i64 0, .int .i64 0, .int .i64 0, .int .i64 0, .slice none 0 0] ?_; intro gb146 hg w4 hbox hb; have n_ := aN8_ (IsS98.below (qI HI0) hb) (KeepBut.trans (qK HK) (KeepBut.of_below hb g none) (.inl rfl)) (bT_ (qS HB) hb) (hbox) ((by rw [hg]; exact (kz_ HK) : w.heap.size ≤ gb146)) ((Nat.le_trans HW0.out (by rw [hg]; exact (kz_ HK) : w.heap.size ≤ gb146) : w0.heap.size ≤ gb146)) ((by rw [hg]; exact Nat.ne_of_lt (IsS98.lt (show IsS98 w0 _ g s0_0 s0_1 from qI HI0)) : g ≠ gb146)) ((by rw [hg]; exact Nat.ne_of_gt (IsS98.lt (show IsS98 w0 _ g s0_0 s0_1 from qI HI0)) : gb146 ≠ g)); clear HI0 HK HB hb hbox hg; obtain ⟨HI0, HK, HB, BK146, GW146, GE146, NB0_146, NB146_0⟩ := n_))
 (try simp only [Act.put, sA_, sB_, sC_])
 go_cut [13] (fun v13 wc => ∃ (kq : Nat) (x13_2 : Bool) (x1001_2 : Int), v13 = .bool x13_2 ∧ Aside0 (spec_l3Expr.j0 kq a1 x13_2 s0_0 x1001_2 = some (r1, r2, r3, r4, r5, r6)) ∧ Aside0 (kq ≤ k) ∧ Aside0 (wc.heap[gb146]? = some (.cells #[.int .i64 0, .int .i64 0, .int .i64 0, .int .i64 0, (.slice none 0 0)] 120 (0, 0))) ∧ Aside0 (IsS98 w0 wc g s0_0 x1001_2) ∧ Aside0 (KeepBut w wc g none) ∧ Aside0 (Below w0.heap.size w0 wc))
 case first =>
  have H := HC3.out
  clear HC3
  by_cases c5 : a1 ≤ 1
  · rw [if_pos c5] at H
    have c5b0 : decide (a1 ≤ 1) = true := dT_ c5
    clear c5
    (first | rw [c5b0] | (simp only [i64_w, i32_w]; rw [c5b0]) | skip)
    have H' := aM_ H
    clear H
    go_wp2
    go_meet
    case rel => exact ⟨_, (true), (s0_1), qF, H', ⟨by first | omega | exact Nat.le_refl _⟩, ⟨qg BK146⟩, ⟨qI HI0⟩, ⟨qK HK⟩, ⟨qS HB⟩⟩
  rw [if_neg c5] at H
  have c5b0 : decide (a1 ≤ 1) = false := dF_ c5
  clear c5
  (first | rw [c5b0] | (simp only [i64_w, i32_w]; rw [c5b0]) | skip)
  replace H := oB_ H
  obtain ⟨⟨t147, t148⟩, A60, H⟩ := H
  dsimp only at H
  have A6 := aM_ A60
  clear A60
  have H' := aM_ H
  clear H
  go_wp2_with (first | (go_at_call 58; (with_reducible refine (spec_l12Rd_pick.calls k g s0_0 s0_1 4 t147 t148 w0 _ ?side1 ?side2 A6.out).mono ?_); (case side1 => exact qI HI0); (case side2 => exact qS HB); rintro e w7 ⟨rfl, hi, hb, hk⟩; have n_ := aN4_ (KeepBut.blk hk (qg BK146) NB146_0.out (by simp)) (KeepBut.trans (qK HK) hk (.inl rfl)) (hb) (hi); clear BK146 HK HB HI0; obtain ⟨BK146, HK, HB, HI0⟩ := n_))
  go_meet
  case rel => exact ⟨_, ((t147 == 0)), (t148), qF, H', ⟨by first | omega | exact Nat.le_refl _⟩, ⟨qg BK146⟩, ⟨qI HI0⟩, ⟨qK HK⟩, ⟨qS HB⟩⟩
 case rest =>
  clear HC3
  obtain ⟨kq, x13_2, x1001_2, rfl, HA, HJ2, BK146, HI0, HK, HB⟩ := hcut
  cases kq with
  | zero => exact absurd HA.out (by simp [spec_l3Expr.j0])
  | succ kj2 =>
   have H := HA.out
   clear HA
   simp only [spec_l3Expr.j0] at H
   by_cases c8 : x13_2 = true
   · subst c8
     rw [if_pos rfl] at H
     replace H := oB_ H
     obtain ⟨⟨t149, t150⟩, A90, H⟩ := H
     dsimp only at H
     have A9 := aM_ A90
     clear A90
     by_cases c10 : t149 = 0
     rotate_left
     · rw [if_neg c10] at H
       have c10b0 : (t149 == 0) = false := beq_eq_false_iff_ne.mpr c10
       have c10b1 : (t149 != 0) = true := bne_iff_ne.mpr c10
       replace H := oB_ H
       obtain ⟨⟨t156, t157, t158⟩, A190, H⟩ := H
       dsimp only at H
       have A19 := aM_ A190
       clear A190
       simp only [Option.some.injEq, Prod.mk.injEq] at H
       obtain ⟨rfl, rfl, rfl, rfl, rfl, rfl⟩ := H
       go_wp2_with (first | ((with_reducible refine gc_ 58 ?_); refine gL_ (some 15) Tryz.func58 #[.pointer (some ⟨g, 0, none⟩), .int .i64 3] ?_; (with_reducible refine (spec_l12Rd_pick.calls kj2 g s0_0 x1001_2 3 t149 t150 w0 _ ?side1 ?side2 A9.out).mono ?_); (case side1 => exact qI HI0); (case side2 => exact qS HB); rintro e w20 ⟨rfl, hi, hb, hk⟩; refine ⟨_, rfl, ?_⟩; have n_ := aN4_ (KeepBut.blk hk (qg BK146) NB146_0.out (by simp)) (KeepBut.trans (qK HK) hk (.inl rfl)) (hb) (hi); clear BK146 HK HB HI0; obtain ⟨BK146, HK, HB, HI0⟩ := n_) | ((with_reducible refine gc_ 87 ?_); refine gL_ (some 22) Tryz.func87 #[.pointer (some ⟨g, 0, none⟩)] ?_; (with_reducible refine (spec_l2Addr.calls kj2 g s0_0 t150 t156 t157 t158 w0 _ ?side1 ?side2 A19.out).mono ?_); (case side1 => exact qI HI0); (case side2 => exact qS HB); rintro e w21 ⟨rfl, hi, hb, hk⟩; refine ⟨_, rfl, ?_⟩; have n_ := aN4_ (KeepBut.blk hk (qg BK146) NB146_0.out (by simp)) (KeepBut.trans (qK HK) hk (.inl rfl)) (hb) (hi); clear BK146 HK HB HI0; obtain ⟨BK146, HK, HB, HI0⟩ := n_; have hnb22 := NB146_0.out; have hnc22 := NB0_146.out; have hC23 := cf5 BK146.out))
       refine bodyPost_ret (results_cell_row rfl _ _ gb146 120 #[.int .i64 2, .int .i64 0, .int .i64 t156, .int .i64 t157, .slice none 0 0] (0, 0) _ rfl (kq BK146) Tryz.underlying120 rfl (by kernel_rfl)) rfl ?_
       exact ⟨_, qE, by first | exact Kd.R_nil _ _ _ _ _ | exact Kd.N_nil _ _ _ _ _ | exact Kd.V_nil _ _ _ _ _ | exact Kd.Q_nil _ _ _ _ _ | exact Kd.S_nil _ _ _ _ _, qI HI0, qS HB, qK HK⟩
     rw [if_pos c10] at H
     have c10b0 : (t149 == 0) = true := beq_iff_eq.mpr c10
     have c10b1 : (t149 != 0) = false := bne_eq_false_iff_eq.mpr c10
     clear c10
     obtain ⟨y151, hy151⟩ : ∃ y_ : List Int, y_ = (([0, 1, 2, 3, (-1), 5, 1000000] : List Int)) := ⟨_, rfl⟩
     replace H : ((spec_l12Rd_num.f kj2 s0_0 t150 y151).bind fun bt154 => (some (1, bt154.1, 0, 0, ([] : List (S120)), bt154.2))) = some (r1, r2, r3, r4, r5, r6) := by subst hy151; exact H
     have Ny151 := aM_ hy151
     clear hy151
     replace H := oB_ H
     obtain ⟨⟨t154, t155⟩, A110, H⟩ := H
     dsimp only at H
     have A11 := aM_ A110
     clear A110
     simp only [Option.some.injEq, Prod.mk.injEq] at H
     obtain ⟨rfl, rfl, rfl, rfl, rfl, rfl⟩ := H
     go_wp2_with (first | ((with_reducible refine gc_ 58 ?_); refine gL_ (some 15) Tryz.func58 #[.pointer (some ⟨g, 0, none⟩), .int .i64 3] ?_; (with_reducible refine (spec_l12Rd_pick.calls kj2 g s0_0 x1001_2 3 t149 t150 w0 _ ?side1 ?side2 A9.out).mono ?_); (case side1 => exact qI HI0); (case side2 => exact qS HB); rintro e w12 ⟨rfl, hi, hb, hk⟩; refine ⟨_, rfl, ?_⟩; have n_ := aN4_ (KeepBut.blk hk (qg BK146) NB146_0.out (by simp)) (KeepBut.trans (qK HK) hk (.inl rfl)) (hb) (hi); clear BK146 HK HB HI0; obtain ⟨BK146, HK, HB, HI0⟩ := n_) | ((with_reducible refine gD_ 18 ?_); refine Kd.R_lit (Kd.int .i64) _ 3 ?hg (N := 18) ?hd (xs := ([0, 1, 2, 3, (-1), 5, 1000000] : List Int)) (inner := [.int .i64 0, .int .i64 1, .int .i64 2, .int .i64 3, .int .i64 (-1), .int .i64 5, .int .i64 1000000]) (ok := fun _ => True) (okp := fun _ => True) ?hr ?hp (fun _ hk => hk) trivial (Below.refl _ _) (Nat.le_refl _) (by simp) ?_; (case hd => rfl); (case hg => rfl); (case hr => first | (go_simp; done) | (go_simp; rfl)); (case hp => exact (Reps.one (show Kd.M (Kd.int .i64) _ _ _ 0 [.int .i64 0] from rfl) (Reps.one (show Kd.M (Kd.int .i64) _ _ _ 1 [.int .i64 1] from rfl) (Reps.one (show Kd.M (Kd.int .i64) _ _ _ 2 [.int .i64 2] from rfl) (Reps.one (show Kd.M (Kd.int .i64) _ _ _ 3 [.int .i64 3] from rfl) (Reps.one (show Kd.M (Kd.int .i64) _ _ _ (-1) [.int .i64 (-1)] from rfl) (Reps.one (show Kd.M (Kd.int .i64) _ _ _ 5 [.int .i64 5] from rfl) (Reps.one (show Kd.M (Kd.int .i64) _ _ _ 1000000 [.int .i64 1000000] from rfl) (Reps.none _ _))))))))); intro v152 w13 ho14 hb hg_ hnew_; clear hg_ hnew_; (first | rw [← Ny151.out] at ho14 | (simp only [Int.reduceToNat] at ho14; rw [← Ny151.out] at ho14)); have n_ := aN5_ (Kd.R_lower ho14 (kz_ HK)) (blk_below (qg BK146) hb) (IsS98.below (qI HI0) hb) (KeepBut.trans (qK HK) (KeepBut.of_below hb g none) (.inl rfl)) (bT_ (qS HB) hb); clear BK146 HI0 HK HB hb ho14; obtain ⟨HO153, BK146, HI0, HK, HB⟩ := n_; obtain ⟨Ao15, co15, eo15⟩ := Kd.R_slice HO153.out; subst eo15) | ((with_reducible refine gc_ 35 ?_); refine gL_ (some 19) Tryz.func35 #[.pointer (some ⟨g, 0, none⟩), .slice Ao15 y151.length co15] ?_; (with_reducible refine (spec_l12Rd_num.calls kj2 g s0_0 t150 _ _ y151 t154 t155 w0 _ ?side1 ?side2 ?side3 ?side4 ?side5 A11.out).mono ?_); (case side1 => exact qI HI0); (case side2 => exact qS HB); (case side3 => exact qC ((Kd.R_reads' HO153.out).2.2)); (case side4 => exact (Kd.R_reads' HO153.out).2.1); (case side5 => exact far_slice (IsS98.own_ne HI0.out HO153.out (by decide))); rintro e w16 ⟨rfl, hi, hb, hk⟩; refine ⟨_, rfl, ?_⟩; have n_ := aN5_ (KeepBut.blk hk (qg BK146) NB146_0.out (by simp)) (Kd.R_mono (Kd.R_keep (IsS98.apart (show IsS98 w0 _ g s0_0 t150 from qI HI0) (qR HO153) (by decide)) hk (fun _ h => h.2)) (fun _ h => h.1)) (KeepBut.trans (qK HK) hk (.inl rfl)) (hb) (hi); clear BK146 HO153 HK HB HI0; obtain ⟨BK146, HO153, HK, HB, HI0⟩ := n_; have hnb17 := NB146_0.out; have hnc17 := NB0_146.out; have hC18 := cf5 BK146.out))
     refine bodyPost_ret (results_cell_row rfl _ _ gb146 120 #[.int .i64 1, .int .i64 t154, .int .i64 0, .int .i64 0, .slice none 0 0] (0, 0) _ rfl (kq BK146) Tryz.underlying120 rfl (by kernel_rfl)) rfl ?_
     exact ⟨_, qE, by first | exact Kd.R_nil _ _ _ _ _ | exact Kd.N_nil _ _ _ _ _ | exact Kd.V_nil _ _ _ _ _ | exact Kd.Q_nil _ _ _ _ _ | exact Kd.S_nil _ _ _ _ _, qI HI0, qS HB, qK HK⟩
   replace c8 := Bool.eq_false_iff.mpr c8
   subst c8
   rw [if_neg (show ¬ (false = true) by decide)] at H
   obtain ⟨y159, hy159⟩ : ∃ y_ : List Int, y_ = (([3, 3, 4, 5, 6, 6, 7, 8, 9, 10] : List Int)) := ⟨_, rfl⟩
   replace H : ((spec_l12Rd_num.f kj2 s0_0 x1001_2 y159).bind fun bt162 => ((spec_l3Kids.f kj2 bt162.1).bind fun t165 => (spec_l3Expr.l0 kj2 a1 t165 s0_0 bt162.2 bt162.1 0 0 0 ([] : List (S120))))) = some (r1, r2, r3, r4, r5, r6) := by subst hy159; exact H
   have Ny159 := aM_ hy159
   clear hy159
   replace H := oB_ H
   obtain ⟨⟨t162, t163⟩, A240, H⟩ := H
   dsimp only at H
   have A24 := aM_ A240
   clear A240
   replace H := oB_ H
   obtain ⟨t165, A250, H⟩ := H
   have A25 := aM_ A250
   clear A250
   have H' := aM_ H
   clear H
   go_wp2_with (first | ((with_reducible refine gD_ 25 ?_); refine Kd.R_lit (Kd.int .i64) _ 3 ?hg (N := 25) ?hd (xs := ([3, 3, 4, 5, 6, 6, 7, 8, 9, 10] : List Int)) (inner := [.int .i64 3, .int .i64 3, .int .i64 4, .int .i64 5, .int .i64 6, .int .i64 6, .int .i64 7, .int .i64 8, .int .i64 9, .int .i64 10]) (ok := fun _ => True) (okp := fun _ => True) ?hr ?hp (fun _ hk => hk) trivial (Below.refl _ _) (Nat.le_refl _) (by simp) ?_; (case hd => rfl); (case hg => rfl); (case hr => first | (go_simp; done) | (go_simp; rfl)); (case hp => exact (Reps.one (show Kd.M (Kd.int .i64) _ _ _ 3 [.int .i64 3] from rfl) (Reps.one (show Kd.M (Kd.int .i64) _ _ _ 3 [.int .i64 3] from rfl) (Reps.one (show Kd.M (Kd.int .i64) _ _ _ 4 [.int .i64 4] from rfl) (Reps.one (show Kd.M (Kd.int .i64) _ _ _ 5 [.int .i64 5] from rfl) (Reps.one (show Kd.M (Kd.int .i64) _ _ _ 6 [.int .i64 6] from rfl) (Reps.one (show Kd.M (Kd.int .i64) _ _ _ 6 [.int .i64 6] from rfl) (Reps.one (show Kd.M (Kd.int .i64) _ _ _ 7 [.int .i64 7] from rfl) (Reps.one (show Kd.M (Kd.int .i64) _ _ _ 8 [.int .i64 8] from rfl) (Reps.one (show Kd.M (Kd.int .i64) _ _ _ 9 [.int .i64 9] from rfl) (Reps.one (show Kd.M (Kd.int .i64) _ _ _ 10 [.int .i64 10] from rfl) (Reps.none _ _)))))))))))); intro v160 w26 ho27 hb hg_ hnew_; clear hg_ hnew_; (first | rw [← Ny159.out] at ho27 | (simp only [Int.reduceToNat] at ho27; rw [← Ny159.out] at ho27)); have n_ := aN5_ (Kd.R_lower ho27 (kz_ HK)) (blk_below (qg BK146) hb) (IsS98.below (qI HI0) hb) (KeepBut.trans (qK HK) (KeepBut.of_below hb g none) (.inl rfl)) (bT_ (qS HB) hb); clear BK146 HI0 HK HB hb ho27; obtain ⟨HO161, BK146, HI0, HK, HB⟩ := n_; obtain ⟨Ao28, co28, eo28⟩ := Kd.R_slice HO161.out; subst eo28) | ((with_reducible refine gc_ 35 ?_); refine gL_ (some 26) Tryz.func35 #[.pointer (some ⟨g, 0, none⟩), .slice Ao28 y159.length co28] ?_; (with_reducible refine (spec_l12Rd_num.calls kj2 g s0_0 x1001_2 _ _ y159 t162 t163 w0 _ ?side1 ?side2 ?side3 ?side4 ?side5 A24.out).mono ?_); (case side1 => exact qI HI0); (case side2 => exact qS HB); (case side3 => exact qC ((Kd.R_reads' HO161.out).2.2)); (case side4 => exact (Kd.R_reads' HO161.out).2.1); (case side5 => exact far_slice (IsS98.own_ne HI0.out HO161.out (by decide))); rintro e w29 ⟨rfl, hi, hb, hk⟩; refine ⟨_, rfl, ?_⟩; have n_ := aN5_ (KeepBut.blk hk (qg BK146) NB146_0.out (by simp)) (Kd.R_mono (Kd.R_keep (IsS98.apart (show IsS98 w0 _ g s0_0 x1001_2 from qI HI0) (qR HO161) (by decide)) hk (fun _ h => h.2)) (fun _ h => h.1)) (KeepBut.trans (qK HK) hk (.inl rfl)) (hb) (hi); clear BK146 HO161 HK HB HI0; obtain ⟨BK146, HO161, HK, HB, HI0⟩ := n_) | ((with_reducible refine gD_ 5 ?_); refine bx_ 5 120 #[.int .i64 0, .int .i64 0, .int .i64 0, .int .i64 0, .slice none 0 0] ?_; intro gb164 hg w30 hbox hb; have n_ := aN12_ (Kd.R_below (qR HO161) hb) (blk_below (qg BK146) hb) (IsS98.below (qI HI0) hb) (KeepBut.trans (qK HK) (KeepBut.of_below hb g none) (.inl rfl)) (bT_ (qS HB) hb) (hbox) ((by rw [hg]; exact (kz_ HK) : w.heap.size ≤ gb164)) ((Nat.le_trans HW0.out (by rw [hg]; exact (kz_ HK) : w.heap.size ≤ gb164) : w0.heap.size ≤ gb164)) ((by rw [hg]; exact Nat.ne_of_lt (blk_lt (qg BK146)) : gb146 ≠ gb164)) ((by rw [hg]; exact Nat.ne_of_gt (blk_lt (qg BK146)) : gb164 ≠ gb146)) ((by rw [hg]; exact Nat.ne_of_lt (IsS98.lt (show IsS98 w0 _ g s0_0 t163 from qI HI0)) : g ≠ gb164)) ((by rw [hg]; exact Nat.ne_of_gt (IsS98.lt (show IsS98 w0 _ g s0_0 t163 from qI HI0)) : gb164 ≠ g)); clear HO161 BK146 HI0 HK HB hb hbox hg; obtain ⟨HO161, BK146, HI0, HK, HB, BK164, GW164, GE164, NB146_164, NB164_146, NB0_164, NB164_0⟩ := n_; have hnb31 := NB164_146.out; have hnc31 := NB146_164.out; have hnb32 := NB164_0.out; have hnc32 := NB0_164.out; have hC33 := cf5 BK164.out) | ((with_reducible refine gc_ 133 ?_); refine gL_ (some 30) Tryz.func133 #[.int .i64 t162] ?_; (with_reducible refine (spec_l3Kids.calls kj2 t162 t165 _ A25.out).mono ?_); rintro e w' ⟨rfl, ⟨nd, rfl⟩⟩; refine ⟨_, rfl, ?_⟩))
   go_loopg [6] kj2 (fun kq v6 w' => ∃ (x6_2 : Int) (x1001_2 : Int) (x165004_2 : List (S120)) (u165004 : Value), v6 = .int .i64 x6_2 ∧ Aside0 (spec_l3Expr.l0 kq a1 x6_2 s0_0 x1001_2 t162 0 0 0 x165004_2 = some (r1, r2, r3, r4, r5, r6)) ∧ Aside0 (kq ≤ kj2) ∧ Aside0 (Kd.R k120 120 w' w.heap.size (fun k_ => k_ ≠ gb146 ∧ k_ ≠ gb164) u165004 x165004_2) ∧ Aside0 (w'.heap[gb146]? = some (.cells #[.int .i64 0, .int .i64 0, .int .i64 0, .int .i64 0, (.slice none 0 0)] 120 (0, 0))) ∧ Aside0 (w'.heap[gb164]? = some (.cells #[.int .i64 t162, .int .i64 0, .int .i64 0, .int .i64 0, u165004] 120 (0, 0))) ∧ Aside0 (IsS98 w0 w' g s0_0 x1001_2) ∧ Aside0 (KeepBut w w' g none) ∧ Aside0 (Below w0.heap.size w0 w'))
   case atStart => exact ⟨(t165), (t163), (([] : List (S120))), (.slice none 0 0), qF, H', ⟨Nat.le_refl _⟩, ⟨by first | exact Kd.R_nil _ _ _ _ _ | exact Kd.N_nil _ _ _ _ _ | exact Kd.V_nil _ _ _ _ _ | exact Kd.Q_nil _ _ _ _ _ | exact Kd.S_nil _ _ _ _ _⟩, ⟨by (with_reducible repeat (first | refine kN_ ?_ _ | refine kD_ ?_ | refine kA_ ?_ _)); refine blk_far ?_ NB146_164.out _; (with_reducible repeat (first | refine kN_ ?_ _ | refine kD_ ?_ | refine kA_ ?_ _)); refine blk_far ?_ NB146_164.out _; (with_reducible repeat (first | refine kN_ ?_ _ | refine kD_ ?_ | refine kA_ ?_ _)); refine blk_far ?_ NB146_164.out _; (with_reducible repeat (first | refine kN_ ?_ _ | refine kD_ ?_ | refine kA_ ?_ _)); refine blk_far ?_ NB146_164.out _; (with_reducible repeat (first | refine kN_ ?_ _ | refine kD_ ?_ | refine kA_ ?_ _)); refine blk_far ?_ NB146_164.out _; (with_reducible repeat (first | refine kN_ ?_ _ | refine kD_ ?_ | refine kA_ ?_ _)); exact BK146.out⟩, ⟨kq BK164⟩, ⟨qI HI0⟩, ⟨qK HK⟩, ⟨qS HB⟩⟩
   case round =>
    clear H'
    obtain ⟨x6_2, x1001_2, x165004_2, u165004, rfl, HA, HK2, HO_165004, BK146, BK164, HI0, HK, HB⟩ := hrel
    cases gk with
    | zero => exact absurd HA.out (by simp [spec_l3Expr.l0])
    | succ k2 =>
     have H := HA.out
     clear HA
     simp only [spec_l3Expr.l0] at H
     by_cases c34 : x6_2 > 0
     rotate_left
     · rw [if_neg c34] at H
       have c34b0 : decide (0 < x6_2) = false := dF_ c34
       clear c34
       simp only [Option.some.injEq, Prod.mk.injEq] at H
       obtain ⟨rfl, rfl, rfl, rfl, rfl, rfl⟩ := H
       have hnb43 := NB164_146.out
       have hnc43 := NB146_164.out
       have hnb44 := NB164_0.out
       have hnc44 := NB0_164.out
       have hC45 := cf5 BK164.out
       have hnb46 := NB146_0.out
       have hnc46 := NB0_146.out
       have hC47 := cf5 BK146.out
       obtain ⟨Ao48, co48, eo48⟩ := Kd.R_slice HO_165004.out
       subst eo48
       go_wp2
       refine bodyPost_ret (results_cell_row rfl _ _ gb146 120 #[.int .i64 t162, .int .i64 0, .int .i64 0, .int .i64 0, .slice Ao48 x165004_2.length co48] (0, 0) _ rfl (kq BK146) Tryz.underlying120 rfl (by kernel_rfl)) rfl ?_
       exact ⟨_, qE, by (with_reducible repeat (first | apply rA_ | apply rN_ | apply rD_)); exact Kd.R_mono (rF_ (p := ⟨gb146, 4, none⟩) (rF_ (p := ⟨gb146, 3, none⟩) (rF_ (p := ⟨gb146, 2, none⟩) (rF_ (p := ⟨gb146, 1, none⟩) (rF_ (p := ⟨gb146, 0, none⟩) (Kd.R_mono HO_165004.out (fun k_ hk => (⟨hk, hk.1⟩ : _ ∧ k_ ≠ gb146))) (fun _ hk => hk.2) (.int .i64 t162)) (fun _ hk => hk.2) (.int .i64 0)) (fun _ hk => hk.2) (.int .i64 0)) (fun _ hk => hk.2) (.int .i64 0)) (fun _ hk => hk.2) (.slice Ao48 x165004_2.length co48)) (fun _ hk => trivial), qI HI0, qS HB, qK HK⟩
     rw [if_pos c34] at H
     have c34b0 : decide (0 < x6_2) = true := dT_ c34
     clear c34
     replace H := oB_ H
     obtain ⟨⟨t166, t167, t168, t169, t170, t173⟩, A350, H⟩ := H
     dsimp only at H
     have A35 := aM_ A350
     clear A350
     by_cases c36 : x165004_2.length < 2513169434916
     rotate_left
     · rw [if_neg c36] at H
       exact absurd H (by simp)
     rw [if_pos c36] at H
     have LMc36 := aM_ c36
     clear c36
     obtain ⟨y174, hy174⟩ : ∃ y_ : List (S120), y_ = (x165004_2 ++ [(⟨t166, t167, (⟨t168, t169⟩ : S28), t170⟩ : S120)]) := ⟨_, rfl⟩
     replace H : (spec_l3Expr.l0 k2 a1 (wrap64 (x6_2 - 1)) s0_0 t173 t162 0 0 0 y174) = some (r1, r2, r3, r4, r5, r6) := by subst hy174; exact H
     have Ny174 := aM_ hy174
     clear hy174
     have H' := aM_ H
     clear H
     try go_wp2
     have n0_ := aM_ (rD_ HO_165004.out)
     have n1_ := aM_ (kD_ BK146.out)
     have n2_ := aM_ (kD_ BK164.out)
     have n3_ := aM_ (iD_ HI0.out)
     have n4_ := aM_ (pD_ HK.out)
     have n5_ := aM_ (b1_ HB.out)
     clear HO_165004 BK146 BK164 HI0 HK HB
     revert n0_ n1_ n2_ n3_ n4_ n5_
     intro HO_165004 BK146 BK164 HI0 HK HB
     refine start_ (n := 10) (S := fun w' => w'.cell? ⟨gb164, 0, none⟩ = some (.int .i64 t162) ∧ w'.cell? ⟨gb164, 1, none⟩ = some (.int .i64 0) ∧ w'.cell? ⟨gb164, 2, none⟩ = some (.int .i64 0) ∧ w'.cell? ⟨gb164, 3, none⟩ = some (.int .i64 0) ∧ w'.cell? ⟨gb164, 4, none⟩ = some (u165004)) (ds := [9]) #[F_, F_, F_, F_, F_, F_, F_, F_, F_, F_] (by kernel_rfl) rfl rfl ⟨(kC_ BK164.out 0).trans rfl, (kC_ BK164.out 1).trans rfl, (kC_ BK164.out 2).trans rfl, (kC_ BK164.out 3).trans rfl, (kC_ BK164.out 4).trans rfl⟩ (fun hHeld => ?_); refine with_tabW spec_l3Expr.tab9 spec_l3Expr.bits9 (fun HT_ HW_ => ?_)
     generalize wr.drew = w37 at HO_165004 BK146 BK164 HI0 HK HB hHeld ⊢
     refine pu_ 0 35 ?_
     refine pu_ 2 37 ?_
     refine pu_ 3 38 ?_
     refine pu_ 4 39 ?_
     refine tk_ 1 36 hHeld ?_
     refine on_ 5 (some 40) fun K hK => ?_
     refine goes_ Tryz.func119 (by kernel_rfl) rfl #[.pointer (some ⟨g, 0, none⟩), .int .i64 (wrap64 (a1 - 1))] (by rfl) rfl rfl (by (try simp only [mA_, List.map_cons, List.map_nil]); first | done | rfl | (simp only [lD_, lT_]; rfl)) ?_
     with_reducible refine (ih k2 (by have := HJ2.out; have := HK2.out; omega) g s0_0 x1001_2 (wrap64 (a1 - 1)) t166 t167 t168 t169 t170 t173 w0 _ ?side1 ?side2 A35.out).mono ?_
     (case side1 => exact qI HI0)
     (case side2 => exact qS HB)
     rintro e w38 ⟨v171, rfl, ho0, hi, hb, hk⟩
     refine ⟨_, rfl, ?_⟩
     have n0_ := aM_ (Kd.R_mono (Kd.R_told (Kd.R_oldK (IsS98.apart (show IsS98 w0 _ g s0_0 x1001_2 from qI HI0) (qR HO_165004) (by decide)) hk) (Kd.R_base ho0)) (fun _ h_ => h_.1))
     have n1_ := aM_ (KeepBut.blk hk (qg BK146) NB146_0.out (by simp))
     have n2_ := aM_ (KeepBut.blk hk (qg BK164) NB164_0.out (by simp))
     have n3_ := aM_ (Kd.R_lower (Kd.R_newB (Kd.R_newB (Kd.R_new' ho0 (Kd.R_lt (qR HO_165004))) (qg BK146)) (qg BK164)) (kz_ HK))
     have n4_ := aM_ (KeepBut.trans (qK HK) hk (.inl rfl))
     have n5_ := aM_ (hb)
     have n6_ := aM_ (hi)
     clear HO_165004 BK146 BK164 HK HB HI0
     revert n0_ n1_ n2_ n3_ n4_ n5_ n6_
     intro HO_165004 BK146 BK164 HO172 HK HB HI0
     (try clear hb)
     (try clear hb2)
     (try clear hk)
     (try clear hi)
     (try clear ho0)
     obtain ⟨Ao40, co40, eo40⟩ := Kd.R_slice HO172.out
     (first | subst eo40 | (injection eo40 with f1_ f2_ f3_; have f4_ := f1_.symm; have f5_ := f3_.symm; clear f1_ f2_ f3_; subst f4_; subst f5_))
     refine hK.out _ _ ⟨(kC_ BK164.out 0).trans rfl, (kC_ BK164.out 1).trans rfl, (kC_ BK164.out 2).trans rfl, (kC_ BK164.out 3).trans rfl, (kC_ BK164.out 4).trans rfl⟩ (fun hHeld => ?_)
     clear hK K
     refine norm_ (a' := ?_) ?_ ?_
     rotate_left
     · show Act.put _ (some 40) _ = _
       simp only [Act.put, sA_, sB_, sC_, i64_w, i32_w]
       rfl
     refine on_ 6 (some 41) fun K hK => ?_
     refine value_ (w1 := ?_) (v := ?_) (by rfl) rfl ?_ ?_
     rotate_left 2
     · go_simp
       constructor
       · rfl
       · rfl
     refine hK.out _ _ ⟨(kC_ (kA_ BK164.out _) 0).trans rfl, (kC_ (kA_ BK164.out _) 1).trans rfl, (kC_ (kA_ BK164.out _) 2).trans rfl, (kC_ (kA_ BK164.out _) 3).trans rfl, (kC_ (kA_ BK164.out _) 4).trans rfl⟩ (fun hHeld => ?_)
     clear hK K
     refine norm_ (a' := ?_) ?_ ?_
     rotate_left
     · show Act.put _ (some 41) _ = _
       simp only [Act.put, sA_, sB_, sC_, i64_w, i32_w]
       rfl
     refine on_ 7 (some 42) fun K hK => ?_
     refine Kd.R_append_step k120 w.heap.size (by rfl) (.tmp 36) (.tmp 41) 118 120 (.agg #[(.int .i64 0), (.int .i64 0), (.int .i64 0), (.int .i64 0), (.slice none 0 0)]) 56 rfl Tryz.underlying118 info120 rfl (by decide) (by omega) u165004 x165004_2 (⟨t166, t167, (⟨t168, t169⟩ : S28), t170⟩ : S120) [.int .i64 t166, .int .i64 t167, .int .i64 t168, .int .i64 t169, .slice Ao40 t170.length co40] (fun k_ => k_ ≠ gb146 ∧ k_ ≠ gb164) (fun k_ => ((fun k_ => k_ ≠ gb146 ∧ k_ ≠ gb164)) k_ ∧ some k_ ≠ (u165004 : Value).ownBlock) rfl rfl ?aP (fun _ hk => hk) ?aF ?aO (Below.refl _ _) ?aS ?aL ?_
     (case aP => exact k120_mkM _ _ _ (⟨t166, t167, (⟨t168, t169⟩ : S28), t170⟩ : S120) (Kd.R_mono (HO172.out) (fun k_ hk => ⟨⟨hk.1.2, hk.2⟩, hk.1.1.2⟩)))
     (case aF => exact (fun k_ hk => ⟨Kd.freshB (qg BK146) k_ hk, Kd.freshB (qg BK164) k_ hk⟩))
     (case aO => exact (qr (Kd.R_mono HO_165004.out (fun _ hk => ⟨hk.1.1, hk.1.2⟩))))
     (case aS => exact (kz_ HK))
     (case aL => have := LMc36.out; omega)
     intro v175 w39 ho hb hg hat
     rw [← Ny174.out] at ho
     have n_ := aN6_ (blk_grown (qg BK146) hg (Kd.R_away HO_165004.out (fun _ hk => hk.1.1))) (blk_grown (qg BK164) hg (Kd.R_away HO_165004.out (fun _ hk => hk.1.2))) (IsS98.grown (qI HI0) hg (IsS98.own_ne HI0.out HO_165004.out (by decide))) (below_weaken (qS HB) HL.out hb) (KeepBut.trans (qK HK) (KeepBut.of_grown hg g) (Kd.R_base2 HO_165004.out)) (ho)
     clear BK146 BK164 HI0 HB HK HO_165004 HO172 ho hb hg hat
     obtain ⟨BK146, BK164, HI0, HB, HK, HO176⟩ := n_
     obtain ⟨Ao41, co41, eo41⟩ := Kd.R_slice HO176.out
     (first | subst eo41 | (injection eo41 with f1_ f2_ f3_; have f4_ := f1_.symm; have f5_ := f3_.symm; clear f1_ f2_ f3_; subst f4_; subst f5_))
     refine hK.out _ _ ⟨(kC_ BK164.out 0).trans rfl, (kC_ BK164.out 1).trans rfl, (kC_ BK164.out 2).trans rfl, (kC_ BK164.out 3).trans rfl, (kC_ BK164.out 4).trans rfl⟩ (fun hHeld => ?_)
     clear hK K
     refine norm_ (a' := ?_) ?_ ?_
     rotate_left
     · show Act.put _ (some 42) _ = _
       simp only [Act.put, sA_, sB_, sC_, i64_w, i32_w]
       rfl
     refine pu_ 8 43 ?_
     refine la_ 9 none fun K hK => ?_
     have hs42 : w39.cell? ⟨gb164, 4, none⟩ = some (u165004) := (kC_ BK164.out 4).trans rfl
     have hfs42 := blk_frozen BK164.out 4
     have hns42_0 := NB146_164.out
     have hms42_0 := NB164_146.out
     refine skip_ (w1 := ?_) (by rfl) rfl ?_ ?_
     rotate_left
     · go_simp
       rfl
     refine hK.out _ _ ?_
     clear hK K
     refine done_ (done_of HT_.out (by kernel_rfl)) ?_
     try go_wp2
     go_roundg k2
     case measure => have := HJ2.out; have := HK2.out; omega
     case rel => exact ⟨(wrap64 (x6_2 - 1)), (t173), (y174), (.slice Ao41 y174.length co41), qF, H', ⟨by have := HJ2.out; have := HK2.out; omega⟩, ⟨by (with_reducible repeat (first | apply rA_ | apply rN_ | apply rD_)); exact Kd.R_mono (rF_ (p := ⟨gb164, 4, none⟩) (Kd.R_mono HO176.out (fun k_ hk => (⟨hk, hk.2⟩ : _ ∧ k_ ≠ gb164))) (fun _ hk => hk.2) (.slice Ao41 y174.length co41)) (fun _ hk => ⟨hk.1.1, hk.1.2⟩)⟩, ⟨by (with_reducible repeat (first | refine kN_ ?_ _ | refine kD_ ?_ | refine kA_ ?_ _)); refine blk_far ?_ NB146_164.out _; (with_reducible repeat (first | refine kN_ ?_ _ | refine kD_ ?_ | refine kA_ ?_ _)); exact BK146.out⟩, ⟨kq BK164⟩, ⟨qI HI0⟩, ⟨qK HK⟩, ⟨qS HB⟩⟩
def spec_l2To.f (k : Nat) (s0_0 : List Int) (s0_1 : Int) : Option (Int × Int × Int) := (spec_l12Rd_pick.f k s0_0 s0_1 2).bind fun bt178 => ((spec_l12Rd_pick.f k s0_0 bt178.2 3).bind fun bt180 => (some (wrap64 (2 + bt178.1), bt180.1, bt180.2)))
set_option maxHeartbeats 8000000 in
set_option maxRecDepth 100000 in
theorem spec_l2To.calls (k : Nat) (g : Nat) (s0_0 : List Int) (s0_1 : Int) (r1 : Int) (r2 : Int) (r3 : Int) (w0 w : World) (hI : IsS98 w0 w g s0_0 s0_1) (hB : Below w0.heap.size w0 w) (h : spec_l2To.f k s0_0 s0_1 = some (r1, r2, r3)) :
    Calls Tryz.prog 120 #[.pointer (some ⟨g, 0, none⟩)] w fun e w' => e = .returned (.agg #[.int .i64 r1, .int .i64 r2]) ∧ IsS98 w0 w' g s0_0 r3 ∧ Below w0.heap.size w0 w' ∧ KeepBut w w' g none := by
 have hu28 := Tryz.underlying28
 have HI0 := aM_ hI
 have HK := aM_ (KeepBut.refl w g none)
 have HL := aM_ hB.size
 clear hI
 have HW0 := aM_ hB.size
 have HB := aM_ hB
 clear hB
 have H : ((spec_l12Rd_pick.f k s0_0 s0_1 2).bind fun bt178 => ((spec_l12Rd_pick.f k s0_0 bt178.2 3).bind fun bt180 => (some (wrap64 (2 + bt178.1), bt180.1, bt180.2)))) = some (r1, r2, r3) := h
 clear h
 replace H := oB_ H
 obtain ⟨⟨t178, t179⟩, A20, H⟩ := H
 dsimp only at H
 have A2 := aM_ A20
 clear A20
 replace H := oB_ H
 obtain ⟨⟨t180, t181⟩, A30, H⟩ := H
 dsimp only at H
 have A3 := aM_ A30
 clear A30
 simp only [Option.some.injEq, Prod.mk.injEq] at H
 obtain ⟨rfl, rfl, rfl⟩ := H
 go_enter Tryz.func120, Tryz.ntmps120
 go_wp2_with (first | ((with_reducible refine gD_ 2 ?_); refine bx_ 2 28 #[.int .i64 0, .int .i64 0] ?_; intro gb177 hg w4 hbox hb; have n_ := aN8_ (IsS98.below (qI HI0) hb) (KeepBut.trans (qK HK) (KeepBut.of_below hb g none) (.inl rfl)) (bT_ (qS HB) hb) (hbox) ((by rw [hg]; exact (kz_ HK) : w.heap.size ≤ gb177)) ((Nat.le_trans HW0.out (by rw [hg]; exact (kz_ HK) : w.heap.size ≤ gb177) : w0.heap.size ≤ gb177)) ((by rw [hg]; exact Nat.ne_of_lt (IsS98.lt (show IsS98 w0 _ g s0_0 s0_1 from qI HI0)) : g ≠ gb177)) ((by rw [hg]; exact Nat.ne_of_gt (IsS98.lt (show IsS98 w0 _ g s0_0 s0_1 from qI HI0)) : gb177 ≠ g)); clear HI0 HK HB hb hbox hg; obtain ⟨HI0, HK, HB, BK177, GW177, GE177, NB0_177, NB177_0⟩ := n_) | ((with_reducible refine gc_ 58 ?_); refine gL_ (some 4) Tryz.func58 #[.pointer (some ⟨g, 0, none⟩), .int .i64 2] ?_; (with_reducible refine (spec_l12Rd_pick.calls k g s0_0 s0_1 2 t178 t179 w0 _ ?side1 ?side2 A2.out).mono ?_); (case side1 => exact qI HI0); (case side2 => exact qS HB); rintro e w5 ⟨rfl, hi, hb, hk⟩; refine ⟨_, rfl, ?_⟩; have n_ := aN4_ (KeepBut.blk hk (qg BK177) NB177_0.out (by simp)) (KeepBut.trans (qK HK) hk (.inl rfl)) (hb) (hi); clear BK177 HK HB HI0; obtain ⟨BK177, HK, HB, HI0⟩ := n_) | ((with_reducible refine gc_ 58 ?_); refine gL_ (some 7) Tryz.func58 #[.pointer (some ⟨g, 0, none⟩), .int .i64 3] ?_; (with_reducible refine (spec_l12Rd_pick.calls k g s0_0 t179 3 t180 t181 w0 _ ?side1 ?side2 A3.out).mono ?_); (case side1 => exact qI HI0); (case side2 => exact qS HB); rintro e w6 ⟨rfl, hi, hb, hk⟩; refine ⟨_, rfl, ?_⟩; have n_ := aN4_ (KeepBut.blk hk (qg BK177) NB177_0.out (by simp)) (KeepBut.trans (qK HK) hk (.inl rfl)) (hb) (hi); clear BK177 HK HB HI0; obtain ⟨BK177, HK, HB, HI0⟩ := n_; have hnb7 := NB177_0.out; have hnc7 := NB0_177.out; have hC8 := cf2 BK177.out))
 refine bodyPost_ret (results_cell_row rfl _ _ gb177 28 #[.int .i64 (wrap64 (2 + t178)), .int .i64 t180] (0, 0) _ rfl (kq BK177) Tryz.underlying28 rfl (by kernel_rfl)) rfl ?_
 exact ⟨qE, qI HI0, qS HB, qK HK⟩
theorem R_row {α : Type} (d : Kd α) {W : World} {base e z : Nat} {ok : Nat → Prop} {xs : List α} {inner : List Value} (h : W.heap[z]? = some (.cells inner.toArray e (0, 0))) (hb : base ≤ z) (ho : ok z) (hm : xs.length ≤ maxLen) (hrep : Reps (d.M W base (fun k => ok k ∧ k ≠ z)) d.sz xs inner) : d.R e W base ok (.slice (some ⟨z, 0, none⟩) xs.length xs.length) xs := by
  refine ⟨fun k hk => ?_, inner, ⟨hrep.1, .inr ⟨z, xs.length, inner.toArray, rfl, hb, h, Nat.le_refl _, hm, by simpa using hrep.1, ?_⟩⟩, hrep.imp_ (fun p c hp => d.M_mono (fun k hk => ⟨hk.1, fun e_ => hk.2 ?_⟩) hp)⟩
  · have : z = k := by simpa [Value.ownBlock] using hk
    subst this; exact ho
  · rw [List.take_of_length_le (by simp [hrep.1])]
  · simpa [Value.ownBlock] using e_
structure LC (w0 w : World) (g : Nat) (s : List Int) (p : Int) (bs : List (Nat × Array Value × TypeId)) (W : World) : Prop where
  bx : ∀ x, x ∈ bs → W.heap[x.1]? = some (.cells x.2.1 x.2.2 (0, 0)) ∧ w.heap.size ≤ x.1
  nd : bs.Pairwise (fun x y => x.1 ≠ y.1)
  gl : g < w.heap.size
  sz : w0.heap.size ≤ w.heap.size
  st : IsS98 w0 W g s p
  bel : Below w0.heap.size w0 W
  kp : KeepBut w W g none
section
variable {w0 w W W' : World} {g : Nat} {s : List Int} {p p' : Int} {bs bs' : List (Nat × Array Value × TypeId)}
theorem LC.call (h : LC w0 w g s p bs W) (i : IsS98 w0 W' g s p') (b : Below w0.heap.size w0 W') (k : KeepBut W W' g none) : LC w0 w g s p' bs W' :=
  ⟨fun x hx => ⟨k.blk (h.bx x hx).1 (by have := h.gl; have := (h.bx x hx).2; omega) (by simp), (h.bx x hx).2⟩, h.nd, h.gl, h.sz, i, b, h.kp.trans k (.inl rfl)⟩
theorem LC.below (h : LC w0 w g s p bs W) (k : Below W.heap.size W W') : LC w0 w g s p bs W' := h.call (h.st.below k) (h.bel.trans (k.mono h.bel.size)) (KeepBut.of_below k g none)
theorem LC.alloc (h : LC w0 w g s p bs W) (o : Obj) : LC w0 w g s p bs (W.alloc o) := h.below ((Below.refl _ _).alloc (Nat.le_refl _) _)
theorem LC.drew (h : LC w0 w g s p bs W) : LC w0 w g s p bs W.drew := h.below (b1_ (Below.refl _ _))
theorem LC.lt (h : LC w0 w g s p bs W) (x : Nat × Array Value × TypeId) (hx : x ∈ bs) : x.1 < W.heap.size := blk_lt (h.bx x hx).1
theorem LC.add (h : LC w0 w g s p bs W) (cs : Array Value) (t : TypeId) : LC w0 w g s p ((W.heap.size, cs, t) :: bs) (W.alloc (.cells cs t)) := by
  have h2 := h.alloc (.cells cs t)
  refine ⟨fun x hx => ?_, List.pairwise_cons.2 ⟨fun y hy => ?_, h.nd⟩, h.gl, h.sz, h2.st, h2.bel, h2.kp⟩
  · rcases List.mem_cons.1 hx with rfl | hx
    · exact ⟨heap_alloc_new W _, h.kp.1⟩
    · exact h2.bx x hx
  · have := h.lt y hy
    show W.heap.size ≠ y.1
    omega
theorem LC.perm (h : LC w0 w g s p bs W) (hp : bs'.Perm bs) : LC w0 w g s p bs' W := ⟨fun x hx => h.bx x (hp.subset hx), (hp.pairwise_iff (fun e => e.symm)).2 h.nd, h.gl, h.sz, h.st, h.bel, h.kp⟩
theorem LC.grown {α : Type} {d : Kd α} {e base : Nat} {ok : Nat → Prop} {x : Value} {xs : List α} (h : LC w0 w g s p bs W) (hR : d.R e W base ok x xs) (hn : ∀ y, y ∈ bs → some y.1 ≠ x.ownBlock) (he2 : e ≠ 98) (hb : w.heap.size ≤ base) (hg : W.grownBy W' x.ownBlock) : LC w0 w g s p bs W' :=
  ⟨fun y hy => ⟨blk_grown (h.bx y hy).1 hg (hn y hy), (h.bx y hy).2⟩, h.nd, h.gl, h.sz, h.st.grown hg (h.st.own_ne hR he2), pw_below_grown h.bel x.ownBlock h.bel.size hg (fun k hk => Nat.le_trans h.sz (Nat.le_trans hb ((Kd.R_bound hR).1 k hk).2.1)), h.kp.trans (KeepBut.of_grown hg g) (by
    cases hx : x.ownBlock with
    | none => exact .inl rfl
    | some k => exact .inr ⟨k, rfl, Nat.le_trans hb ((Kd.R_bound hR).1 k hx).2.1⟩)⟩
theorem lc_kp {z : Nat} (h : KeepBut w W g none) (hz : w.heap.size ≤ z) (j : Nat) (v : Value) : KeepBut w (W.setCell ⟨z, j, none⟩ v) g none :=
  ⟨by simpa [World.setCell] using h.1, fun i hi hg hr => (Below.heap_setCell W ⟨z, j, none⟩ v i (by show i ≠ z; omega)).trans (h.2 i hi hg hr)⟩
theorem lc_st {z : Nat} (h : IsS98 w0 W g s p) (hz : g < z) (j : Nat) (v : Value) : IsS98 w0 (W.setCell ⟨z, j, none⟩ v) g s p := by
  obtain ⟨A0, c0, hb, hg, hr⟩ := h
  exact ⟨A0, c0, blk_far hb (by simp; omega) v, hg, hr⟩
theorem LC.put {z : Nat} {cs : Array Value} {t : TypeId} (h : LC w0 w g s p ((z, cs, t) :: bs) W) (j : Nat) (v : Value) : LC w0 w g s p ((z, cs.setIfInBounds j v, t) :: bs) (W.setCell ⟨z, j, none⟩ v) := by
  have hz := (h.bx _ List.mem_cons_self).2
  have gl := h.gl
  have sz := h.sz
  refine ⟨fun x hx => ?_, List.pairwise_cons.2 ⟨fun y hy => (List.pairwise_cons.1 h.nd).1 y hy, (List.pairwise_cons.1 h.nd).2⟩, gl, sz, lc_st h.st (by show g < z; have : w.heap.size ≤ z := hz; omega) j v, bS_ h.bel (by show w0.heap.size ≤ z; have : w.heap.size ≤ z := hz; omega), lc_kp h.kp hz j v⟩
  rcases List.mem_cons.1 hx with rfl | hx
  · exact ⟨blk_put (h.bx _ List.mem_cons_self).1 j v rfl, hz⟩
  · have hne := (List.pairwise_cons.1 h.nd).1 x hx
    exact ⟨blk_far (h.bx x (List.mem_cons_of_mem _ hx)).1 (fun e => hne (by simpa using e.symm)) v, (h.bx x (List.mem_cons_of_mem _ hx)).2⟩
theorem LC.start (hI : IsS98 w0 w g s p) (hB : Below w0.heap.size w0 w) : LC w0 w g s p [] w := by
  have gl : g < w.heap.size := by obtain ⟨A0, c0, hb, _, _⟩ := hI; exact blk_lt hb
  exact ⟨fun x hx => by simp at hx, List.Pairwise.nil, gl, hB.size, hI, hB, KeepBut.refl _ _ _⟩
end
theorem LC.drop {w0 w W : World} {g : Nat} {s : List Int} {p : Int} {x : Nat × Array Value × TypeId} {bs : List (Nat × Array Value × TypeId)} (h : LC w0 w g s p (x :: bs) W) : LC w0 w g s p bs W := ⟨fun y hy => h.bx y (List.mem_cons_of_mem _ hy), (List.pairwise_cons.1 h.nd).2, h.gl, h.sz, h.st, h.bel, h.kp⟩
theorem LC.p1 {w0 w W : World} {g : Nat} {s : List Int} {p : Int} {a b c : Nat × Array Value × TypeId} {bs : List (Nat × Array Value × TypeId)} (h : LC w0 w g s p (a :: b :: c :: bs) W) : LC w0 w g s p (c :: a :: bs) W :=
  (h.perm (show (b :: c :: a :: bs).Perm (a :: b :: c :: bs) from (List.Perm.cons b (List.Perm.swap a c bs)).trans (List.Perm.swap a b (c :: bs)))).drop
theorem LC.p2 {w0 w W : World} {g : Nat} {s : List Int} {p : Int} {a b c : Nat × Array Value × TypeId} {bs : List (Nat × Array Value × TypeId)} (h : LC w0 w g s p (a :: b :: c :: bs) W) : LC w0 w g s p (b :: a :: bs) W :=
  (h.perm (show (c :: b :: a :: bs).Perm (a :: b :: c :: bs) from ((List.Perm.swap b c (a :: bs)).trans (List.Perm.cons b (List.Perm.swap a c bs))).trans (List.Perm.swap a b (c :: bs)))).drop
theorem LC.p3 {w0 w W : World} {g : Nat} {s : List Int} {p : Int} {a b c : Nat × Array Value × TypeId} {bs : List (Nat × Array Value × TypeId)} (h : LC w0 w g s p (a :: b :: c :: bs) W) : LC w0 w g s p (a :: b :: bs) W :=
  (h.perm (show (c :: a :: b :: bs).Perm (a :: b :: c :: bs) from (List.Perm.swap a c (b :: bs)).trans (List.Perm.cons a (List.Perm.swap b c bs)))).drop
theorem LC.ne {w0 w W : World} {g : Nat} {s : List Int} {p : Int} {bs : List (Nat × Array Value × TypeId)} (h : LC w0 w g s p bs W) {i j : Nat} {x y : Nat × Array Value × TypeId} (hi : bs[i]? = some x) (hj : bs[j]? = some y) (hij : i < j) : x.1 ≠ y.1 := by
  obtain ⟨li, ei⟩ := List.getElem?_eq_some_iff.1 hi
  obtain ⟨lj, ej⟩ := List.getElem?_eq_some_iff.1 hj
  have := List.pairwise_iff_getElem.1 h.nd i j li lj hij
  rwa [ei, ej] at this
theorem LC.num {w0 w W : World} {g : Nat} {s : List Int} {p p' : Int} {bs : List (Nat × Array Value × TypeId)} (h : LC w0 w g s p bs W) (z : Nat) (l : List Int) (r : Int) (hz : (z, (l.map (Value.int .i64)).toArray, 3) ∈ bs) (c : Nat) (hn : l.length = c) (hl : l.length ≤ maxLen) (hf : spec_l12Rd_num.f 1000 s p l = some (r, p')) :
    Calls Tryz.prog 35 #[.pointer (some ⟨g, 0, none⟩), .slice (some ⟨z, 0, none⟩) c c] W fun e w' => e = .returned (.int .i64 r) ∧ LC w0 w g s p' bs w' := by
  subst hn
  have hb := h.bx _ hz
  have hR : (Kd.int .i64).R 3 W w.heap.size (fun _ => True) (.slice (some ⟨z, 0, none⟩) l.length l.length) l := by
    refine R_row (Kd.int .i64) (inner := l.map (Value.int .i64)) hb.1 hb.2 trivial hl ⟨by simp [Kd.int, Kd.scalar], fun j q hq => ?_⟩
    obtain ⟨hj, rfl⟩ := List.getElem?_eq_some_iff.1 hq
    show _ = _
    simp only [Kd.int, Kd.scalar, Nat.mul_one]
    rw [List.drop_eq_getElem_cons (by simpa using hj)]
    simp
  refine (spec_l12Rd_num.calls 1000 g s p _ _ l r p' w0 W h.st h.bel (Kd.R_reads' hR).2.2 (Nat.le_refl _) (fun ad e _ => ?_) hf).mono ?_
  · obtain rfl : (⟨z, 0, none⟩ : Addr) = ad := oI_ e
    have := h.gl
    have h2 : w.heap.size ≤ z := hb.2
    show z ≠ g
    omega
  · rintro e w' ⟨rfl, q1, q2, q3⟩
    exact ⟨rfl, h.call q1 q2 q3⟩
theorem LC.sub {w0 w W : World} {g : Nat} {s : List Int} {p : Int} {bs bs' : List (Nat × Array Value × TypeId)} (h : LC w0 w g s p bs W) (hs : bs'.Sublist bs) : LC w0 w g s p bs' W := ⟨fun y hy => h.bx y (hs.subset hy), h.nd.sublist hs, h.gl, h.sz, h.st, h.bel, h.kp⟩
theorem reps1 {α : Type} {R : α → List Value → Prop} {n : Nat} {x : α} {cs : List Value} (hx : R x cs) (lc : cs.length = n) : Reps R n [x] cs := (Reps.none R n).snoc hx lc
theorem reps2 {α : Type} {R : α → List Value → Prop} {n : Nat} {x y : α} {cs ds : List Value} (hx : R x cs) (lc : cs.length = n) (hy : R y ds) (ld : ds.length = n) : Reps R n [x, y] (cs ++ ds) := ((Reps.none R n).snoc hx lc).snoc hy ld
theorem ok_ne {z zl : Nat} (h : zl ≠ z) (n c : Nat) : some z ≠ (Value.slice (some ⟨zl, 0, none⟩) n c).ownBlock ∧ some z ≠ (Value.slice none 0 0).ownBlock := ⟨fun e => h (by simpa [Value.ownBlock] using e.symm), by simp [Value.ownBlock]⟩
def spec_l4Count.f (s0_0 : List Int) (s0_1 : Int) : Option (Int × Int × Int × Int × Int × Int × Int × (List (S120)) × (List (S122)) × (List (S122)) × Int) := (spec_l12Rd_pick.f 1000 s0_0 s0_1 3).bind fun p => (spec_l12Rd_num.f 1000 s0_0 p.2 ([1, 3, 5, 9, 200] : List Int)).bind fun n => (spec_l12Rd_num.f 1000 s0_0 n.2 ([1, 1, 2, 0] : List Int)).bind fun m => (spec_l12Rd_pick.f 1000 s0_0 m.2 2).bind fun q => if q.1 = 0 then ((spec_l2To.f 1000 s0_0 q.2).bind fun a => (spec_l3Expr.f 1000 s0_0 a.2.2 2).bind fun e => some (3, 0, 0, 6, 0, 0, 0, [(⟨2, 0, ⟨3, p.1⟩, []⟩ : S120), (⟨1, n.1, ⟨0, 0⟩, []⟩ : S120)], [(⟨1, ⟨3, p.1⟩, ⟨3, 0, ⟨0, 0⟩, [(⟨2, 0, ⟨3, p.1⟩, []⟩ : S120), (⟨1, m.1, ⟨0, 0⟩, []⟩ : S120)]⟩, [], []⟩ : S122), (⟨1, ⟨a.1, a.2.1⟩, ⟨e.1, e.2.1, ⟨e.2.2.1, e.2.2.2.1⟩, e.2.2.2.2.1⟩, [], []⟩ : S122)], [], e.2.2.2.2.2)) else some (3, 0, 0, 6, 0, 0, 0, [(⟨2, 0, ⟨3, p.1⟩, []⟩ : S120), (⟨1, n.1, ⟨0, 0⟩, []⟩ : S120)], [(⟨1, ⟨3, p.1⟩, ⟨3, 0, ⟨0, 0⟩, [(⟨2, 0, ⟨3, p.1⟩, []⟩ : S120), (⟨1, m.1, ⟨0, 0⟩, []⟩ : S120)]⟩, [], []⟩ : S122)], [], q.2)
set_option maxRecDepth 100000 in
set_option maxHeartbeats 25600000 in
theorem l4Count_any (g : Nat) (s0_0 : List Int) (s0_1 : Int) (r1 : Int) (r2 : Int) (r3 : Int) (r4 : Int) (r5 : Int) (r6 : Int) (r7 : Int) (r8 : List (S120)) (r9 : List (S122)) (r10 : List (S122)) (r11 : Int) (w0 w : World) (hI : IsS98 w0 w g s0_0 s0_1) (hB : Below w0.heap.size w0 w) (h : spec_l4Count.f s0_0 s0_1 = some (r1, r2, r3, r4, r5, r6, r7, r8, r9, r10, r11)) :
    Calls Tryz.prog 86 #[.pointer (some ⟨g, 0, none⟩)] w fun e w' => ∃ v7_ v8_ v9_ : Value, e = .returned (.agg #[.int .i64 r1, .int .i64 r2, .int .i64 r3, .int .i64 r4, .int .i64 r5, .int .i64 r6, .int .i64 r7, v7_, v8_, v9_]) ∧ Kd.R k120 120 w' w.heap.size (fun _ => True) v7_ r8 ∧ Kd.R k122 122 w' w.heap.size (fun k_ => some k_ ≠ (v7_ : Value).ownBlock ∧ some k_ ≠ (v9_ : Value).ownBlock) v8_ r9 ∧ Kd.R k122 122 w' w.heap.size (fun k_ => some k_ ≠ (v7_ : Value).ownBlock ∧ some k_ ≠ (v8_ : Value).ownBlock) v9_ r10 ∧ IsS98 w0 w' g s0_0 r11 ∧ Below w0.heap.size w0 w' ∧ KeepBut w w' g none := by
  have hu122 := Tryz.underlying122
  have hu120 := Tryz.underlying120
  have hu28 := Tryz.underlying28
  unfold spec_l4Count.f at h
  obtain ⟨⟨a, p1⟩, c1, h⟩ := oB_ h
  obtain ⟨⟨n, p2⟩, c2, h⟩ := oB_ h
  obtain ⟨⟨m, p3⟩, c3, h⟩ := oB_ h
  obtain ⟨⟨q, p4⟩, c4, h⟩ := oB_ h
  simp only [] at h c2 c3 c4
  have H := aM_ h
  have C1 := aM_ c1
  have C2 := aM_ c2
  have C3 := aM_ c3
  have C4 := aM_ c4
  clear h c1 c2 c3 c4
  have hT := LC.start hI hB
  clear hI hB
  obtain ⟨base, hbase⟩ : ∃ q, w.heap.size = q := ⟨_, rfl⟩
  rw [hbase]
  have HW := aM_ hbase
  clear hbase
  go_enter Tryz.func86, Tryz.ntmps86
  go_upto_region 1 with (fail)
  replace hT := hT.add #[.int .i64 0, .int .i64 0, .int .i64 0, .int .i64 0, .int .i64 0, .int .i64 0, .int .i64 0, .slice none 0 0, .slice none 0 0, .slice none 0 0] 122
  have e1 : (w.alloc (.cells #[.int .i64 0, .int .i64 0, .int .i64 0, .int .i64 0, .int .i64 0, .int .i64 0, .int .i64 0, .slice none 0 0, .slice none 0 0, .slice none 0 0] 122)).heap.size = w.heap.size + 1 := Array.size_push ..
  generalize w.alloc (.cells #[.int .i64 0, .int .i64 0, .int .i64 0, .int .i64 0, .int .i64 0, .int .i64 0, .int .i64 0, .slice none 0 0, .slice none 0 0, .slice none 0 0] 122) = w1 at hT e1 ⊢
  generalize w.heap.size = b2 at hT e1 ⊢
  clear e1
  have cc := spec_l12Rd_pick.calls 1000 g s0_0 s0_1 3 a p1 w0 w1 hT.st hT.bel C1.out
  go_wp2_with fail
  refine cc.mono ?_
  rintro e w2 ⟨rfl, q1, q2, q3⟩
  replace hT := hT.call q1 q2 q3
  clear q1 q2 q3 cc
  go_upto_region 2 with (fail)
  replace hT := hT.add #[.int .i64 3, .int .i64 a] 28
  have e1 : (w2.alloc (.cells #[.int .i64 3, .int .i64 a] 28)).heap.size = w2.heap.size + 1 := Array.size_push ..
  generalize w2.alloc (.cells #[.int .i64 3, .int .i64 a] 28) = w3 at hT e1 ⊢
  generalize w2.heap.size = b3 at hT e1 ⊢
  clear e1
  have i0 : w3.cell? ⟨b3, 0, none⟩ = some (.int .i64 3) := (kC_ (hT.bx _ (mH_ _)).1 0).trans rfl
  have i1 : w3.cell? ⟨b3, 1, none⟩ = some (.int .i64 a) := (kC_ (hT.bx _ (mH_ _)).1 1).trans rfl
  go_upto_region 3 with (fail)
  clear i0 i1
  replace hT := hT.add #[.int .i64 2, .int .i64 0, .int .i64 3, .int .i64 a, .slice none 0 0] 120
  have e1 : (w3.alloc (.cells #[.int .i64 2, .int .i64 0, .int .i64 3, .int .i64 a, .slice none 0 0] 120)).heap.size = w3.heap.size + 1 := Array.size_push ..
  generalize w3.alloc (.cells #[.int .i64 2, .int .i64 0, .int .i64 3, .int .i64 a, .slice none 0 0] 120) = w4 at hT e1 ⊢
  generalize w3.heap.size = b4 at hT e1 ⊢
  clear e1
  go_wp2_with fail
  replace hT := hT.drew
  refine start_ (n := 9) (S := fun w' => w'.cell? ⟨b4, 0, none⟩ = some (.int .i64 2) ∧ w'.cell? ⟨b4, 1, none⟩ = some (.int .i64 0) ∧ w'.cell? ⟨b4, 2, none⟩ = some (.int .i64 3) ∧ w'.cell? ⟨b4, 3, none⟩ = some (.int .i64 a) ∧ w'.cell? ⟨b4, 4, none⟩ = some (.slice none 0 0)) (ds := [8]) #[F_, F_, F_, F_, F_, F_, F_, F_, F_] (by kernel_rfl) rfl rfl ⟨(kC_ (hT.bx _ (mH_ _)).1 0).trans rfl, (kC_ (hT.bx _ (mH_ _)).1 1).trans rfl, (kC_ (hT.bx _ (mH_ _)).1 2).trans rfl, (kC_ (hT.bx _ (mH_ _)).1 3).trans rfl, (kC_ (hT.bx _ (mH_ _)).1 4).trans rfl⟩ (fun hHeld => ?_)
  refine pu_ 1 14 ?_
  refine tk_ 0 13 hHeld ?_
  refine join_ (σ := Nat × Nat × Nat) 1 #[T_, T_, T_, T_, T_, T_, T_, T_, F_] (fun s_ => [(15, .slice (some ⟨s_.1, 0, none⟩) 5 5), (16, .int .i64 n), (17, .agg #[.int .i64 1, .int .i64 n, .int .i64 0, .int .i64 0, .slice none 0 0]), (18, .slice (some ⟨s_.2.1, 0, none⟩) 2 2), (19, .agg #[.int .i64 6, .int .i64 0, .int .i64 0, .int .i64 0, .slice (some ⟨s_.2.1, 0, none⟩) 2 2]), (5, .pointer (some ⟨s_.2.2, 0, none⟩))]) (fun s_ w' => LC w0 w g s0_0 p2 ((s_.2.2, #[.int .i64 0, .int .i64 0, .int .i64 0, .int .i64 0, .slice none 0 0], 120) :: (s_.2.1, #[.int .i64 2, .int .i64 0, .int .i64 3, .int .i64 a, .slice none 0 0, .int .i64 1, .int .i64 n, .int .i64 0, .int .i64 0, .slice none 0 0], 120) :: [(b4, #[.int .i64 2, .int .i64 0, .int .i64 3, .int .i64 a, .slice none 0 0], 120), (b3, #[.int .i64 3, .int .i64 a], 28), (b2, #[.int .i64 0, .int .i64 0, .int .i64 0, .int .i64 0, .int .i64 0, .int .i64 0, .int .i64 0, .slice none 0 0, .slice none 0 0, .slice none 0 0], 122)]) w') ?_ ?_
  rotate_left
  · intro hCont
    refine two_ (i := 2) (j := 7) (Ni := some 15) (Nj := some 5) #[T_, T_, T_, F_, F_, F_, F_, F_, F_] #[T_, T_, F_, F_, F_, F_, F_, T_, F_] rfl rfl rfl rfl (by kernel_rfl) (by decide) (by decide) (fun K hK => ?_) (fun K hK => ?_)
    · skip
      generalize w4.drew = wv at hT hHeld ⊢
      refine value_ (w1 := ?_) (v := ?_) (by rfl) rfl ?_ ?_
      rotate_left 2
      · go_simp
        constructor
        · rfl
        · rfl
      replace hT := hT.add #[.int .i64 1, .int .i64 3, .int .i64 5, .int .i64 9, .int .i64 200] 3
      generalize wv.alloc (.cells #[.int .i64 1, .int .i64 3, .int .i64 5, .int .i64 9, .int .i64 200] 3) = wv2 at hT ⊢
      generalize wv.heap.size = z15 at hT ⊢
      refine hK.out _ _ ⟨(kC_ (hT.bx _ (mT_ _ (mH_ _))).1 0).trans rfl, (kC_ (hT.bx _ (mT_ _ (mH_ _))).1 1).trans rfl, (kC_ (hT.bx _ (mT_ _ (mH_ _))).1 2).trans rfl, (kC_ (hT.bx _ (mT_ _ (mH_ _))).1 3).trans rfl, (kC_ (hT.bx _ (mT_ _ (mH_ _))).1 4).trans rfl⟩ (fun hHeld => ?_)
      clear hK K
      refine norm_ (a' := ?_) ?_ ?_
      rotate_left
      · show Act.put _ (some 15) _ = _
        simp only [Act.put, sA_, sB_, sC_, i64_w, i32_w]
        rfl
      refine two_ (i := 3) (j := 7) (Ni := some 16) (Nj := some 5) #[T_, T_, T_, T_, F_, F_, F_, F_, F_] #[T_, T_, T_, F_, F_, F_, F_, T_, F_] rfl rfl rfl rfl (by kernel_rfl) (by decide) (by decide) (fun K hK => ?_) (fun K hK => ?_)
      · skip
        refine goes_ Tryz.func35 (by kernel_rfl) rfl #[.pointer (some ⟨g, 0, none⟩), .slice (some ⟨z15, 0, none⟩) 5 5] (by rfl) rfl rfl (by simp only [mA_, List.map_cons, List.map_nil]; rfl) ?_
        with_reducible refine (hT.num z15 ([1, 3, 5, 9, 200] : List Int) n (mH_ _) 5 rfl (by decide) C2.out).mono ?_
        rintro e wv23 ⟨rfl, hT2⟩
        refine ⟨_, rfl, ?_⟩
        replace hT := hT2
        clear hT2
        refine hK.out _ _ ⟨(kC_ (hT.bx _ (mT_ _ (mH_ _))).1 0).trans rfl, (kC_ (hT.bx _ (mT_ _ (mH_ _))).1 1).trans rfl, (kC_ (hT.bx _ (mT_ _ (mH_ _))).1 2).trans rfl, (kC_ (hT.bx _ (mT_ _ (mH_ _))).1 3).trans rfl, (kC_ (hT.bx _ (mT_ _ (mH_ _))).1 4).trans rfl⟩ (fun hHeld => ?_)
        clear hK K
        refine norm_ (a' := ?_) ?_ ?_
        rotate_left
        · show Act.put _ (some 16) _ = _
          simp only [Act.put, sA_, sB_, sC_, i64_w, i32_w]
          rfl
        refine pu_ 4 17 ?_
        refine two_ (i := 5) (j := 7) (Ni := some 18) (Nj := some 5) #[T_, T_, T_, T_, T_, T_, F_, F_, F_] #[T_, T_, T_, T_, T_, F_, F_, T_, F_] rfl rfl rfl rfl (by kernel_rfl) (by decide) (by decide) (fun K hK => ?_) (fun K hK => ?_)
        · skip
          refine value_ (w1 := ?_) (v := ?_) (by rfl) rfl ?_ ?_
          rotate_left 2
          · go_simp
            constructor
            · rfl
            · rfl
          replace hT := hT.add #[.int .i64 2, .int .i64 0, .int .i64 3, .int .i64 a, .slice none 0 0, .int .i64 1, .int .i64 n, .int .i64 0, .int .i64 0, .slice none 0 0] 120
          generalize wv23.alloc (.cells #[.int .i64 2, .int .i64 0, .int .i64 3, .int .i64 a, .slice none 0 0, .int .i64 1, .int .i64 n, .int .i64 0, .int .i64 0, .slice none 0 0] 120) = wv235 at hT ⊢
          generalize wv23.heap.size = z18 at hT ⊢
          refine hK.out _ _ ⟨(kC_ (hT.bx _ (mT_ _ (mT_ _ (mH_ _)))).1 0).trans rfl, (kC_ (hT.bx _ (mT_ _ (mT_ _ (mH_ _)))).1 1).trans rfl, (kC_ (hT.bx _ (mT_ _ (mT_ _ (mH_ _)))).1 2).trans rfl, (kC_ (hT.bx _ (mT_ _ (mT_ _ (mH_ _)))).1 3).trans rfl, (kC_ (hT.bx _ (mT_ _ (mT_ _ (mH_ _)))).1 4).trans rfl⟩ (fun hHeld => ?_)
          clear hK K
          refine norm_ (a' := ?_) ?_ ?_
          rotate_left
          · show Act.put _ (some 18) _ = _
            simp only [Act.put, sA_, sB_, sC_, i64_w, i32_w]
            rfl
          refine pu_ 6 19 ?_
          refine on_ 7 (some 5) fun K hK => ?_
          refine value_ (w1 := ?_) (v := ?_) (by rfl) rfl ?_ ?_
          rotate_left 2
          · go_simp
            constructor
            · rfl
            · rfl
          replace hT := hT.add #[.int .i64 0, .int .i64 0, .int .i64 0, .int .i64 0, .slice none 0 0] 120
          generalize wv235.alloc (.cells #[.int .i64 0, .int .i64 0, .int .i64 0, .int .i64 0, .slice none 0 0] 120) = wv2357 at hT ⊢
          generalize wv235.heap.size = z5 at hT ⊢
          refine hK.out _ _ ⟨(kC_ (hT.bx _ (mT_ _ (mT_ _ (mT_ _ (mH_ _))))).1 0).trans rfl, (kC_ (hT.bx _ (mT_ _ (mT_ _ (mT_ _ (mH_ _))))).1 1).trans rfl, (kC_ (hT.bx _ (mT_ _ (mT_ _ (mT_ _ (mH_ _))))).1 2).trans rfl, (kC_ (hT.bx _ (mT_ _ (mT_ _ (mT_ _ (mH_ _))))).1 3).trans rfl, (kC_ (hT.bx _ (mT_ _ (mT_ _ (mT_ _ (mH_ _))))).1 4).trans rfl⟩ (fun hHeld => ?_)
          clear hK K
          refine norm_ (a' := ?_) ?_ ?_
          rotate_left
          · show Act.put _ (some 5) _ = _
            simp only [Act.put, sA_, sB_, sC_, i64_w, i32_w]
            rfl
          exact norm_ (by simp only [putAll, Act.put, sA_, sB_, sC_]) (hCont (z15, z18, z5) _ hT.p3)
        · skip
          refine value_ (w1 := ?_) (v := ?_) (by rfl) rfl ?_ ?_
          rotate_left 2
          · go_simp
            constructor
            · rfl
            · rfl
          replace hT := hT.add #[.int .i64 0, .int .i64 0, .int .i64 0, .int .i64 0, .slice none 0 0] 120
          generalize wv23.alloc (.cells #[.int .i64 0, .int .i64 0, .int .i64 0, .int .i64 0, .slice none 0 0] 120) = wv237 at hT ⊢
          generalize wv23.heap.size = z5 at hT ⊢
          refine hK.out _ _ ⟨(kC_ (hT.bx _ (mT_ _ (mT_ _ (mH_ _)))).1 0).trans rfl, (kC_ (hT.bx _ (mT_ _ (mT_ _ (mH_ _)))).1 1).trans rfl, (kC_ (hT.bx _ (mT_ _ (mT_ _ (mH_ _)))).1 2).trans rfl, (kC_ (hT.bx _ (mT_ _ (mT_ _ (mH_ _)))).1 3).trans rfl, (kC_ (hT.bx _ (mT_ _ (mT_ _ (mH_ _)))).1 4).trans rfl⟩ (fun hHeld => ?_)
          clear hK K
          refine norm_ (a' := ?_) ?_ ?_
          rotate_left
          · show Act.put _ (some 5) _ = _
            simp only [Act.put, sA_, sB_, sC_, i64_w, i32_w]
            rfl
          refine on_ 5 (some 18) fun K hK => ?_
          refine value_ (w1 := ?_) (v := ?_) (by rfl) rfl ?_ ?_
          rotate_left 2
          · go_simp
            constructor
            · rfl
            · rfl
          replace hT := hT.add #[.int .i64 2, .int .i64 0, .int .i64 3, .int .i64 a, .slice none 0 0, .int .i64 1, .int .i64 n, .int .i64 0, .int .i64 0, .slice none 0 0] 120
          generalize wv237.alloc (.cells #[.int .i64 2, .int .i64 0, .int .i64 3, .int .i64 a, .slice none 0 0, .int .i64 1, .int .i64 n, .int .i64 0, .int .i64 0, .slice none 0 0] 120) = wv2375 at hT ⊢
          generalize wv237.heap.size = z18 at hT ⊢
          refine hK.out _ _ ⟨(kC_ (hT.bx _ (mT_ _ (mT_ _ (mT_ _ (mH_ _))))).1 0).trans rfl, (kC_ (hT.bx _ (mT_ _ (mT_ _ (mT_ _ (mH_ _))))).1 1).trans rfl, (kC_ (hT.bx _ (mT_ _ (mT_ _ (mT_ _ (mH_ _))))).1 2).trans rfl, (kC_ (hT.bx _ (mT_ _ (mT_ _ (mT_ _ (mH_ _))))).1 3).trans rfl, (kC_ (hT.bx _ (mT_ _ (mT_ _ (mT_ _ (mH_ _))))).1 4).trans rfl⟩ (fun hHeld => ?_)
          clear hK K
          refine norm_ (a' := ?_) ?_ ?_
          rotate_left
          · show Act.put _ (some 18) _ = _
            simp only [Act.put, sA_, sB_, sC_, i64_w, i32_w]
            rfl
          refine pu_ 6 19 ?_
          exact norm_ (by simp only [putAll, Act.put, sA_, sB_, sC_]) (hCont (z15, z18, z5) _ hT.p2)
      · skip
        refine value_ (w1 := ?_) (v := ?_) (by rfl) rfl ?_ ?_
        rotate_left 2
        · go_simp
          constructor
          · rfl
          · rfl
        replace hT := hT.add #[.int .i64 0, .int .i64 0, .int .i64 0, .int .i64 0, .slice none 0 0] 120
        generalize wv2.alloc (.cells #[.int .i64 0, .int .i64 0, .int .i64 0, .int .i64 0, .slice none 0 0] 120) = wv27 at hT ⊢
        generalize wv2.heap.size = z5 at hT ⊢
        refine hK.out _ _ ⟨(kC_ (hT.bx _ (mT_ _ (mT_ _ (mH_ _)))).1 0).trans rfl, (kC_ (hT.bx _ (mT_ _ (mT_ _ (mH_ _)))).1 1).trans rfl, (kC_ (hT.bx _ (mT_ _ (mT_ _ (mH_ _)))).1 2).trans rfl, (kC_ (hT.bx _ (mT_ _ (mT_ _ (mH_ _)))).1 3).trans rfl, (kC_ (hT.bx _ (mT_ _ (mT_ _ (mH_ _)))).1 4).trans rfl⟩ (fun hHeld => ?_)
        clear hK K
        refine norm_ (a' := ?_) ?_ ?_
        rotate_left
        · show Act.put _ (some 5) _ = _
          simp only [Act.put, sA_, sB_, sC_, i64_w, i32_w]
          rfl
        refine on_ 3 (some 16) fun K hK => ?_
        refine goes_ Tryz.func35 (by kernel_rfl) rfl #[.pointer (some ⟨g, 0, none⟩), .slice (some ⟨z15, 0, none⟩) 5 5] (by rfl) rfl rfl (by simp only [mA_, List.map_cons, List.map_nil]; rfl) ?_
        with_reducible refine (hT.num z15 ([1, 3, 5, 9, 200] : List Int) n (mT_ _ (mH_ _)) 5 rfl (by decide) C2.out).mono ?_
        rintro e wv273 ⟨rfl, hT2⟩
        refine ⟨_, rfl, ?_⟩
        replace hT := hT2
        clear hT2
        refine hK.out _ _ ⟨(kC_ (hT.bx _ (mT_ _ (mT_ _ (mH_ _)))).1 0).trans rfl, (kC_ (hT.bx _ (mT_ _ (mT_ _ (mH_ _)))).1 1).trans rfl, (kC_ (hT.bx _ (mT_ _ (mT_ _ (mH_ _)))).1 2).trans rfl, (kC_ (hT.bx _ (mT_ _ (mT_ _ (mH_ _)))).1 3).trans rfl, (kC_ (hT.bx _ (mT_ _ (mT_ _ (mH_ _)))).1 4).trans rfl⟩ (fun hHeld => ?_)
        clear hK K
        refine norm_ (a' := ?_) ?_ ?_
        rotate_left
        · show Act.put _ (some 16) _ = _
          simp only [Act.put, sA_, sB_, sC_, i64_w, i32_w]
          rfl
        refine pu_ 4 17 ?_
        refine on_ 5 (some 18) fun K hK => ?_
        refine value_ (w1 := ?_) (v := ?_) (by rfl) rfl ?_ ?_
        rotate_left 2
        · go_simp
          constructor
          · rfl
          · rfl
        replace hT := hT.add #[.int .i64 2, .int .i64 0, .int .i64 3, .int .i64 a, .slice none 0 0, .int .i64 1, .int .i64 n, .int .i64 0, .int .i64 0, .slice none 0 0] 120
        generalize wv273.alloc (.cells #[.int .i64 2, .int .i64 0, .int .i64 3, .int .i64 a, .slice none 0 0, .int .i64 1, .int .i64 n, .int .i64 0, .int .i64 0, .slice none 0 0] 120) = wv2735 at hT ⊢
        generalize wv273.heap.size = z18 at hT ⊢
        refine hK.out _ _ ⟨(kC_ (hT.bx _ (mT_ _ (mT_ _ (mT_ _ (mH_ _))))).1 0).trans rfl, (kC_ (hT.bx _ (mT_ _ (mT_ _ (mT_ _ (mH_ _))))).1 1).trans rfl, (kC_ (hT.bx _ (mT_ _ (mT_ _ (mT_ _ (mH_ _))))).1 2).trans rfl, (kC_ (hT.bx _ (mT_ _ (mT_ _ (mT_ _ (mH_ _))))).1 3).trans rfl, (kC_ (hT.bx _ (mT_ _ (mT_ _ (mT_ _ (mH_ _))))).1 4).trans rfl⟩ (fun hHeld => ?_)
        clear hK K
        refine norm_ (a' := ?_) ?_ ?_
        rotate_left
        · show Act.put _ (some 18) _ = _
          simp only [Act.put, sA_, sB_, sC_, i64_w, i32_w]
          rfl
        refine pu_ 6 19 ?_
        exact norm_ (by simp only [putAll, Act.put, sA_, sB_, sC_]) (hCont (z15, z18, z5) _ hT.p2)
    · skip
      generalize w4.drew = wv at hT hHeld ⊢
      refine value_ (w1 := ?_) (v := ?_) (by rfl) rfl ?_ ?_
      rotate_left 2
      · go_simp
        constructor
        · rfl
        · rfl
      replace hT := hT.add #[.int .i64 0, .int .i64 0, .int .i64 0, .int .i64 0, .slice none 0 0] 120
      generalize wv.alloc (.cells #[.int .i64 0, .int .i64 0, .int .i64 0, .int .i64 0, .slice none 0 0] 120) = wv7 at hT ⊢
      generalize wv.heap.size = z5 at hT ⊢
      refine hK.out _ _ ⟨(kC_ (hT.bx _ (mT_ _ (mH_ _))).1 0).trans rfl, (kC_ (hT.bx _ (mT_ _ (mH_ _))).1 1).trans rfl, (kC_ (hT.bx _ (mT_ _ (mH_ _))).1 2).trans rfl, (kC_ (hT.bx _ (mT_ _ (mH_ _))).1 3).trans rfl, (kC_ (hT.bx _ (mT_ _ (mH_ _))).1 4).trans rfl⟩ (fun hHeld => ?_)
      clear hK K
      refine norm_ (a' := ?_) ?_ ?_
      rotate_left
      · show Act.put _ (some 5) _ = _
        simp only [Act.put, sA_, sB_, sC_, i64_w, i32_w]
        rfl
      refine on_ 2 (some 15) fun K hK => ?_
      refine value_ (w1 := ?_) (v := ?_) (by rfl) rfl ?_ ?_
      rotate_left 2
      · go_simp
        constructor
        · rfl
        · rfl
      replace hT := hT.add #[.int .i64 1, .int .i64 3, .int .i64 5, .int .i64 9, .int .i64 200] 3
      generalize wv7.alloc (.cells #[.int .i64 1, .int .i64 3, .int .i64 5, .int .i64 9, .int .i64 200] 3) = wv72 at hT ⊢
      generalize wv7.heap.size = z15 at hT ⊢
      refine hK.out _ _ ⟨(kC_ (hT.bx _ (mT_ _ (mT_ _ (mH_ _)))).1 0).trans rfl, (kC_ (hT.bx _ (mT_ _ (mT_ _ (mH_ _)))).1 1).trans rfl, (kC_ (hT.bx _ (mT_ _ (mT_ _ (mH_ _)))).1 2).trans rfl, (kC_ (hT.bx _ (mT_ _ (mT_ _ (mH_ _)))).1 3).trans rfl, (kC_ (hT.bx _ (mT_ _ (mT_ _ (mH_ _)))).1 4).trans rfl⟩ (fun hHeld => ?_)
      clear hK K
      refine norm_ (a' := ?_) ?_ ?_
      rotate_left
      · show Act.put _ (some 15) _ = _
        simp only [Act.put, sA_, sB_, sC_, i64_w, i32_w]
        rfl
      refine on_ 3 (some 16) fun K hK => ?_
      refine goes_ Tryz.func35 (by kernel_rfl) rfl #[.pointer (some ⟨g, 0, none⟩), .slice (some ⟨z15, 0, none⟩) 5 5] (by rfl) rfl rfl (by simp only [mA_, List.map_cons, List.map_nil]; rfl) ?_
      with_reducible refine (hT.num z15 ([1, 3, 5, 9, 200] : List Int) n (mH_ _) 5 rfl (by decide) C2.out).mono ?_
      rintro e wv723 ⟨rfl, hT2⟩
      refine ⟨_, rfl, ?_⟩
      replace hT := hT2
      clear hT2
      refine hK.out _ _ ⟨(kC_ (hT.bx _ (mT_ _ (mT_ _ (mH_ _)))).1 0).trans rfl, (kC_ (hT.bx _ (mT_ _ (mT_ _ (mH_ _)))).1 1).trans rfl, (kC_ (hT.bx _ (mT_ _ (mT_ _ (mH_ _)))).1 2).trans rfl, (kC_ (hT.bx _ (mT_ _ (mT_ _ (mH_ _)))).1 3).trans rfl, (kC_ (hT.bx _ (mT_ _ (mT_ _ (mH_ _)))).1 4).trans rfl⟩ (fun hHeld => ?_)
      clear hK K
      refine norm_ (a' := ?_) ?_ ?_
      rotate_left
      · show Act.put _ (some 16) _ = _
        simp only [Act.put, sA_, sB_, sC_, i64_w, i32_w]
        rfl
      refine pu_ 4 17 ?_
      refine on_ 5 (some 18) fun K hK => ?_
      refine value_ (w1 := ?_) (v := ?_) (by rfl) rfl ?_ ?_
      rotate_left 2
      · go_simp
        constructor
        · rfl
        · rfl
      replace hT := hT.add #[.int .i64 2, .int .i64 0, .int .i64 3, .int .i64 a, .slice none 0 0, .int .i64 1, .int .i64 n, .int .i64 0, .int .i64 0, .slice none 0 0] 120
      generalize wv723.alloc (.cells #[.int .i64 2, .int .i64 0, .int .i64 3, .int .i64 a, .slice none 0 0, .int .i64 1, .int .i64 n, .int .i64 0, .int .i64 0, .slice none 0 0] 120) = wv7235 at hT ⊢
      generalize wv723.heap.size = z18 at hT ⊢
      refine hK.out _ _ ⟨(kC_ (hT.bx _ (mT_ _ (mT_ _ (mT_ _ (mH_ _))))).1 0).trans rfl, (kC_ (hT.bx _ (mT_ _ (mT_ _ (mT_ _ (mH_ _))))).1 1).trans rfl, (kC_ (hT.bx _ (mT_ _ (mT_ _ (mT_ _ (mH_ _))))).1 2).trans rfl, (kC_ (hT.bx _ (mT_ _ (mT_ _ (mT_ _ (mH_ _))))).1 3).trans rfl, (kC_ (hT.bx _ (mT_ _ (mT_ _ (mT_ _ (mH_ _))))).1 4).trans rfl⟩ (fun hHeld => ?_)
      clear hK K
      refine norm_ (a' := ?_) ?_ ?_
      rotate_left
      · show Act.put _ (some 18) _ = _
        simp only [Act.put, sA_, sB_, sC_, i64_w, i32_w]
        rfl
      refine pu_ 6 19 ?_
      exact norm_ (by simp only [putAll, Act.put, sA_, sB_, sC_]) (hCont (z15, z18, z5) _ hT.p1)
  rintro ⟨z15, zl, b5⟩ w4f hT
  have hHeld : w4f.cell? ⟨b4, 0, none⟩ = some (.int .i64 2) ∧ w4f.cell? ⟨b4, 1, none⟩ = some (.int .i64 0) ∧ w4f.cell? ⟨b4, 2, none⟩ = some (.int .i64 3) ∧ w4f.cell? ⟨b4, 3, none⟩ = some (.int .i64 a) ∧ w4f.cell? ⟨b4, 4, none⟩ = some (.slice none 0 0) := ⟨(kC_ (hT.bx _ (mT_ _ (mT_ _ (mH_ _)))).1 0).trans rfl, (kC_ (hT.bx _ (mT_ _ (mT_ _ (mH_ _)))).1 1).trans rfl, (kC_ (hT.bx _ (mT_ _ (mT_ _ (mH_ _)))).1 2).trans rfl, (kC_ (hT.bx _ (mT_ _ (mT_ _ (mH_ _)))).1 3).trans rfl, (kC_ (hT.bx _ (mT_ _ (mT_ _ (mH_ _)))).1 4).trans rfl⟩
  refine norm_ (a' := ?_) ?_ ?_
  rotate_left
  · simp only [putAll, Act.put, sA_, sB_, sC_]
    rfl
  refine la_ 8 none fun K hK => ?_
  refine skip_ (w1 := ?_) (by rfl) rfl ?_ ?_
  rotate_left
  · have hu2 := Tryz.underlying120
    have i0 := (kC_ (hT.bx _ (mH_ _)).1 0).trans rfl
    have i1 := (kC_ (hT.bx _ (mH_ _)).1 1).trans rfl
    have i2 := (kC_ (hT.bx _ (mH_ _)).1 2).trans rfl
    have i3 := (kC_ (hT.bx _ (mH_ _)).1 3).trans rfl
    have i4 := (kC_ (hT.bx _ (mH_ _)).1 4).trans rfl
    have j0 := blk_frozen (hT.bx _ (mH_ _)).1 0
    have j1 := blk_frozen (hT.bx _ (mH_ _)).1 1
    have j2 := blk_frozen (hT.bx _ (mH_ _)).1 2
    have j3 := blk_frozen (hT.bx _ (mH_ _)).1 3
    have j4 := blk_frozen (hT.bx _ (mH_ _)).1 4
    go_simp
    rfl
  replace hT : LC w0 w g s0_0 p2 ((b5, #[.int .i64 6, .int .i64 0, .int .i64 0, .int .i64 0, .slice (some ⟨zl, 0, none⟩) 2 2], 120) :: (zl, #[.int .i64 2, .int .i64 0, .int .i64 3, .int .i64 a, .slice none 0 0, .int .i64 1, .int .i64 n, .int .i64 0, .int .i64 0, .slice none 0 0], 120) :: [(b4, #[.int .i64 2, .int .i64 0, .int .i64 3, .int .i64 a, .slice none 0 0], 120), (b3, #[.int .i64 3, .int .i64 a], 28), (b2, #[.int .i64 0, .int .i64 0, .int .i64 0, .int .i64 0, .int .i64 0, .int .i64 0, .int .i64 0, .slice none 0 0, .slice none 0 0, .slice none 0 0], 122)]) (((((w4f.setCell ⟨b5, 0, none⟩ (.int .i64 6)).setCell ⟨b5, 1, none⟩ (.int .i64 0)).setCell ⟨b5, 2, none⟩ (.int .i64 0)).setCell ⟨b5, 3, none⟩ (.int .i64 0)).setCell ⟨b5, 4, none⟩ (.slice (some ⟨zl, 0, none⟩) 2 2)) := (((((hT.put 0 (.int .i64 6)).put 1 (.int .i64 0)).put 2 (.int .i64 0)).put 3 (.int .i64 0)).put 4 (.slice (some ⟨zl, 0, none⟩) 2 2))
  generalize (((((w4f.setCell ⟨b5, 0, none⟩ (.int .i64 6)).setCell ⟨b5, 1, none⟩ (.int .i64 0)).setCell ⟨b5, 2, none⟩ (.int .i64 0)).setCell ⟨b5, 3, none⟩ (.int .i64 0)).setCell ⟨b5, 4, none⟩ (.slice (some ⟨zl, 0, none⟩) 2 2)) = w5 at hT ⊢
  refine hK.out _ _ ?_
  clear hK K
  refine done_ (by kernel_rfl) ?_
  clear hHeld
  go_wp2_with fail
  replace hT := hT.drew
  refine start_ (n := 9) (S := fun w' => w'.cell? ⟨b4, 0, none⟩ = some (.int .i64 2) ∧ w'.cell? ⟨b4, 1, none⟩ = some (.int .i64 0) ∧ w'.cell? ⟨b4, 2, none⟩ = some (.int .i64 3) ∧ w'.cell? ⟨b4, 3, none⟩ = some (.int .i64 a) ∧ w'.cell? ⟨b4, 4, none⟩ = some (.slice none 0 0)) (ds := [8]) #[F_, F_, F_, F_, F_, F_, F_, F_, F_] (by kernel_rfl) rfl rfl ⟨(kC_ (hT.bx _ (mT_ _ (mT_ _ (mH_ _)))).1 0).trans rfl, (kC_ (hT.bx _ (mT_ _ (mT_ _ (mH_ _)))).1 1).trans rfl, (kC_ (hT.bx _ (mT_ _ (mT_ _ (mH_ _)))).1 2).trans rfl, (kC_ (hT.bx _ (mT_ _ (mT_ _ (mH_ _)))).1 3).trans rfl, (kC_ (hT.bx _ (mT_ _ (mT_ _ (mH_ _)))).1 4).trans rfl⟩ (fun hHeld => ?_)
  refine pu_ 1 21 ?_
  refine tk_ 0 20 hHeld ?_
  refine join_ (σ := Nat × Nat × Nat) 1 #[T_, T_, T_, T_, T_, T_, T_, T_, F_] (fun s_ => [(22, .slice (some ⟨s_.1, 0, none⟩) 4 4), (23, .int .i64 m), (24, .agg #[.int .i64 1, .int .i64 m, .int .i64 0, .int .i64 0, .slice none 0 0]), (25, .slice (some ⟨s_.2.1, 0, none⟩) 2 2), (26, .agg #[.int .i64 3, .int .i64 0, .int .i64 0, .int .i64 0, .slice (some ⟨s_.2.1, 0, none⟩) 2 2]), (6, .pointer (some ⟨s_.2.2, 0, none⟩))]) (fun s_ w' => LC w0 w g s0_0 p3 ((s_.2.2, #[.int .i64 0, .int .i64 0, .int .i64 0, .int .i64 0, .slice none 0 0], 120) :: (s_.2.1, #[.int .i64 2, .int .i64 0, .int .i64 3, .int .i64 a, .slice none 0 0, .int .i64 1, .int .i64 m, .int .i64 0, .int .i64 0, .slice none 0 0], 120) :: [(b5, #[.int .i64 6, .int .i64 0, .int .i64 0, .int .i64 0, .slice (some ⟨zl, 0, none⟩) 2 2], 120), (zl, #[.int .i64 2, .int .i64 0, .int .i64 3, .int .i64 a, .slice none 0 0, .int .i64 1, .int .i64 n, .int .i64 0, .int .i64 0, .slice none 0 0], 120), (b4, #[.int .i64 2, .int .i64 0, .int .i64 3, .int .i64 a, .slice none 0 0], 120), (b3, #[.int .i64 3, .int .i64 a], 28), (b2, #[.int .i64 0, .int .i64 0, .int .i64 0, .int .i64 0, .int .i64 0, .int .i64 0, .int .i64 0, .slice none 0 0, .slice none 0 0, .slice none 0 0], 122)]) w') ?_ ?_
  rotate_left
  · intro hCont
    refine two_ (i := 2) (j := 7) (Ni := some 22) (Nj := some 6) #[T_, T_, T_, F_, F_, F_, F_, F_, F_] #[T_, T_, F_, F_, F_, F_, F_, T_, F_] rfl rfl rfl rfl (by kernel_rfl) (by decide) (by decide) (fun K hK => ?_) (fun K hK => ?_)
    · skip
      generalize w5.drew = wv at hT hHeld ⊢
      refine value_ (w1 := ?_) (v := ?_) (by rfl) rfl ?_ ?_
      rotate_left 2
      · go_simp
        constructor
        · rfl
        · rfl
      replace hT := hT.add #[.int .i64 1, .int .i64 1, .int .i64 2, .int .i64 0] 3
      generalize wv.alloc (.cells #[.int .i64 1, .int .i64 1, .int .i64 2, .int .i64 0] 3) = wv2 at hT ⊢
      generalize wv.heap.size = z15 at hT ⊢
      refine hK.out _ _ ⟨(kC_ (hT.bx _ (mT_ _ (mT_ _ (mT_ _ (mH_ _))))).1 0).trans rfl, (kC_ (hT.bx _ (mT_ _ (mT_ _ (mT_ _ (mH_ _))))).1 1).trans rfl, (kC_ (hT.bx _ (mT_ _ (mT_ _ (mT_ _ (mH_ _))))).1 2).trans rfl, (kC_ (hT.bx _ (mT_ _ (mT_ _ (mT_ _ (mH_ _))))).1 3).trans rfl, (kC_ (hT.bx _ (mT_ _ (mT_ _ (mT_ _ (mH_ _))))).1 4).trans rfl⟩ (fun hHeld => ?_)
      clear hK K
      refine norm_ (a' := ?_) ?_ ?_
      rotate_left
      · show Act.put _ (some 22) _ = _
        simp only [Act.put, sA_, sB_, sC_, i64_w, i32_w]
        rfl
      refine two_ (i := 3) (j := 7) (Ni := some 23) (Nj := some 6) #[T_, T_, T_, T_, F_, F_, F_, F_, F_] #[T_, T_, T_, F_, F_, F_, F_, T_, F_] rfl rfl rfl rfl (by kernel_rfl) (by decide) (by decide) (fun K hK => ?_) (fun K hK => ?_)
      · skip
        refine goes_ Tryz.func35 (by kernel_rfl) rfl #[.pointer (some ⟨g, 0, none⟩), .slice (some ⟨z15, 0, none⟩) 4 4] (by rfl) rfl rfl (by simp only [mA_, List.map_cons, List.map_nil]; rfl) ?_
        with_reducible refine (hT.num z15 ([1, 1, 2, 0] : List Int) m (mH_ _) 4 rfl (by decide) C3.out).mono ?_
        rintro e wv23 ⟨rfl, hT2⟩
        refine ⟨_, rfl, ?_⟩
        replace hT := hT2
        clear hT2
        refine hK.out _ _ ⟨(kC_ (hT.bx _ (mT_ _ (mT_ _ (mT_ _ (mH_ _))))).1 0).trans rfl, (kC_ (hT.bx _ (mT_ _ (mT_ _ (mT_ _ (mH_ _))))).1 1).trans rfl, (kC_ (hT.bx _ (mT_ _ (mT_ _ (mT_ _ (mH_ _))))).1 2).trans rfl, (kC_ (hT.bx _ (mT_ _ (mT_ _ (mT_ _ (mH_ _))))).1 3).trans rfl, (kC_ (hT.bx _ (mT_ _ (mT_ _ (mT_ _ (mH_ _))))).1 4).trans rfl⟩ (fun hHeld => ?_)
        clear hK K
        refine norm_ (a' := ?_) ?_ ?_
        rotate_left
        · show Act.put _ (some 23) _ = _
          simp only [Act.put, sA_, sB_, sC_, i64_w, i32_w]
          rfl
        refine pu_ 4 24 ?_
        refine two_ (i := 5) (j := 7) (Ni := some 25) (Nj := some 6) #[T_, T_, T_, T_, T_, T_, F_, F_, F_] #[T_, T_, T_, T_, T_, F_, F_, T_, F_] rfl rfl rfl rfl (by kernel_rfl) (by decide) (by decide) (fun K hK => ?_) (fun K hK => ?_)
        · skip
          refine value_ (w1 := ?_) (v := ?_) (by rfl) rfl ?_ ?_
          rotate_left 2
          · go_simp
            constructor
            · rfl
            · rfl
          replace hT := hT.add #[.int .i64 2, .int .i64 0, .int .i64 3, .int .i64 a, .slice none 0 0, .int .i64 1, .int .i64 m, .int .i64 0, .int .i64 0, .slice none 0 0] 120
          generalize wv23.alloc (.cells #[.int .i64 2, .int .i64 0, .int .i64 3, .int .i64 a, .slice none 0 0, .int .i64 1, .int .i64 m, .int .i64 0, .int .i64 0, .slice none 0 0] 120) = wv235 at hT ⊢
          generalize wv23.heap.size = z18 at hT ⊢
          refine hK.out _ _ ⟨(kC_ (hT.bx _ (mT_ _ (mT_ _ (mT_ _ (mT_ _ (mH_ _)))))).1 0).trans rfl, (kC_ (hT.bx _ (mT_ _ (mT_ _ (mT_ _ (mT_ _ (mH_ _)))))).1 1).trans rfl, (kC_ (hT.bx _ (mT_ _ (mT_ _ (mT_ _ (mT_ _ (mH_ _)))))).1 2).trans rfl, (kC_ (hT.bx _ (mT_ _ (mT_ _ (mT_ _ (mT_ _ (mH_ _)))))).1 3).trans rfl, (kC_ (hT.bx _ (mT_ _ (mT_ _ (mT_ _ (mT_ _ (mH_ _)))))).1 4).trans rfl⟩ (fun hHeld => ?_)
          clear hK K
          refine norm_ (a' := ?_) ?_ ?_
          rotate_left
          · show Act.put _ (some 25) _ = _
            simp only [Act.put, sA_, sB_, sC_, i64_w, i32_w]
            rfl
          refine pu_ 6 26 ?_
          refine on_ 7 (some 6) fun K hK => ?_
          refine value_ (w1 := ?_) (v := ?_) (by rfl) rfl ?_ ?_
          rotate_left 2
          · go_simp
            constructor
            · rfl
            · rfl
          replace hT := hT.add #[.int .i64 0, .int .i64 0, .int .i64 0, .int .i64 0, .slice none 0 0] 120
          generalize wv235.alloc (.cells #[.int .i64 0, .int .i64 0, .int .i64 0, .int .i64 0, .slice none 0 0] 120) = wv2357 at hT ⊢
          generalize wv235.heap.size = z5 at hT ⊢
          refine hK.out _ _ ⟨(kC_ (hT.bx _ (mT_ _ (mT_ _ (mT_ _ (mT_ _ (mT_ _ (mH_ _))))))).1 0).trans rfl, (kC_ (hT.bx _ (mT_ _ (mT_ _ (mT_ _ (mT_ _ (mT_ _ (mH_ _))))))).1 1).trans rfl, (kC_ (hT.bx _ (mT_ _ (mT_ _ (mT_ _ (mT_ _ (mT_ _ (mH_ _))))))).1 2).trans rfl, (kC_ (hT.bx _ (mT_ _ (mT_ _ (mT_ _ (mT_ _ (mT_ _ (mH_ _))))))).1 3).trans rfl, (kC_ (hT.bx _ (mT_ _ (mT_ _ (mT_ _ (mT_ _ (mT_ _ (mH_ _))))))).1 4).trans rfl⟩ (fun hHeld => ?_)
          clear hK K
          refine norm_ (a' := ?_) ?_ ?_
          rotate_left
          · show Act.put _ (some 6) _ = _
            simp only [Act.put, sA_, sB_, sC_, i64_w, i32_w]
            rfl
          exact norm_ (by simp only [putAll, Act.put, sA_, sB_, sC_]) (hCont (z15, z18, z5) _ hT.p3)
        · skip
          refine value_ (w1 := ?_) (v := ?_) (by rfl) rfl ?_ ?_
          rotate_left 2
          · go_simp
            constructor
            · rfl
            · rfl
          replace hT := hT.add #[.int .i64 0, .int .i64 0, .int .i64 0, .int .i64 0, .slice none 0 0] 120
          generalize wv23.alloc (.cells #[.int .i64 0, .int .i64 0, .int .i64 0, .int .i64 0, .slice none 0 0] 120) = wv237 at hT ⊢
          generalize wv23.heap.size = z5 at hT ⊢
          refine hK.out _ _ ⟨(kC_ (hT.bx _ (mT_ _ (mT_ _ (mT_ _ (mT_ _ (mH_ _)))))).1 0).trans rfl, (kC_ (hT.bx _ (mT_ _ (mT_ _ (mT_ _ (mT_ _ (mH_ _)))))).1 1).trans rfl, (kC_ (hT.bx _ (mT_ _ (mT_ _ (mT_ _ (mT_ _ (mH_ _)))))).1 2).trans rfl, (kC_ (hT.bx _ (mT_ _ (mT_ _ (mT_ _ (mT_ _ (mH_ _)))))).1 3).trans rfl, (kC_ (hT.bx _ (mT_ _ (mT_ _ (mT_ _ (mT_ _ (mH_ _)))))).1 4).trans rfl⟩ (fun hHeld => ?_)
          clear hK K
          refine norm_ (a' := ?_) ?_ ?_
          rotate_left
          · show Act.put _ (some 6) _ = _
            simp only [Act.put, sA_, sB_, sC_, i64_w, i32_w]
            rfl
          refine on_ 5 (some 25) fun K hK => ?_
          refine value_ (w1 := ?_) (v := ?_) (by rfl) rfl ?_ ?_
          rotate_left 2
          · go_simp
            constructor
            · rfl
            · rfl
          replace hT := hT.add #[.int .i64 2, .int .i64 0, .int .i64 3, .int .i64 a, .slice none 0 0, .int .i64 1, .int .i64 m, .int .i64 0, .int .i64 0, .slice none 0 0] 120
          generalize wv237.alloc (.cells #[.int .i64 2, .int .i64 0, .int .i64 3, .int .i64 a, .slice none 0 0, .int .i64 1, .int .i64 m, .int .i64 0, .int .i64 0, .slice none 0 0] 120) = wv2375 at hT ⊢
          generalize wv237.heap.size = z18 at hT ⊢
          refine hK.out _ _ ⟨(kC_ (hT.bx _ (mT_ _ (mT_ _ (mT_ _ (mT_ _ (mT_ _ (mH_ _))))))).1 0).trans rfl, (kC_ (hT.bx _ (mT_ _ (mT_ _ (mT_ _ (mT_ _ (mT_ _ (mH_ _))))))).1 1).trans rfl, (kC_ (hT.bx _ (mT_ _ (mT_ _ (mT_ _ (mT_ _ (mT_ _ (mH_ _))))))).1 2).trans rfl, (kC_ (hT.bx _ (mT_ _ (mT_ _ (mT_ _ (mT_ _ (mT_ _ (mH_ _))))))).1 3).trans rfl, (kC_ (hT.bx _ (mT_ _ (mT_ _ (mT_ _ (mT_ _ (mT_ _ (mH_ _))))))).1 4).trans rfl⟩ (fun hHeld => ?_)
          clear hK K
          refine norm_ (a' := ?_) ?_ ?_
          rotate_left
          · show Act.put _ (some 25) _ = _
            simp only [Act.put, sA_, sB_, sC_, i64_w, i32_w]
            rfl
          refine pu_ 6 26 ?_
          exact norm_ (by simp only [putAll, Act.put, sA_, sB_, sC_]) (hCont (z15, z18, z5) _ hT.p2)
      · skip
        refine value_ (w1 := ?_) (v := ?_) (by rfl) rfl ?_ ?_
        rotate_left 2
        · go_simp
          constructor
          · rfl
          · rfl
        replace hT := hT.add #[.int .i64 0, .int .i64 0, .int .i64 0, .int .i64 0, .slice none 0 0] 120
        generalize wv2.alloc (.cells #[.int .i64 0, .int .i64 0, .int .i64 0, .int .i64 0, .slice none 0 0] 120) = wv27 at hT ⊢
        generalize wv2.heap.size = z5 at hT ⊢
        refine hK.out _ _ ⟨(kC_ (hT.bx _ (mT_ _ (mT_ _ (mT_ _ (mT_ _ (mH_ _)))))).1 0).trans rfl, (kC_ (hT.bx _ (mT_ _ (mT_ _ (mT_ _ (mT_ _ (mH_ _)))))).1 1).trans rfl, (kC_ (hT.bx _ (mT_ _ (mT_ _ (mT_ _ (mT_ _ (mH_ _)))))).1 2).trans rfl, (kC_ (hT.bx _ (mT_ _ (mT_ _ (mT_ _ (mT_ _ (mH_ _)))))).1 3).trans rfl, (kC_ (hT.bx _ (mT_ _ (mT_ _ (mT_ _ (mT_ _ (mH_ _)))))).1 4).trans rfl⟩ (fun hHeld => ?_)
        clear hK K
        refine norm_ (a' := ?_) ?_ ?_
        rotate_left
        · show Act.put _ (some 6) _ = _
          simp only [Act.put, sA_, sB_, sC_, i64_w, i32_w]
          rfl
        refine on_ 3 (some 23) fun K hK => ?_
        refine goes_ Tryz.func35 (by kernel_rfl) rfl #[.pointer (some ⟨g, 0, none⟩), .slice (some ⟨z15, 0, none⟩) 4 4] (by rfl) rfl rfl (by simp only [mA_, List.map_cons, List.map_nil]; rfl) ?_
        with_reducible refine (hT.num z15 ([1, 1, 2, 0] : List Int) m (mT_ _ (mH_ _)) 4 rfl (by decide) C3.out).mono ?_
        rintro e wv273 ⟨rfl, hT2⟩
        refine ⟨_, rfl, ?_⟩
        replace hT := hT2
        clear hT2
        refine hK.out _ _ ⟨(kC_ (hT.bx _ (mT_ _ (mT_ _ (mT_ _ (mT_ _ (mH_ _)))))).1 0).trans rfl, (kC_ (hT.bx _ (mT_ _ (mT_ _ (mT_ _ (mT_ _ (mH_ _)))))).1 1).trans rfl, (kC_ (hT.bx _ (mT_ _ (mT_ _ (mT_ _ (mT_ _ (mH_ _)))))).1 2).trans rfl, (kC_ (hT.bx _ (mT_ _ (mT_ _ (mT_ _ (mT_ _ (mH_ _)))))).1 3).trans rfl, (kC_ (hT.bx _ (mT_ _ (mT_ _ (mT_ _ (mT_ _ (mH_ _)))))).1 4).trans rfl⟩ (fun hHeld => ?_)
        clear hK K
        refine norm_ (a' := ?_) ?_ ?_
        rotate_left
        · show Act.put _ (some 23) _ = _
          simp only [Act.put, sA_, sB_, sC_, i64_w, i32_w]
          rfl
        refine pu_ 4 24 ?_
        refine on_ 5 (some 25) fun K hK => ?_
        refine value_ (w1 := ?_) (v := ?_) (by rfl) rfl ?_ ?_
        rotate_left 2
        · go_simp
          constructor
          · rfl
          · rfl
        replace hT := hT.add #[.int .i64 2, .int .i64 0, .int .i64 3, .int .i64 a, .slice none 0 0, .int .i64 1, .int .i64 m, .int .i64 0, .int .i64 0, .slice none 0 0] 120
        generalize wv273.alloc (.cells #[.int .i64 2, .int .i64 0, .int .i64 3, .int .i64 a, .slice none 0 0, .int .i64 1, .int .i64 m, .int .i64 0, .int .i64 0, .slice none 0 0] 120) = wv2735 at hT ⊢
        generalize wv273.heap.size = z18 at hT ⊢
        refine hK.out _ _ ⟨(kC_ (hT.bx _ (mT_ _ (mT_ _ (mT_ _ (mT_ _ (mT_ _ (mH_ _))))))).1 0).trans rfl, (kC_ (hT.bx _ (mT_ _ (mT_ _ (mT_ _ (mT_ _ (mT_ _ (mH_ _))))))).1 1).trans rfl, (kC_ (hT.bx _ (mT_ _ (mT_ _ (mT_ _ (mT_ _ (mT_ _ (mH_ _))))))).1 2).trans rfl, (kC_ (hT.bx _ (mT_ _ (mT_ _ (mT_ _ (mT_ _ (mT_ _ (mH_ _))))))).1 3).trans rfl, (kC_ (hT.bx _ (mT_ _ (mT_ _ (mT_ _ (mT_ _ (mT_ _ (mH_ _))))))).1 4).trans rfl⟩ (fun hHeld => ?_)
        clear hK K
        refine norm_ (a' := ?_) ?_ ?_
        rotate_left
        · show Act.put _ (some 25) _ = _
          simp only [Act.put, sA_, sB_, sC_, i64_w, i32_w]
          rfl
        refine pu_ 6 26 ?_
        exact norm_ (by simp only [putAll, Act.put, sA_, sB_, sC_]) (hCont (z15, z18, z5) _ hT.p2)
    · skip
      generalize w5.drew = wv at hT hHeld ⊢
      refine value_ (w1 := ?_) (v := ?_) (by rfl) rfl ?_ ?_
      rotate_left 2
      · go_simp
        constructor
        · rfl
        · rfl
      replace hT := hT.add #[.int .i64 0, .int .i64 0, .int .i64 0, .int .i64 0, .slice none 0 0] 120
      generalize wv.alloc (.cells #[.int .i64 0, .int .i64 0, .int .i64 0, .int .i64 0, .slice none 0 0] 120) = wv7 at hT ⊢
      generalize wv.heap.size = z5 at hT ⊢
      refine hK.out _ _ ⟨(kC_ (hT.bx _ (mT_ _ (mT_ _ (mT_ _ (mH_ _))))).1 0).trans rfl, (kC_ (hT.bx _ (mT_ _ (mT_ _ (mT_ _ (mH_ _))))).1 1).trans rfl, (kC_ (hT.bx _ (mT_ _ (mT_ _ (mT_ _ (mH_ _))))).1 2).trans rfl, (kC_ (hT.bx _ (mT_ _ (mT_ _ (mT_ _ (mH_ _))))).1 3).trans rfl, (kC_ (hT.bx _ (mT_ _ (mT_ _ (mT_ _ (mH_ _))))).1 4).trans rfl⟩ (fun hHeld => ?_)
      clear hK K
      refine norm_ (a' := ?_) ?_ ?_
      rotate_left
      · show Act.put _ (some 6) _ = _
        simp only [Act.put, sA_, sB_, sC_, i64_w, i32_w]
        rfl
      refine on_ 2 (some 22) fun K hK => ?_
      refine value_ (w1 := ?_) (v := ?_) (by rfl) rfl ?_ ?_
      rotate_left 2
      · go_simp
        constructor
        · rfl
        · rfl
      replace hT := hT.add #[.int .i64 1, .int .i64 1, .int .i64 2, .int .i64 0] 3
      generalize wv7.alloc (.cells #[.int .i64 1, .int .i64 1, .int .i64 2, .int .i64 0] 3) = wv72 at hT ⊢
      generalize wv7.heap.size = z15 at hT ⊢
      refine hK.out _ _ ⟨(kC_ (hT.bx _ (mT_ _ (mT_ _ (mT_ _ (mT_ _ (mH_ _)))))).1 0).trans rfl, (kC_ (hT.bx _ (mT_ _ (mT_ _ (mT_ _ (mT_ _ (mH_ _)))))).1 1).trans rfl, (kC_ (hT.bx _ (mT_ _ (mT_ _ (mT_ _ (mT_ _ (mH_ _)))))).1 2).trans rfl, (kC_ (hT.bx _ (mT_ _ (mT_ _ (mT_ _ (mT_ _ (mH_ _)))))).1 3).trans rfl, (kC_ (hT.bx _ (mT_ _ (mT_ _ (mT_ _ (mT_ _ (mH_ _)))))).1 4).trans rfl⟩ (fun hHeld => ?_)
      clear hK K
      refine norm_ (a' := ?_) ?_ ?_
      rotate_left
      · show Act.put _ (some 22) _ = _
        simp only [Act.put, sA_, sB_, sC_, i64_w, i32_w]
        rfl
      refine on_ 3 (some 23) fun K hK => ?_
      refine goes_ Tryz.func35 (by kernel_rfl) rfl #[.pointer (some ⟨g, 0, none⟩), .slice (some ⟨z15, 0, none⟩) 4 4] (by rfl) rfl rfl (by simp only [mA_, List.map_cons, List.map_nil]; rfl) ?_
      with_reducible refine (hT.num z15 ([1, 1, 2, 0] : List Int) m (mH_ _) 4 rfl (by decide) C3.out).mono ?_
      rintro e wv723 ⟨rfl, hT2⟩
      refine ⟨_, rfl, ?_⟩
      replace hT := hT2
      clear hT2
      refine hK.out _ _ ⟨(kC_ (hT.bx _ (mT_ _ (mT_ _ (mT_ _ (mT_ _ (mH_ _)))))).1 0).trans rfl, (kC_ (hT.bx _ (mT_ _ (mT_ _ (mT_ _ (mT_ _ (mH_ _)))))).1 1).trans rfl, (kC_ (hT.bx _ (mT_ _ (mT_ _ (mT_ _ (mT_ _ (mH_ _)))))).1 2).trans rfl, (kC_ (hT.bx _ (mT_ _ (mT_ _ (mT_ _ (mT_ _ (mH_ _)))))).1 3).trans rfl, (kC_ (hT.bx _ (mT_ _ (mT_ _ (mT_ _ (mT_ _ (mH_ _)))))).1 4).trans rfl⟩ (fun hHeld => ?_)
      clear hK K
      refine norm_ (a' := ?_) ?_ ?_
      rotate_left
      · show Act.put _ (some 23) _ = _
        simp only [Act.put, sA_, sB_, sC_, i64_w, i32_w]
        rfl
      refine pu_ 4 24 ?_
      refine on_ 5 (some 25) fun K hK => ?_
      refine value_ (w1 := ?_) (v := ?_) (by rfl) rfl ?_ ?_
      rotate_left 2
      · go_simp
        constructor
        · rfl
        · rfl
      replace hT := hT.add #[.int .i64 2, .int .i64 0, .int .i64 3, .int .i64 a, .slice none 0 0, .int .i64 1, .int .i64 m, .int .i64 0, .int .i64 0, .slice none 0 0] 120
      generalize wv723.alloc (.cells #[.int .i64 2, .int .i64 0, .int .i64 3, .int .i64 a, .slice none 0 0, .int .i64 1, .int .i64 m, .int .i64 0, .int .i64 0, .slice none 0 0] 120) = wv7235 at hT ⊢
      generalize wv723.heap.size = z18 at hT ⊢
      refine hK.out _ _ ⟨(kC_ (hT.bx _ (mT_ _ (mT_ _ (mT_ _ (mT_ _ (mT_ _ (mH_ _))))))).1 0).trans rfl, (kC_ (hT.bx _ (mT_ _ (mT_ _ (mT_ _ (mT_ _ (mT_ _ (mH_ _))))))).1 1).trans rfl, (kC_ (hT.bx _ (mT_ _ (mT_ _ (mT_ _ (mT_ _ (mT_ _ (mH_ _))))))).1 2).trans rfl, (kC_ (hT.bx _ (mT_ _ (mT_ _ (mT_ _ (mT_ _ (mT_ _ (mH_ _))))))).1 3).trans rfl, (kC_ (hT.bx _ (mT_ _ (mT_ _ (mT_ _ (mT_ _ (mT_ _ (mH_ _))))))).1 4).trans rfl⟩ (fun hHeld => ?_)
      clear hK K
      refine norm_ (a' := ?_) ?_ ?_
      rotate_left
      · show Act.put _ (some 25) _ = _
        simp only [Act.put, sA_, sB_, sC_, i64_w, i32_w]
        rfl
      refine pu_ 6 26 ?_
      exact norm_ (by simp only [putAll, Act.put, sA_, sB_, sC_]) (hCont (z15, z18, z5) _ hT.p1)
  rintro ⟨z15, za, b6⟩ w5f hT
  have hHeld : w5f.cell? ⟨b4, 0, none⟩ = some (.int .i64 2) ∧ w5f.cell? ⟨b4, 1, none⟩ = some (.int .i64 0) ∧ w5f.cell? ⟨b4, 2, none⟩ = some (.int .i64 3) ∧ w5f.cell? ⟨b4, 3, none⟩ = some (.int .i64 a) ∧ w5f.cell? ⟨b4, 4, none⟩ = some (.slice none 0 0) := ⟨(kC_ (hT.bx _ (mT_ _ (mT_ _ (mT_ _ (mT_ _ (mH_ _)))))).1 0).trans rfl, (kC_ (hT.bx _ (mT_ _ (mT_ _ (mT_ _ (mT_ _ (mH_ _)))))).1 1).trans rfl, (kC_ (hT.bx _ (mT_ _ (mT_ _ (mT_ _ (mT_ _ (mH_ _)))))).1 2).trans rfl, (kC_ (hT.bx _ (mT_ _ (mT_ _ (mT_ _ (mT_ _ (mH_ _)))))).1 3).trans rfl, (kC_ (hT.bx _ (mT_ _ (mT_ _ (mT_ _ (mT_ _ (mH_ _)))))).1 4).trans rfl⟩
  refine norm_ (a' := ?_) ?_ ?_
  rotate_left
  · simp only [putAll, Act.put, sA_, sB_, sC_]
    rfl
  refine la_ 8 none fun K hK => ?_
  refine skip_ (w1 := ?_) (by rfl) rfl ?_ ?_
  rotate_left
  · have hu2 := Tryz.underlying120
    have i0 := (kC_ (hT.bx _ (mH_ _)).1 0).trans rfl
    have i1 := (kC_ (hT.bx _ (mH_ _)).1 1).trans rfl
    have i2 := (kC_ (hT.bx _ (mH_ _)).1 2).trans rfl
    have i3 := (kC_ (hT.bx _ (mH_ _)).1 3).trans rfl
    have i4 := (kC_ (hT.bx _ (mH_ _)).1 4).trans rfl
    have j0 := blk_frozen (hT.bx _ (mH_ _)).1 0
    have j1 := blk_frozen (hT.bx _ (mH_ _)).1 1
    have j2 := blk_frozen (hT.bx _ (mH_ _)).1 2
    have j3 := blk_frozen (hT.bx _ (mH_ _)).1 3
    have j4 := blk_frozen (hT.bx _ (mH_ _)).1 4
    go_simp
    rfl
  replace hT : LC w0 w g s0_0 p3 ((b6, #[.int .i64 3, .int .i64 0, .int .i64 0, .int .i64 0, .slice (some ⟨za, 0, none⟩) 2 2], 120) :: (za, #[.int .i64 2, .int .i64 0, .int .i64 3, .int .i64 a, .slice none 0 0, .int .i64 1, .int .i64 m, .int .i64 0, .int .i64 0, .slice none 0 0], 120) :: [(b5, #[.int .i64 6, .int .i64 0, .int .i64 0, .int .i64 0, .slice (some ⟨zl, 0, none⟩) 2 2], 120), (zl, #[.int .i64 2, .int .i64 0, .int .i64 3, .int .i64 a, .slice none 0 0, .int .i64 1, .int .i64 n, .int .i64 0, .int .i64 0, .slice none 0 0], 120), (b4, #[.int .i64 2, .int .i64 0, .int .i64 3, .int .i64 a, .slice none 0 0], 120), (b3, #[.int .i64 3, .int .i64 a], 28), (b2, #[.int .i64 0, .int .i64 0, .int .i64 0, .int .i64 0, .int .i64 0, .int .i64 0, .int .i64 0, .slice none 0 0, .slice none 0 0, .slice none 0 0], 122)]) (((((w5f.setCell ⟨b6, 0, none⟩ (.int .i64 3)).setCell ⟨b6, 1, none⟩ (.int .i64 0)).setCell ⟨b6, 2, none⟩ (.int .i64 0)).setCell ⟨b6, 3, none⟩ (.int .i64 0)).setCell ⟨b6, 4, none⟩ (.slice (some ⟨za, 0, none⟩) 2 2)) := (((((hT.put 0 (.int .i64 3)).put 1 (.int .i64 0)).put 2 (.int .i64 0)).put 3 (.int .i64 0)).put 4 (.slice (some ⟨za, 0, none⟩) 2 2))
  generalize (((((w5f.setCell ⟨b6, 0, none⟩ (.int .i64 3)).setCell ⟨b6, 1, none⟩ (.int .i64 0)).setCell ⟨b6, 2, none⟩ (.int .i64 0)).setCell ⟨b6, 3, none⟩ (.int .i64 0)).setCell ⟨b6, 4, none⟩ (.slice (some ⟨za, 0, none⟩) 2 2)) = w6 at hT ⊢
  refine hK.out _ _ ?_
  clear hK K
  refine done_ (by kernel_rfl) ?_
  clear hHeld
  have i0 : w6.cell? ⟨b5, 0, none⟩ = some (.int .i64 6) := (kC_ (hT.bx _ (mT_ _ (mT_ _ (mH_ _)))).1 0).trans rfl
  have i1 : w6.cell? ⟨b5, 1, none⟩ = some (.int .i64 0) := (kC_ (hT.bx _ (mT_ _ (mT_ _ (mH_ _)))).1 1).trans rfl
  have i2 : w6.cell? ⟨b5, 2, none⟩ = some (.int .i64 0) := (kC_ (hT.bx _ (mT_ _ (mT_ _ (mH_ _)))).1 2).trans rfl
  have i3 : w6.cell? ⟨b5, 3, none⟩ = some (.int .i64 0) := (kC_ (hT.bx _ (mT_ _ (mT_ _ (mH_ _)))).1 3).trans rfl
  have i4 : w6.cell? ⟨b5, 4, none⟩ = some (.slice (some ⟨zl, 0, none⟩) 2 2) := (kC_ (hT.bx _ (mT_ _ (mT_ _ (mH_ _)))).1 4).trans rfl
  have j0 : w6.cell? ⟨b3, 0, none⟩ = some (.int .i64 3) := (kC_ (hT.bx _ (mT_ _ (mT_ _ (mT_ _ (mT_ _ (mT_ _ (mH_ _))))))).1 0).trans rfl
  have j1 : w6.cell? ⟨b3, 1, none⟩ = some (.int .i64 a) := (kC_ (hT.bx _ (mT_ _ (mT_ _ (mT_ _ (mT_ _ (mT_ _ (mH_ _))))))).1 1).trans rfl
  have k0 : w6.cell? ⟨b6, 0, none⟩ = some (.int .i64 3) := (kC_ (hT.bx _ (mH_ _)).1 0).trans rfl
  have k1 : w6.cell? ⟨b6, 1, none⟩ = some (.int .i64 0) := (kC_ (hT.bx _ (mH_ _)).1 1).trans rfl
  have k2 : w6.cell? ⟨b6, 2, none⟩ = some (.int .i64 0) := (kC_ (hT.bx _ (mH_ _)).1 2).trans rfl
  have k3 : w6.cell? ⟨b6, 3, none⟩ = some (.int .i64 0) := (kC_ (hT.bx _ (mH_ _)).1 3).trans rfl
  have k4 : w6.cell? ⟨b6, 4, none⟩ = some (.slice (some ⟨za, 0, none⟩) 2 2) := (kC_ (hT.bx _ (mH_ _)).1 4).trans rfl
  go_upto_region 6 with (fail)
  clear i0 i1 i2 i3 i4 j0 j1 k0 k1 k2 k3 k4
  replace hT := (hT.add #[.int .i64 1, .int .i64 3, .int .i64 a, .int .i64 3, .int .i64 0, .int .i64 0, .int .i64 0, .slice (some ⟨za, 0, none⟩) 2 2, .slice none 0 0, .slice none 0 0] 122).add #[.int .i64 3, .int .i64 0, .int .i64 0, .int .i64 6, .int .i64 0, .int .i64 0, .int .i64 0, .slice (some ⟨zl, 0, none⟩) 2 2, .slice (some ⟨w6.heap.size, 0, none⟩) 1 1, .slice none 0 0] 122
  have e1 : (w6.alloc (.cells #[.int .i64 1, .int .i64 3, .int .i64 a, .int .i64 3, .int .i64 0, .int .i64 0, .int .i64 0, .slice (some ⟨za, 0, none⟩) 2 2, .slice none 0 0, .slice none 0 0] 122)).heap.size = w6.heap.size + 1 := Array.size_push ..
  rw [e1] at hT
  generalize (w6.alloc (.cells #[.int .i64 1, .int .i64 3, .int .i64 a, .int .i64 3, .int .i64 0, .int .i64 0, .int .i64 0, .slice (some ⟨za, 0, none⟩) 2 2, .slice none 0 0, .slice none 0 0] 122)).alloc _ = w7 at hT ⊢
  obtain ⟨b7, hb7⟩ : ∃ q, w6.heap.size + 1 = q := ⟨_, rfl⟩
  rw [hb7] at hT ⊢
  clear hb7 e1
  obtain ⟨zt, hzt⟩ : ∃ q, w6.heap.size = q := ⟨_, rfl⟩
  rw [hzt] at hT ⊢
  clear hzt
  have cc := spec_l12Rd_pick.calls 1000 g s0_0 p3 2 q p4 w0 w7 hT.st hT.bel C4.out
  go_wp2_with fail
  refine cc.mono ?_
  rintro e w8 ⟨rfl, q1, q2, q3⟩
  replace hT := hT.call q1 q2 q3
  clear q1 q2 q3 cc
  by_cases hq : q = 0
  · have d : (q == 0) = true := by simpa using hq
    have h := H.out
    rw [if_pos hq] at h
    obtain ⟨⟨t0, t1, p5⟩, c5, h⟩ := oB_ h
    obtain ⟨⟨e0, e1, e2, e3, ks, p6⟩, c6, h⟩ := oB_ h
    simp only [Option.some.injEq, Prod.mk.injEq] at h c5 c6
    obtain ⟨rfl, rfl, rfl, rfl, rfl, rfl, rfl, rfl, rfl, rfl, rfl⟩ := h
    have C5 := aM_ c5
    have C6 := aM_ c6
    clear c5 c6 H hq
    go_upto_region 7 with (fail)
    clear d
    replace hT := hT.drew
    refine start_ (n := 11) (S := fun w' => w'.cell? ⟨b7, 8, none⟩ = some (.slice (some ⟨zt, 0, none⟩) 1 1)) (ds := [10]) #[F_, F_, F_, F_, F_, F_, F_, F_, F_, F_, F_] (by kernel_rfl) rfl rfl ((kC_ (hT.bx _ (mH_ _)).1 8).trans rfl) (fun hHeld => ?_)
    refine pu_ 0 36 ?_
    refine pu_ 2 38 ?_
    refine pu_ 4 40 ?_
    refine take_ (i := 1) (N := some 37) (v := ?_) (a' := ?_) #[T_, T_, T_, F_, T_, F_, F_, F_, F_, F_, F_] rfl rfl (by kernel_rfl) (fun _ _ _ h => h) (Or.inl ⟨by rfl, ?_⟩) hHeld ?_ ?_
    rotate_left
    · intro w' s0
      go_simp
      with_reducible rfl
    rotate_left
    · simp only [Act.put, sA_, sB_, sC_, i64_w, i32_w]
      rfl
    refine on_ 3 (some 39) fun K hK => ?_
    generalize w8.drew = wv at hT hHeld ⊢
    refine goes_ Tryz.func120 (by kernel_rfl) rfl #[.pointer (some ⟨g, 0, none⟩)] (by rfl) rfl rfl (by simp only [mA_, List.map_cons, List.map_nil]; rfl) ?_
    with_reducible refine (spec_l2To.calls 1000 g s0_0 p4 t0 t1 p5 w0 _ hT.st hT.bel C5.out).mono ?_
    rintro e wa ⟨rfl, q1, q2, q3⟩
    refine ⟨_, rfl, ?_⟩
    replace hT := hT.call q1 q2 q3
    clear q1 q2 q3
    refine hK.out _ _ ((kC_ (hT.bx _ (mH_ _)).1 8).trans rfl) (fun hHeld => ?_)
    clear hK K
    refine norm_ (a' := ?_) ?_ ?_
    rotate_left
    · show Act.put _ (some 39) _ = _
      simp only [Act.put, sA_, sB_, sC_, i64_w, i32_w]
      rfl
    refine on_ 5 (some 41) fun K hK => ?_
    refine goes_ Tryz.func119 (by kernel_rfl) rfl #[.pointer (some ⟨g, 0, none⟩), .int .i64 2] (by rfl) rfl rfl (by simp only [mA_, List.map_cons, List.map_nil]; rfl) ?_
    with_reducible refine (spec_l3Expr.calls 1000 g s0_0 p5 2 e0 e1 e2 e3 ks p6 w0 _ hT.st hT.bel C6.out).mono ?_
    rintro e wb ⟨ve, rfl, hE, q1, q2, q3⟩
    refine ⟨_, rfl, ?_⟩
    have lzl : zl < wa.heap.size := hT.lt _ (mT_ _ (mT_ _ (mT_ _ (mT_ _ (mT_ _ (mH_ _))))))
    have lb2 : b2 < wa.heap.size := hT.lt _ (mT_ _ (mT_ _ (mT_ _ (mT_ _ (mT_ _ (mT_ _ (mT_ _ (mT_ _ (mH_ _)))))))))
    have lb7 : b7 < wa.heap.size := hT.lt _ (mH_ _)
    have lzt : zt < wa.heap.size := hT.lt _ (mT_ _ (mH_ _))
    replace hE : Kd.R k120 120 wb base (fun k => (k ≠ zl ∧ k ≠ b2 ∧ k ≠ b7) ∧ k ≠ zt) ve ks := Kd.R_lower (Kd.R_mono (Kd.R_bound hE) (fun k hk => by have := hk.2.1; refine ⟨⟨?_, ?_, ?_⟩, ?_⟩ <;> omega)) (HW.out ▸ hT.kp.1)
    replace hT := hT.call q1 q2 q3
    clear q1 q2 q3 lzl lb2 lb7 lzt
    refine hK.out _ _ ((kC_ (hT.bx _ (mH_ _)).1 8).trans rfl) (fun hHeld => ?_)
    clear hK K
    refine norm_ (a' := ?_) ?_ ?_
    rotate_left
    · show Act.put _ (some 41) _ = _
      simp only [Act.put, sA_, sB_, sC_, i64_w, i32_w]
      rfl
    refine pu_ 6 42 ?_
    refine on_ 7 (some 43) fun K hK => ?_
    refine value_ (w1 := ?_) (v := ?_) (by rfl) rfl ?_ ?_
    rotate_left 2
    · go_simp
      constructor
      · rfl
      · rfl
    refine hK.out _ _ ((kC_ ((hT.alloc _).bx _ (mH_ _)).1 8).trans rfl) (fun hHeld => ?_)
    clear hK K
    refine norm_ (a' := ?_) ?_ ?_
    rotate_left
    · show Act.put _ (some 43) _ = _
      simp only [Act.put, sA_, sB_, sC_, i64_w, i32_w]
      rfl
    refine on_ 8 (some 44) fun K hK => ?_
    have nzl : zt ≠ zl := (hT.ne (i := 1) (j := 5) rfl rfl (by decide))
    have nb2 : zt ≠ b2 := (hT.ne (i := 1) (j := 8) rfl rfl (by decide))
    have nb7 : zt ≠ b7 := (Ne.symm (hT.ne (i := 0) (j := 1) rfl rfl (by decide)))
    have mzl : za ≠ zl := (hT.ne (i := 3) (j := 5) rfl rfl (by decide))
    have mb2 : za ≠ b2 := (hT.ne (i := 3) (j := 8) rfl rfl (by decide))
    have mb7 : za ≠ b7 := (Ne.symm (hT.ne (i := 0) (j := 3) rfl rfl (by decide)))
    have mzt : za ≠ zt := (Ne.symm (hT.ne (i := 1) (j := 3) rfl rfl (by decide)))
    have hO : Kd.R k122 122 wb base (fun k => k ≠ zl ∧ k ≠ b2 ∧ k ≠ b7) (.slice (some ⟨zt, 0, none⟩) 1 1) [(⟨1, ⟨3, a⟩, ⟨3, 0, ⟨0, 0⟩, [(⟨2, 0, ⟨3, a⟩, []⟩ : S120), (⟨1, m, ⟨0, 0⟩, []⟩ : S120)]⟩, [], []⟩ : S122)] := R_row k122 (ok := (fun k => k ≠ zl ∧ k ≠ b2 ∧ k ≠ b7)) (xs := [(⟨1, ⟨3, a⟩, ⟨3, 0, ⟨0, 0⟩, [(⟨2, 0, ⟨3, a⟩, []⟩ : S120), (⟨1, m, ⟨0, 0⟩, []⟩ : S120)]⟩, [], []⟩ : S122)]) (inner := [.int .i64 1, .int .i64 3, .int .i64 a, .int .i64 3, .int .i64 0, .int .i64 0, .int .i64 0, .slice (some ⟨za, 0, none⟩) 2 2, .slice none 0 0, .slice none 0 0]) (hT.bx _ (mT_ _ (mH_ _))).1 (HW.out ▸ (hT.bx _ (mT_ _ (mH_ _))).2) ⟨nzl, nb2, nb7⟩ (show (1 : Nat) ≤ maxLen by decide) (reps1 (k122_mkM _ _ _ (⟨1, ⟨3, a⟩, ⟨3, 0, ⟨0, 0⟩, [(⟨2, 0, ⟨3, a⟩, []⟩ : S120), (⟨1, m, ⟨0, 0⟩, []⟩ : S120)]⟩, [], []⟩ : S122) (R_row k120 (ok := (fun k => ((fun k => k ≠ zl ∧ k ≠ b2 ∧ k ≠ b7)) k ∧ k ≠ zt)) (xs := [(⟨2, 0, ⟨3, a⟩, []⟩ : S120), (⟨1, m, ⟨0, 0⟩, []⟩ : S120)]) (inner := [.int .i64 2, .int .i64 0, .int .i64 3, .int .i64 a, .slice none 0 0, .int .i64 1, .int .i64 m, .int .i64 0, .int .i64 0, .slice none 0 0]) (hT.bx _ (mT_ _ (mT_ _ (mT_ _ (mH_ _))))).1 (HW.out ▸ (hT.bx _ (mT_ _ (mT_ _ (mT_ _ (mH_ _))))).2) ⟨⟨mzl, mb2, mb7⟩, mzt⟩ (show (2 : Nat) ≤ maxLen by decide) (reps2 (cs := [.int .i64 2, .int .i64 0, .int .i64 3, .int .i64 a, .slice none 0 0]) (ds := [.int .i64 1, .int .i64 m, .int .i64 0, .int .i64 0, .slice none 0 0]) (k120_mkM _ _ _ (⟨2, 0, ⟨3, a⟩, []⟩ : S120) (Kd.R_nil _ _ _ _ _)) rfl (k120_mkM _ _ _ (⟨1, m, ⟨0, 0⟩, []⟩ : S120) (Kd.R_nil _ _ _ _ _)) rfl)) (Kd.R_nil _ _ _ _ _) (Kd.R_nil _ _ _ _ _)) rfl)
    refine Kd.R_append_step k122 base (by rfl) (.tmp 37) (.tmp 43) 93 122 (.agg #[(.int .i64 0), (.int .i64 0), (.int .i64 0), (.int .i64 0), (.int .i64 0), (.int .i64 0), (.int .i64 0), (.slice none 0 0), (.slice none 0 0), (.slice none 0 0)]) 128 rfl Tryz.underlying93 info122 rfl (by decide) (by omega) (.slice (some ⟨zt, 0, none⟩) 1 1) [(⟨1, ⟨3, a⟩, ⟨3, 0, ⟨0, 0⟩, [(⟨2, 0, ⟨3, a⟩, []⟩ : S120), (⟨1, m, ⟨0, 0⟩, []⟩ : S120)]⟩, [], []⟩ : S122)] (⟨1, ⟨t0, t1⟩, ⟨e0, e1, ⟨e2, e3⟩, ks⟩, [], []⟩ : S122) [.int .i64 1, .int .i64 t0, .int .i64 t1, .int .i64 e0, .int .i64 e1, .int .i64 e2, .int .i64 e3, ve, .slice none 0 0, .slice none 0 0] (fun k => k ≠ zl ∧ k ≠ b2 ∧ k ≠ b7) (fun k => (k ≠ zl ∧ k ≠ b2 ∧ k ≠ b7) ∧ k ≠ zt) rfl rfl ?aP (fun k hk => ⟨hk.1, fun e => hk.2 (by simpa [Value.ownBlock] using e)⟩) ?aF ?aO (Below.refl _ _) ?aS ?aL ?_
    (case aP => exact k122_mkM _ _ _ (⟨1, ⟨t0, t1⟩, ⟨e0, e1, ⟨e2, e3⟩, ks⟩, [], []⟩ : S122) hE (Kd.R_nil _ _ _ _ _) (Kd.R_nil _ _ _ _ _))
    (case aF => have l1 : zl < wb.heap.size := hT.lt _ (mT_ _ (mT_ _ (mT_ _ (mT_ _ (mT_ _ (mH_ _)))))); have l2 : b2 < wb.heap.size := hT.lt _ (mT_ _ (mT_ _ (mT_ _ (mT_ _ (mT_ _ (mT_ _ (mT_ _ (mT_ _ (mH_ _))))))))); have l3 : b7 < wb.heap.size := hT.lt _ (mH_ _); exact fun k hk => by refine ⟨?_, ?_, ?_⟩ <;> omega)
    (case aO => exact hO)
    (case aS => exact HW.out ▸ hT.kp.1)
    (case aL => simp)
    intro v1 w9 ho hb hg hat
    have hT1 : LC w0 w g s0_0 p6 [(b7, #[.int .i64 3, .int .i64 0, .int .i64 0, .int .i64 6, .int .i64 0, .int .i64 0, .int .i64 0, .slice (some ⟨zl, 0, none⟩) 2 2, .slice (some ⟨zt, 0, none⟩) 1 1, .slice none 0 0], 122), (zl, #[.int .i64 2, .int .i64 0, .int .i64 3, .int .i64 a, .slice none 0 0, .int .i64 1, .int .i64 n, .int .i64 0, .int .i64 0, .slice none 0 0], 120), (b2, #[.int .i64 0, .int .i64 0, .int .i64 0, .int .i64 0, .int .i64 0, .int .i64 0, .int .i64 0, .slice none 0 0, .slice none 0 0, .slice none 0 0], 122)] wb := hT.sub (List.Sublist.cons_cons _ (List.Sublist.cons _ (List.Sublist.cons _ (List.Sublist.cons _ (List.Sublist.cons _ (List.Sublist.cons_cons _ (List.Sublist.cons _ (List.Sublist.cons _ (List.Sublist.cons_cons _ List.Sublist.slnil)))))))))
    replace hT := hT1.grown (bs := [(b7, #[.int .i64 3, .int .i64 0, .int .i64 0, .int .i64 6, .int .i64 0, .int .i64 0, .int .i64 0, .slice (some ⟨zl, 0, none⟩) 2 2, .slice (some ⟨zt, 0, none⟩) 1 1, .slice none 0 0], 122), (zl, #[.int .i64 2, .int .i64 0, .int .i64 3, .int .i64 a, .slice none 0 0, .int .i64 1, .int .i64 n, .int .i64 0, .int .i64 0, .slice none 0 0], 120), (b2, #[.int .i64 0, .int .i64 0, .int .i64 0, .int .i64 0, .int .i64 0, .int .i64 0, .int .i64 0, .slice none 0 0, .slice none 0 0, .slice none 0 0], 122)]) hO (fun y hy => by
  have hy2 : y.1 = b7 ∨ y.1 = zl ∨ y.1 = b2 := by rcases List.mem_cons.1 hy with rfl | hy; exact .inl rfl; rcases List.mem_cons.1 hy with rfl | hy; exact .inr (.inl rfl); rcases List.mem_cons.1 hy with rfl | hy; exact .inr (.inr rfl); cases hy
  intro e
  have e2 : y.1 = zt := by simpa [Value.ownBlock] using e
  omega) (by decide) (Nat.le_of_eq HW.out) hg
    clear hT1 hO hE hb hg hat nzl nb2 nb7 mzl mb2 mb7 mzt
    obtain ⟨Ao, co, eo⟩ : ∃ A c, v1 = .slice A 2 c := Kd.R_slice ho
    subst eo
    refine hK.out _ _ ((kC_ (hT.bx _ (mH_ _)).1 8).trans rfl) (fun hHeld => ?_)
    clear hK K
    refine norm_ (a' := ?_) ?_ ?_
    rotate_left
    · show Act.put _ (some 44) _ = _
      simp only [Act.put, sA_, sB_, sC_, i64_w, i32_w]
      rfl
    refine pu_ 9 45 ?_
    refine la_ 10 none fun K hK => ?_
    have k8 : w9.cell? ⟨b7, 8, none⟩ = some (.slice (some ⟨zt, 0, none⟩) 1 1) := (kC_ (hT.bx _ (mH_ _)).1 8).trans rfl
    have g8 := blk_frozen (hT.bx _ (mH_ _)).1 8
    refine skip_ (w1 := ?_) (by rfl) rfl ?_ ?_
    rotate_left
    · go_simp
      rfl
    refine hK.out _ _ ?_
    clear hK K
    refine done_ (by kernel_rfl) ?_
    clear hHeld k8 g8
    replace ho := rF_ (p := ⟨b7, 8, none⟩) ho (fun k hk => hk.2.2) (.slice Ao 2 co)
    replace hT : LC w0 w g s0_0 p6 [(b7, #[.int .i64 3, .int .i64 0, .int .i64 0, .int .i64 6, .int .i64 0, .int .i64 0, .int .i64 0, .slice (some ⟨zl, 0, none⟩) 2 2, .slice Ao 2 co, .slice none 0 0], 122), (zl, #[.int .i64 2, .int .i64 0, .int .i64 3, .int .i64 a, .slice none 0 0, .int .i64 1, .int .i64 n, .int .i64 0, .int .i64 0, .slice none 0 0], 120), (b2, #[.int .i64 0, .int .i64 0, .int .i64 0, .int .i64 0, .int .i64 0, .int .i64 0, .int .i64 0, .slice none 0 0, .slice none 0 0, .slice none 0 0], 122)] (w9.setCell ⟨b7, 8, none⟩ (.slice Ao 2 co)) := hT.put 8 _
    generalize w9.setCell ⟨b7, 8, none⟩ _ = w10 at hT ho ⊢
    have hT2 := hT.perm (show List.Perm (α := Nat × Array Value × TypeId) ((b2, #[.int .i64 0, .int .i64 0, .int .i64 0, .int .i64 0, .int .i64 0, .int .i64 0, .int .i64 0, .slice none 0 0, .slice none 0 0, .slice none 0 0], 122) :: [(b7, #[.int .i64 3, .int .i64 0, .int .i64 0, .int .i64 6, .int .i64 0, .int .i64 0, .int .i64 0, .slice (some ⟨zl, 0, none⟩) 2 2, .slice Ao 2 co, .slice none 0 0], 122), (zl, #[.int .i64 2, .int .i64 0, .int .i64 3, .int .i64 a, .slice none 0 0, .int .i64 1, .int .i64 n, .int .i64 0, .int .i64 0, .slice none 0 0], 120)]) [(b7, #[.int .i64 3, .int .i64 0, .int .i64 0, .int .i64 6, .int .i64 0, .int .i64 0, .int .i64 0, .slice (some ⟨zl, 0, none⟩) 2 2, .slice Ao 2 co, .slice none 0 0], 122), (zl, #[.int .i64 2, .int .i64 0, .int .i64 3, .int .i64 a, .slice none 0 0, .int .i64 1, .int .i64 n, .int .i64 0, .int .i64 0, .slice none 0 0], 120), (b2, #[.int .i64 0, .int .i64 0, .int .i64 0, .int .i64 0, .int .i64 0, .int .i64 0, .int .i64 0, .slice none 0 0, .slice none 0 0, .slice none 0 0], 122)] from List.perm_append_comm (α := Nat × Array Value × TypeId) (l₁ := [(b2, #[.int .i64 0, .int .i64 0, .int .i64 0, .int .i64 0, .int .i64 0, .int .i64 0, .int .i64 0, .slice none 0 0, .slice none 0 0, .slice none 0 0], 122)]) (l₂ := [(b7, #[.int .i64 3, .int .i64 0, .int .i64 0, .int .i64 6, .int .i64 0, .int .i64 0, .int .i64 0, .slice (some ⟨zl, 0, none⟩) 2 2, .slice Ao 2 co, .slice none 0 0], 122), (zl, #[.int .i64 2, .int .i64 0, .int .i64 3, .int .i64 a, .slice none 0 0, .int .i64 1, .int .i64 n, .int .i64 0, .int .i64 0, .slice none 0 0], 120)]))
    have k0 : w10.cell? ⟨b7, 0, none⟩ = some (.int .i64 3) := (kC_ (hT.bx _ (mH_ _)).1 0).trans rfl
    have k1 : w10.cell? ⟨b7, 1, none⟩ = some (.int .i64 0) := (kC_ (hT.bx _ (mH_ _)).1 1).trans rfl
    have k2 : w10.cell? ⟨b7, 2, none⟩ = some (.int .i64 0) := (kC_ (hT.bx _ (mH_ _)).1 2).trans rfl
    have k3 : w10.cell? ⟨b7, 3, none⟩ = some (.int .i64 6) := (kC_ (hT.bx _ (mH_ _)).1 3).trans rfl
    have k4 : w10.cell? ⟨b7, 4, none⟩ = some (.int .i64 0) := (kC_ (hT.bx _ (mH_ _)).1 4).trans rfl
    have k5 : w10.cell? ⟨b7, 5, none⟩ = some (.int .i64 0) := (kC_ (hT.bx _ (mH_ _)).1 5).trans rfl
    have k6 : w10.cell? ⟨b7, 6, none⟩ = some (.int .i64 0) := (kC_ (hT.bx _ (mH_ _)).1 6).trans rfl
    have k7 : w10.cell? ⟨b7, 7, none⟩ = some (.slice (some ⟨zl, 0, none⟩) 2 2) := (kC_ (hT.bx _ (mH_ _)).1 7).trans rfl
    have k8 : w10.cell? ⟨b7, 8, none⟩ = some (.slice Ao 2 co) := (kC_ (hT.bx _ (mH_ _)).1 8).trans rfl
    have k9 : w10.cell? ⟨b7, 9, none⟩ = some (.slice none 0 0) := (kC_ (hT.bx _ (mH_ _)).1 9).trans rfl
    have z0 : w10.cell? ⟨b2, 0, none⟩ = some (.int .i64 0) := (kC_ (hT2.bx _ (mH_ _)).1 0).trans rfl
    have z1 : w10.cell? ⟨b2, 1, none⟩ = some (.int .i64 0) := (kC_ (hT2.bx _ (mH_ _)).1 1).trans rfl
    have z2 : w10.cell? ⟨b2, 2, none⟩ = some (.int .i64 0) := (kC_ (hT2.bx _ (mH_ _)).1 2).trans rfl
    have z3 : w10.cell? ⟨b2, 3, none⟩ = some (.int .i64 0) := (kC_ (hT2.bx _ (mH_ _)).1 3).trans rfl
    have z4 : w10.cell? ⟨b2, 4, none⟩ = some (.int .i64 0) := (kC_ (hT2.bx _ (mH_ _)).1 4).trans rfl
    have z5 : w10.cell? ⟨b2, 5, none⟩ = some (.int .i64 0) := (kC_ (hT2.bx _ (mH_ _)).1 5).trans rfl
    have z6 : w10.cell? ⟨b2, 6, none⟩ = some (.int .i64 0) := (kC_ (hT2.bx _ (mH_ _)).1 6).trans rfl
    have z7 : w10.cell? ⟨b2, 7, none⟩ = some (.slice none 0 0) := (kC_ (hT2.bx _ (mH_ _)).1 7).trans rfl
    have z8 : w10.cell? ⟨b2, 8, none⟩ = some (.slice none 0 0) := (kC_ (hT2.bx _ (mH_ _)).1 8).trans rfl
    have z9 : w10.cell? ⟨b2, 9, none⟩ = some (.slice none 0 0) := (kC_ (hT2.bx _ (mH_ _)).1 9).trans rfl
    have f0 := blk_frozen (hT2.bx _ (mH_ _)).1 0
    have f1 := blk_frozen (hT2.bx _ (mH_ _)).1 1
    have f2 := blk_frozen (hT2.bx _ (mH_ _)).1 2
    have f3 := blk_frozen (hT2.bx _ (mH_ _)).1 3
    have f4 := blk_frozen (hT2.bx _ (mH_ _)).1 4
    have f5 := blk_frozen (hT2.bx _ (mH_ _)).1 5
    have f6 := blk_frozen (hT2.bx _ (mH_ _)).1 6
    have f7 := blk_frozen (hT2.bx _ (mH_ _)).1 7
    have f8 := blk_frozen (hT2.bx _ (mH_ _)).1 8
    have f9 := blk_frozen (hT2.bx _ (mH_ _)).1 9
    have hT3 : LC w0 w g s0_0 _ ((b2, #[.int .i64 3, .int .i64 0, .int .i64 0, .int .i64 6, .int .i64 0, .int .i64 0, .int .i64 0, .slice (some ⟨zl, 0, none⟩) 2 2, .slice Ao 2 co, .slice none 0 0], 122) :: [(b7, #[.int .i64 3, .int .i64 0, .int .i64 0, .int .i64 6, .int .i64 0, .int .i64 0, .int .i64 0, .slice (some ⟨zl, 0, none⟩) 2 2, .slice Ao 2 co, .slice none 0 0], 122), (zl, #[.int .i64 2, .int .i64 0, .int .i64 3, .int .i64 a, .slice none 0 0, .int .i64 1, .int .i64 n, .int .i64 0, .int .i64 0, .slice none 0 0], 120)]) ((((((((((w10.setCell ⟨b2, 0, none⟩ (.int .i64 3)).setCell ⟨b2, 1, none⟩ (.int .i64 0)).setCell ⟨b2, 2, none⟩ (.int .i64 0)).setCell ⟨b2, 3, none⟩ (.int .i64 6)).setCell ⟨b2, 4, none⟩ (.int .i64 0)).setCell ⟨b2, 5, none⟩ (.int .i64 0)).setCell ⟨b2, 6, none⟩ (.int .i64 0)).setCell ⟨b2, 7, none⟩ (.slice (some ⟨zl, 0, none⟩) 2 2)).setCell ⟨b2, 8, none⟩ (.slice Ao 2 co)).setCell ⟨b2, 9, none⟩ (.slice none 0 0)) := ((((((((((hT2.put 0 (.int .i64 3)).put 1 (.int .i64 0)).put 2 (.int .i64 0)).put 3 (.int .i64 6)).put 4 (.int .i64 0)).put 5 (.int .i64 0)).put 6 (.int .i64 0)).put 7 (.slice (some ⟨zl, 0, none⟩) 2 2)).put 8 (.slice Ao 2 co)).put 9 (.slice none 0 0))
    have ho3 := Kd.R_mono (ok' := fun k_ => some k_ ≠ (Value.slice (some ⟨zl, 0, none⟩) 2 2).ownBlock ∧ some k_ ≠ (Value.slice none 0 0).ownBlock) (rF_ (p := ⟨b2, 9, none⟩) (rF_ (p := ⟨b2, 8, none⟩) (rF_ (p := ⟨b2, 7, none⟩) (rF_ (p := ⟨b2, 6, none⟩) (rF_ (p := ⟨b2, 5, none⟩) (rF_ (p := ⟨b2, 4, none⟩) (rF_ (p := ⟨b2, 3, none⟩) (rF_ (p := ⟨b2, 2, none⟩) (rF_ (p := ⟨b2, 1, none⟩) (rF_ (p := ⟨b2, 0, none⟩) ho (fun k hk => hk.2.1) (.int .i64 3)) (fun k hk => hk.2.1) (.int .i64 0)) (fun k hk => hk.2.1) (.int .i64 0)) (fun k hk => hk.2.1) (.int .i64 6)) (fun k hk => hk.2.1) (.int .i64 0)) (fun k hk => hk.2.1) (.int .i64 0)) (fun k hk => hk.2.1) (.int .i64 0)) (fun k hk => hk.2.1) (.slice (some ⟨zl, 0, none⟩) 2 2)) (fun k hk => hk.2.1) (.slice Ao 2 co)) (fun k hk => hk.2.1) (.slice none 0 0)) (fun k hk => ok_ne (fun e => hk.1 e.symm) 2 2)
    clear ho hT hT2
    go_wp2
    refine bodyPost_ret (results_cell_row rfl _ _ b2 122 #[.int .i64 3, .int .i64 0, .int .i64 0, .int .i64 6, .int .i64 0, .int .i64 0, .int .i64 0, .slice (some ⟨zl, 0, none⟩) 2 2, .slice Ao 2 co, .slice none 0 0] (0, 0) _ rfl (hT3.bx _ (mH_ _)).1 Tryz.underlying122 rfl (by kernel_rfl)) rfl ?_
    exact ⟨_, _, _, rfl, R_row k120 (ok := (fun _ => True)) (xs := [(⟨2, 0, ⟨3, a⟩, []⟩ : S120), (⟨1, n, ⟨0, 0⟩, []⟩ : S120)]) (inner := [.int .i64 2, .int .i64 0, .int .i64 3, .int .i64 a, .slice none 0 0, .int .i64 1, .int .i64 n, .int .i64 0, .int .i64 0, .slice none 0 0]) (hT3.bx _ (mT_ _ (mT_ _ (mH_ _)))).1 (HW.out ▸ (hT3.bx _ (mT_ _ (mT_ _ (mH_ _)))).2) trivial (show (2 : Nat) ≤ maxLen by decide) (reps2 (cs := [.int .i64 2, .int .i64 0, .int .i64 3, .int .i64 a, .slice none 0 0]) (ds := [.int .i64 1, .int .i64 n, .int .i64 0, .int .i64 0, .slice none 0 0]) (k120_mkM _ _ _ (⟨2, 0, ⟨3, a⟩, []⟩ : S120) (Kd.R_nil _ _ _ _ _)) rfl (k120_mkM _ _ _ (⟨1, n, ⟨0, 0⟩, []⟩ : S120) (Kd.R_nil _ _ _ _ _)) rfl), ho3, Kd.R_nil _ _ _ _ _, hT3.st, hT3.bel, hT3.kp⟩
  · have d : (q == 0) = false := by simpa using hq
    have h := H.out
    rw [if_neg hq] at h
    simp only [Option.some.injEq, Prod.mk.injEq] at h
    obtain ⟨rfl, rfl, rfl, rfl, rfl, rfl, rfl, rfl, rfl, rfl, rfl⟩ := h
    clear H hq
    have hT2 := hT.perm (show List.Perm (α := Nat × Array Value × TypeId) ((b2, #[.int .i64 0, .int .i64 0, .int .i64 0, .int .i64 0, .int .i64 0, .int .i64 0, .int .i64 0, .slice none 0 0, .slice none 0 0, .slice none 0 0], 122) :: [(b7, #[.int .i64 3, .int .i64 0, .int .i64 0, .int .i64 6, .int .i64 0, .int .i64 0, .int .i64 0, .slice (some ⟨zl, 0, none⟩) 2 2, .slice (some ⟨zt, 0, none⟩) 1 1, .slice none 0 0], 122), (zt, #[.int .i64 1, .int .i64 3, .int .i64 a, .int .i64 3, .int .i64 0, .int .i64 0, .int .i64 0, .slice (some ⟨za, 0, none⟩) 2 2, .slice none 0 0, .slice none 0 0], 122), (b6, #[.int .i64 3, .int .i64 0, .int .i64 0, .int .i64 0, .slice (some ⟨za, 0, none⟩) 2 2], 120), (za, #[.int .i64 2, .int .i64 0, .int .i64 3, .int .i64 a, .slice none 0 0, .int .i64 1, .int .i64 m, .int .i64 0, .int .i64 0, .slice none 0 0], 120), (b5, #[.int .i64 6, .int .i64 0, .int .i64 0, .int .i64 0, .slice (some ⟨zl, 0, none⟩) 2 2], 120), (zl, #[.int .i64 2, .int .i64 0, .int .i64 3, .int .i64 a, .slice none 0 0, .int .i64 1, .int .i64 n, .int .i64 0, .int .i64 0, .slice none 0 0], 120), (b4, #[.int .i64 2, .int .i64 0, .int .i64 3, .int .i64 a, .slice none 0 0], 120), (b3, #[.int .i64 3, .int .i64 a], 28)]) [(b7, #[.int .i64 3, .int .i64 0, .int .i64 0, .int .i64 6, .int .i64 0, .int .i64 0, .int .i64 0, .slice (some ⟨zl, 0, none⟩) 2 2, .slice (some ⟨zt, 0, none⟩) 1 1, .slice none 0 0], 122), (zt, #[.int .i64 1, .int .i64 3, .int .i64 a, .int .i64 3, .int .i64 0, .int .i64 0, .int .i64 0, .slice (some ⟨za, 0, none⟩) 2 2, .slice none 0 0, .slice none 0 0], 122), (b6, #[.int .i64 3, .int .i64 0, .int .i64 0, .int .i64 0, .slice (some ⟨za, 0, none⟩) 2 2], 120), (za, #[.int .i64 2, .int .i64 0, .int .i64 3, .int .i64 a, .slice none 0 0, .int .i64 1, .int .i64 m, .int .i64 0, .int .i64 0, .slice none 0 0], 120), (b5, #[.int .i64 6, .int .i64 0, .int .i64 0, .int .i64 0, .slice (some ⟨zl, 0, none⟩) 2 2], 120), (zl, #[.int .i64 2, .int .i64 0, .int .i64 3, .int .i64 a, .slice none 0 0, .int .i64 1, .int .i64 n, .int .i64 0, .int .i64 0, .slice none 0 0], 120), (b4, #[.int .i64 2, .int .i64 0, .int .i64 3, .int .i64 a, .slice none 0 0], 120), (b3, #[.int .i64 3, .int .i64 a], 28), (b2, #[.int .i64 0, .int .i64 0, .int .i64 0, .int .i64 0, .int .i64 0, .int .i64 0, .int .i64 0, .slice none 0 0, .slice none 0 0, .slice none 0 0], 122)] from List.perm_append_comm (α := Nat × Array Value × TypeId) (l₁ := [(b2, #[.int .i64 0, .int .i64 0, .int .i64 0, .int .i64 0, .int .i64 0, .int .i64 0, .int .i64 0, .slice none 0 0, .slice none 0 0, .slice none 0 0], 122)]) (l₂ := [(b7, #[.int .i64 3, .int .i64 0, .int .i64 0, .int .i64 6, .int .i64 0, .int .i64 0, .int .i64 0, .slice (some ⟨zl, 0, none⟩) 2 2, .slice (some ⟨zt, 0, none⟩) 1 1, .slice none 0 0], 122), (zt, #[.int .i64 1, .int .i64 3, .int .i64 a, .int .i64 3, .int .i64 0, .int .i64 0, .int .i64 0, .slice (some ⟨za, 0, none⟩) 2 2, .slice none 0 0, .slice none 0 0], 122), (b6, #[.int .i64 3, .int .i64 0, .int .i64 0, .int .i64 0, .slice (some ⟨za, 0, none⟩) 2 2], 120), (za, #[.int .i64 2, .int .i64 0, .int .i64 3, .int .i64 a, .slice none 0 0, .int .i64 1, .int .i64 m, .int .i64 0, .int .i64 0, .slice none 0 0], 120), (b5, #[.int .i64 6, .int .i64 0, .int .i64 0, .int .i64 0, .slice (some ⟨zl, 0, none⟩) 2 2], 120), (zl, #[.int .i64 2, .int .i64 0, .int .i64 3, .int .i64 a, .slice none 0 0, .int .i64 1, .int .i64 n, .int .i64 0, .int .i64 0, .slice none 0 0], 120), (b4, #[.int .i64 2, .int .i64 0, .int .i64 3, .int .i64 a, .slice none 0 0], 120), (b3, #[.int .i64 3, .int .i64 a], 28)]))
    have k0 : w8.cell? ⟨b7, 0, none⟩ = some (.int .i64 3) := (kC_ (hT.bx _ (mH_ _)).1 0).trans rfl
    have k1 : w8.cell? ⟨b7, 1, none⟩ = some (.int .i64 0) := (kC_ (hT.bx _ (mH_ _)).1 1).trans rfl
    have k2 : w8.cell? ⟨b7, 2, none⟩ = some (.int .i64 0) := (kC_ (hT.bx _ (mH_ _)).1 2).trans rfl
    have k3 : w8.cell? ⟨b7, 3, none⟩ = some (.int .i64 6) := (kC_ (hT.bx _ (mH_ _)).1 3).trans rfl
    have k4 : w8.cell? ⟨b7, 4, none⟩ = some (.int .i64 0) := (kC_ (hT.bx _ (mH_ _)).1 4).trans rfl
    have k5 : w8.cell? ⟨b7, 5, none⟩ = some (.int .i64 0) := (kC_ (hT.bx _ (mH_ _)).1 5).trans rfl
    have k6 : w8.cell? ⟨b7, 6, none⟩ = some (.int .i64 0) := (kC_ (hT.bx _ (mH_ _)).1 6).trans rfl
    have k7 : w8.cell? ⟨b7, 7, none⟩ = some (.slice (some ⟨zl, 0, none⟩) 2 2) := (kC_ (hT.bx _ (mH_ _)).1 7).trans rfl
    have k8 : w8.cell? ⟨b7, 8, none⟩ = some (.slice (some ⟨zt, 0, none⟩) 1 1) := (kC_ (hT.bx _ (mH_ _)).1 8).trans rfl
    have k9 : w8.cell? ⟨b7, 9, none⟩ = some (.slice none 0 0) := (kC_ (hT.bx _ (mH_ _)).1 9).trans rfl
    have z0 : w8.cell? ⟨b2, 0, none⟩ = some (.int .i64 0) := (kC_ (hT2.bx _ (mH_ _)).1 0).trans rfl
    have z1 : w8.cell? ⟨b2, 1, none⟩ = some (.int .i64 0) := (kC_ (hT2.bx _ (mH_ _)).1 1).trans rfl
    have z2 : w8.cell? ⟨b2, 2, none⟩ = some (.int .i64 0) := (kC_ (hT2.bx _ (mH_ _)).1 2).trans rfl
    have z3 : w8.cell? ⟨b2, 3, none⟩ = some (.int .i64 0) := (kC_ (hT2.bx _ (mH_ _)).1 3).trans rfl
    have z4 : w8.cell? ⟨b2, 4, none⟩ = some (.int .i64 0) := (kC_ (hT2.bx _ (mH_ _)).1 4).trans rfl
    have z5 : w8.cell? ⟨b2, 5, none⟩ = some (.int .i64 0) := (kC_ (hT2.bx _ (mH_ _)).1 5).trans rfl
    have z6 : w8.cell? ⟨b2, 6, none⟩ = some (.int .i64 0) := (kC_ (hT2.bx _ (mH_ _)).1 6).trans rfl
    have z7 : w8.cell? ⟨b2, 7, none⟩ = some (.slice none 0 0) := (kC_ (hT2.bx _ (mH_ _)).1 7).trans rfl
    have z8 : w8.cell? ⟨b2, 8, none⟩ = some (.slice none 0 0) := (kC_ (hT2.bx _ (mH_ _)).1 8).trans rfl
    have z9 : w8.cell? ⟨b2, 9, none⟩ = some (.slice none 0 0) := (kC_ (hT2.bx _ (mH_ _)).1 9).trans rfl
    have f0 := blk_frozen (hT2.bx _ (mH_ _)).1 0
    have f1 := blk_frozen (hT2.bx _ (mH_ _)).1 1
    have f2 := blk_frozen (hT2.bx _ (mH_ _)).1 2
    have f3 := blk_frozen (hT2.bx _ (mH_ _)).1 3
    have f4 := blk_frozen (hT2.bx _ (mH_ _)).1 4
    have f5 := blk_frozen (hT2.bx _ (mH_ _)).1 5
    have f6 := blk_frozen (hT2.bx _ (mH_ _)).1 6
    have f7 := blk_frozen (hT2.bx _ (mH_ _)).1 7
    have f8 := blk_frozen (hT2.bx _ (mH_ _)).1 8
    have f9 := blk_frozen (hT2.bx _ (mH_ _)).1 9
    have hT3 : LC w0 w g s0_0 _ ((b2, #[.int .i64 3, .int .i64 0, .int .i64 0, .int .i64 6, .int .i64 0, .int .i64 0, .int .i64 0, .slice (some ⟨zl, 0, none⟩) 2 2, .slice (some ⟨zt, 0, none⟩) 1 1, .slice none 0 0], 122) :: [(b7, #[.int .i64 3, .int .i64 0, .int .i64 0, .int .i64 6, .int .i64 0, .int .i64 0, .int .i64 0, .slice (some ⟨zl, 0, none⟩) 2 2, .slice (some ⟨zt, 0, none⟩) 1 1, .slice none 0 0], 122), (zt, #[.int .i64 1, .int .i64 3, .int .i64 a, .int .i64 3, .int .i64 0, .int .i64 0, .int .i64 0, .slice (some ⟨za, 0, none⟩) 2 2, .slice none 0 0, .slice none 0 0], 122), (b6, #[.int .i64 3, .int .i64 0, .int .i64 0, .int .i64 0, .slice (some ⟨za, 0, none⟩) 2 2], 120), (za, #[.int .i64 2, .int .i64 0, .int .i64 3, .int .i64 a, .slice none 0 0, .int .i64 1, .int .i64 m, .int .i64 0, .int .i64 0, .slice none 0 0], 120), (b5, #[.int .i64 6, .int .i64 0, .int .i64 0, .int .i64 0, .slice (some ⟨zl, 0, none⟩) 2 2], 120), (zl, #[.int .i64 2, .int .i64 0, .int .i64 3, .int .i64 a, .slice none 0 0, .int .i64 1, .int .i64 n, .int .i64 0, .int .i64 0, .slice none 0 0], 120), (b4, #[.int .i64 2, .int .i64 0, .int .i64 3, .int .i64 a, .slice none 0 0], 120), (b3, #[.int .i64 3, .int .i64 a], 28)]) ((((((((((w8.setCell ⟨b2, 0, none⟩ (.int .i64 3)).setCell ⟨b2, 1, none⟩ (.int .i64 0)).setCell ⟨b2, 2, none⟩ (.int .i64 0)).setCell ⟨b2, 3, none⟩ (.int .i64 6)).setCell ⟨b2, 4, none⟩ (.int .i64 0)).setCell ⟨b2, 5, none⟩ (.int .i64 0)).setCell ⟨b2, 6, none⟩ (.int .i64 0)).setCell ⟨b2, 7, none⟩ (.slice (some ⟨zl, 0, none⟩) 2 2)).setCell ⟨b2, 8, none⟩ (.slice (some ⟨zt, 0, none⟩) 1 1)).setCell ⟨b2, 9, none⟩ (.slice none 0 0)) := ((((((((((hT2.put 0 (.int .i64 3)).put 1 (.int .i64 0)).put 2 (.int .i64 0)).put 3 (.int .i64 6)).put 4 (.int .i64 0)).put 5 (.int .i64 0)).put 6 (.int .i64 0)).put 7 (.slice (some ⟨zl, 0, none⟩) 2 2)).put 8 (.slice (some ⟨zt, 0, none⟩) 1 1)).put 9 (.slice none 0 0))
    have nzlzt : zl ≠ zt := Ne.symm (hT.ne (i := 1) (j := 5) rfl rfl (by decide))
    have nzlza : zl ≠ za := Ne.symm (hT.ne (i := 3) (j := 5) rfl rfl (by decide))
    have nzazt : za ≠ zt := Ne.symm (hT.ne (i := 1) (j := 3) rfl rfl (by decide))
    clear hT hT2
    go_wp2
    refine bodyPost_ret (results_cell_row rfl _ _ b2 122 #[.int .i64 3, .int .i64 0, .int .i64 0, .int .i64 6, .int .i64 0, .int .i64 0, .int .i64 0, .slice (some ⟨zl, 0, none⟩) 2 2, .slice (some ⟨zt, 0, none⟩) 1 1, .slice none 0 0] (0, 0) _ rfl (hT3.bx _ (mH_ _)).1 Tryz.underlying122 rfl (by kernel_rfl)) rfl ?_
    exact ⟨_, _, _, rfl, R_row k120 (ok := (fun _ => True)) (xs := [(⟨2, 0, ⟨3, a⟩, []⟩ : S120), (⟨1, n, ⟨0, 0⟩, []⟩ : S120)]) (inner := [.int .i64 2, .int .i64 0, .int .i64 3, .int .i64 a, .slice none 0 0, .int .i64 1, .int .i64 n, .int .i64 0, .int .i64 0, .slice none 0 0]) (hT3.bx _ (mT_ _ (mT_ _ (mT_ _ (mT_ _ (mT_ _ (mT_ _ (mH_ _)))))))).1 (HW.out ▸ (hT3.bx _ (mT_ _ (mT_ _ (mT_ _ (mT_ _ (mT_ _ (mT_ _ (mH_ _)))))))).2) trivial (show (2 : Nat) ≤ maxLen by decide) (reps2 (cs := [.int .i64 2, .int .i64 0, .int .i64 3, .int .i64 a, .slice none 0 0]) (ds := [.int .i64 1, .int .i64 n, .int .i64 0, .int .i64 0, .slice none 0 0]) (k120_mkM _ _ _ (⟨2, 0, ⟨3, a⟩, []⟩ : S120) (Kd.R_nil _ _ _ _ _)) rfl (k120_mkM _ _ _ (⟨1, n, ⟨0, 0⟩, []⟩ : S120) (Kd.R_nil _ _ _ _ _)) rfl), R_row k122 (ok := (fun k_ => some k_ ≠ (Value.slice (some ⟨zl, 0, none⟩) 2 2).ownBlock ∧ some k_ ≠ (Value.slice none 0 0).ownBlock)) (xs := [(⟨1, ⟨3, a⟩, ⟨3, 0, ⟨0, 0⟩, [(⟨2, 0, ⟨3, a⟩, []⟩ : S120), (⟨1, m, ⟨0, 0⟩, []⟩ : S120)]⟩, [], []⟩ : S122)]) (inner := [.int .i64 1, .int .i64 3, .int .i64 a, .int .i64 3, .int .i64 0, .int .i64 0, .int .i64 0, .slice (some ⟨za, 0, none⟩) 2 2, .slice none 0 0, .slice none 0 0]) (hT3.bx _ (mT_ _ (mT_ _ (mH_ _)))).1 (HW.out ▸ (hT3.bx _ (mT_ _ (mT_ _ (mH_ _)))).2) (ok_ne nzlzt 2 2) (show (1 : Nat) ≤ maxLen by decide) (reps1 (k122_mkM _ _ _ (⟨1, ⟨3, a⟩, ⟨3, 0, ⟨0, 0⟩, [(⟨2, 0, ⟨3, a⟩, []⟩ : S120), (⟨1, m, ⟨0, 0⟩, []⟩ : S120)]⟩, [], []⟩ : S122) (R_row k120 (ok := (fun k => ((fun k_ => some k_ ≠ (Value.slice (some ⟨zl, 0, none⟩) 2 2).ownBlock ∧ some k_ ≠ (Value.slice none 0 0).ownBlock)) k ∧ k ≠ zt)) (xs := [(⟨2, 0, ⟨3, a⟩, []⟩ : S120), (⟨1, m, ⟨0, 0⟩, []⟩ : S120)]) (inner := [.int .i64 2, .int .i64 0, .int .i64 3, .int .i64 a, .slice none 0 0, .int .i64 1, .int .i64 m, .int .i64 0, .int .i64 0, .slice none 0 0]) (hT3.bx _ (mT_ _ (mT_ _ (mT_ _ (mT_ _ (mH_ _)))))).1 (HW.out ▸ (hT3.bx _ (mT_ _ (mT_ _ (mT_ _ (mT_ _ (mH_ _)))))).2) ⟨ok_ne nzlza 2 2, nzazt⟩ (show (2 : Nat) ≤ maxLen by decide) (reps2 (cs := [.int .i64 2, .int .i64 0, .int .i64 3, .int .i64 a, .slice none 0 0]) (ds := [.int .i64 1, .int .i64 m, .int .i64 0, .int .i64 0, .slice none 0 0]) (k120_mkM _ _ _ (⟨2, 0, ⟨3, a⟩, []⟩ : S120) (Kd.R_nil _ _ _ _ _)) rfl (k120_mkM _ _ _ (⟨1, m, ⟨0, 0⟩, []⟩ : S120) (Kd.R_nil _ _ _ _ _)) rfl)) (Kd.R_nil _ _ _ _ _) (Kd.R_nil _ _ _ _ _)) rfl), Kd.R_nil _ _ _ _ _, hT3.st, hT3.bel, hT3.kp⟩
set_option maxHeartbeats 8000000 in
set_option maxRecDepth 100000 in
theorem spec_l4Count.calls (g : Nat) (s0_0 : List Int) (s0_1 : Int) (r1 : Int) (r2 : Int) (r3 : Int) (r4 : Int) (r5 : Int) (r6 : Int) (r7 : Int) (r8 : List (S120)) (r9 : List (S122)) (r10 : List (S122)) (r11 : Int) (w0 w : World) (hI : IsS98 w0 w g s0_0 s0_1) (hB : Below w0.heap.size w0 w) (h : spec_l4Count.f s0_0 s0_1 = some (r1, r2, r3, r4, r5, r6, r7, r8, r9, r10, r11)) :
    Calls Tryz.prog 86 #[.pointer (some ⟨g, 0, none⟩)] w fun e w' => ∃ v7_ v8_ v9_ : Value, e = .returned (.agg #[.int .i64 r1, .int .i64 r2, .int .i64 r3, .int .i64 r4, .int .i64 r5, .int .i64 r6, .int .i64 r7, v7_, v8_, v9_]) ∧ Kd.R k120 120 w' w.heap.size (fun _ => True) v7_ r8 ∧ Kd.R k122 122 w' w.heap.size (fun k_ => some k_ ≠ (v7_ : Value).ownBlock ∧ some k_ ≠ (v9_ : Value).ownBlock) v8_ r9 ∧ Kd.R k122 122 w' w.heap.size (fun k_ => some k_ ≠ (v7_ : Value).ownBlock ∧ some k_ ≠ (v8_ : Value).ownBlock) v9_ r10 ∧ IsS98 w0 w' g s0_0 r11 ∧ Below w0.heap.size w0 w' ∧ KeepBut w w' g none := by
 exact l4Count_any g s0_0 s0_1 r1 r2 r3 r4 r5 r6 r7 r8 r9 r10 r11 w0 w hI hB h
end Go.Proofs.YtjamfddhcigchaaGreatDoor.HFnCodeRun
