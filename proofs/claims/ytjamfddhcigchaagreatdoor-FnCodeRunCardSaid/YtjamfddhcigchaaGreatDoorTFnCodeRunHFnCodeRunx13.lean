-- Made by a program of this session (hp.py) over the kit's print: functions told by hand stand beside printed ones. Lean checks it.
import Derived.Test.YtjamfddhcigchaaGreatDoorTFnCodeRunHFnCodeRunx9
import Derived.Test.YtjamfddhcigchaaGreatDoorTFnCodeRunHFnCodeRunx4
namespace Go.Proofs.YtjamfddhcigchaaGreatDoor.HFnCodeRun
open Go.RowKit Go.Proofs.YtjamfddhcigchaaGreatDoorW.PrintWords Go.Proofs.YtjamfddhcigchaaGreatDoorW.PrintLast Go.Proofs.YtjamfddhcigchaaGreatDoorW.PrintMore
attribute [local go_sem] max2_int min2_int max_two min_two max_three min_three max_four min_four
set_option linter.unusedVariables false
set_option linter.unusedSimpArgs false
attribute [local go_sem high] eqA28
mutual
def spec_l4Form.j0 : Nat → List (S122) → Int → Bool → Option (Bool)
  | 0, _, _, _ => none
  | k + 1, x0, x1, x14 => if x14 = true then (some false) else (spec_l4Form.l0 k x0 x1 0)
def spec_l4Form.l0 : Nat → List (S122) → Int → Int → Option (Bool)
  | 0, _, _, _ => none
  | k + 1, x0, x1, x5 => if x5 < (x0.length : Int) then (if 0 ≤ x5 then (if ((rd_T122 x0 x5).f0) = 1 then ((spec_AddrOk.f ((rd_T122 x0 x5).f1.f0) ((rd_T122 x0 x5).f1.f1)).bind fun t280 => (if t280 = true then (if ((rd_T122 x0 x5).f1.f0) = 1 then (spec_l4Form.j2 k x0 x1 x5 false ((rd_T122 x0 x5).f0) ((rd_T122 x0 x5).f1.f0) ((rd_T122 x0 x5).f1.f1) ((rd_T122 x0 x5).f2.f0) ((rd_T122 x0 x5).f2.f1) ((rd_T122 x0 x5).f2.f2.f0) ((rd_T122 x0 x5).f2.f2.f1) ((rd_T122 x0 x5).f2.f3) ((rd_T122 x0 x5).f3) ((rd_T122 x0 x5).f4)) else (if (((rd_T122 x0 x5).f3).length : Int) = 0 then (spec_l4Form.j2 k x0 x1 x5 ((((rd_T122 x0 x5).f4).length : Int) == 0) ((rd_T122 x0 x5).f0) ((rd_T122 x0 x5).f1.f0) ((rd_T122 x0 x5).f1.f1) ((rd_T122 x0 x5).f2.f0) ((rd_T122 x0 x5).f2.f1) ((rd_T122 x0 x5).f2.f2.f0) ((rd_T122 x0 x5).f2.f2.f1) ((rd_T122 x0 x5).f2.f3) ((rd_T122 x0 x5).f3) ((rd_T122 x0 x5).f4)) else (spec_l4Form.j2 k x0 x1 x5 false ((rd_T122 x0 x5).f0) ((rd_T122 x0 x5).f1.f0) ((rd_T122 x0 x5).f1.f1) ((rd_T122 x0 x5).f2.f0) ((rd_T122 x0 x5).f2.f1) ((rd_T122 x0 x5).f2.f2.f0) ((rd_T122 x0 x5).f2.f2.f1) ((rd_T122 x0 x5).f2.f3) ((rd_T122 x0 x5).f3) ((rd_T122 x0 x5).f4)))) else (spec_l4Form.j2 k x0 x1 x5 false ((rd_T122 x0 x5).f0) ((rd_T122 x0 x5).f1.f0) ((rd_T122 x0 x5).f1.f1) ((rd_T122 x0 x5).f2.f0) ((rd_T122 x0 x5).f2.f1) ((rd_T122 x0 x5).f2.f2.f0) ((rd_T122 x0 x5).f2.f2.f1) ((rd_T122 x0 x5).f2.f3) ((rd_T122 x0 x5).f3) ((rd_T122 x0 x5).f4)))) else (if ((rd_T122 x0 x5).f0) = 2 then (spec_l4Form.j2 k x0 x1 x5 (((rd_T122 x0 x5).f1.f0) == 0 && (((rd_T122 x0 x5).f1.f1) == 0)) ((rd_T122 x0 x5).f0) ((rd_T122 x0 x5).f1.f0) ((rd_T122 x0 x5).f1.f1) ((rd_T122 x0 x5).f2.f0) ((rd_T122 x0 x5).f2.f1) ((rd_T122 x0 x5).f2.f2.f0) ((rd_T122 x0 x5).f2.f2.f1) ((rd_T122 x0 x5).f2.f3) ((rd_T122 x0 x5).f3) ((rd_T122 x0 x5).f4)) else (if ((rd_T122 x0 x5).f0) = 3 then (if (((rd_T122 x0 x5).f1.f0) == 0 && (((rd_T122 x0 x5).f1.f1) == 0)) = true then (spec_l4Form.j2 k x0 x1 x5 ((((rd_T122 x0 x5).f4).length : Int) == 0) ((rd_T122 x0 x5).f0) ((rd_T122 x0 x5).f1.f0) ((rd_T122 x0 x5).f1.f1) ((rd_T122 x0 x5).f2.f0) ((rd_T122 x0 x5).f2.f1) ((rd_T122 x0 x5).f2.f2.f0) ((rd_T122 x0 x5).f2.f2.f1) ((rd_T122 x0 x5).f2.f3) ((rd_T122 x0 x5).f3) ((rd_T122 x0 x5).f4)) else (spec_l4Form.j2 k x0 x1 x5 false ((rd_T122 x0 x5).f0) ((rd_T122 x0 x5).f1.f0) ((rd_T122 x0 x5).f1.f1) ((rd_T122 x0 x5).f2.f0) ((rd_T122 x0 x5).f2.f1) ((rd_T122 x0 x5).f2.f2.f0) ((rd_T122 x0 x5).f2.f2.f1) ((rd_T122 x0 x5).f2.f3) ((rd_T122 x0 x5).f3) ((rd_T122 x0 x5).f4))) else (spec_l4Form.j2 k x0 x1 x5 false ((rd_T122 x0 x5).f0) ((rd_T122 x0 x5).f1.f0) ((rd_T122 x0 x5).f1.f1) ((rd_T122 x0 x5).f2.f0) ((rd_T122 x0 x5).f2.f1) ((rd_T122 x0 x5).f2.f2.f0) ((rd_T122 x0 x5).f2.f2.f1) ((rd_T122 x0 x5).f2.f3) ((rd_T122 x0 x5).f3) ((rd_T122 x0 x5).f4))))) else (none)) else (some true)
def spec_l4Form.j2 : Nat → List (S122) → Int → Int → Bool → Int → Int → Int → Int → Int → Int → Int → List (S120) → List (S122) → List (S122) → Option (Bool)
  | 0, _, _, _, _, _, _, _, _, _, _, _, _, _, _ => none
  | k + 1, x0, x1, x5, x7, x280000, x280001, x280002, x280003, x280004, x280005, x280006, x280007, x280008, x280009 => if x7 = true then ((spec_ExprOk.f k x280003 x280004 x280005 x280006 x280007).bind fun t281 => (if t281 = true then ((spec_l4Form.f k x280008 (wrap64 (x1 - 1))).bind fun t282 => (if t282 = true then ((spec_l4Form.f k x280009 (wrap64 (x1 - 1))).bind fun t283 => (if t283 = true then (spec_l4Form.l0 k x0 x1 (wrap64 (x5 + 1))) else (some false))) else (some false))) else (some false))) else (some false)
def spec_l4Form.f : Nat → List (S122) → Int → Option (Bool)
  | 0, _, _ => none
  | k + 1, l0, a1 => if (l0.length : Int) > 0 then (spec_l4Form.j0 k l0 a1 (decide (a1 < 1))) else (spec_l4Form.j0 k l0 a1 false)
end
set_option maxHeartbeats 8000000 in
set_option maxRecDepth 100000 in
theorem spec_l4Form.calls (k : Nat) : ∀ (A0 : Option Addr) (c0 : Nat) (l0 : List (S122)) (a1 : Int) (r : Bool) (w : World) (hr0 : Kd.C k122 w A0 l0.length l0) (hc0 : l0.length ≤ c0) (h : spec_l4Form.f k l0 a1 = some r),
    Calls Tryz.prog 122 #[.slice A0 l0.length c0, .int .i64 a1] w fun e w' => e = .returned (.bool r) ∧ Below w.heap.size w w' := by
 induction k using Nat.strongRecOn with
 | _ k ih =>
 intro A0 c0 l0 a1 r w hr0 hc0 h
 cases k with
 | zero => exact absurd h (by simp [spec_l4Form.f])
 | succ k =>
 simp only [spec_l4Form.f] at h
 have hu122 := Tryz.underlying122
 have hu28 := Tryz.underlying28
 have hu120 := Tryz.underlying120
 have HR0 := aM_ hr0
 have HC0 := aM_ hc0
 clear hr0 hc0
 have HB := aM_ (Below.refl w.heap.size w)
 have H : (if (l0.length : Int) > 0 then (spec_l4Form.j0 k l0 a1 (decide (a1 < 1))) else (spec_l4Form.j0 k l0 a1 false)) = some r := h
 clear h
 have HC3 := aM_ H
 clear H
 go_enter Tryz.func122, Tryz.ntmps122
 go_upto_region 1 with (fail)
 go_cut [14] (fun v14 wc => ∃ (kq : Nat) (x14_2 : Bool), v14 = .bool x14_2 ∧ Aside0 (spec_l4Form.j0 kq l0 a1 x14_2 = some r) ∧ Aside0 (kq ≤ k) ∧ Aside0 (Below w.heap.size w wc))
 case first =>
  have H := HC3.out
  clear HC3
  by_cases c4 : (l0.length : Int) > 0
  rotate_left
  · rw [if_neg c4] at H
    have c4b0 : decide (0 < (l0.length : Int)) = false := dF_ c4
    have c4b1 : decide (0 < l0.length) = false := dF_ (by omega)
    clear c4
    (first | rw [c4b0] | (simp only [i64_w, i32_w]; rw [c4b0]) | skip)
    have H' := aM_ H
    clear H
    go_wp2
    go_meet
    case rel => exact ⟨_, (false), qF, H', ⟨by first | omega | exact Nat.le_refl _⟩, ⟨qB HB⟩⟩
  rw [if_pos c4] at H
  have c4b0 : decide (0 < (l0.length : Int)) = true := dT_ c4
  have c4b1 : decide (0 < l0.length) = true := dT_ (by omega)
  clear c4
  (first | rw [c4b0] | (simp only [i64_w, i32_w]; rw [c4b0]) | skip)
  have H' := aM_ H
  clear H
  go_wp2
  go_meet
  case rel => exact ⟨_, (decide (a1 < 1)), qF, H', ⟨by first | omega | exact Nat.le_refl _⟩, ⟨qB HB⟩⟩
 case rest =>
  clear HC3
  obtain ⟨kq, x14_2, rfl, HA, HJ2, HB⟩ := hcut
  cases kq with
  | zero => exact absurd HA.out (by simp [spec_l4Form.j0])
  | succ kj2 =>
   have H := HA.out
   clear HA
   simp only [spec_l4Form.j0] at H
   by_cases c5 : x14_2 = true
   · subst c5
     rw [if_pos rfl] at H
     obtain rfl := oI_ H
     go_wp2
     go_ret
     exact ⟨qE, qB HB⟩
   replace c5 := Bool.eq_false_iff.mpr c5
   subst c5
   rw [if_neg (show ¬ (false = true) by decide)] at H
   have H' := aM_ H
   clear H
   go_wp2
   go_loopg [5] kj2 (fun kq v5 w' => ∃ (x5_2 : Int), v5 = .int .i64 x5_2 ∧ Aside0 (spec_l4Form.l0 kq l0 a1 x5_2 = some r) ∧ Aside0 (kq ≤ kj2) ∧ Aside0 (Below w.heap.size w w'))
   case atStart => exact ⟨(0), qF, H', ⟨Nat.le_refl _⟩, ⟨qB HB⟩⟩
   case round =>
    clear H'
    obtain ⟨x5_2, rfl, HA, HK2, HB⟩ := hrel
    cases gk with
    | zero => exact absurd HA.out (by simp [spec_l4Form.l0])
    | succ k2 =>
     have H := HA.out
     clear HA
     simp only [spec_l4Form.l0] at H
     by_cases c6 : x5_2 < (l0.length : Int)
     rotate_left
     · rw [if_neg c6] at H
       have c6b0 : decide (x5_2 < (l0.length : Int)) = false := dF_ c6
       clear c6
       obtain rfl := oI_ H
       go_wp2
       go_ret
       exact ⟨qE, qB HB⟩
     rw [if_pos c6] at H
     have c6b0 : decide (x5_2 < (l0.length : Int)) = true := dT_ c6
     clear c6
     obtain ⟨H, c7b0⟩ := nP_ H
     have HC8 := aM_ H
     clear H
     have p278 : 0 ≤ (x5_2 : Int) := oD_ (by first | (with_reducible assumption) | assumption)
     have q278 : x5_2 < (l0.length : Int) := oD_ (by first | (with_reducible assumption) | assumption)
     obtain ⟨ad278, A278_7, c278_7, A278_8, c278_8, A278_9, c278_9, e278, hx278_0, hx278_1, hx278_2, hx278_3, hx278_4, hx278_5, hx278_6, hx278_7, hx278_8, hx278_9, hl278_7, hi278_7, hl278_8, hi278_8, hl278_9, hi278_9⟩ := at_T122 HR0.out x5_2 p278 q278
     cases e278
     replace hx278_0 := qc HB hx278_0
     replace hx278_1 := qc HB hx278_1
     replace hx278_2 := qc HB hx278_2
     replace hx278_3 := qc HB hx278_3
     replace hx278_4 := qc HB hx278_4
     replace hx278_5 := qc HB hx278_5
     replace hx278_6 := qc HB hx278_6
     replace hx278_7 := qc HB hx278_7
     replace hx278_8 := qc HB hx278_8
     replace hx278_9 := qc HB hx278_9
     have HR278_7 := aM_ hi278_7
     have HC278_7 := aM_ hl278_7
     clear hi278_7 hl278_7
     have HR278_8 := aM_ hi278_8
     have HC278_8 := aM_ hl278_8
     clear hi278_8 hl278_8
     have HR278_9 := aM_ hi278_9
     have HC278_9 := aM_ hl278_9
     clear hi278_9 hl278_9
     replace p278 := eq_true p278
     replace q278 := eq_true q278
     go_upto_block 2 with (first | ((with_reducible refine gD_ 6 ?_); (try (refine gate_guard (by rfl) ?_; dsimp only)); refine bxB 6 122 #[.int .i64 0, .int .i64 0, .int .i64 0, .int .i64 0, .int .i64 0, .int .i64 0, .int .i64 0, .slice none 0 0, .slice none 0 0, .slice none 0 0] (qB HB) ?_; clear HB; intro gb279 w9 HB BK279 GW279; have GE279 := GW279; have hC10 := cf10 BK279.out))
     (try simp only [Act.put, sA_, sB_, sC_])
     go_cut [7] (fun v7 wc => ∃ (kq : Nat) (x7_7 : Bool), v7 = .bool x7_7 ∧ Aside0 (spec_l4Form.j2 kq l0 a1 x5_2 x7_7 ((rd_T122 l0 x5_2).f0) ((rd_T122 l0 x5_2).f1.f0) ((rd_T122 l0 x5_2).f1.f1) ((rd_T122 l0 x5_2).f2.f0) ((rd_T122 l0 x5_2).f2.f1) ((rd_T122 l0 x5_2).f2.f2.f0) ((rd_T122 l0 x5_2).f2.f2.f1) ((rd_T122 l0 x5_2).f2.f3) ((rd_T122 l0 x5_2).f3) ((rd_T122 l0 x5_2).f4) = some r) ∧ Aside0 (kq ≤ k2) ∧ Aside0 (wc.heap[gb279]? = some (.cells #[.int .i64 ((rd_T122 l0 x5_2).f0), .int .i64 ((rd_T122 l0 x5_2).f1.f0), .int .i64 ((rd_T122 l0 x5_2).f1.f1), .int .i64 ((rd_T122 l0 x5_2).f2.f0), .int .i64 ((rd_T122 l0 x5_2).f2.f1), .int .i64 ((rd_T122 l0 x5_2).f2.f2.f0), .int .i64 ((rd_T122 l0 x5_2).f2.f2.f1), (.slice A278_7 ((rd_T122 l0 x5_2).f2.f3).length c278_7), (.slice A278_8 ((rd_T122 l0 x5_2).f3).length c278_8), (.slice A278_9 ((rd_T122 l0 x5_2).f4).length c278_9)] 122 (0, 0))) ∧ Aside0 (Below w.heap.size w wc))
     case first =>
      have H := HC8.out
      clear HC8
      by_cases c11 : ((rd_T122 l0 x5_2).f0) = 1
      rotate_left
      · rw [if_neg c11] at H
        have c11b0 : (((rd_T122 l0 x5_2).f0) == 1) = false := beq_eq_false_iff_ne.mpr c11
        have c11b1 : (((rd_T122 l0 x5_2).f0) != 1) = true := bne_iff_ne.mpr c11
        (first | rw [c11b0] | (simp only [i64_w, i32_w]; rw [c11b0]) | skip)
        by_cases c27 : ((rd_T122 l0 x5_2).f0) = 2
        · rw [if_pos c27] at H
          have c27b0 : (((rd_T122 l0 x5_2).f0) == 2) = true := beq_iff_eq.mpr c27
          have c27b1 : (((rd_T122 l0 x5_2).f0) != 2) = false := bne_eq_false_iff_eq.mpr c27
          clear c27
          have H' := aM_ H
          clear H
          have hC28 := cf10 BK279.out
          go_wp2
          go_meet
          case rel => exact ⟨_, ((((rd_T122 l0 x5_2).f1.f0) == 0 && (((rd_T122 l0 x5_2).f1.f1) == 0))), qF, H', ⟨by have := HJ2.out; have := HK2.out; first | omega | exact Nat.le_refl _⟩, ⟨kq BK279⟩, ⟨qB HB⟩⟩
        rw [if_neg c27] at H
        have c27b0 : (((rd_T122 l0 x5_2).f0) == 2) = false := beq_eq_false_iff_ne.mpr c27
        have c27b1 : (((rd_T122 l0 x5_2).f0) != 2) = true := bne_iff_ne.mpr c27
        by_cases c29 : ((rd_T122 l0 x5_2).f0) = 3
        rotate_left
        · rw [if_neg c29] at H
          have c29b0 : (((rd_T122 l0 x5_2).f0) == 3) = false := beq_eq_false_iff_ne.mpr c29
          have c29b1 : (((rd_T122 l0 x5_2).f0) != 3) = true := bne_iff_ne.mpr c29
          have H' := aM_ H
          clear H
          go_wp2
          go_meet
          case rel => exact ⟨_, (false), qF, H', ⟨by have := HJ2.out; have := HK2.out; first | omega | exact Nat.le_refl _⟩, ⟨kq BK279⟩, ⟨qB HB⟩⟩
        rw [if_pos c29] at H
        have c29b0 : (((rd_T122 l0 x5_2).f0) == 3) = true := beq_iff_eq.mpr c29
        have c29b1 : (((rd_T122 l0 x5_2).f0) != 3) = false := bne_eq_false_iff_eq.mpr c29
        clear c29
        by_cases c30 : (((rd_T122 l0 x5_2).f1.f0) == 0 && (((rd_T122 l0 x5_2).f1.f1) == 0)) = true
        · rw [if_pos c30] at H
          have c30b0 : (((rd_T122 l0 x5_2).f1.f0) == 0 && (((rd_T122 l0 x5_2).f1.f1) == 0)) = true := c30
          (try (have c30b1 : decide (((rd_T122 l0 x5_2).f1.f0) = 0 && (((rd_T122 l0 x5_2).f1.f1) == 0)) = true := by simpa using c30))
          (try (have c30b2 : (((rd_T122 l0 x5_2).f1.f0) == 0 && (((rd_T122 l0 x5_2).f1.f1) == 0)) = true := by simpa using c30))
          clear c30
          have H' := aM_ H
          clear H
          have hC31 := cf10 BK279.out
          go_wp2
          go_meet
          case rel => exact ⟨_, (((((rd_T122 l0 x5_2).f4).length : Int) == 0)), qF, H', ⟨by have := HJ2.out; have := HK2.out; first | omega | exact Nat.le_refl _⟩, ⟨kq BK279⟩, ⟨qB HB⟩⟩
        rw [if_neg c30] at H
        have c30b0 : (((rd_T122 l0 x5_2).f1.f0) == 0 && (((rd_T122 l0 x5_2).f1.f1) == 0)) = false := by simpa using c30
        (try (have c30b1 : decide (((rd_T122 l0 x5_2).f1.f0) = 0 && (((rd_T122 l0 x5_2).f1.f1) == 0)) = false := by simpa using c30))
        (try (have c30b2 : (((rd_T122 l0 x5_2).f1.f0) == 0 && (((rd_T122 l0 x5_2).f1.f1) == 0)) = false := by simpa using c30))
        (try (have c30b3 : ¬ (((rd_T122 l0 x5_2).f1.f0) = 0 && (((rd_T122 l0 x5_2).f1.f1) == 0)) := by simpa using c30))
        clear c30
        have H' := aM_ H
        clear H
        have hC32 := cf10 BK279.out
        go_wp2
        go_meet
        case rel => exact ⟨_, (false), qF, H', ⟨by have := HJ2.out; have := HK2.out; first | omega | exact Nat.le_refl _⟩, ⟨kq BK279⟩, ⟨qB HB⟩⟩
      rw [if_pos c11] at H
      have c11b0 : (((rd_T122 l0 x5_2).f0) == 1) = true := beq_iff_eq.mpr c11
      have c11b1 : (((rd_T122 l0 x5_2).f0) != 1) = false := bne_eq_false_iff_eq.mpr c11
      clear c11
      (first | rw [c11b0] | (simp only [i64_w, i32_w]; rw [c11b0]) | skip)
      replace H := oB_ H
      obtain ⟨t280, A120, H⟩ := H
      have A12 := aM_ A120
      clear A120
      by_cases c13 : t280 = true
      rotate_left
      · replace c13 := Bool.eq_false_iff.mpr c13
        subst c13
        rw [if_neg (show ¬ (false = true) by decide)] at H
        have H' := aM_ H
        clear H
        have hC25 := cf10 BK279.out
        go_wp2_with (first | ((with_reducible refine gc_ 74 ?_); refine gL_ (some 31) Tryz.func74 #[.agg #[.int .i64 ((rd_T122 l0 x5_2).f1.f0), .int .i64 ((rd_T122 l0 x5_2).f1.f1)]] ?_; (with_reducible refine (spec_AddrOk.calls ((rd_T122 l0 x5_2).f1.f0) ((rd_T122 l0 x5_2).f1.f1) false _ A12.out).mono ?_); rintro e w26 ⟨rfl, hb⟩; refine ⟨_, rfl, ?_⟩; have n_ := aN2_ (blk_below (kq BK279) hb) (bT_ (qB HB) hb); clear BK279 HB; obtain ⟨BK279, HB⟩ := n_))
        go_meet
        case rel => exact ⟨_, (false), qF, H', ⟨by have := HJ2.out; have := HK2.out; first | omega | exact Nat.le_refl _⟩, ⟨qg BK279⟩, ⟨qB HB⟩⟩
      subst c13
      rw [if_pos rfl] at H
      by_cases c14 : ((rd_T122 l0 x5_2).f1.f0) = 1
      · rw [if_pos c14] at H
        have c14b0 : (((rd_T122 l0 x5_2).f1.f0) == 1) = true := beq_iff_eq.mpr c14
        have c14b1 : (((rd_T122 l0 x5_2).f1.f0) != 1) = false := bne_eq_false_iff_eq.mpr c14
        clear c14
        have H' := aM_ H
        clear H
        have hC15 := cf10 BK279.out
        go_wp2_with (first | ((with_reducible refine gc_ 74 ?_); refine gL_ (some 31) Tryz.func74 #[.agg #[.int .i64 ((rd_T122 l0 x5_2).f1.f0), .int .i64 ((rd_T122 l0 x5_2).f1.f1)]] ?_; (with_reducible refine (spec_AddrOk.calls ((rd_T122 l0 x5_2).f1.f0) ((rd_T122 l0 x5_2).f1.f1) true _ A12.out).mono ?_); rintro e w16 ⟨rfl, hb⟩; refine ⟨_, rfl, ?_⟩; have n_ := aN2_ (blk_below (kq BK279) hb) (bT_ (qB HB) hb); clear BK279 HB; obtain ⟨BK279, HB⟩ := n_; have hC17 := cf10 BK279.out))
        go_meet
        case rel => exact ⟨_, (false), qF, H', ⟨by have := HJ2.out; have := HK2.out; first | omega | exact Nat.le_refl _⟩, ⟨qg BK279⟩, ⟨qB HB⟩⟩
      rw [if_neg c14] at H
      have c14b0 : (((rd_T122 l0 x5_2).f1.f0) == 1) = false := beq_eq_false_iff_ne.mpr c14
      have c14b1 : (((rd_T122 l0 x5_2).f1.f0) != 1) = true := bne_iff_ne.mpr c14
      by_cases c18 : (((rd_T122 l0 x5_2).f3).length : Int) = 0
      · rw [if_pos c18] at H
        have c18b0 : ((((rd_T122 l0 x5_2).f3).length : Int) == 0) = true := beq_iff_eq.mpr c18
        have c18b1 : ((((rd_T122 l0 x5_2).f3).length : Int) != 0) = false := bne_eq_false_iff_eq.mpr c18
        clear c18
        have H' := aM_ H
        clear H
        have hC19 := cf10 BK279.out
        go_wp2_with (first | ((with_reducible refine gc_ 74 ?_); refine gL_ (some 31) Tryz.func74 #[.agg #[.int .i64 ((rd_T122 l0 x5_2).f1.f0), .int .i64 ((rd_T122 l0 x5_2).f1.f1)]] ?_; (with_reducible refine (spec_AddrOk.calls ((rd_T122 l0 x5_2).f1.f0) ((rd_T122 l0 x5_2).f1.f1) true _ A12.out).mono ?_); rintro e w20 ⟨rfl, hb⟩; refine ⟨_, rfl, ?_⟩; have n_ := aN2_ (blk_below (kq BK279) hb) (bT_ (qB HB) hb); clear BK279 HB; obtain ⟨BK279, HB⟩ := n_; have hC21 := cf10 BK279.out))
        go_meet
        case rel => exact ⟨_, (((((rd_T122 l0 x5_2).f4).length : Int) == 0)), qF, H', ⟨by have := HJ2.out; have := HK2.out; first | omega | exact Nat.le_refl _⟩, ⟨qg BK279⟩, ⟨qB HB⟩⟩
      rw [if_neg c18] at H
      have c18b0 : ((((rd_T122 l0 x5_2).f3).length : Int) == 0) = false := beq_eq_false_iff_ne.mpr c18
      have c18b1 : ((((rd_T122 l0 x5_2).f3).length : Int) != 0) = true := bne_iff_ne.mpr c18
      have c18b2 : ¬ (((rd_T122 l0 x5_2).f3) = []) := fun h_ => c18 (by rw [h_]; rfl)
      have H' := aM_ H
      clear H
      have hC22 := cf10 BK279.out
      go_wp2_with (first | ((with_reducible refine gc_ 74 ?_); refine gL_ (some 31) Tryz.func74 #[.agg #[.int .i64 ((rd_T122 l0 x5_2).f1.f0), .int .i64 ((rd_T122 l0 x5_2).f1.f1)]] ?_; (with_reducible refine (spec_AddrOk.calls ((rd_T122 l0 x5_2).f1.f0) ((rd_T122 l0 x5_2).f1.f1) true _ A12.out).mono ?_); rintro e w23 ⟨rfl, hb⟩; refine ⟨_, rfl, ?_⟩; have n_ := aN2_ (blk_below (kq BK279) hb) (bT_ (qB HB) hb); clear BK279 HB; obtain ⟨BK279, HB⟩ := n_; have hC24 := cf10 BK279.out))
      go_meet
      case rel => exact ⟨_, (false), qF, H', ⟨by have := HJ2.out; have := HK2.out; first | omega | exact Nat.le_refl _⟩, ⟨qg BK279⟩, ⟨qB HB⟩⟩
     case rest =>
      clear HC8
      obtain ⟨kq, x7_7, rfl, HA, HJ7, BK279, HB⟩ := hcut
      cases kq with
      | zero => exact absurd HA.out (by simp [spec_l4Form.j2])
      | succ kj7 =>
       have H := HA.out
       clear HA
       simp only [spec_l4Form.j2] at H
       by_cases c33 : x7_7 = true
       rotate_left
       · replace c33 := Bool.eq_false_iff.mpr c33
         subst c33
         rw [if_neg (show ¬ (false = true) by decide)] at H
         obtain rfl := oI_ H
         go_wp2
         go_ret
         exact ⟨qE, qB HB⟩
       subst c33
       rw [if_pos rfl] at H
       replace H := oB_ H
       obtain ⟨t281, A340, H⟩ := H
       have A34 := aM_ A340
       clear A340
       by_cases c35 : t281 = true
       rotate_left
       · replace c35 := Bool.eq_false_iff.mpr c35
         subst c35
         rw [if_neg (show ¬ (false = true) by decide)] at H
         obtain rfl := oI_ H
         have hC56 := cf10 BK279.out
         go_wp2_with (first | (go_at_call 134; (with_reducible refine (spec_ExprOk.calls kj7 ((rd_T122 l0 x5_2).f2.f0) ((rd_T122 l0 x5_2).f2.f1) ((rd_T122 l0 x5_2).f2.f2.f0) ((rd_T122 l0 x5_2).f2.f2.f1) _ _ ((rd_T122 l0 x5_2).f2.f3) false _ ?side1 ?side2 A34.out).mono ?_); (case side1 => exact qC (Kd.C_below HR278_7.out HB.out)); (case side2 => exact HC278_7.out); rintro e w57 ⟨rfl, hb⟩; have n_ := aN2_ (blk_below (qg BK279) hb) (bT_ (qB HB) hb); clear BK279 HB; obtain ⟨BK279, HB⟩ := n_))
         go_ret
         exact ⟨qE, qB HB⟩
       subst c35
       rw [if_pos rfl] at H
       replace H := oB_ H
       obtain ⟨t282, A360, H⟩ := H
       have A36 := aM_ A360
       clear A360
       by_cases c37 : t282 = true
       rotate_left
       · replace c37 := Bool.eq_false_iff.mpr c37
         subst c37
         rw [if_neg (show ¬ (false = true) by decide)] at H
         obtain rfl := oI_ H
         have hC52 := cf10 BK279.out
         go_wp2_with (first | (go_at_call 134; (with_reducible refine (spec_ExprOk.calls kj7 ((rd_T122 l0 x5_2).f2.f0) ((rd_T122 l0 x5_2).f2.f1) ((rd_T122 l0 x5_2).f2.f2.f0) ((rd_T122 l0 x5_2).f2.f2.f1) _ _ ((rd_T122 l0 x5_2).f2.f3) true _ ?side1 ?side2 A34.out).mono ?_); (case side1 => exact qC (Kd.C_below HR278_7.out HB.out)); (case side2 => exact HC278_7.out); rintro e w53 ⟨rfl, hb⟩; have n_ := aN2_ (blk_below (qg BK279) hb) (bT_ (qB HB) hb); clear BK279 HB; obtain ⟨BK279, HB⟩ := n_; have hC54 := cf10 BK279.out) | (go_at_call 122; (with_reducible refine (ih kj7 (by have := HJ2.out; have := HK2.out; have := HJ7.out; omega) _ _ ((rd_T122 l0 x5_2).f3) (wrap64 (a1 - 1)) false _ ?side1 ?side2 A36.out).mono ?_); (case side1 => exact qC (Kd.C_below HR278_8.out HB.out)); (case side2 => exact HC278_8.out); rintro e w55 ⟨rfl, hb⟩; have n_ := aN2_ (blk_below (qg BK279) hb) (bT_ (qB HB) hb); clear BK279 HB; obtain ⟨BK279, HB⟩ := n_))
         go_ret
         exact ⟨qE, qB HB⟩
       subst c37
       rw [if_pos rfl] at H
       replace H := oB_ H
       obtain ⟨t283, A380, H⟩ := H
       have A38 := aM_ A380
       clear A380
       by_cases c39 : t283 = true
       rotate_left
       · replace c39 := Bool.eq_false_iff.mpr c39
         subst c39
         rw [if_neg (show ¬ (false = true) by decide)] at H
         obtain rfl := oI_ H
         have hC46 := cf10 BK279.out
         go_wp2_with (first | (go_at_call 134; (with_reducible refine (spec_ExprOk.calls kj7 ((rd_T122 l0 x5_2).f2.f0) ((rd_T122 l0 x5_2).f2.f1) ((rd_T122 l0 x5_2).f2.f2.f0) ((rd_T122 l0 x5_2).f2.f2.f1) _ _ ((rd_T122 l0 x5_2).f2.f3) true _ ?side1 ?side2 A34.out).mono ?_); (case side1 => exact qC (Kd.C_below HR278_7.out HB.out)); (case side2 => exact HC278_7.out); rintro e w47 ⟨rfl, hb⟩; have n_ := aN2_ (blk_below (qg BK279) hb) (bT_ (qB HB) hb); clear BK279 HB; obtain ⟨BK279, HB⟩ := n_; have hC48 := cf10 BK279.out) | (go_at_call 122; (with_reducible refine (ih kj7 (by have := HJ2.out; have := HK2.out; have := HJ7.out; omega) _ _ ((rd_T122 l0 x5_2).f3) (wrap64 (a1 - 1)) true _ ?side1 ?side2 A36.out).mono ?_); (case side1 => exact qC (Kd.C_below HR278_8.out HB.out)); (case side2 => exact HC278_8.out); rintro e w49 ⟨rfl, hb⟩; have n_ := aN2_ (blk_below (qg BK279) hb) (bT_ (qB HB) hb); clear BK279 HB; obtain ⟨BK279, HB⟩ := n_; have hC50 := cf10 BK279.out) | (go_at_call 122; (with_reducible refine (ih kj7 (by have := HJ2.out; have := HK2.out; have := HJ7.out; omega) _ _ ((rd_T122 l0 x5_2).f4) (wrap64 (a1 - 1)) false _ ?side1 ?side2 A38.out).mono ?_); (case side1 => exact qC (Kd.C_below HR278_9.out HB.out)); (case side2 => exact HC278_9.out); rintro e w51 ⟨rfl, hb⟩; have n_ := aN2_ (blk_below (qg BK279) hb) (bT_ (qB HB) hb); clear BK279 HB; obtain ⟨BK279, HB⟩ := n_))
         go_ret
         exact ⟨qE, qB HB⟩
       subst c39
       rw [if_pos rfl] at H
       have H' := aM_ H
       clear H
       have hC40 := cf10 BK279.out
       go_wp2_with (first | (go_at_call 134; (with_reducible refine (spec_ExprOk.calls kj7 ((rd_T122 l0 x5_2).f2.f0) ((rd_T122 l0 x5_2).f2.f1) ((rd_T122 l0 x5_2).f2.f2.f0) ((rd_T122 l0 x5_2).f2.f2.f1) _ _ ((rd_T122 l0 x5_2).f2.f3) true _ ?side1 ?side2 A34.out).mono ?_); (case side1 => exact qC (Kd.C_below HR278_7.out HB.out)); (case side2 => exact HC278_7.out); rintro e w41 ⟨rfl, hb⟩; have n_ := aN2_ (blk_below (qg BK279) hb) (bT_ (qB HB) hb); clear BK279 HB; obtain ⟨BK279, HB⟩ := n_; have hC42 := cf10 BK279.out) | (go_at_call 122; (with_reducible refine (ih kj7 (by have := HJ2.out; have := HK2.out; have := HJ7.out; omega) _ _ ((rd_T122 l0 x5_2).f3) (wrap64 (a1 - 1)) true _ ?side1 ?side2 A36.out).mono ?_); (case side1 => exact qC (Kd.C_below HR278_8.out HB.out)); (case side2 => exact HC278_8.out); rintro e w43 ⟨rfl, hb⟩; have n_ := aN2_ (blk_below (qg BK279) hb) (bT_ (qB HB) hb); clear BK279 HB; obtain ⟨BK279, HB⟩ := n_; have hC44 := cf10 BK279.out) | (go_at_call 122; (with_reducible refine (ih kj7 (by have := HJ2.out; have := HK2.out; have := HJ7.out; omega) _ _ ((rd_T122 l0 x5_2).f4) (wrap64 (a1 - 1)) true _ ?side1 ?side2 A38.out).mono ?_); (case side1 => exact qC (Kd.C_below HR278_9.out HB.out)); (case side2 => exact HC278_9.out); rintro e w45 ⟨rfl, hb⟩; have n_ := aN2_ (blk_below (qg BK279) hb) (bT_ (qB HB) hb); clear BK279 HB; obtain ⟨BK279, HB⟩ := n_))
       go_roundg kj7
       case measure => have := HJ2.out; have := HK2.out; have := HJ7.out; omega
       case rel => exact ⟨(wrap64 (x5_2 + 1)), qF, H', ⟨by have := HJ2.out; have := HK2.out; have := HJ7.out; omega⟩, ⟨qB HB⟩⟩
end Go.Proofs.YtjamfddhcigchaaGreatDoor.HFnCodeRun
namespace Go.Proofs.YtjamfddhcigchaaGreatDoor.HFnCodeRun
open Go.RowKit Go.Proofs.YtjamfddhcigchaaGreatDoorW.PrintWords Go.Proofs.YtjamfddhcigchaaGreatDoorW.PrintLast Go.Proofs.YtjamfddhcigchaaGreatDoorW.PrintMore
attribute [local go_sem] max2_int min2_int max_two min_two max_three min_three max_four min_four
set_option linter.unusedVariables false
set_option linter.unusedSimpArgs false
def spec_StmtsOk.f (k : Nat) (l0 : List (S122)) : Option (Bool) := (spec_l4Many.f k l0 4).bind fun t284 => (if t284 ≤ 16 then ((spec_l4Form.f k l0 4).bind fun t285 => (some t285)) else (some false))
set_option maxHeartbeats 8000000 in
set_option maxRecDepth 100000 in
theorem spec_StmtsOk.calls (k : Nat) (A0 : Option Addr) (c0 : Nat) (l0 : List (S122)) (r : Bool) (w : World) (hr0 : Kd.C k122 w A0 l0.length l0) (hc0 : l0.length ≤ c0) (h : spec_StmtsOk.f k l0 = some r) :
    Calls Tryz.prog 85 #[.slice A0 l0.length c0] w fun e w' => e = .returned (.bool r) ∧ Below w.heap.size w w' := by
 have HR0 := aM_ hr0
 have HC0 := aM_ hc0
 clear hr0 hc0
 have HB := aM_ (Below.refl w.heap.size w)
 have H : ((spec_l4Many.f k l0 4).bind fun t284 => (if t284 ≤ 16 then ((spec_l4Form.f k l0 4).bind fun t285 => (some t285)) else (some false))) = some r := h
 clear h
 replace H := oB_ H
 obtain ⟨t284, A20, H⟩ := H
 have A2 := aM_ A20
 clear A20
 by_cases c3 : t284 ≤ 16
 rotate_left
 · rw [if_neg c3] at H
   have c3b0 : decide (t284 ≤ 16) = false := dF_ c3
   clear c3
   obtain rfl := oI_ H
   go_enter Tryz.func85, Tryz.ntmps85
   go_wp2_with (first | ((with_reducible refine gc_ 121 ?_); refine gL_ (some 4) Tryz.func121 #[.slice A0 l0.length c0, .int .i64 4] ?_; (with_reducible refine (spec_l4Many.calls k _ _ l0 4 t284 _ ?side1 ?side2 A2.out).mono ?_); (case side1 => exact qC (HR0.out)); (case side2 => exact HC0.out); rintro e w7 ⟨rfl, hb⟩; refine ⟨_, rfl, ?_⟩; have n0_ := aM_ (bT_ (qB HB) hb); clear HB; revert n0_; intro HB))
   go_ret
   exact ⟨qE, qB HB⟩
 rw [if_pos c3] at H
 have c3b0 : decide (t284 ≤ 16) = true := dT_ c3
 clear c3
 replace H := oB_ H
 obtain ⟨t285, A40, H⟩ := H
 have A4 := aM_ A40
 clear A40
 obtain rfl := oI_ H
 go_enter Tryz.func85, Tryz.ntmps85
 go_wp2_with (first | ((with_reducible refine gc_ 121 ?_); refine gL_ (some 4) Tryz.func121 #[.slice A0 l0.length c0, .int .i64 4] ?_; (with_reducible refine (spec_l4Many.calls k _ _ l0 4 t284 _ ?side1 ?side2 A2.out).mono ?_); (case side1 => exact qC (HR0.out)); (case side2 => exact HC0.out); rintro e w5 ⟨rfl, hb⟩; refine ⟨_, rfl, ?_⟩; have n0_ := aM_ (bT_ (qB HB) hb); clear HB; revert n0_; intro HB) | (go_at_call 122; (with_reducible refine (spec_l4Form.calls k _ _ l0 4 t285 _ ?side1 ?side2 A4.out).mono ?_); (case side1 => exact qC (Kd.C_below HR0.out HB.out)); (case side2 => exact HC0.out); rintro e w6 ⟨rfl, hb⟩; have n0_ := aM_ (bT_ (qB HB) hb); clear HB; revert n0_; intro HB))
 go_ret
 exact ⟨qE, qB HB⟩
def spec_l4Some.f (k : Nat) (s0_0 : List Int) (s0_1 : Int) : Option ((List (S122)) × Int) := (spec_l4List.f k s0_0 s0_1 3).bind fun bt286 => ((spec_StmtsOk.f k bt286.1).bind fun t290 => (if t290 = true then (some (bt286.1, bt286.2)) else ((spec_l4Count.f s0_0 bt286.2).bind fun bt291 => (some ((([(⟨bt291.1, (⟨bt291.2.1, bt291.2.2.1⟩ : S28), (⟨bt291.2.2.2.1, bt291.2.2.2.2.1, (⟨bt291.2.2.2.2.2.1, bt291.2.2.2.2.2.2.1⟩ : S28), bt291.2.2.2.2.2.2.2.1⟩ : S120), bt291.2.2.2.2.2.2.2.2.1, bt291.2.2.2.2.2.2.2.2.2.1⟩ : S122)] : List (S122))), bt291.2.2.2.2.2.2.2.2.2.2)))))
set_option maxHeartbeats 8000000 in
set_option maxRecDepth 100000 in
theorem spec_l4Some.calls (k : Nat) (g : Nat) (s0_0 : List Int) (s0_1 : Int) (r1 : List (S122)) (r2 : Int) (w0 w : World) (hI : IsS98 w0 w g s0_0 s0_1) (hB : Below w0.heap.size w0 w) (h : spec_l4Some.f k s0_0 s0_1 = some (r1, r2)) :
    Calls Tryz.prog 57 #[.pointer (some ⟨g, 0, none⟩)] w fun e w' => ∃ v0_ : Value, e = .returned (v0_) ∧ Kd.N k122 122 w' w.heap.size (fun k_ => (w.heap.size ≤ k_)) v0_ r1 ∧ IsS98 w0 w' g s0_0 r2 ∧ Below w0.heap.size w0 w' ∧ KeepBut w w' g none := by
 have HI0 := aM_ hI
 have HK := aM_ (KeepBut.refl w g none)
 have HL := aM_ hB.size
 clear hI
 have HW0 := aM_ hB.size
 have HB := aM_ hB
 clear hB
 have H : ((spec_l4List.f k s0_0 s0_1 3).bind fun bt286 => ((spec_StmtsOk.f k bt286.1).bind fun t290 => (if t290 = true then (some (bt286.1, bt286.2)) else ((spec_l4Count.f s0_0 bt286.2).bind fun bt291 => (some ((([(⟨bt291.1, (⟨bt291.2.1, bt291.2.2.1⟩ : S28), (⟨bt291.2.2.2.1, bt291.2.2.2.2.1, (⟨bt291.2.2.2.2.2.1, bt291.2.2.2.2.2.2.1⟩ : S28), bt291.2.2.2.2.2.2.2.1⟩ : S120), bt291.2.2.2.2.2.2.2.2.1, bt291.2.2.2.2.2.2.2.2.2.1⟩ : S122)] : List (S122))), bt291.2.2.2.2.2.2.2.2.2.2)))))) = some (r1, r2) := h
 clear h
 replace H := oB_ H
 obtain ⟨⟨t286, t289⟩, A20, H⟩ := H
 dsimp only at H
 have A2 := aM_ A20
 clear A20
 replace H := oB_ H
 obtain ⟨t290, A30, H⟩ := H
 have A3 := aM_ A30
 clear A30
 by_cases c4 : t290 = true
 · subst c4
   rw [if_pos rfl] at H
   simp only [Option.some.injEq, Prod.mk.injEq] at H
   obtain ⟨rfl, rfl⟩ := H
   go_enter Tryz.func57, Tryz.ntmps57
   go_wp2_with (first | ((with_reducible refine gc_ 84 ?_); refine gL_ (some 5) Tryz.func84 #[.pointer (some ⟨g, 0, none⟩), .int .i64 3] ?_; (with_reducible refine (spec_l4List.calls k g s0_0 s0_1 3 t286 t289 w0 _ ?side1 ?side2 A2.out).mono ?_); (case side1 => exact qI HI0); (case side2 => exact qS HB); rintro e w5 ⟨v287, rfl, ho0, hi, hb, hk⟩; refine ⟨_, rfl, ?_⟩; have n_ := aN4_ (Kd.N_lower (Kd.N_mono (ok' := fun k_ => (w.heap.size ≤ k_) ∧ k_ ≠ g) (Kd.R_N (Kd.R_bound ho0)) (fun k_ hk_ => ⟨(Nat.le_trans (kz_ HK) hk_.2.1), (IsS98.fresh (qI HI0) k_ hk_.2.1)⟩)) (kz_ HK)) (KeepBut.trans (qK HK) hk (.inl rfl)) (hb) (hi); clear HK HB HI0; obtain ⟨HO288, HK, HB, HI0⟩ := n_; obtain ⟨Ao6, co6, eo6⟩ := Kd.N_slice HO288.out; subst eo6) | ((with_reducible refine gc_ 85 ?_); refine gL_ (some 7) Tryz.func85 #[.slice Ao6 t286.length co6] ?_; (with_reducible refine (spec_StmtsOk.calls k _ _ t286 true _ ?side1 ?side2 A3.out).mono ?_); (case side1 => repeat (first | exact (Kd.N_reads' HO288.out).2.2 | (with_reducible refine Kd.C_alloc ?_ _) | (with_reducible refine Kd.C_drewN ?_ _) | (with_reducible refine Kd.C_drew ?_))); (case side2 => exact (Kd.N_reads' HO288.out).2.1); rintro e w7 ⟨rfl, hb⟩; refine ⟨_, rfl, ?_⟩; have n_ := aN4_ (Kd.N_below (qN (HO288.out)) hb) (IsS98.below (qI HI0) hb) (KeepBut.trans (qK HK) (KeepBut.of_below hb g none) (.inl rfl)) (bT_ (qS HB) hb); clear HO288 HI0 HK HB; obtain ⟨HO288, HI0, HK, HB⟩ := n_))
   go_ret
   exact ⟨_, qE, by (with_reducible repeat (first | apply Kd.N_alloc | apply Kd.N_drewN | apply Kd.N_drew)); exact Kd.N_mono HO288.out (fun _ hk => hk.1), qI HI0, qS HB, qK HK⟩
 replace c4 := Bool.eq_false_iff.mpr c4
 subst c4
 rw [if_neg (show ¬ (false = true) by decide)] at H
 replace H := oB_ H
 obtain ⟨⟨t291, t292, t293, t294, t295, t296, t297, t298, t301, t304, t307⟩, A80, H⟩ := H
 dsimp only at H
 have A8 := aM_ A80
 clear A80
 obtain ⟨y308, hy308⟩ : ∃ y_ : List (S122), y_ = (([(⟨t291, (⟨t292, t293⟩ : S28), (⟨t294, t295, (⟨t296, t297⟩ : S28), t298⟩ : S120), t301, t304⟩ : S122)] : List (S122))) := ⟨_, rfl⟩
 replace H : (some (y308, t307)) = some (r1, r2) := by subst hy308; exact H
 have Ny308 := aM_ hy308
 clear hy308
 simp only [Option.some.injEq, Prod.mk.injEq] at H
 obtain ⟨rfl, rfl⟩ := H
 go_enter Tryz.func57, Tryz.ntmps57
 go_wp2_with (first | ((with_reducible refine gc_ 84 ?_); refine gL_ (some 5) Tryz.func84 #[.pointer (some ⟨g, 0, none⟩), .int .i64 3] ?_; (with_reducible refine (spec_l4List.calls k g s0_0 s0_1 3 t286 t289 w0 _ ?side1 ?side2 A2.out).mono ?_); (case side1 => exact qI HI0); (case side2 => exact qS HB); rintro e w9 ⟨v287, rfl, ho0, hi, hb, hk⟩; refine ⟨_, rfl, ?_⟩; have n_ := aN4_ (Kd.N_lower (Kd.N_mono (ok' := fun k_ => (w.heap.size ≤ k_) ∧ k_ ≠ g) (Kd.R_N (Kd.R_bound ho0)) (fun k_ hk_ => ⟨(Nat.le_trans (kz_ HK) hk_.2.1), (IsS98.fresh (qI HI0) k_ hk_.2.1)⟩)) (kz_ HK)) (KeepBut.trans (qK HK) hk (.inl rfl)) (hb) (hi); clear HK HB HI0; obtain ⟨HO288, HK, HB, HI0⟩ := n_; obtain ⟨Ao10, co10, eo10⟩ := Kd.N_slice HO288.out; subst eo10) | ((with_reducible refine gc_ 85 ?_); refine gL_ (some 7) Tryz.func85 #[.slice Ao10 t286.length co10] ?_; (with_reducible refine (spec_StmtsOk.calls k _ _ t286 false _ ?side1 ?side2 A3.out).mono ?_); (case side1 => repeat (first | exact (Kd.N_reads' HO288.out).2.2 | (with_reducible refine Kd.C_alloc ?_ _) | (with_reducible refine Kd.C_drewN ?_ _) | (with_reducible refine Kd.C_drew ?_))); (case side2 => exact (Kd.N_reads' HO288.out).2.1); rintro e w11 ⟨rfl, hb⟩; refine ⟨_, rfl, ?_⟩; have n_ := aN4_ (Kd.N_below (qN (HO288.out)) hb) (IsS98.below (qI HI0) hb) (KeepBut.trans (qK HK) (KeepBut.of_below hb g none) (.inl rfl)) (bT_ (qS HB) hb); clear HO288 HI0 HK HB; obtain ⟨HO288, HI0, HK, HB⟩ := n_) | ((with_reducible refine gc_ 86 ?_); refine gL_ (some 10) Tryz.func86 #[.pointer (some ⟨g, 0, none⟩)] ?_; (with_reducible refine (spec_l4Count.calls g s0_0 t289 t291 t292 t293 t294 t295 t296 t297 t298 t301 t304 t307 w0 _ ?side1 ?side2 A8.out).mono ?_); (case side1 => exact qI HI0); (case side2 => exact qS HB); rintro e w12 ⟨v299, v302, v305, rfl, ho0, ho1, ho2, hi, hb, hk⟩; refine ⟨_, rfl, ?_⟩; have n_ := aN7_ (Kd.N_mono (Kd.N_told (Kd.N_told (Kd.N_told (Kd.N_oldK (Kd.N_mono (ok := fun k_ => (((w.heap.size ≤ k_)) ∧ k_ ≠ g)) (qN (HO288.out)) (fun k_ hk_ => (⟨hk_, hk_.2⟩ : _ ∧ k_ ≠ g))) hk) (Kd.R_base ho0)) (Kd.R_base ho1)) (Kd.R_base ho2)) (fun _ h_ => h_.1)) (Kd.N_lower (Kd.N_mono (ok' := fun k_ => (w.heap.size ≤ k_) ∧ some k_ ≠ (v302 : Value).ownBlock ∧ some k_ ≠ (v305 : Value).ownBlock ∧ some k_ ≠ (.slice Ao10 t286.length co10 : Value).ownBlock ∧ k_ ≠ g) (Kd.R_N (Kd.R_bound (Kd.R_apart' (Kd.R_apart' ho0 (Kd.R_typed ho1) (by decide)) (Kd.R_typed ho2) (by decide)))) (fun k_ hk_ => ⟨(Nat.le_trans (kz_ HK) hk_.2.1), hk_.1.1.2, hk_.1.2, (Kd.fresh' (Kd.N_lt (qN (HO288.out))) k_ hk_.2.1), (IsS98.fresh (qI HI0) k_ hk_.2.1)⟩)) (kz_ HK)) (Kd.N_lower (Kd.N_mono (ok' := fun k_ => (w.heap.size ≤ k_) ∧ some k_ ≠ (v299 : Value).ownBlock ∧ some k_ ≠ (v305 : Value).ownBlock ∧ some k_ ≠ (.slice Ao10 t286.length co10 : Value).ownBlock ∧ k_ ≠ g) (Kd.R_N (Kd.R_bound ho1)) (fun k_ hk_ => ⟨(Nat.le_trans (kz_ HK) hk_.2.1), hk_.1.1, hk_.1.2, (Kd.fresh' (Kd.N_lt (qN (HO288.out))) k_ hk_.2.1), (IsS98.fresh (qI HI0) k_ hk_.2.1)⟩)) (kz_ HK)) (Kd.N_lower (Kd.N_mono (ok' := fun k_ => (w.heap.size ≤ k_) ∧ some k_ ≠ (v299 : Value).ownBlock ∧ some k_ ≠ (v302 : Value).ownBlock ∧ some k_ ≠ (.slice Ao10 t286.length co10 : Value).ownBlock ∧ k_ ≠ g) (Kd.R_N (Kd.R_bound ho2)) (fun k_ hk_ => ⟨(Nat.le_trans (kz_ HK) hk_.2.1), hk_.1.1, hk_.1.2, (Kd.fresh' (Kd.N_lt (qN (HO288.out))) k_ hk_.2.1), (IsS98.fresh (qI HI0) k_ hk_.2.1)⟩)) (kz_ HK)) (KeepBut.trans (qK HK) hk (.inl rfl)) (hb) (hi); clear HO288 HK HB HI0; obtain ⟨HO288, HO300, HO303, HO306, HK, HB, HI0⟩ := n_; obtain ⟨Ao13, co13, eo13⟩ := Kd.N_slice HO300.out; subst eo13; obtain ⟨Ao14, co14, eo14⟩ := Kd.N_slice HO303.out; subst eo14; obtain ⟨Ao15, co15, eo15⟩ := Kd.N_slice HO306.out; subst eo15) | ((with_reducible refine gD_ 11 ?_); refine Kd.N_lit k122 _ 122 ?hg (N' := 11) ?hd (xs := ([(⟨t291, (⟨t292, t293⟩ : S28), (⟨t294, t295, (⟨t296, t297⟩ : S28), t298⟩ : S120), t301, t304⟩ : S122)] : List (S122))) (inner := [.int .i64 t291, .int .i64 t292, .int .i64 t293, .int .i64 t294, .int .i64 t295, .int .i64 t296, .int .i64 t297, .slice Ao13 t298.length co13, .slice Ao14 t301.length co14, .slice Ao15 t304.length co15]) (ok := (fun k_ => (w.heap.size ≤ k_) ∧ some k_ ≠ (.slice Ao10 t286.length co10 : Value).ownBlock ∧ k_ ≠ g)) (okp := (fun k_ => (w.heap.size ≤ k_) ∧ some k_ ≠ (.slice Ao10 t286.length co10 : Value).ownBlock ∧ k_ ≠ g)) ?hr ?hp (fun _ hk => hk) ((show ∀ k_, w12.heap.size ≤ k_ → (fun k_ => (w.heap.size ≤ k_) ∧ some k_ ≠ (.slice Ao10 t286.length co10 : Value).ownBlock ∧ k_ ≠ g) k_ from fun k_ hk => ⟨(Nat.le_trans (kz_ HK) hk), Kd.fresh' (Kd.N_lt (qN (HO288.out))) k_ hk, IsS98.fresh (qI HI0) k_ hk⟩) _ (Nat.le_refl _)) (Below.refl _ _) (Nat.le_refl _) (by simp) ?_; (case hd => rfl); (case hg => rfl); (case hr => first | (go_simp; done) | (go_simp; rfl)); (case hp => exact (Reps.c10 (show Kd.FK k122 _ _ (⟨t291, (⟨t292, t293⟩ : S28), (⟨t294, t295, (⟨t296, t297⟩ : S28), t298⟩ : S120), t301, t304⟩ : S122) [.int .i64 t291, .int .i64 t292, .int .i64 t293, .int .i64 t294, .int .i64 t295, .int .i64 t296, .int .i64 t297, .slice Ao13 t298.length co13, .slice Ao14 t301.length co14, .slice Ao15 t304.length co15] from (k122_mkF _ _ (⟨t291, (⟨t292, t293⟩ : S28), (⟨t294, t295, (⟨t296, t297⟩ : S28), t298⟩ : S120), t301, t304⟩ : S122) (Kd.N_reads' (Kd.N_mono (ok' := (fun k_ => (w.heap.size ≤ k_) ∧ some k_ ≠ (.slice Ao10 t286.length co10 : Value).ownBlock ∧ k_ ≠ g)) (HO300.out) (fun k_ hk => ⟨hk.1, ⟨hk.2.2.2.1, hk.2.2.2.2⟩⟩))).2.1 (Kd.N_F (Kd.N_mono (ok' := (fun k_ => (w.heap.size ≤ k_) ∧ some k_ ≠ (.slice Ao10 t286.length co10 : Value).ownBlock ∧ k_ ≠ g)) (HO300.out) (fun k_ hk => ⟨hk.1, ⟨hk.2.2.2.1, hk.2.2.2.2⟩⟩))) (Kd.N_reads' (Kd.N_mono (ok' := (fun k_ => (w.heap.size ≤ k_) ∧ some k_ ≠ (.slice Ao10 t286.length co10 : Value).ownBlock ∧ k_ ≠ g)) (HO303.out) (fun k_ hk => ⟨hk.1, ⟨hk.2.2.2.1, hk.2.2.2.2⟩⟩))).2.1 (Kd.N_F (Kd.N_mono (ok' := (fun k_ => (w.heap.size ≤ k_) ∧ some k_ ≠ (.slice Ao10 t286.length co10 : Value).ownBlock ∧ k_ ≠ g)) (HO303.out) (fun k_ hk => ⟨hk.1, ⟨hk.2.2.2.1, hk.2.2.2.2⟩⟩))) (Kd.N_reads' (Kd.N_mono (ok' := (fun k_ => (w.heap.size ≤ k_) ∧ some k_ ≠ (.slice Ao10 t286.length co10 : Value).ownBlock ∧ k_ ≠ g)) (HO306.out) (fun k_ hk => ⟨hk.1, ⟨hk.2.2.2.1, hk.2.2.2.2⟩⟩))).2.1 (Kd.N_F (Kd.N_mono (ok' := (fun k_ => (w.heap.size ≤ k_) ∧ some k_ ≠ (.slice Ao10 t286.length co10 : Value).ownBlock ∧ k_ ≠ g)) (HO306.out) (fun k_ hk => ⟨hk.1, ⟨hk.2.2.2.1, hk.2.2.2.2⟩⟩))))) (Reps.none _ _))); intro v309 w16 ho17 hb hg_ hnew_; clear hg_ hnew_; (first | rw [← Ny308.out] at ho17 | (simp only [Int.reduceToNat] at ho17; rw [← Ny308.out] at ho17)); have n_ := aN5_ (Kd.N_elder' (qN (HO288.out)) (Kd.N_base ho17) hb) (Kd.N_lower ho17 (kz_ HK)) (IsS98.below (qI HI0) hb) (KeepBut.trans (qK HK) (KeepBut.of_below hb g none) (.inl rfl)) (bT_ (qS HB) hb); clear HO288 HI0 HK HB HO300 HO303 HO306 hb ho17; obtain ⟨HO288, HO310, HI0, HK, HB⟩ := n_))
 go_ret
 exact ⟨_, qE, by (with_reducible repeat (first | apply Kd.N_alloc | apply Kd.N_drewN | apply Kd.N_drew)); exact Kd.N_mono HO310.out (fun _ hk => hk.1), qI HI0, qS HB, qK HK⟩
def spec_l2AddrBent.f (k : Nat) (s0_0 : List Int) (s0_1 : Int) : Option (Int × Int × Int) := (spec_l2Addr.f k s0_0 s0_1).bind fun bt312 => ((spec_l12Rd_pick.f k s0_0 bt312.2.2 16).bind fun bt316 => (if bt316.1 = 0 then ((spec_l12Rd_num.f k s0_0 bt316.2 (([0, 4, (-1)] : List Int))).bind fun bt321 => (some (bt321.1, bt312.2.1, bt321.2))) else (if bt316.1 = 1 then ((spec_l12Rd_num.f k s0_0 bt316.2 (([(-1), 6, 5] : List Int))).bind fun bt326 => (some (bt312.1, bt326.1, bt326.2))) else (some (bt312.1, bt312.2.1, bt316.2)))))
set_option maxHeartbeats 8000000 in
set_option maxRecDepth 100000 in
theorem spec_l2AddrBent.calls (k : Nat) (g : Nat) (s0_0 : List Int) (s0_1 : Int) (r1 : Int) (r2 : Int) (r3 : Int) (w0 w : World) (hI : IsS98 w0 w g s0_0 s0_1) (hB : Below w0.heap.size w0 w) (h : spec_l2AddrBent.f k s0_0 s0_1 = some (r1, r2, r3)) :
    Calls Tryz.prog 59 #[.pointer (some ⟨g, 0, none⟩)] w fun e w' => e = .returned (.agg #[.int .i64 r1, .int .i64 r2]) ∧ IsS98 w0 w' g s0_0 r3 ∧ Below w0.heap.size w0 w' ∧ KeepBut w w' g none := by
 have hu28 := Tryz.underlying28
 have HI0 := aM_ hI
 have HK := aM_ (KeepBut.refl w g none)
 have HL := aM_ hB.size
 clear hI
 have HW0 := aM_ hB.size
 have HB := aM_ hB
 clear hB
 have H : ((spec_l2Addr.f k s0_0 s0_1).bind fun bt312 => ((spec_l12Rd_pick.f k s0_0 bt312.2.2 16).bind fun bt316 => (if bt316.1 = 0 then ((spec_l12Rd_num.f k s0_0 bt316.2 (([0, 4, (-1)] : List Int))).bind fun bt321 => (some (bt321.1, bt312.2.1, bt321.2))) else (if bt316.1 = 1 then ((spec_l12Rd_num.f k s0_0 bt316.2 (([(-1), 6, 5] : List Int))).bind fun bt326 => (some (bt312.1, bt326.1, bt326.2))) else (some (bt312.1, bt312.2.1, bt316.2)))))) = some (r1, r2, r3) := h
 clear h
 replace H := oB_ H
 obtain ⟨⟨t312, t313, t314⟩, A20, H⟩ := H
 dsimp only at H
 have A2 := aM_ A20
 clear A20
 replace H := oB_ H
 obtain ⟨⟨t316, t317⟩, A30, H⟩ := H
 dsimp only at H
 have A3 := aM_ A30
 clear A30
 by_cases c4 : t316 = 0
 · rw [if_pos c4] at H
   have c4b0 : (t316 == 0) = true := beq_iff_eq.mpr c4
   have c4b1 : (t316 != 0) = false := bne_eq_false_iff_eq.mpr c4
   clear c4
   obtain ⟨y318, hy318⟩ : ∃ y_ : List Int, y_ = (([0, 4, (-1)] : List Int)) := ⟨_, rfl⟩
   replace H : ((spec_l12Rd_num.f k s0_0 t317 y318).bind fun bt321 => (some (bt321.1, t313, bt321.2))) = some (r1, r2, r3) := by subst hy318; exact H
   have Ny318 := aM_ hy318
   clear hy318
   replace H := oB_ H
   obtain ⟨⟨t321, t322⟩, A50, H⟩ := H
   dsimp only at H
   have A5 := aM_ A50
   clear A50
   simp only [Option.some.injEq, Prod.mk.injEq] at H
   obtain ⟨rfl, rfl, rfl⟩ := H
   go_enter Tryz.func59, Tryz.ntmps59
   go_wp2_with (first | ((with_reducible refine gD_ 2 ?_); refine bx_ 2 28 #[.int .i64 0, .int .i64 0] ?_; intro gb311 hg w6 hbox hb; have n_ := aN8_ (IsS98.below (qI HI0) hb) (KeepBut.trans (qK HK) (KeepBut.of_below hb g none) (.inl rfl)) (bT_ (qS HB) hb) (hbox) ((by rw [hg]; exact (kz_ HK) : w.heap.size ≤ gb311)) ((Nat.le_trans HW0.out (by rw [hg]; exact (kz_ HK) : w.heap.size ≤ gb311) : w0.heap.size ≤ gb311)) ((by rw [hg]; exact Nat.ne_of_lt (IsS98.lt (show IsS98 w0 _ g s0_0 s0_1 from qI HI0)) : g ≠ gb311)) ((by rw [hg]; exact Nat.ne_of_gt (IsS98.lt (show IsS98 w0 _ g s0_0 s0_1 from qI HI0)) : gb311 ≠ g)); clear HI0 HK HB hb hbox hg; obtain ⟨HI0, HK, HB, BK311, GW311, GE311, NB0_311, NB311_0⟩ := n_) | ((with_reducible refine gc_ 87 ?_); refine gL_ (some 5) Tryz.func87 #[.pointer (some ⟨g, 0, none⟩)] ?_; (with_reducible refine (spec_l2Addr.calls k g s0_0 s0_1 t312 t313 t314 w0 _ ?side1 ?side2 A2.out).mono ?_); (case side1 => exact qI HI0); (case side2 => exact qS HB); rintro e w7 ⟨rfl, hi, hb, hk⟩; refine ⟨_, rfl, ?_⟩; have n_ := aN4_ (KeepBut.blk hk (qg BK311) NB311_0.out (by simp)) (KeepBut.trans (qK HK) hk (.inl rfl)) (hb) (hi); clear BK311 HK HB HI0; obtain ⟨BK311, HK, HB, HI0⟩ := n_) | ((with_reducible refine gD_ 3 ?_); refine bx_ 3 28 #[.int .i64 0, .int .i64 0] ?_; intro gb315 hg w8 hbox hb; have n_ := aN11_ (IsS98.below (qI HI0) hb) (blk_below (qg BK311) hb) (KeepBut.trans (qK HK) (KeepBut.of_below hb g none) (.inl rfl)) (bT_ (qS HB) hb) (hbox) ((by rw [hg]; exact (kz_ HK) : w.heap.size ≤ gb315)) ((Nat.le_trans HW0.out (by rw [hg]; exact (kz_ HK) : w.heap.size ≤ gb315) : w0.heap.size ≤ gb315)) ((by rw [hg]; exact Nat.ne_of_lt (blk_lt (qg BK311)) : gb311 ≠ gb315)) ((by rw [hg]; exact Nat.ne_of_gt (blk_lt (qg BK311)) : gb315 ≠ gb311)) ((by rw [hg]; exact Nat.ne_of_lt (IsS98.lt (show IsS98 w0 _ g s0_0 t314 from qI HI0)) : g ≠ gb315)) ((by rw [hg]; exact Nat.ne_of_gt (IsS98.lt (show IsS98 w0 _ g s0_0 t314 from qI HI0)) : gb315 ≠ g)); clear HI0 BK311 HK HB hb hbox hg; obtain ⟨HI0, BK311, HK, HB, BK315, GW315, GE315, NB311_315, NB315_311, NB0_315, NB315_0⟩ := n_; have hnb9 := NB315_311.out; have hnc9 := NB311_315.out; have hnb10 := NB315_0.out; have hnc10 := NB0_315.out; have hC11 := cf2 BK315.out) | ((with_reducible refine gc_ 58 ?_); refine gL_ (some 7) Tryz.func58 #[.pointer (some ⟨g, 0, none⟩), .int .i64 16] ?_; (with_reducible refine (spec_l12Rd_pick.calls k g s0_0 t314 16 t316 t317 w0 _ ?side1 ?side2 A3.out).mono ?_); (case side1 => exact qI HI0); (case side2 => exact qS HB); rintro e w12 ⟨rfl, hi, hb, hk⟩; refine ⟨_, rfl, ?_⟩; have n_ := aN5_ (KeepBut.blk hk (g' := gb311) (o := .cells #[.int .i64 0, .int .i64 0] 28 (0, 0)) (by (with_reducible repeat (first | refine kN_ ?_ _ | refine kD_ ?_ | refine kA_ ?_ _)); refine blk_far ?_ NB311_315.out _; (with_reducible repeat (first | refine kN_ ?_ _ | refine kD_ ?_ | refine kA_ ?_ _)); refine blk_far ?_ NB311_315.out _; (with_reducible repeat (first | refine kN_ ?_ _ | refine kD_ ?_ | refine kA_ ?_ _)); exact BK311.out) NB311_0.out (by simp)) (KeepBut.blk hk (kq BK315) NB315_0.out (by simp)) (KeepBut.trans (qK HK) hk (.inl rfl)) (hb) (hi); clear BK311 BK315 HK HB HI0; obtain ⟨BK311, BK315, HK, HB, HI0⟩ := n_) | ((with_reducible refine gD_ 11 ?_); refine Kd.R_lit (Kd.int .i64) _ 3 ?hg (N := 11) ?hd (xs := ([0, 4, (-1)] : List Int)) (inner := [.int .i64 0, .int .i64 4, .int .i64 (-1)]) (ok := fun _ => True) (okp := fun _ => True) ?hr ?hp (fun _ hk => hk) trivial (Below.refl _ _) (Nat.le_refl _) (by simp) ?_; (case hd => rfl); (case hg => rfl); (case hr => first | (go_simp; done) | (go_simp; rfl)); (case hp => exact (Reps.one (show Kd.M (Kd.int .i64) _ _ _ 0 [.int .i64 0] from rfl) (Reps.one (show Kd.M (Kd.int .i64) _ _ _ 4 [.int .i64 4] from rfl) (Reps.one (show Kd.M (Kd.int .i64) _ _ _ (-1) [.int .i64 (-1)] from rfl) (Reps.none _ _))))); intro v319 w13 ho14 hb hg_ hnew_; clear hg_ hnew_; (first | rw [← Ny318.out] at ho14 | (simp only [Int.reduceToNat] at ho14; rw [← Ny318.out] at ho14)); have n_ := aN6_ (Kd.R_lower ho14 (kz_ HK)) (IsS98.below (qI HI0) hb) (blk_below (qg BK311) hb) (blk_below (qg BK315) hb) (KeepBut.trans (qK HK) (KeepBut.of_below hb g none) (.inl rfl)) (bT_ (qS HB) hb); clear HI0 BK311 BK315 HK HB hb ho14; obtain ⟨HO320, HI0, BK311, BK315, HK, HB⟩ := n_; obtain ⟨Ao15, co15, eo15⟩ := Kd.R_slice HO320.out; subst eo15) | ((with_reducible refine gc_ 35 ?_); refine gL_ (some 12) Tryz.func35 #[.pointer (some ⟨g, 0, none⟩), .slice Ao15 y318.length co15] ?_; (with_reducible refine (spec_l12Rd_num.calls k g s0_0 t317 _ _ y318 t321 t322 w0 _ ?side1 ?side2 ?side3 ?side4 ?side5 A5.out).mono ?_); (case side1 => exact qI HI0); (case side2 => exact qS HB); (case side3 => exact qC ((Kd.R_reads' HO320.out).2.2)); (case side4 => exact (Kd.R_reads' HO320.out).2.1); (case side5 => exact far_slice (IsS98.own_ne HI0.out HO320.out (by decide))); rintro e w16 ⟨rfl, hi, hb, hk⟩; refine ⟨_, rfl, ?_⟩; have n_ := aN6_ (KeepBut.blk hk (qg BK311) NB311_0.out (by simp)) (KeepBut.blk hk (qg BK315) NB315_0.out (by simp)) (Kd.R_mono (Kd.R_keep (IsS98.apart (show IsS98 w0 _ g s0_0 t317 from qI HI0) (qR HO320) (by decide)) hk (fun _ h => h.2)) (fun _ h => h.1)) (KeepBut.trans (qK HK) hk (.inl rfl)) (hb) (hi); clear BK311 BK315 HO320 HK HB HI0; obtain ⟨BK311, BK315, HO320, HK, HB, HI0⟩ := n_; have hC17 := cf2 BK315.out; have hnb18 := NB311_0.out; have hnc18 := NB0_311.out; have hC19 := cf2 BK311.out))
   refine bodyPost_ret (results_cell_row rfl _ _ gb311 28 #[.int .i64 t321, .int .i64 t313] (0, 0) _ rfl (by (with_reducible repeat (first | refine kN_ ?_ _ | refine kD_ ?_ | refine kA_ ?_ _)); refine kP_ (cs := #[.int .i64 t321, .int .i64 0]) ?_ 1 _ rfl; (with_reducible repeat (first | refine kN_ ?_ _ | refine kD_ ?_ | refine kA_ ?_ _)); refine kP_ (cs := #[.int .i64 0, .int .i64 0]) ?_ 0 _ rfl; (with_reducible repeat (first | refine kN_ ?_ _ | refine kD_ ?_ | refine kA_ ?_ _)); refine blk_far ?_ NB311_315.out _; (with_reducible repeat (first | refine kN_ ?_ _ | refine kD_ ?_ | refine kA_ ?_ _)); exact BK311.out) Tryz.underlying28 rfl (by kernel_rfl)) rfl ?_
   exact ⟨qE, qI HI0, qS HB, qK HK⟩
 rw [if_neg c4] at H
 have c4b0 : (t316 == 0) = false := beq_eq_false_iff_ne.mpr c4
 have c4b1 : (t316 != 0) = true := bne_iff_ne.mpr c4
 by_cases c20 : t316 = 1
 rotate_left
 · rw [if_neg c20] at H
   have c20b0 : (t316 == 1) = false := beq_eq_false_iff_ne.mpr c20
   have c20b1 : (t316 != 1) = true := bne_iff_ne.mpr c20
   simp only [Option.some.injEq, Prod.mk.injEq] at H
   obtain ⟨rfl, rfl, rfl⟩ := H
   go_enter Tryz.func59, Tryz.ntmps59
   go_wp2_with (first | ((with_reducible refine gD_ 2 ?_); refine bx_ 2 28 #[.int .i64 0, .int .i64 0] ?_; intro gb311 hg w36 hbox hb; have n_ := aN8_ (IsS98.below (qI HI0) hb) (KeepBut.trans (qK HK) (KeepBut.of_below hb g none) (.inl rfl)) (bT_ (qS HB) hb) (hbox) ((by rw [hg]; exact (kz_ HK) : w.heap.size ≤ gb311)) ((Nat.le_trans HW0.out (by rw [hg]; exact (kz_ HK) : w.heap.size ≤ gb311) : w0.heap.size ≤ gb311)) ((by rw [hg]; exact Nat.ne_of_lt (IsS98.lt (show IsS98 w0 _ g s0_0 s0_1 from qI HI0)) : g ≠ gb311)) ((by rw [hg]; exact Nat.ne_of_gt (IsS98.lt (show IsS98 w0 _ g s0_0 s0_1 from qI HI0)) : gb311 ≠ g)); clear HI0 HK HB hb hbox hg; obtain ⟨HI0, HK, HB, BK311, GW311, GE311, NB0_311, NB311_0⟩ := n_) | ((with_reducible refine gc_ 87 ?_); refine gL_ (some 5) Tryz.func87 #[.pointer (some ⟨g, 0, none⟩)] ?_; (with_reducible refine (spec_l2Addr.calls k g s0_0 s0_1 t312 t313 t314 w0 _ ?side1 ?side2 A2.out).mono ?_); (case side1 => exact qI HI0); (case side2 => exact qS HB); rintro e w37 ⟨rfl, hi, hb, hk⟩; refine ⟨_, rfl, ?_⟩; have n_ := aN4_ (KeepBut.blk hk (qg BK311) NB311_0.out (by simp)) (KeepBut.trans (qK HK) hk (.inl rfl)) (hb) (hi); clear BK311 HK HB HI0; obtain ⟨BK311, HK, HB, HI0⟩ := n_) | ((with_reducible refine gD_ 3 ?_); refine bx_ 3 28 #[.int .i64 0, .int .i64 0] ?_; intro gb315 hg w38 hbox hb; have n_ := aN11_ (IsS98.below (qI HI0) hb) (blk_below (qg BK311) hb) (KeepBut.trans (qK HK) (KeepBut.of_below hb g none) (.inl rfl)) (bT_ (qS HB) hb) (hbox) ((by rw [hg]; exact (kz_ HK) : w.heap.size ≤ gb315)) ((Nat.le_trans HW0.out (by rw [hg]; exact (kz_ HK) : w.heap.size ≤ gb315) : w0.heap.size ≤ gb315)) ((by rw [hg]; exact Nat.ne_of_lt (blk_lt (qg BK311)) : gb311 ≠ gb315)) ((by rw [hg]; exact Nat.ne_of_gt (blk_lt (qg BK311)) : gb315 ≠ gb311)) ((by rw [hg]; exact Nat.ne_of_lt (IsS98.lt (show IsS98 w0 _ g s0_0 t314 from qI HI0)) : g ≠ gb315)) ((by rw [hg]; exact Nat.ne_of_gt (IsS98.lt (show IsS98 w0 _ g s0_0 t314 from qI HI0)) : gb315 ≠ g)); clear HI0 BK311 HK HB hb hbox hg; obtain ⟨HI0, BK311, HK, HB, BK315, GW315, GE315, NB311_315, NB315_311, NB0_315, NB315_0⟩ := n_; have hnb39 := NB315_311.out; have hnc39 := NB311_315.out; have hnb40 := NB315_0.out; have hnc40 := NB0_315.out; have hC41 := cf2 BK315.out) | ((with_reducible refine gc_ 58 ?_); refine gL_ (some 7) Tryz.func58 #[.pointer (some ⟨g, 0, none⟩), .int .i64 16] ?_; (with_reducible refine (spec_l12Rd_pick.calls k g s0_0 t314 16 t316 t317 w0 _ ?side1 ?side2 A3.out).mono ?_); (case side1 => exact qI HI0); (case side2 => exact qS HB); rintro e w42 ⟨rfl, hi, hb, hk⟩; refine ⟨_, rfl, ?_⟩; have n_ := aN5_ (KeepBut.blk hk (g' := gb311) (o := .cells #[.int .i64 0, .int .i64 0] 28 (0, 0)) (by (with_reducible repeat (first | refine kN_ ?_ _ | refine kD_ ?_ | refine kA_ ?_ _)); refine blk_far ?_ NB311_315.out _; (with_reducible repeat (first | refine kN_ ?_ _ | refine kD_ ?_ | refine kA_ ?_ _)); refine blk_far ?_ NB311_315.out _; (with_reducible repeat (first | refine kN_ ?_ _ | refine kD_ ?_ | refine kA_ ?_ _)); exact BK311.out) NB311_0.out (by simp)) (KeepBut.blk hk (kq BK315) NB315_0.out (by simp)) (KeepBut.trans (qK HK) hk (.inl rfl)) (hb) (hi); clear BK311 BK315 HK HB HI0; obtain ⟨BK311, BK315, HK, HB, HI0⟩ := n_; have hC43 := cf2 BK315.out; have hnb44 := NB311_0.out; have hnc44 := NB0_311.out; have hC45 := cf2 BK311.out))
   refine bodyPost_ret (results_cell_row rfl _ _ gb311 28 #[.int .i64 t312, .int .i64 t313] (0, 0) _ rfl (kq BK311) Tryz.underlying28 rfl (by kernel_rfl)) rfl ?_
   exact ⟨qE, qI HI0, qS HB, qK HK⟩
 rw [if_pos c20] at H
 have c20b0 : (t316 == 1) = true := beq_iff_eq.mpr c20
 have c20b1 : (t316 != 1) = false := bne_eq_false_iff_eq.mpr c20
 clear c20
 obtain ⟨y323, hy323⟩ : ∃ y_ : List Int, y_ = (([(-1), 6, 5] : List Int)) := ⟨_, rfl⟩
 replace H : ((spec_l12Rd_num.f k s0_0 t317 y323).bind fun bt326 => (some (t312, bt326.1, bt326.2))) = some (r1, r2, r3) := by subst hy323; exact H
 have Ny323 := aM_ hy323
 clear hy323
 replace H := oB_ H
 obtain ⟨⟨t326, t327⟩, A210, H⟩ := H
 dsimp only at H
 have A21 := aM_ A210
 clear A210
 simp only [Option.some.injEq, Prod.mk.injEq] at H
 obtain ⟨rfl, rfl, rfl⟩ := H
 go_enter Tryz.func59, Tryz.ntmps59
 go_wp2_with (first | ((with_reducible refine gD_ 2 ?_); refine bx_ 2 28 #[.int .i64 0, .int .i64 0] ?_; intro gb311 hg w22 hbox hb; have n_ := aN8_ (IsS98.below (qI HI0) hb) (KeepBut.trans (qK HK) (KeepBut.of_below hb g none) (.inl rfl)) (bT_ (qS HB) hb) (hbox) ((by rw [hg]; exact (kz_ HK) : w.heap.size ≤ gb311)) ((Nat.le_trans HW0.out (by rw [hg]; exact (kz_ HK) : w.heap.size ≤ gb311) : w0.heap.size ≤ gb311)) ((by rw [hg]; exact Nat.ne_of_lt (IsS98.lt (show IsS98 w0 _ g s0_0 s0_1 from qI HI0)) : g ≠ gb311)) ((by rw [hg]; exact Nat.ne_of_gt (IsS98.lt (show IsS98 w0 _ g s0_0 s0_1 from qI HI0)) : gb311 ≠ g)); clear HI0 HK HB hb hbox hg; obtain ⟨HI0, HK, HB, BK311, GW311, GE311, NB0_311, NB311_0⟩ := n_) | ((with_reducible refine gc_ 87 ?_); refine gL_ (some 5) Tryz.func87 #[.pointer (some ⟨g, 0, none⟩)] ?_; (with_reducible refine (spec_l2Addr.calls k g s0_0 s0_1 t312 t313 t314 w0 _ ?side1 ?side2 A2.out).mono ?_); (case side1 => exact qI HI0); (case side2 => exact qS HB); rintro e w23 ⟨rfl, hi, hb, hk⟩; refine ⟨_, rfl, ?_⟩; have n_ := aN4_ (KeepBut.blk hk (qg BK311) NB311_0.out (by simp)) (KeepBut.trans (qK HK) hk (.inl rfl)) (hb) (hi); clear BK311 HK HB HI0; obtain ⟨BK311, HK, HB, HI0⟩ := n_) | ((with_reducible refine gD_ 3 ?_); refine bx_ 3 28 #[.int .i64 0, .int .i64 0] ?_; intro gb315 hg w24 hbox hb; have n_ := aN11_ (IsS98.below (qI HI0) hb) (blk_below (qg BK311) hb) (KeepBut.trans (qK HK) (KeepBut.of_below hb g none) (.inl rfl)) (bT_ (qS HB) hb) (hbox) ((by rw [hg]; exact (kz_ HK) : w.heap.size ≤ gb315)) ((Nat.le_trans HW0.out (by rw [hg]; exact (kz_ HK) : w.heap.size ≤ gb315) : w0.heap.size ≤ gb315)) ((by rw [hg]; exact Nat.ne_of_lt (blk_lt (qg BK311)) : gb311 ≠ gb315)) ((by rw [hg]; exact Nat.ne_of_gt (blk_lt (qg BK311)) : gb315 ≠ gb311)) ((by rw [hg]; exact Nat.ne_of_lt (IsS98.lt (show IsS98 w0 _ g s0_0 t314 from qI HI0)) : g ≠ gb315)) ((by rw [hg]; exact Nat.ne_of_gt (IsS98.lt (show IsS98 w0 _ g s0_0 t314 from qI HI0)) : gb315 ≠ g)); clear HI0 BK311 HK HB hb hbox hg; obtain ⟨HI0, BK311, HK, HB, BK315, GW315, GE315, NB311_315, NB315_311, NB0_315, NB315_0⟩ := n_; have hnb25 := NB315_311.out; have hnc25 := NB311_315.out; have hnb26 := NB315_0.out; have hnc26 := NB0_315.out; have hC27 := cf2 BK315.out) | ((with_reducible refine gc_ 58 ?_); refine gL_ (some 7) Tryz.func58 #[.pointer (some ⟨g, 0, none⟩), .int .i64 16] ?_; (with_reducible refine (spec_l12Rd_pick.calls k g s0_0 t314 16 t316 t317 w0 _ ?side1 ?side2 A3.out).mono ?_); (case side1 => exact qI HI0); (case side2 => exact qS HB); rintro e w28 ⟨rfl, hi, hb, hk⟩; refine ⟨_, rfl, ?_⟩; have n_ := aN5_ (KeepBut.blk hk (g' := gb311) (o := .cells #[.int .i64 0, .int .i64 0] 28 (0, 0)) (by (with_reducible repeat (first | refine kN_ ?_ _ | refine kD_ ?_ | refine kA_ ?_ _)); refine blk_far ?_ NB311_315.out _; (with_reducible repeat (first | refine kN_ ?_ _ | refine kD_ ?_ | refine kA_ ?_ _)); refine blk_far ?_ NB311_315.out _; (with_reducible repeat (first | refine kN_ ?_ _ | refine kD_ ?_ | refine kA_ ?_ _)); exact BK311.out) NB311_0.out (by simp)) (KeepBut.blk hk (kq BK315) NB315_0.out (by simp)) (KeepBut.trans (qK HK) hk (.inl rfl)) (hb) (hi); clear BK311 BK315 HK HB HI0; obtain ⟨BK311, BK315, HK, HB, HI0⟩ := n_) | ((with_reducible refine gD_ 17 ?_); refine Kd.R_lit (Kd.int .i64) _ 3 ?hg (N := 17) ?hd (xs := ([(-1), 6, 5] : List Int)) (inner := [.int .i64 (-1), .int .i64 6, .int .i64 5]) (ok := fun _ => True) (okp := fun _ => True) ?hr ?hp (fun _ hk => hk) trivial (Below.refl _ _) (Nat.le_refl _) (by simp) ?_; (case hd => rfl); (case hg => rfl); (case hr => first | (go_simp; done) | (go_simp; rfl)); (case hp => exact (Reps.one (show Kd.M (Kd.int .i64) _ _ _ (-1) [.int .i64 (-1)] from rfl) (Reps.one (show Kd.M (Kd.int .i64) _ _ _ 6 [.int .i64 6] from rfl) (Reps.one (show Kd.M (Kd.int .i64) _ _ _ 5 [.int .i64 5] from rfl) (Reps.none _ _))))); intro v324 w29 ho30 hb hg_ hnew_; clear hg_ hnew_; (first | rw [← Ny323.out] at ho30 | (simp only [Int.reduceToNat] at ho30; rw [← Ny323.out] at ho30)); have n_ := aN6_ (Kd.R_lower ho30 (kz_ HK)) (IsS98.below (qI HI0) hb) (blk_below (qg BK311) hb) (blk_below (qg BK315) hb) (KeepBut.trans (qK HK) (KeepBut.of_below hb g none) (.inl rfl)) (bT_ (qS HB) hb); clear HI0 BK311 BK315 HK HB hb ho30; obtain ⟨HO325, HI0, BK311, BK315, HK, HB⟩ := n_; obtain ⟨Ao31, co31, eo31⟩ := Kd.R_slice HO325.out; subst eo31) | ((with_reducible refine gc_ 35 ?_); refine gL_ (some 18) Tryz.func35 #[.pointer (some ⟨g, 0, none⟩), .slice Ao31 y323.length co31] ?_; (with_reducible refine (spec_l12Rd_num.calls k g s0_0 t317 _ _ y323 t326 t327 w0 _ ?side1 ?side2 ?side3 ?side4 ?side5 A21.out).mono ?_); (case side1 => exact qI HI0); (case side2 => exact qS HB); (case side3 => exact qC ((Kd.R_reads' HO325.out).2.2)); (case side4 => exact (Kd.R_reads' HO325.out).2.1); (case side5 => exact far_slice (IsS98.own_ne HI0.out HO325.out (by decide))); rintro e w32 ⟨rfl, hi, hb, hk⟩; refine ⟨_, rfl, ?_⟩; have n_ := aN6_ (KeepBut.blk hk (qg BK311) NB311_0.out (by simp)) (KeepBut.blk hk (qg BK315) NB315_0.out (by simp)) (Kd.R_mono (Kd.R_keep (IsS98.apart (show IsS98 w0 _ g s0_0 t317 from qI HI0) (qR HO325) (by decide)) hk (fun _ h => h.2)) (fun _ h => h.1)) (KeepBut.trans (qK HK) hk (.inl rfl)) (hb) (hi); clear BK311 BK315 HO325 HK HB HI0; obtain ⟨BK311, BK315, HO325, HK, HB, HI0⟩ := n_; have hC33 := cf2 BK315.out; have hnb34 := NB311_0.out; have hnc34 := NB0_311.out; have hC35 := cf2 BK311.out))
 refine bodyPost_ret (results_cell_row rfl _ _ gb311 28 #[.int .i64 t312, .int .i64 t326] (0, 0) _ rfl (by (with_reducible repeat (first | refine kN_ ?_ _ | refine kD_ ?_ | refine kA_ ?_ _)); refine kP_ (cs := #[.int .i64 t312, .int .i64 0]) ?_ 1 _ rfl; (with_reducible repeat (first | refine kN_ ?_ _ | refine kD_ ?_ | refine kA_ ?_ _)); refine kP_ (cs := #[.int .i64 0, .int .i64 0]) ?_ 0 _ rfl; (with_reducible repeat (first | refine kN_ ?_ _ | refine kD_ ?_ | refine kA_ ?_ _)); refine blk_far ?_ NB311_315.out _; (with_reducible repeat (first | refine kN_ ?_ _ | refine kD_ ?_ | refine kA_ ?_ _)); exact BK311.out) Tryz.underlying28 rfl (by kernel_rfl)) rfl ?_
 exact ⟨qE, qI HI0, qS HB, qK HK⟩
def spec_l5Code.f (k : Nat) (s0_0 : List Int) (s0_1 : Int) : Option ((List (S30)) × Int) := (spec_l4Some.f k s0_0 s0_1).bind fun bt328 => ((spec_l5Of.f bt328.1 0).bind fun t332 => (if (t332.length : Int) = 0 then (some (t332, bt328.2)) else ((spec_l12Rd_pick.f k s0_0 bt328.2 (t332.length : Int)).bind fun bt335 => ((spec_l12Rd_pick.f k s0_0 bt335.2 30).bind fun bt337 => (if bt337.1 = 0 then ((spec_l12Rd_num.f k s0_0 bt337.2 (([0, 9, 1, 5, 8] : List Int))).bind fun bt342 => (if 0 ≤ bt335.1 then (if bt335.1 < (t332.length : Int) then (some ((t332.set (bt335.1 : Int).toNat (⟨bt342.1, (rd_T30 t332 bt335.1).f1, (⟨(rd_T30 t332 bt335.1).f2.f0, (rd_T30 t332 bt335.1).f2.f1⟩ : S28)⟩ : S30)), bt342.2)) else (none)) else (none))) else (if bt337.1 = 1 then ((spec_l12Rd_num.f k s0_0 bt337.2 (([0, (-1), (t332.length : Int), wrap64 ((t332.length : Int) + 1), wrap64 (bt335.1 + 1)] : List Int))).bind fun bt348 => (if 0 ≤ bt335.1 then (if bt335.1 < (t332.length : Int) then (some ((t332.set (bt335.1 : Int).toNat (⟨(rd_T30 t332 bt335.1).f0, bt348.1, (⟨(rd_T30 t332 bt335.1).f2.f0, (rd_T30 t332 bt335.1).f2.f1⟩ : S28)⟩ : S30)), bt348.2)) else (none)) else (none))) else (if bt337.1 = 2 then (if 0 ≤ bt335.1 then (if bt335.1 ≤ (t332.length : Int) then (if 0 ≤ (wrap64 (bt335.1 + 1)) then (if (wrap64 (bt335.1 + 1)) ≤ (t332.length : Int) then (some ((t332.eraseIdx (bt335.1 : Int).toNat), bt337.2)) else (none)) else (none)) else (none)) else (none)) else (if bt337.1 = 3 then ((spec_l2AddrBent.f k s0_0 bt337.2).bind fun bt364 => (if 0 ≤ bt335.1 then (if bt335.1 < (t332.length : Int) then (some ((t332.set (bt335.1 : Int).toNat (⟨(rd_T30 t332 bt335.1).f0, (rd_T30 t332 bt335.1).f1, (⟨bt364.1, bt364.2.1⟩ : S28)⟩ : S30)), bt364.2.2)) else (none)) else (none))) else (if bt337.1 = 4 then ((spec_l12Rd_pick.f k s0_0 bt337.2 (t332.length : Int)).bind fun bt368 => (if t332.length < 4398046511104 then (some ((t332 ++ [(⟨8, bt368.1, (⟨0, 0⟩ : S28)⟩ : S30)]), bt368.2)) else (none))) else (some (t332, bt337.2)))))))))))
def spec_l12Open.f (l0 : List Int) : Option (List Int × Int) := if (l0.length : Int) > 2000 then (if 2000 ≤ (l0.length : Int) then (some (l0.take 2000, 0)) else (none)) else (some (l0, 0))
set_option maxHeartbeats 8000000 in
set_option maxRecDepth 100000 in
theorem spec_l12Open.calls (A0 : Option Addr) (c0 : Nat) (l0 : List Int) (r1 : List Int) (r2 : Int) (w0 w : World) (hB : Below w0.heap.size w0 w) (hr0 : Kd.C (Kd.int .u8) w0 A0 l0.length l0) (hc0 : l0.length ≤ c0) (h : spec_l12Open.f l0 = some (r1, r2)) :
    Calls Tryz.prog 32 #[.slice A0 l0.length c0] w fun e w' => ∃ g_ : Nat, e = .returned (.pointer (some ⟨g_, 0, none⟩)) ∧ IsS98 w0 w' g_ r1 r2 ∧ Below w0.heap.size w0 w' ∧ Below w.heap.size w w' := by
 have hu98 := Tryz.underlying98
 have HR0 := aM_ hr0
 have HC0 := aM_ hc0
 clear hr0 hc0
 have HBW := aM_ (Below.refl w.heap.size w)
 have HW0 := aM_ hB.size
 have HB := aM_ hB
 clear hB
 have H : (if (l0.length : Int) > 2000 then (if 2000 ≤ (l0.length : Int) then (some (l0.take 2000, 0)) else (none)) else (some (l0, 0))) = some (r1, r2) := h
 clear h
 by_cases c2 : (l0.length : Int) > 2000
 rotate_left
 · rw [if_neg c2] at H
   have c2b0 : decide (2000 < (l0.length : Int)) = false := dF_ c2
   have c2b1 : decide (2000 < l0.length) = false := dF_ (by omega)
   clear c2
   simp only [Option.some.injEq, Prod.mk.injEq] at H
   obtain ⟨rfl, rfl⟩ := H
   go_enter Tryz.func32, Tryz.ntmps32
   go_wp2_with (first | ((with_reducible refine gD_ 10 ?_); refine bx_ 10 98 #[.slice A0 l0.length c0, .int .i64 0] ?_; intro gb375 hg w6 hbox hb; have n_ := aN5_ (bT_ HBW.out hb) (bT_ (qB HB) hb) (hbox) ((by rw [hg]; exact (bZ_ (qB HBW)) : w.heap.size ≤ gb375)) ((Nat.le_trans HW0.out (by rw [hg]; exact (bZ_ (qB HBW)) : w.heap.size ≤ gb375) : w0.heap.size ≤ gb375)); clear HBW HB hb hbox hg; obtain ⟨HBW, HB, BK375, GW375, GE375⟩ := n_))
   go_ret
   exact ⟨_, rfl, (show IsS98 w0 _ gb375 l0 0 from ⟨_, _, by (with_reducible repeat (first | refine kN_ ?_ _ | refine kD_ ?_ | refine kA_ ?_ _)); exact BK375.out, GE375.out, HR0.out⟩), qB HB, qB HBW⟩
 rw [if_pos c2] at H
 have c2b0 : decide (2000 < (l0.length : Int)) = true := dT_ c2
 have c2b1 : decide (2000 < l0.length) = true := dT_ (by omega)
 clear c2
 by_cases c3 : 2000 ≤ (l0.length : Int)
 rotate_left
 · rw [if_neg c3] at H
   exact absurd H (by simp)
 rw [if_pos c3] at H
 have c3b0 := eq_true c3
 have c3b1 : decide (2000 ≤ (l0.length : Int)) = true := dT_ c3
 clear c3
 simp only [Option.some.injEq, Prod.mk.injEq] at H
 obtain ⟨rfl, rfl⟩ := H
 obtain ⟨i04, hi04, _, hsz4, _⟩ := info_parts info5
 obtain ⟨hcut4, hA4, hC4⟩ := print_take_of (P := Tryz.prog) (Value.int .u8) 0 22 5 .i64 Tryz.underlying22 hi04 hsz4 A0 c0 l0 2000 (by omega) (oD_ (by first | (with_reducible assumption) | assumption)) HC0.out
 have HR373 := aM_ (Kd.C_of_reads (h1 := fun _ => rfl) (hA4 _ (Kd.reads_of_C HR0.out)))
 have HC373 := aM_ hC4
 clear hA4 hC4 hi04 hsz4
 go_enter Tryz.func32, Tryz.ntmps32
 go_wp2_with (first | ((with_reducible refine gD_ 10 ?_); refine bx_ 10 98 #[.slice A0 (l0.take 2000).length c0, .int .i64 0] ?_; intro gb374 hg w5 hbox hb; have n_ := aN5_ (bT_ HBW.out hb) (bT_ (qB HB) hb) (hbox) ((by rw [hg]; exact (bZ_ (qB HBW)) : w.heap.size ≤ gb374)) ((Nat.le_trans HW0.out (by rw [hg]; exact (bZ_ (qB HBW)) : w.heap.size ≤ gb374) : w0.heap.size ≤ gb374)); clear HBW HB hb hbox hg; obtain ⟨HBW, HB, BK374, GW374, GE374⟩ := n_))
 go_ret
 exact ⟨_, rfl, (show IsS98 w0 _ gb374 (l0.take 2000) 0 from ⟨_, _, by (with_reducible repeat (first | refine kN_ ?_ _ | refine kD_ ?_ | refine kA_ ?_ _)); exact BK374.out, GE374.out, HR373.out⟩), qB HB, qB HBW⟩
end Go.Proofs.YtjamfddhcigchaaGreatDoor.HFnCodeRun
namespace Go.Proofs.YtjamfddhcigchaaGreatDoor.HFnCodeRun
open Go.RowKit Go.Proofs.YtjamfddhcigchaaGreatDoorW.PrintWords Go.Proofs.YtjamfddhcigchaaGreatDoorW.PrintLast Go.Proofs.YtjamfddhcigchaaGreatDoorW.PrintMore
attribute [local go_sem] max2_int min2_int max_two min_two max_three min_three max_four min_four
set_option linter.unusedVariables false
set_option linter.unusedSimpArgs false
def spec_MemOpen.f  : Option (List Int × List Int × List Int) := if 6 ≤ 35184372088832 then (some ((List.replicate 6 0), (List.replicate 6 0), (List.replicate 6 0))) else (none)
end Go.Proofs.YtjamfddhcigchaaGreatDoor.HFnCodeRun
namespace Go.Proofs.YtjamfddhcigchaaGreatDoor.HFnCodeRun
open Go.RowKit Go.Proofs.YtjamfddhcigchaaGreatDoorW.PrintWords Go.Proofs.YtjamfddhcigchaaGreatDoorW.PrintLast Go.Proofs.YtjamfddhcigchaaGreatDoorW.PrintMore
attribute [local go_sem] max2_int min2_int max_two min_two max_three min_three max_four min_four
set_option linter.unusedVariables false
set_option linter.unusedSimpArgs false
def spec_l2Mem.l0 : Nat → Int → List Int → Int → List Int → List Int → List Int → Option (List Int × List Int × List Int × Int)
  | 0, _, _, _, _, _, _ => none
  | k + 1, x4, x1000, x1001, x397000, x397001, x397002 => if x4 < 4 then ((spec_l12Rd_num.f k x1000 x1001 (([0, 0, 1, 1, 2, 5, (-1)] : List Int))).bind fun bt400 => (if 0 ≤ x4 then (if x4 < (x397000.length : Int) then ((spec_l12Rd_num.f k x1000 bt400.2 (([0, 0, 1, 3] : List Int))).bind fun bt406 => (if x4 < (x397001.length : Int) then ((spec_l12Rd_num.f k x1000 bt406.2 (([0, 0, 1, 2, 7, 1000000] : List Int))).bind fun bt412 => (if x4 < (x397002.length : Int) then (spec_l2Mem.l0 k (wrap64 (x4 + 1)) x1000 bt412.2 (x397000.set (x4 : Int).toNat bt400.1) (x397001.set (x4 : Int).toNat bt406.1) (x397002.set (x4 : Int).toNat bt412.1)) else (none))) else (none))) else (none)) else (none))) else (some (x397000, x397001, x397002, x1001))
def spec_l2Mem.f (k : Nat) (s0_0 : List Int) (s0_1 : Int) : Option (List Int × List Int × List Int × Int) := (spec_MemOpen.f).bind fun bt387 => (spec_l2Mem.l0 k 0 s0_0 s0_1 bt387.1 bt387.2.1 bt387.2.2)
end Go.Proofs.YtjamfddhcigchaaGreatDoor.HFnCodeRun
