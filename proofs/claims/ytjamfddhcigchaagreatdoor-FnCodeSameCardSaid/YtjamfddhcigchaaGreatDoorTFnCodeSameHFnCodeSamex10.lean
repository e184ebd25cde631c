-- Made by a program of this session (hp.py) over the kit's print: functions told by hand stand beside printed ones. Lean checks it.
import Derived.Test.YtjamfddhcigchaaGreatDoorTFnCodeSameHFnCodeSamex9
namespace Go.Proofs.YtjamfddhcigchaaGreatDoor.HFnCodeSame
open Go.RowKit Go.Proofs.YtjamfddhcigchaaGreatDoorW.PrintWords Go.Proofs.YtjamfddhcigchaaGreatDoorW.PrintLast Go.Proofs.YtjamfddhcigchaaGreatDoorW.PrintMore
attribute [local go_sem] max2_int min2_int max_two min_two max_three min_three max_four min_four
set_option linter.unusedVariables false
set_option linter.unusedSimpArgs false
attribute [local go_sem high] eqA28
mutual
def spec_l4Form.j0 : Nat → List (S122) → Int → Bool → Option (Bool)
  | 0, _, _, _ => none
  | k + 1, x0, x1, x14 => if x14 = true then (some false) else (spec_l4Form.l0 k x0 x1 0)
def spec_l4Form.l0 : Nat → List (S122) → Int → Int → Option (Bool)
  | 0, _, _, _ => none
  | k + 1, x0, x1, x5 => if x5 < (x0.length : Int) then (if 0 ≤ x5 then (if ((rd_T122 x0 x5).f0) = 1 then ((spec_AddrOk.f ((rd_T122 x0 x5).f1.f0) ((rd_T122 x0 x5).f1.f1)).bind fun t280 => (if t280 = true then (if ((rd_T122 x0 x5).f1.f0) = 1 then (spec_l4Form.j2 k x0 x1 x5 false ((rd_T122 x0 x5).f0) ((rd_T122 x0 x5).f1.f0) ((rd_T122 x0 x5).f1.f1) ((rd_T122 x0 x5).f2.f0) ((rd_T122 x0 x5).f2.f1) ((rd_T122 x0 x5).f2.f2.f0) ((rd_T122 x0 x5).f2.f2.f1) ((rd_T122 x0 x5).f2.f3) ((rd_T122 x0 x5).f3) ((rd_T122 x0 x5).f4)) else (if (((rd_T122 x0 x5).f3).length : Int) = 0 then (spec_l4Form.j2 k x0 x1 x5 ((((rd_T122 x0 x5).f4).length : Int) == 0) ((rd_T122 x0 x5).f0) ((rd_T122 x0 x5).f1.f0) ((rd_T122 x0 x5).f1.f1) ((rd_T122 x0 x5).f2.f0) ((rd_T122 x0 x5).f2.f1) ((rd_T122 x0 x5).f2.f2.f0) ((rd_T122 x0 x5).f2.f2.f1) ((rd_T122 x0 x5).f2.f3) ((rd_T122 x0 x5).f3) ((rd_T122 x0 x5).f4)) else (spec_l4Form.j2 k x0 x1 x5 false ((rd_T122 x0 x5).f0) ((rd_T122 x0 x5).f1.f0) ((rd_T122 x0 x5).f1.f1) ((rd_T122 x0 x5).f2.f0) ((rd_T122 x0 x5).f2.f1) ((rd_T122 x0 x5).f2.f2.f0) ((rd_T122 x0 x5).f2.f2.f1) ((rd_T122 x0 x5).f2.f3) ((rd_T122 x0 x5).f3) ((rd_T122 x0 x5).f4)))) else (spec_l4Form.j2 k x0 x1 x5 false ((rd_T122 x0 x5).f0) ((rd_T122 x0 x5).f1.f0) ((rd_T122 x0 x5).f1.f1) ((rd_T122 x0 x5).f2.f0) ((rd_T122 x0 x5).f2.f1) ((rd_T122 x0 x5).f2.f2.f0) ((rd_T122 x0 x5).f2.f2.f1) ((rd_T122 x0 x5).f2.f3) ((rd_T122 x0 x5).f3) ((rd_T122 x0 x5).f4)))) else (if ((rd_T122 x0 x5).f0) = 2 then (spec_l4Form.j2 k x0 x1 x5 (((rd_T122 x0 x5).f1.f0) == 0 && (((rd_T122 x0 x5).f1.f1) == 0)) ((rd_T122 x0 x5).f0) ((rd_T122 x0 x5).f1.f0) ((rd_T122 x0 x5).f1.f1) ((rd_T122 x0 x5).f2.f0) ((rd_T122 x0 x5).f2.f1) ((rd_T122 x0 x5).f2.f2.f0) ((rd_T122 x0 x5).f2.f2.f1) ((rd_T122 x0 x5).f2.f3) ((rd_T122 x0 x5).f3) ((rd_T122 x0 x5).f4)) else (if ((rd_T122 x0 x5).f0) = 3 then (if (((rd_T122 x0 x5).f1.f0) == 0 && (((rd_T122 x0 x5).f1.f1) == 0)) = true then (spec_l4Form.j2 k x0 x1 x5 ((((rd_T122 x0 x5).f4).length : Int) == 0) ((rd_T122 x0 x5).f0) ((rd_T122 x0 x5).f1.f0) ((rd_T122 x0 x5).f1.f1) ((rd_T122 x0 x5).f2.f0) ((rd_T122 x0 x5).f2.f1) ((rd_T122 x0 x5).f2.f2.f0) ((rd_T122 x0 x5).f2.f2.f1) ((rd_T122 x0 x5).f2.f3) ((rd_T122 x0 x5).f3) ((rd_T122 x0 x5).f4)) else (spec_l4Form.j2 k x0 x1 x5 false ((rd_T122 x0 x5).f0) ((rd_T122 x0 x5).f1.f0) ((rd_T122 x0 x5).f1.f1) ((rd_T122 x0 x5).f2.f0) ((rd_T122 x0 x5).f2.f1) ((rd_T122 x0 x5).f2.f2.f0) ((rd_T122 x0 x5).f2.f2.f1) ((rd_T122 x0 x5).f2.f3) ((rd_T122 x0 x5).f3) ((rd_T122 x0 x5).f4))) else (spec_l4Form.j2 k x0 x1 x5 false ((rd_T122 x0 x5).f0) ((rd_T122 x0 x5).f1.f0) ((rd_T122 x0 x5).f1.f1) ((rd_T122 x0 x5).f2.f0) ((rd_T122 x0 x5).f2.f1) ((rd_T122 x0 x5).f2.f2.f0) ((rd_T122 x0 x5).f2.f2.f1) ((rd_T122 x0 x5).f2.f3) ((rd_T122 x0 x5).f3) ((rd_T122 x0 x5).f4))))) else (none)) else (some true)
def spec_l4Form.j2 : Nat → List (S122) → Int → Int → Bool → Int → Int → Int → Int → Int → Int → Int → List (S120) → List (S122) → List (S122) → Option (Bool)
  | 0, _, _, _, _, _, _, _, _, _, _, _, _, _, _ => none
  | k + 1, x0, x1, x5, x7, x280000, x280001, x280002, x280003, x280004, x280005, x280006, x280007, x280008, x280009 => if x7 = true then ((spec_ExprOk.f k x280003 x280004 x280005 x280006 x280007).bind fun t281 => (if t281 = true then ((spec_l4Form.f k x280008 (wrap64 (x1 - 1))).bind fun t282 => (if t282 = true then ((spec_l4Form.f k x280009 (wrap64 (x1 - 1))).bind fun t283 => (if t283 = true then (spec_l4Form.l0 k x0 x1 (wrap64 (x5 + 1))) else (some false))) else (some false))) else (some false))) else (some false)
def spec_l4Form.f : Nat → List (S122) → Int → Option (Bool)
  | 0, _, _ => none
  | k + 1, l0, a1 => if (l0.length : Int) > 0 then (spec_l4Form.j0 k l0 a1 (decide (a1 < 1))) else (spec_l4Form.j0 k l0 a1 false)
end
set_option maxHeartbeats 8000000 in
set_option maxRecDepth 100000 in
theorem spec_l4Form.calls (k : Nat) : ∀ (A0 : Option Addr) (c0 : Nat) (l0 : List (S122)) (a1 : Int) (r : Bool) (w : World) (hr0 : Kd.C k122 w A0 l0.length l0) (hc0 : l0.length ≤ c0) (h : spec_l4Form.f k l0 a1 = some r),
    Calls Tryz.prog 122 #[.slice A0 l0.length c0, .int .i64 a1] w fun e w' => e = .returned (.bool r) ∧ Below w.heap.size w w' := by
 induction k using Nat.strongRecOn with
 | _ k ih =>
 intro A0 c0 l0 a1 r w hr0 hc0 h
 cases k with
 | zero => exact absurd h (by simp [spec_l4Form.f])
 | succ k =>
 simp only [spec_l4Form.f] at h
 have hu122 := Tryz.underlying122
 have hu28 := Tryz.underlying28
 have hu120 := Tryz.underlying120
 have HR0 := aM_ hr0
 have HC0 := aM_ hc0
 clear hr0 hc0
 have HB := aM_ (Below.refl w.heap.size w)
 have H : (if (l0.length : Int) > 0 then (spec_l4Form.j0 k l0 a1 (decide (a1 < 1))) else (spec_l4Form.j0 k l0 a1 false)) = some r := h
 clear h
 have HC3 := aM_ H
 clear H
 go_enter Tryz.func122, Tryz.ntmps122
 go_upto_region 1 with (fail)
 go_cut [14] (fun v14 wc => ∃ (kq : Nat) (x14_2 : Bool), v14 = .bool x14_2 ∧ Aside0 (spec_l4Form.j0 kq l0 a1 x14_2 = some r) ∧ Aside0 (kq ≤ k) ∧ Aside0 (Below w.heap.size w wc))
 case first =>
  have H := HC3.out
  clear HC3
  by_cases c4 : (l0.length : Int) > 0
  rotate_left
  · rw [if_neg c4] at H
    have c4b0 : decide (0 < (l0.length : Int)) = false := dF_ c4
    have c4b1 : decide (0 < l0.length) = false := dF_ (by omega)
    clear c4
    (first | rw [c4b0] | (simp only [i64_w, i32_w]; rw [c4b0]) | skip)
    have H' := aM_ H
    clear H
    go_wp2
    go_meet
    case rel => exact ⟨_, (false), qF, H', ⟨by first | omega | exact Nat.le_refl _⟩, ⟨qB HB⟩⟩
  rw [if_pos c4] at H
  have c4b0 : decide (0 < (l0.length : Int)) = true := dT_ c4
  have c4b1 : decide (0 < l0.length) = true := dT_ (by omega)
  clear c4
  (first | rw [c4b0] | (simp only [i64_w, i32_w]; rw [c4b0]) | skip)
  have H' := aM_ H
  clear H
  go_wp2
  go_meet
  case rel => exact ⟨_, (decide (a1 < 1)), qF, H', ⟨by first | omega | exact Nat.le_refl _⟩, ⟨qB HB⟩⟩
 case rest =>
  clear HC3
  try clear c1
  try clear p2
  try clear c4
  try clear c4b0
  try clear c4b1
  obtain ⟨kq, x14_2, rfl, HA, HJ2, HB⟩ := hcut
  cases kq with
  | zero => exact absurd HA.out (by simp [spec_l4Form.j0])
  | succ kj2 =>
   have H := HA.out
   clear HA
   simp only [spec_l4Form.j0] at H
   by_cases c5 : x14_2 = true
   · subst c5
     rw [if_pos rfl] at H
     obtain rfl := oI_ H
     go_wp2
     go_ret
     exact ⟨qE, qB HB⟩
   replace c5 := Bool.eq_false_iff.mpr c5
   subst c5
   rw [if_neg (show ¬ (false = true) by decide)] at H
   have H' := aM_ H
   clear H
   go_wp2
   go_loopg [5] kj2 (fun kq v5 w' => ∃ (x5_2 : Int), v5 = .int .i64 x5_2 ∧ Aside0 (spec_l4Form.l0 kq l0 a1 x5_2 = some r) ∧ Aside0 (kq ≤ kj2) ∧ Aside0 (Below w.heap.size w w'))
   case atStart => exact ⟨(0), qF, H', ⟨Nat.le_refl _⟩, ⟨qB HB⟩⟩
   case round =>
    clear H'
    try clear c1
    try clear p2
    try clear c4
    try clear c4b0
    try clear c4b1
    try clear c5
    try clear p2
    obtain ⟨x5_2, rfl, HA, HK2, HB⟩ := hrel
    cases gk with
    | zero => exact absurd HA.out (by simp [spec_l4Form.l0])
    | succ k2 =>
     have H := HA.out
     clear HA
     simp only [spec_l4Form.l0] at H
     by_cases c6 : x5_2 < (l0.length : Int)
     rotate_left
     · rw [if_neg c6] at H
       have c6b0 : decide (x5_2 < (l0.length : Int)) = false := dF_ c6
       clear c6
       obtain rfl := oI_ H
       go_wp2
       go_ret
       exact ⟨qE, qB HB⟩
     rw [if_pos c6] at H
     have c6b0 : decide (x5_2 < (l0.length : Int)) = true := dT_ c6
     clear c6
     by_cases c7 : 0 ≤ x5_2
     rotate_left
     · rw [if_neg c7] at H
       exact absurd H (by simp)
     rw [if_pos c7] at H
     have c7b0 : decide (0 ≤ x5_2) = true := dT_ c7
     clear c7
     have HC8 := aM_ H
     clear H
     have p278 : 0 ≤ (x5_2 : Int) := oD_ (by first | (with_reducible assumption) | assumption)
     have q278 : x5_2 < (l0.length : Int) := oD_ (by first | (with_reducible assumption) | assumption)
     obtain ⟨ad278, A278_7, c278_7, A278_8, c278_8, A278_9, c278_9, e278, hx278_0, hx278_1, hx278_2, hx278_3, hx278_4, hx278_5, hx278_6, hx278_7, hx278_8, hx278_9, hl278_7, hi278_7, hl278_8, hi278_8, hl278_9, hi278_9⟩ := at_T122 HR0.out x5_2 p278 q278
     cases e278
     replace hx278_0 := qc HB hx278_0
     replace hx278_1 := qc HB hx278_1
     replace hx278_2 := qc HB hx278_2
     replace hx278_3 := qc HB hx278_3
     replace hx278_4 := qc HB hx278_4
     replace hx278_5 := qc HB hx278_5
     replace hx278_6 := qc HB hx278_6
     replace hx278_7 := qc HB hx278_7
     replace hx278_8 := qc HB hx278_8
     replace hx278_9 := qc HB hx278_9
     have HR278_7 := aM_ hi278_7
     have HC278_7 := aM_ hl278_7
     clear hi278_7 hl278_7
     have HR278_8 := aM_ hi278_8
     have HC278_8 := aM_ hl278_8
     clear hi278_8 hl278_8
     have HR278_9 := aM_ hi278_9
     have HC278_9 := aM_ hl278_9
     clear hi278_9 hl278_9
     replace p278 := eq_true p278
     replace q278 := eq_true q278
     go_upto_block 2 with (first | ((with_reducible refine gate_dst (N := 6) rfl ?_); (try (refine gate_guard (by rfl) ?_; dsimp only)); refine box_event ?hg (N := 6) ?hd (cs := #[.int .i64 0, .int .i64 0, .int .i64 0, .int .i64 0, .int .i64 0, .int .i64 0, .int .i64 0, .slice none 0 0, .slice none 0 0, .slice none 0 0]) (t := 122) ?hr ?_; (case hd => rfl); (case hg => rfl); (case hr => first | (go_simp; done) | (go_simp; rfl)); intro gb279 hg w9 hbox hb; have n0_ := aM_ (bT_ (qB HB) hb); have n1_ := aM_ (hbox); have n2_ := aM_ ((by rw [hg]; exact (bZ_ (qB HB)) : w.heap.size ≤ gb279)); have n3_ := aM_ ((by rw [hg]; exact (bZ_ (qB HB)) : w.heap.size ≤ gb279)); clear HB; have HB := n0_; have BK279 := n1_; have GW279 := n2_; have GE279 := n3_; clear n0_ n1_ n2_ n3_ hb hbox hg; (obtain ⟨hcz10_0, hcz10_1, hcz10_2, hcz10_3, hcz10_4, hcz10_5, hcz10_6, hcz10_7, hcz10_8, hcz10_9⟩ := cells10 BK279.out); (obtain ⟨hfz10_0, hfz10_1, hfz10_2, hfz10_3, hfz10_4, hfz10_5, hfz10_6, hfz10_7, hfz10_8, hfz10_9⟩ := frozen10 BK279.out)))
     (try simp only [Act.put, sA_, sB_, sC_])
     go_cut [7] (fun v7 wc => ∃ (kq : Nat) (x7_7 : Bool), v7 = .bool x7_7 ∧ Aside0 (spec_l4Form.j2 kq l0 a1 x5_2 x7_7 ((rd_T122 l0 x5_2).f0) ((rd_T122 l0 x5_2).f1.f0) ((rd_T122 l0 x5_2).f1.f1) ((rd_T122 l0 x5_2).f2.f0) ((rd_T122 l0 x5_2).f2.f1) ((rd_T122 l0 x5_2).f2.f2.f0) ((rd_T122 l0 x5_2).f2.f2.f1) ((rd_T122 l0 x5_2).f2.f3) ((rd_T122 l0 x5_2).f3) ((rd_T122 l0 x5_2).f4) = some r) ∧ Aside0 (kq ≤ k2) ∧ Aside0 (wc.heap[gb279]? = some (.cells #[.int .i64 ((rd_T122 l0 x5_2).f0), .int .i64 ((rd_T122 l0 x5_2).f1.f0), .int .i64 ((rd_T122 l0 x5_2).f1.f1), .int .i64 ((rd_T122 l0 x5_2).f2.f0), .int .i64 ((rd_T122 l0 x5_2).f2.f1), .int .i64 ((rd_T122 l0 x5_2).f2.f2.f0), .int .i64 ((rd_T122 l0 x5_2).f2.f2.f1), (.slice A278_7 ((rd_T122 l0 x5_2).f2.f3).length c278_7), (.slice A278_8 ((rd_T122 l0 x5_2).f3).length c278_8), (.slice A278_9 ((rd_T122 l0 x5_2).f4).length c278_9)] 122 (0, 0))) ∧ Aside0 (Below w.heap.size w wc))
     case first =>
      have H := HC8.out
      clear HC8
      by_cases c11 : ((rd_T122 l0 x5_2).f0) = 1
      rotate_left
      · rw [if_neg c11] at H
        have c11b0 : (((rd_T122 l0 x5_2).f0) == 1) = false := beq_eq_false_iff_ne.mpr c11
        have c11b1 : (((rd_T122 l0 x5_2).f0) != 1) = true := bne_iff_ne.mpr c11
        (first | rw [c11b0] | (simp only [i64_w, i32_w]; rw [c11b0]) | skip)
        by_cases c27 : ((rd_T122 l0 x5_2).f0) = 2
        · rw [if_pos c27] at H
          have c27b0 : (((rd_T122 l0 x5_2).f0) == 2) = true := beq_iff_eq.mpr c27
          have c27b1 : (((rd_T122 l0 x5_2).f0) != 2) = false := bne_eq_false_iff_eq.mpr c27
          clear c27
          have H' := aM_ H
          clear H
          (obtain ⟨hcz28_0, hcz28_1, hcz28_2, hcz28_3, hcz28_4, hcz28_5, hcz28_6, hcz28_7, hcz28_8, hcz28_9⟩ := cells10 BK279.out)
          (obtain ⟨hfz28_0, hfz28_1, hfz28_2, hfz28_3, hfz28_4, hfz28_5, hfz28_6, hfz28_7, hfz28_8, hfz28_9⟩ := frozen10 BK279.out)
          go_wp2
          go_meet
          case rel => exact ⟨_, ((((rd_T122 l0 x5_2).f1.f0) == 0 && (((rd_T122 l0 x5_2).f1.f1) == 0))), qF, H', ⟨by have := HJ2.out; have := HK2.out; first | omega | exact Nat.le_refl _⟩, ⟨by (with_reducible repeat (first | refine kN_ ?_ _ | refine kD_ ?_ | refine kA_ ?_ _)); refine kP_ (cs := #[.int .i64 ((rd_T122 l0 x5_2).f0), .int .i64 ((rd_T122 l0 x5_2).f1.f0), .int .i64 ((rd_T122 l0 x5_2).f1.f1), .int .i64 ((rd_T122 l0 x5_2).f2.f0), .int .i64 ((rd_T122 l0 x5_2).f2.f1), .int .i64 ((rd_T122 l0 x5_2).f2.f2.f0), .int .i64 ((rd_T122 l0 x5_2).f2.f2.f1), .slice A278_7 ((rd_T122 l0 x5_2).f2.f3).length c278_7, .slice A278_8 ((rd_T122 l0 x5_2).f3).length c278_8, .slice none 0 0]) ?_ 9 _ rfl; (with_reducible repeat (first | refine kN_ ?_ _ | refine kD_ ?_ | refine kA_ ?_ _)); refine kP_ (cs := #[.int .i64 ((rd_T122 l0 x5_2).f0), .int .i64 ((rd_T122 l0 x5_2).f1.f0), .int .i64 ((rd_T122 l0 x5_2).f1.f1), .int .i64 ((rd_T122 l0 x5_2).f2.f0), .int .i64 ((rd_T122 l0 x5_2).f2.f1), .int .i64 ((rd_T122 l0 x5_2).f2.f2.f0), .int .i64 ((rd_T122 l0 x5_2).f2.f2.f1), .slice A278_7 ((rd_T122 l0 x5_2).f2.f3).length c278_7, .slice none 0 0, .slice none 0 0]) ?_ 8 _ rfl; (with_reducible repeat (first | refine kN_ ?_ _ | refine kD_ ?_ | refine kA_ ?_ _)); refine kP_ (cs := #[.int .i64 ((rd_T122 l0 x5_2).f0), .int .i64 ((rd_T122 l0 x5_2).f1.f0), .int .i64 ((rd_T122 l0 x5_2).f1.f1), .int .i64 ((rd_T122 l0 x5_2).f2.f0), .int .i64 ((rd_T122 l0 x5_2).f2.f1), .int .i64 ((rd_T122 l0 x5_2).f2.f2.f0), .int .i64 ((rd_T122 l0 x5_2).f2.f2.f1), .slice none 0 0, .slice none 0 0, .slice none 0 0]) ?_ 7 _ rfl; (with_reducible repeat (first | refine kN_ ?_ _ | refine kD_ ?_ | refine kA_ ?_ _)); refine kP_ (cs := #[.int .i64 ((rd_T122 l0 x5_2).f0), .int .i64 ((rd_T122 l0 x5_2).f1.f0), .int .i64 ((rd_T122 l0 x5_2).f1.f1), .int .i64 ((rd_T122 l0 x5_2).f2.f0), .int .i64 ((rd_T122 l0 x5_2).f2.f1), .int .i64 ((rd_T122 l0 x5_2).f2.f2.f0), .int .i64 0, .slice none 0 0, .slice none 0 0, .slice none 0 0]) ?_ 6 _ rfl; (with_reducible repeat (first | refine kN_ ?_ _ | refine kD_ ?_ | refine kA_ ?_ _)); refine kP_ (cs := #[.int .i64 ((rd_T122 l0 x5_2).f0), .int .i64 ((rd_T122 l0 x5_2).f1.f0), .int .i64 ((rd_T122 l0 x5_2).f1.f1), .int .i64 ((rd_T122 l0 x5_2).f2.f0), .int .i64 ((rd_T122 l0 x5_2).f2.f1), .int .i64 0, .int .i64 0, .slice none 0 0, .slice none 0 0, .slice none 0 0]) ?_ 5 _ rfl; (with_reducible repeat (first | refine kN_ ?_ _ | refine kD_ ?_ | refine kA_ ?_ _)); refine kP_ (cs := #[.int .i64 ((rd_T122 l0 x5_2).f0), .int .i64 ((rd_T122 l0 x5_2).f1.f0), .int .i64 ((rd_T122 l0 x5_2).f1.f1), .int .i64 ((rd_T122 l0 x5_2).f2.f0), .int .i64 0, .int .i64 0, .int .i64 0, .slice none 0 0, .slice none 0 0, .slice none 0 0]) ?_ 4 _ rfl; (with_reducible repeat (first | refine kN_ ?_ _ | refine kD_ ?_ | refine kA_ ?_ _)); refine kP_ (cs := #[.int .i64 ((rd_T122 l0 x5_2).f0), .int .i64 ((rd_T122 l0 x5_2).f1.f0), .int .i64 ((rd_T122 l0 x5_2).f1.f1), .int .i64 0, .int .i64 0, .int .i64 0, .int .i64 0, .slice none 0 0, .slice none 0 0, .slice none 0 0]) ?_ 3 _ rfl; (with_reducible repeat (first | refine kN_ ?_ _ | refine kD_ ?_ | refine kA_ ?_ _)); refine kP_ (cs := #[.int .i64 ((rd_T122 l0 x5_2).f0), .int .i64 ((rd_T122 l0 x5_2).f1.f0), .int .i64 0, .int .i64 0, .int .i64 0, .int .i64 0, .int .i64 0, .slice none 0 0, .slice none 0 0, .slice none 0 0]) ?_ 2 _ rfl; (with_reducible repeat (first | refine kN_ ?_ _ | refine kD_ ?_ | refine kA_ ?_ _)); refine kP_ (cs := #[.int .i64 ((rd_T122 l0 x5_2).f0), .int .i64 0, .int .i64 0, .int .i64 0, .int .i64 0, .int .i64 0, .int .i64 0, .slice none 0 0, .slice none 0 0, .slice none 0 0]) ?_ 1 _ rfl; (with_reducible repeat (first | refine kN_ ?_ _ | refine kD_ ?_ | refine kA_ ?_ _)); refine kP_ (cs := #[.int .i64 0, .int .i64 0, .int .i64 0, .int .i64 0, .int .i64 0, .int .i64 0, .int .i64 0, .slice none 0 0, .slice none 0 0, .slice none 0 0]) ?_ 0 _ rfl; (with_reducible repeat (first | refine kN_ ?_ _ | refine kD_ ?_ | refine kA_ ?_ _)); exact BK279.out⟩, ⟨qB HB⟩⟩
        rw [if_neg c27] at H
        have c27b0 : (((rd_T122 l0 x5_2).f0) == 2) = false := beq_eq_false_iff_ne.mpr c27
        have c27b1 : (((rd_T122 l0 x5_2).f0) != 2) = true := bne_iff_ne.mpr c27
        by_cases c29 : ((rd_T122 l0 x5_2).f0) = 3
        rotate_left
        · rw [if_neg c29] at H
          have c29b0 : (((rd_T122 l0 x5_2).f0) == 3) = false := beq_eq_false_iff_ne.mpr c29
          have c29b1 : (((rd_T122 l0 x5_2).f0) != 3) = true := bne_iff_ne.mpr c29
          have H' := aM_ H
          clear H
          go_wp2
          go_meet
          case rel => exact ⟨_, (false), qF, H', ⟨by have := HJ2.out; have := HK2.out; first | omega | exact Nat.le_refl _⟩, ⟨by (with_reducible repeat (first | refine kN_ ?_ _ | refine kD_ ?_ | refine kA_ ?_ _)); refine kP_ (cs := #[.int .i64 ((rd_T122 l0 x5_2).f0), .int .i64 ((rd_T122 l0 x5_2).f1.f0), .int .i64 ((rd_T122 l0 x5_2).f1.f1), .int .i64 ((rd_T122 l0 x5_2).f2.f0), .int .i64 ((rd_T122 l0 x5_2).f2.f1), .int .i64 ((rd_T122 l0 x5_2).f2.f2.f0), .int .i64 ((rd_T122 l0 x5_2).f2.f2.f1), .slice A278_7 ((rd_T122 l0 x5_2).f2.f3).length c278_7, .slice A278_8 ((rd_T122 l0 x5_2).f3).length c278_8, .slice none 0 0]) ?_ 9 _ rfl; (with_reducible repeat (first | refine kN_ ?_ _ | refine kD_ ?_ | refine kA_ ?_ _)); refine kP_ (cs := #[.int .i64 ((rd_T122 l0 x5_2).f0), .int .i64 ((rd_T122 l0 x5_2).f1.f0), .int .i64 ((rd_T122 l0 x5_2).f1.f1), .int .i64 ((rd_T122 l0 x5_2).f2.f0), .int .i64 ((rd_T122 l0 x5_2).f2.f1), .int .i64 ((rd_T122 l0 x5_2).f2.f2.f0), .int .i64 ((rd_T122 l0 x5_2).f2.f2.f1), .slice A278_7 ((rd_T122 l0 x5_2).f2.f3).length c278_7, .slice none 0 0, .slice none 0 0]) ?_ 8 _ rfl; (with_reducible repeat (first | refine kN_ ?_ _ | refine kD_ ?_ | refine kA_ ?_ _)); refine kP_ (cs := #[.int .i64 ((rd_T122 l0 x5_2).f0), .int .i64 ((rd_T122 l0 x5_2).f1.f0), .int .i64 ((rd_T122 l0 x5_2).f1.f1), .int .i64 ((rd_T122 l0 x5_2).f2.f0), .int .i64 ((rd_T122 l0 x5_2).f2.f1), .int .i64 ((rd_T122 l0 x5_2).f2.f2.f0), .int .i64 ((rd_T122 l0 x5_2).f2.f2.f1), .slice none 0 0, .slice none 0 0, .slice none 0 0]) ?_ 7 _ rfl; (with_reducible repeat (first | refine kN_ ?_ _ | refine kD_ ?_ | refine kA_ ?_ _)); refine kP_ (cs := #[.int .i64 ((rd_T122 l0 x5_2).f0), .int .i64 ((rd_T122 l0 x5_2).f1.f0), .int .i64 ((rd_T122 l0 x5_2).f1.f1), .int .i64 ((rd_T122 l0 x5_2).f2.f0), .int .i64 ((rd_T122 l0 x5_2).f2.f1), .int .i64 ((rd_T122 l0 x5_2).f2.f2.f0), .int .i64 0, .slice none 0 0, .slice none 0 0, .slice none 0 0]) ?_ 6 _ rfl; (with_reducible repeat (first | refine kN_ ?_ _ | refine kD_ ?_ | refine kA_ ?_ _)); refine kP_ (cs := #[.int .i64 ((rd_T122 l0 x5_2).f0), .int .i64 ((rd_T122 l0 x5_2).f1.f0), .int .i64 ((rd_T122 l0 x5_2).f1.f1), .int .i64 ((rd_T122 l0 x5_2).f2.f0), .int .i64 ((rd_T122 l0 x5_2).f2.f1), .int .i64 0, .int .i64 0, .slice none 0 0, .slice none 0 0, .slice none 0 0]) ?_ 5 _ rfl; (with_reducible repeat (first | refine kN_ ?_ _ | refine kD_ ?_ | refine kA_ ?_ _)); refine kP_ (cs := #[.int .i64 ((rd_T122 l0 x5_2).f0), .int .i64 ((rd_T122 l0 x5_2).f1.f0), .int .i64 ((rd_T122 l0 x5_2).f1.f1), .int .i64 ((rd_T122 l0 x5_2).f2.f0), .int .i64 0, .int .i64 0, .int .i64 0, .slice none 0 0, .slice none 0 0, .slice none 0 0]) ?_ 4 _ rfl; (with_reducible repeat (first | refine kN_ ?_ _ | refine kD_ ?_ | refine kA_ ?_ _)); refine kP_ (cs := #[.int .i64 ((rd_T122 l0 x5_2).f0), .int .i64 ((rd_T122 l0 x5_2).f1.f0), .int .i64 ((rd_T122 l0 x5_2).f1.f1), .int .i64 0, .int .i64 0, .int .i64 0, .int .i64 0, .slice none 0 0, .slice none 0 0, .slice none 0 0]) ?_ 3 _ rfl; (with_reducible repeat (first | refine kN_ ?_ _ | refine kD_ ?_ | refine kA_ ?_ _)); refine kP_ (cs := #[.int .i64 ((rd_T122 l0 x5_2).f0), .int .i64 ((rd_T122 l0 x5_2).f1.f0), .int .i64 0, .int .i64 0, .int .i64 0, .int .i64 0, .int .i64 0, .slice none 0 0, .slice none 0 0, .slice none 0 0]) ?_ 2 _ rfl; (with_reducible repeat (first | refine kN_ ?_ _ | refine kD_ ?_ | refine kA_ ?_ _)); refine kP_ (cs := #[.int .i64 ((rd_T122 l0 x5_2).f0), .int .i64 0, .int .i64 0, .int .i64 0, .int .i64 0, .int .i64 0, .int .i64 0, .slice none 0 0, .slice none 0 0, .slice none 0 0]) ?_ 1 _ rfl; (with_reducible repeat (first | refine kN_ ?_ _ | refine kD_ ?_ | refine kA_ ?_ _)); refine kP_ (cs := #[.int .i64 0, .int .i64 0, .int .i64 0, .int .i64 0, .int .i64 0, .int .i64 0, .int .i64 0, .slice none 0 0, .slice none 0 0, .slice none 0 0]) ?_ 0 _ rfl; (with_reducible repeat (first | refine kN_ ?_ _ | refine kD_ ?_ | refine kA_ ?_ _)); exact BK279.out⟩, ⟨qB HB⟩⟩
        rw [if_pos c29] at H
        have c29b0 : (((rd_T122 l0 x5_2).f0) == 3) = true := beq_iff_eq.mpr c29
        have c29b1 : (((rd_T122 l0 x5_2).f0) != 3) = false := bne_eq_false_iff_eq.mpr c29
        clear c29
        by_cases c30 : (((rd_T122 l0 x5_2).f1.f0) == 0 && (((rd_T122 l0 x5_2).f1.f1) == 0)) = true
        · rw [if_pos c30] at H
          have c30b0 : (((rd_T122 l0 x5_2).f1.f0) == 0 && (((rd_T122 l0 x5_2).f1.f1) == 0)) = true := c30
          (try (have c30b1 : decide (((rd_T122 l0 x5_2).f1.f0) = 0 && (((rd_T122 l0 x5_2).f1.f1) == 0)) = true := by simpa using c30))
          (try (have c30b2 : (((rd_T122 l0 x5_2).f1.f0) == 0 && (((rd_T122 l0 x5_2).f1.f1) == 0)) = true := by simpa using c30))
          clear c30
          have H' := aM_ H
          clear H
          (obtain ⟨hcz31_0, hcz31_1, hcz31_2, hcz31_3, hcz31_4, hcz31_5, hcz31_6, hcz31_7, hcz31_8, hcz31_9⟩ := cells10 BK279.out)
          (obtain ⟨hfz31_0, hfz31_1, hfz31_2, hfz31_3, hfz31_4, hfz31_5, hfz31_6, hfz31_7, hfz31_8, hfz31_9⟩ := frozen10 BK279.out)
          go_wp2
          go_meet
          case rel => exact ⟨_, (((((rd_T122 l0 x5_2).f4).length : Int) == 0)), qF, H', ⟨by have := HJ2.out; have := HK2.out; first | omega | exact Nat.le_refl _⟩, ⟨by (with_reducible repeat (first | refine kN_ ?_ _ | refine kD_ ?_ | refine kA_ ?_ _)); refine kP_ (cs := #[.int .i64 ((rd_T122 l0 x5_2).f0), .int .i64 ((rd_T122 l0 x5_2).f1.f0), .int .i64 ((rd_T122 l0 x5_2).f1.f1), .int .i64 ((rd_T122 l0 x5_2).f2.f0), .int .i64 ((rd_T122 l0 x5_2).f2.f1), .int .i64 ((rd_T122 l0 x5_2).f2.f2.f0), .int .i64 ((rd_T122 l0 x5_2).f2.f2.f1), .slice A278_7 ((rd_T122 l0 x5_2).f2.f3).length c278_7, .slice A278_8 ((rd_T122 l0 x5_2).f3).length c278_8, .slice none 0 0]) ?_ 9 _ rfl; (with_reducible repeat (first | refine kN_ ?_ _ | refine kD_ ?_ | refine kA_ ?_ _)); refine kP_ (cs := #[.int .i64 ((rd_T122 l0 x5_2).f0), .int .i64 ((rd_T122 l0 x5_2).f1.f0), .int .i64 ((rd_T122 l0 x5_2).f1.f1), .int .i64 ((rd_T122 l0 x5_2).f2.f0), .int .i64 ((rd_T122 l0 x5_2).f2.f1), .int .i64 ((rd_T122 l0 x5_2).f2.f2.f0), .int .i64 ((rd_T122 l0 x5_2).f2.f2.f1), .slice A278_7 ((rd_T122 l0 x5_2).f2.f3).length c278_7, .slice none 0 0, .slice none 0 0]) ?_ 8 _ rfl; (with_reducible repeat (first | refine kN_ ?_ _ | refine kD_ ?_ | refine kA_ ?_ _)); refine kP_ (cs := #[.int .i64 ((rd_T122 l0 x5_2).f0), .int .i64 ((rd_T122 l0 x5_2).f1.f0), .int .i64 ((rd_T122 l0 x5_2).f1.f1), .int .i64 ((rd_T122 l0 x5_2).f2.f0), .int .i64 ((rd_T122 l0 x5_2).f2.f1), .int .i64 ((rd_T122 l0 x5_2).f2.f2.f0), .int .i64 ((rd_T122 l0 x5_2).f2.f2.f1), .slice none 0 0, .slice none 0 0, .slice none 0 0]) ?_ 7 _ rfl; (with_reducible repeat (first | refine kN_ ?_ _ | refine kD_ ?_ | refine kA_ ?_ _)); refine kP_ (cs := #[.int .i64 ((rd_T122 l0 x5_2).f0), .int .i64 ((rd_T122 l0 x5_2).f1.f0), .int .i64 ((rd_T122 l0 x5_2).f1.f1), .int .i64 ((rd_T122 l0 x5_2).f2.f0), .int .i64 ((rd_T122 l0 x5_2).f2.f1), .int .i64 ((rd_T122 l0 x5_2).f2.f2.f0), .int .i64 0, .slice none 0 0, .slice none 0 0, .slice none 0 0]) ?_ 6 _ rfl; (with_reducible repeat (first | refine kN_ ?_ _ | refine kD_ ?_ | refine kA_ ?_ _)); refine kP_ (cs := #[.int .i64 ((rd_T122 l0 x5_2).f0), .int .i64 ((rd_T122 l0 x5_2).f1.f0), .int .i64 ((rd_T122 l0 x5_2).f1.f1), .int .i64 ((rd_T122 l0 x5_2).f2.f0), .int .i64 ((rd_T122 l0 x5_2).f2.f1), .int .i64 0, .int .i64 0, .slice none 0 0, .slice none 0 0, .slice none 0 0]) ?_ 5 _ rfl; (with_reducible repeat (first | refine kN_ ?_ _ | refine kD_ ?_ | refine kA_ ?_ _)); refine kP_ (cs := #[.int .i64 ((rd_T122 l0 x5_2).f0), .int .i64 ((rd_T122 l0 x5_2).f1.f0), .int .i64 ((rd_T122 l0 x5_2).f1.f1), .int .i64 ((rd_T122 l0 x5_2).f2.f0), .int .i64 0, .int .i64 0, .int .i64 0, .slice none 0 0, .slice none 0 0, .slice none 0 0]) ?_ 4 _ rfl; (with_reducible repeat (first | refine kN_ ?_ _ | refine kD_ ?_ | refine kA_ ?_ _)); refine kP_ (cs := #[.int .i64 ((rd_T122 l0 x5_2).f0), .int .i64 ((rd_T122 l0 x5_2).f1.f0), .int .i64 ((rd_T122 l0 x5_2).f1.f1), .int .i64 0, .int .i64 0, .int .i64 0, .int .i64 0, .slice none 0 0, .slice none 0 0, .slice none 0 0]) ?_ 3 _ rfl; (with_reducible repeat (first | refine kN_ ?_ _ | refine kD_ ?_ | refine kA_ ?_ _)); refine kP_ (cs := #[.int .i64 ((rd_T122 l0 x5_2).f0), .int .i64 ((rd_T122 l0 x5_2).f1.f0), .int .i64 0, .int .i64 0, .int .i64 0, .int .i64 0, .int .i64 0, .slice none 0 0, .slice none 0 0, .slice none 0 0]) ?_ 2 _ rfl; (with_reducible repeat (first | refine kN_ ?_ _ | refine kD_ ?_ | refine kA_ ?_ _)); refine kP_ (cs := #[.int .i64 ((rd_T122 l0 x5_2).f0), .int .i64 0, .int .i64 0, .int .i64 0, .int .i64 0, .int .i64 0, .int .i64 0, .slice none 0 0, .slice none 0 0, .slice none 0 0]) ?_ 1 _ rfl; (with_reducible repeat (first | refine kN_ ?_ _ | refine kD_ ?_ | refine kA_ ?_ _)); refine kP_ (cs := #[.int .i64 0, .int .i64 0, .int .i64 0, .int .i64 0, .int .i64 0, .int .i64 0, .int .i64 0, .slice none 0 0, .slice none 0 0, .slice none 0 0]) ?_ 0 _ rfl; (with_reducible repeat (first | refine kN_ ?_ _ | refine kD_ ?_ | refine kA_ ?_ _)); exact BK279.out⟩, ⟨qB HB⟩⟩
        rw [if_neg c30] at H
        have c30b0 : (((rd_T122 l0 x5_2).f1.f0) == 0 && (((rd_T122 l0 x5_2).f1.f1) == 0)) = false := by simpa using c30
        (try (have c30b1 : decide (((rd_T122 l0 x5_2).f1.f0) = 0 && (((rd_T122 l0 x5_2).f1.f1) == 0)) = false := by simpa using c30))
        (try (have c30b2 : (((rd_T122 l0 x5_2).f1.f0) == 0 && (((rd_T122 l0 x5_2).f1.f1) == 0)) = false := by simpa using c30))
        (try (have c30b3 : ¬ (((rd_T122 l0 x5_2).f1.f0) = 0 && (((rd_T122 l0 x5_2).f1.f1) == 0)) := by simpa using c30))
        clear c30
        have H' := aM_ H
        clear H
        (obtain ⟨hcz32_0, hcz32_1, hcz32_2, hcz32_3, hcz32_4, hcz32_5, hcz32_6, hcz32_7, hcz32_8, hcz32_9⟩ := cells10 BK279.out)
        (obtain ⟨hfz32_0, hfz32_1, hfz32_2, hfz32_3, hfz32_4, hfz32_5, hfz32_6, hfz32_7, hfz32_8, hfz32_9⟩ := frozen10 BK279.out)
        go_wp2
        go_meet
        case rel => exact ⟨_, (false), qF, H', ⟨by have := HJ2.out; have := HK2.out; first | omega | exact Nat.le_refl _⟩, ⟨by (with_reducible repeat (first | refine kN_ ?_ _ | refine kD_ ?_ | refine kA_ ?_ _)); refine kP_ (cs := #[.int .i64 ((rd_T122 l0 x5_2).f0), .int .i64 ((rd_T122 l0 x5_2).f1.f0), .int .i64 ((rd_T122 l0 x5_2).f1.f1), .int .i64 ((rd_T122 l0 x5_2).f2.f0), .int .i64 ((rd_T122 l0 x5_2).f2.f1), .int .i64 ((rd_T122 l0 x5_2).f2.f2.f0), .int .i64 ((rd_T122 l0 x5_2).f2.f2.f1), .slice A278_7 ((rd_T122 l0 x5_2).f2.f3).length c278_7, .slice A278_8 ((rd_T122 l0 x5_2).f3).length c278_8, .slice none 0 0]) ?_ 9 _ rfl; (with_reducible repeat (first | refine kN_ ?_ _ | refine kD_ ?_ | refine kA_ ?_ _)); refine kP_ (cs := #[.int .i64 ((rd_T122 l0 x5_2).f0), .int .i64 ((rd_T122 l0 x5_2).f1.f0), .int .i64 ((rd_T122 l0 x5_2).f1.f1), .int .i64 ((rd_T122 l0 x5_2).f2.f0), .int .i64 ((rd_T122 l0 x5_2).f2.f1), .int .i64 ((rd_T122 l0 x5_2).f2.f2.f0), .int .i64 ((rd_T122 l0 x5_2).f2.f2.f1), .slice A278_7 ((rd_T122 l0 x5_2).f2.f3).length c278_7, .slice none 0 0, .slice none 0 0]) ?_ 8 _ rfl; (with_reducible repeat (first | refine kN_ ?_ _ | refine kD_ ?_ | refine kA_ ?_ _)); refine kP_ (cs := #[.int .i64 ((rd_T122 l0 x5_2).f0), .int .i64 ((rd_T122 l0 x5_2).f1.f0), .int .i64 ((rd_T122 l0 x5_2).f1.f1), .int .i64 ((rd_T122 l0 x5_2).f2.f0), .int .i64 ((rd_T122 l0 x5_2).f2.f1), .int .i64 ((rd_T122 l0 x5_2).f2.f2.f0), .int .i64 ((rd_T122 l0 x5_2).f2.f2.f1), .slice none 0 0, .slice none 0 0, .slice none 0 0]) ?_ 7 _ rfl; (with_reducible repeat (first | refine kN_ ?_ _ | refine kD_ ?_ | refine kA_ ?_ _)); refine kP_ (cs := #[.int .i64 ((rd_T122 l0 x5_2).f0), .int .i64 ((rd_T122 l0 x5_2).f1.f0), .int .i64 ((rd_T122 l0 x5_2).f1.f1), .int .i64 ((rd_T122 l0 x5_2).f2.f0), .int .i64 ((rd_T122 l0 x5_2).f2.f1), .int .i64 ((rd_T122 l0 x5_2).f2.f2.f0), .int .i64 0, .slice none 0 0, .slice none 0 0, .slice none 0 0]) ?_ 6 _ rfl; (with_reducible repeat (first | refine kN_ ?_ _ | refine kD_ ?_ | refine kA_ ?_ _)); refine kP_ (cs := #[.int .i64 ((rd_T122 l0 x5_2).f0), .int .i64 ((rd_T122 l0 x5_2).f1.f0), .int .i64 ((rd_T122 l0 x5_2).f1.f1), .int .i64 ((rd_T122 l0 x5_2).f2.f0), .int .i64 ((rd_T122 l0 x5_2).f2.f1), .int .i64 0, .int .i64 0, .slice none 0 0, .slice none 0 0, .slice none 0 0]) ?_ 5 _ rfl; (with_reducible repeat (first | refine kN_ ?_ _ | refine kD_ ?_ | refine kA_ ?_ _)); refine kP_ (cs := #[.int .i64 ((rd_T122 l0 x5_2).f0), .int .i64 ((rd_T122 l0 x5_2).f1.f0), .int .i64 ((rd_T122 l0 x5_2).f1.f1), .int .i64 ((rd_T122 l0 x5_2).f2.f0), .int .i64 0, .int .i64 0, .int .i64 0, .slice none 0 0, .slice none 0 0, .slice none 0 0]) ?_ 4 _ rfl; (with_reducible repeat (first | refine kN_ ?_ _ | refine kD_ ?_ | refine kA_ ?_ _)); refine kP_ (cs := #[.int .i64 ((rd_T122 l0 x5_2).f0), .int .i64 ((rd_T122 l0 x5_2).f1.f0), .int .i64 ((rd_T122 l0 x5_2).f1.f1), .int .i64 0, .int .i64 0, .int .i64 0, .int .i64 0, .slice none 0 0, .slice none 0 0, .slice none 0 0]) ?_ 3 _ rfl; (with_reducible repeat (first | refine kN_ ?_ _ | refine kD_ ?_ | refine kA_ ?_ _)); refine kP_ (cs := #[.int .i64 ((rd_T122 l0 x5_2).f0), .int .i64 ((rd_T122 l0 x5_2).f1.f0), .int .i64 0, .int .i64 0, .int .i64 0, .int .i64 0, .int .i64 0, .slice none 0 0, .slice none 0 0, .slice none 0 0]) ?_ 2 _ rfl; (with_reducible repeat (first | refine kN_ ?_ _ | refine kD_ ?_ | refine kA_ ?_ _)); refine kP_ (cs := #[.int .i64 ((rd_T122 l0 x5_2).f0), .int .i64 0, .int .i64 0, .int .i64 0, .int .i64 0, .int .i64 0, .int .i64 0, .slice none 0 0, .slice none 0 0, .slice none 0 0]) ?_ 1 _ rfl; (with_reducible repeat (first | refine kN_ ?_ _ | refine kD_ ?_ | refine kA_ ?_ _)); refine kP_ (cs := #[.int .i64 0, .int .i64 0, .int .i64 0, .int .i64 0, .int .i64 0, .int .i64 0, .int .i64 0, .slice none 0 0, .slice none 0 0, .slice none 0 0]) ?_ 0 _ rfl; (with_reducible repeat (first | refine kN_ ?_ _ | refine kD_ ?_ | refine kA_ ?_ _)); exact BK279.out⟩, ⟨qB HB⟩⟩
      rw [if_pos c11] at H
      have c11b0 : (((rd_T122 l0 x5_2).f0) == 1) = true := beq_iff_eq.mpr c11
      have c11b1 : (((rd_T122 l0 x5_2).f0) != 1) = false := bne_eq_false_iff_eq.mpr c11
      clear c11
      (first | rw [c11b0] | (simp only [i64_w, i32_w]; rw [c11b0]) | skip)
      replace H := oB_ H
      obtain ⟨t280, A120, H⟩ := H
      have A12 := aM_ A120
      clear A120
      by_cases c13 : t280 = true
      rotate_left
      · replace c13 := Bool.eq_false_iff.mpr c13
        subst c13
        rw [if_neg (show ¬ (false = true) by decide)] at H
        have H' := aM_ H
        clear H
        (obtain ⟨hcz25_0, hcz25_1, hcz25_2, hcz25_3, hcz25_4, hcz25_5, hcz25_6, hcz25_7, hcz25_8, hcz25_9⟩ := cells10 BK279.out)
        (obtain ⟨hfz25_0, hfz25_1, hfz25_2, hfz25_3, hfz25_4, hfz25_5, hfz25_6, hfz25_7, hfz25_8, hfz25_9⟩ := frozen10 BK279.out)
        go_wp2_with (first | ((with_reducible refine gc_ 74 ?_); refine gL_ (some 31) Tryz.func74 #[.agg #[.int .i64 ((rd_T122 l0 x5_2).f1.f0), .int .i64 ((rd_T122 l0 x5_2).f1.f1)]] ?_; (with_reducible refine (spec_AddrOk.calls ((rd_T122 l0 x5_2).f1.f0) ((rd_T122 l0 x5_2).f1.f1) false _ A12.out).mono ?_); rintro e w26 ⟨rfl, hb⟩; refine ⟨_, rfl, ?_⟩; have n_ := aN2_ (blk_below (g := gb279) (o := .cells #[.int .i64 ((rd_T122 l0 x5_2).f0), .int .i64 ((rd_T122 l0 x5_2).f1.f0), .int .i64 ((rd_T122 l0 x5_2).f1.f1), .int .i64 ((rd_T122 l0 x5_2).f2.f0), .int .i64 ((rd_T122 l0 x5_2).f2.f1), .int .i64 ((rd_T122 l0 x5_2).f2.f2.f0), .int .i64 ((rd_T122 l0 x5_2).f2.f2.f1), .slice A278_7 ((rd_T122 l0 x5_2).f2.f3).length c278_7, .slice A278_8 ((rd_T122 l0 x5_2).f3).length c278_8, .slice A278_9 ((rd_T122 l0 x5_2).f4).length c278_9] 122 (0, 0)) (by (with_reducible repeat (first | refine kN_ ?_ _ | refine kD_ ?_ | refine kA_ ?_ _)); refine kP_ (cs := #[.int .i64 ((rd_T122 l0 x5_2).f0), .int .i64 ((rd_T122 l0 x5_2).f1.f0), .int .i64 ((rd_T122 l0 x5_2).f1.f1), .int .i64 ((rd_T122 l0 x5_2).f2.f0), .int .i64 ((rd_T122 l0 x5_2).f2.f1), .int .i64 ((rd_T122 l0 x5_2).f2.f2.f0), .int .i64 ((rd_T122 l0 x5_2).f2.f2.f1), .slice A278_7 ((rd_T122 l0 x5_2).f2.f3).length c278_7, .slice A278_8 ((rd_T122 l0 x5_2).f3).length c278_8, .slice none 0 0]) ?_ 9 _ rfl; (with_reducible repeat (first | refine kN_ ?_ _ | refine kD_ ?_ | refine kA_ ?_ _)); refine kP_ (cs := #[.int .i64 ((rd_T122 l0 x5_2).f0), .int .i64 ((rd_T122 l0 x5_2).f1.f0), .int .i64 ((rd_T122 l0 x5_2).f1.f1), .int .i64 ((rd_T122 l0 x5_2).f2.f0), .int .i64 ((rd_T122 l0 x5_2).f2.f1), .int .i64 ((rd_T122 l0 x5_2).f2.f2.f0), .int .i64 ((rd_T122 l0 x5_2).f2.f2.f1), .slice A278_7 ((rd_T122 l0 x5_2).f2.f3).length c278_7, .slice none 0 0, .slice none 0 0]) ?_ 8 _ rfl; (with_reducible repeat (first | refine kN_ ?_ _ | refine kD_ ?_ | refine kA_ ?_ _)); refine kP_ (cs := #[.int .i64 ((rd_T122 l0 x5_2).f0), .int .i64 ((rd_T122 l0 x5_2).f1.f0), .int .i64 ((rd_T122 l0 x5_2).f1.f1), .int .i64 ((rd_T122 l0 x5_2).f2.f0), .int .i64 ((rd_T122 l0 x5_2).f2.f1), .int .i64 ((rd_T122 l0 x5_2).f2.f2.f0), .int .i64 ((rd_T122 l0 x5_2).f2.f2.f1), .slice none 0 0, .slice none 0 0, .slice none 0 0]) ?_ 7 _ rfl; (with_reducible repeat (first | refine kN_ ?_ _ | refine kD_ ?_ | refine kA_ ?_ _)); refine kP_ (cs := #[.int .i64 ((rd_T122 l0 x5_2).f0), .int .i64 ((rd_T122 l0 x5_2).f1.f0), .int .i64 ((rd_T122 l0 x5_2).f1.f1), .int .i64 ((rd_T122 l0 x5_2).f2.f0), .int .i64 ((rd_T122 l0 x5_2).f2.f1), .int .i64 ((rd_T122 l0 x5_2).f2.f2.f0), .int .i64 0, .slice none 0 0, .slice none 0 0, .slice none 0 0]) ?_ 6 _ rfl; (with_reducible repeat (first | refine kN_ ?_ _ | refine kD_ ?_ | refine kA_ ?_ _)); refine kP_ (cs := #[.int .i64 ((rd_T122 l0 x5_2).f0), .int .i64 ((rd_T122 l0 x5_2).f1.f0), .int .i64 ((rd_T122 l0 x5_2).f1.f1), .int .i64 ((rd_T122 l0 x5_2).f2.f0), .int .i64 ((rd_T122 l0 x5_2).f2.f1), .int .i64 0, .int .i64 0, .slice none 0 0, .slice none 0 0, .slice none 0 0]) ?_ 5 _ rfl; (with_reducible repeat (first | refine kN_ ?_ _ | refine kD_ ?_ | refine kA_ ?_ _)); refine kP_ (cs := #[.int .i64 ((rd_T122 l0 x5_2).f0), .int .i64 ((rd_T122 l0 x5_2).f1.f0), .int .i64 ((rd_T122 l0 x5_2).f1.f1), .int .i64 ((rd_T122 l0 x5_2).f2.f0), .int .i64 0, .int .i64 0, .int .i64 0, .slice none 0 0, .slice none 0 0, .slice none 0 0]) ?_ 4 _ rfl; (with_reducible repeat (first | refine kN_ ?_ _ | refine kD_ ?_ | refine kA_ ?_ _)); refine kP_ (cs := #[.int .i64 ((rd_T122 l0 x5_2).f0), .int .i64 ((rd_T122 l0 x5_2).f1.f0), .int .i64 ((rd_T122 l0 x5_2).f1.f1), .int .i64 0, .int .i64 0, .int .i64 0, .int .i64 0, .slice none 0 0, .slice none 0 0, .slice none 0 0]) ?_ 3 _ rfl; (with_reducible repeat (first | refine kN_ ?_ _ | refine kD_ ?_ | refine kA_ ?_ _)); refine kP_ (cs := #[.int .i64 ((rd_T122 l0 x5_2).f0), .int .i64 ((rd_T122 l0 x5_2).f1.f0), .int .i64 0, .int .i64 0, .int .i64 0, .int .i64 0, .int .i64 0, .slice none 0 0, .slice none 0 0, .slice none 0 0]) ?_ 2 _ rfl; (with_reducible repeat (first | refine kN_ ?_ _ | refine kD_ ?_ | refine kA_ ?_ _)); refine kP_ (cs := #[.int .i64 ((rd_T122 l0 x5_2).f0), .int .i64 0, .int .i64 0, .int .i64 0, .int .i64 0, .int .i64 0, .int .i64 0, .slice none 0 0, .slice none 0 0, .slice none 0 0]) ?_ 1 _ rfl; (with_reducible repeat (first | refine kN_ ?_ _ | refine kD_ ?_ | refine kA_ ?_ _)); refine kP_ (cs := #[.int .i64 0, .int .i64 0, .int .i64 0, .int .i64 0, .int .i64 0, .int .i64 0, .int .i64 0, .slice none 0 0, .slice none 0 0, .slice none 0 0]) ?_ 0 _ rfl; (with_reducible repeat (first | refine kN_ ?_ _ | refine kD_ ?_ | refine kA_ ?_ _)); exact BK279.out) hb) (bT_ (qB HB) hb); clear BK279 HB; obtain ⟨BK279, HB⟩ := n_))
        go_meet
        case rel => exact ⟨_, (false), qF, H', ⟨by have := HJ2.out; have := HK2.out; first | omega | exact Nat.le_refl _⟩, ⟨by (with_reducible repeat (first | refine kN_ ?_ _ | refine kD_ ?_ | refine kA_ ?_ _)); exact BK279.out⟩, ⟨qB HB⟩⟩
      subst c13
      rw [if_pos rfl] at H
      by_cases c14 : ((rd_T122 l0 x5_2).f1.f0) = 1
      · rw [if_pos c14] at H
        have c14b0 : (((rd_T122 l0 x5_2).f1.f0) == 1) = true := beq_iff_eq.mpr c14
        have c14b1 : (((rd_T122 l0 x5_2).f1.f0) != 1) = false := bne_eq_false_iff_eq.mpr c14
        clear c14
        have H' := aM_ H
        clear H
        (obtain ⟨hcz15_0, hcz15_1, hcz15_2, hcz15_3, hcz15_4, hcz15_5, hcz15_6, hcz15_7, hcz15_8, hcz15_9⟩ := cells10 BK279.out)
        (obtain ⟨hfz15_0, hfz15_1, hfz15_2, hfz15_3, hfz15_4, hfz15_5, hfz15_6, hfz15_7, hfz15_8, hfz15_9⟩ := frozen10 BK279.out)
        go_wp2_with (first | ((with_reducible refine gc_ 74 ?_); refine gL_ (some 31) Tryz.func74 #[.agg #[.int .i64 ((rd_T122 l0 x5_2).f1.f0), .int .i64 ((rd_T122 l0 x5_2).f1.f1)]] ?_; (with_reducible refine (spec_AddrOk.calls ((rd_T122 l0 x5_2).f1.f0) ((rd_T122 l0 x5_2).f1.f1) true _ A12.out).mono ?_); rintro e w16 ⟨rfl, hb⟩; refine ⟨_, rfl, ?_⟩; have n_ := aN2_ (blk_below (g := gb279) (o := .cells #[.int .i64 ((rd_T122 l0 x5_2).f0), .int .i64 ((rd_T122 l0 x5_2).f1.f0), .int .i64 ((rd_T122 l0 x5_2).f1.f1), .int .i64 ((rd_T122 l0 x5_2).f2.f0), .int .i64 ((rd_T122 l0 x5_2).f2.f1), .int .i64 ((rd_T122 l0 x5_2).f2.f2.f0), .int .i64 ((rd_T122 l0 x5_2).f2.f2.f1), .slice A278_7 ((rd_T122 l0 x5_2).f2.f3).length c278_7, .slice A278_8 ((rd_T122 l0 x5_2).f3).length c278_8, .slice A278_9 ((rd_T122 l0 x5_2).f4).length c278_9] 122 (0, 0)) (by (with_reducible repeat (first | refine kN_ ?_ _ | refine kD_ ?_ | refine kA_ ?_ _)); refine kP_ (cs := #[.int .i64 ((rd_T122 l0 x5_2).f0), .int .i64 ((rd_T122 l0 x5_2).f1.f0), .int .i64 ((rd_T122 l0 x5_2).f1.f1), .int .i64 ((rd_T122 l0 x5_2).f2.f0), .int .i64 ((rd_T122 l0 x5_2).f2.f1), .int .i64 ((rd_T122 l0 x5_2).f2.f2.f0), .int .i64 ((rd_T122 l0 x5_2).f2.f2.f1), .slice A278_7 ((rd_T122 l0 x5_2).f2.f3).length c278_7, .slice A278_8 ((rd_T122 l0 x5_2).f3).length c278_8, .slice none 0 0]) ?_ 9 _ rfl; (with_reducible repeat (first | refine kN_ ?_ _ | refine kD_ ?_ | refine kA_ ?_ _)); refine kP_ (cs := #[.int .i64 ((rd_T122 l0 x5_2).f0), .int .i64 ((rd_T122 l0 x5_2).f1.f0), .int .i64 ((rd_T122 l0 x5_2).f1.f1), .int .i64 ((rd_T122 l0 x5_2).f2.f0), .int .i64 ((rd_T122 l0 x5_2).f2.f1), .int .i64 ((rd_T122 l0 x5_2).f2.f2.f0), .int .i64 ((rd_T122 l0 x5_2).f2.f2.f1), .slice A278_7 ((rd_T122 l0 x5_2).f2.f3).length c278_7, .slice none 0 0, .slice none 0 0]) ?_ 8 _ rfl; (with_reducible repeat (first | refine kN_ ?_ _ | refine kD_ ?_ | refine kA_ ?_ _)); refine kP_ (cs := #[.int .i64 ((rd_T122 l0 x5_2).f0), .int .i64 ((rd_T122 l0 x5_2).f1.f0), .int .i64 ((rd_T122 l0 x5_2).f1.f1), .int .i64 ((rd_T122 l0 x5_2).f2.f0), .int .i64 ((rd_T122 l0 x5_2).f2.f1), .int .i64 ((rd_T122 l0 x5_2).f2.f2.f0), .int .i64 ((rd_T122 l0 x5_2).f2.f2.f1), .slice none 0 0, .slice none 0 0, .slice none 0 0]) ?_ 7 _ rfl; (with_reducible repeat (first | refine kN_ ?_ _ | refine kD_ ?_ | refine kA_ ?_ _)); refine kP_ (cs := #[.int .i64 ((rd_T122 l0 x5_2).f0), .int .i64 ((rd_T122 l0 x5_2).f1.f0), .int .i64 ((rd_T122 l0 x5_2).f1.f1), .int .i64 ((rd_T122 l0 x5_2).f2.f0), .int .i64 ((rd_T122 l0 x5_2).f2.f1), .int .i64 ((rd_T122 l0 x5_2).f2.f2.f0), .int .i64 0, .slice none 0 0, .slice none 0 0, .slice none 0 0]) ?_ 6 _ rfl; (with_reducible repeat (first | refine kN_ ?_ _ | refine kD_ ?_ | refine kA_ ?_ _)); refine kP_ (cs := #[.int .i64 ((rd_T122 l0 x5_2).f0), .int .i64 ((rd_T122 l0 x5_2).f1.f0), .int .i64 ((rd_T122 l0 x5_2).f1.f1), .int .i64 ((rd_T122 l0 x5_2).f2.f0), .int .i64 ((rd_T122 l0 x5_2).f2.f1), .int .i64 0, .int .i64 0, .slice none 0 0, .slice none 0 0, .slice none 0 0]) ?_ 5 _ rfl; (with_reducible repeat (first | refine kN_ ?_ _ | refine kD_ ?_ | refine kA_ ?_ _)); refine kP_ (cs := #[.int .i64 ((rd_T122 l0 x5_2).f0), .int .i64 ((rd_T122 l0 x5_2).f1.f0), .int .i64 ((rd_T122 l0 x5_2).f1.f1), .int .i64 ((rd_T122 l0 x5_2).f2.f0), .int .i64 0, .int .i64 0, .int .i64 0, .slice none 0 0, .slice none 0 0, .slice none 0 0]) ?_ 4 _ rfl; (with_reducible repeat (first | refine kN_ ?_ _ | refine kD_ ?_ | refine kA_ ?_ _)); refine kP_ (cs := #[.int .i64 ((rd_T122 l0 x5_2).f0), .int .i64 ((rd_T122 l0 x5_2).f1.f0), .int .i64 ((rd_T122 l0 x5_2).f1.f1), .int .i64 0, .int .i64 0, .int .i64 0, .int .i64 0, .slice none 0 0, .slice none 0 0, .slice none 0 0]) ?_ 3 _ rfl; (with_reducible repeat (first | refine kN_ ?_ _ | refine kD_ ?_ | refine kA_ ?_ _)); refine kP_ (cs := #[.int .i64 ((rd_T122 l0 x5_2).f0), .int .i64 ((rd_T122 l0 x5_2).f1.f0), .int .i64 0, .int .i64 0, .int .i64 0, .int .i64 0, .int .i64 0, .slice none 0 0, .slice none 0 0, .slice none 0 0]) ?_ 2 _ rfl; (with_reducible repeat (first | refine kN_ ?_ _ | refine kD_ ?_ | refine kA_ ?_ _)); refine kP_ (cs := #[.int .i64 ((rd_T122 l0 x5_2).f0), .int .i64 0, .int .i64 0, .int .i64 0, .int .i64 0, .int .i64 0, .int .i64 0, .slice none 0 0, .slice none 0 0, .slice none 0 0]) ?_ 1 _ rfl; (with_reducible repeat (first | refine kN_ ?_ _ | refine kD_ ?_ | refine kA_ ?_ _)); refine kP_ (cs := #[.int .i64 0, .int .i64 0, .int .i64 0, .int .i64 0, .int .i64 0, .int .i64 0, .int .i64 0, .slice none 0 0, .slice none 0 0, .slice none 0 0]) ?_ 0 _ rfl; (with_reducible repeat (first | refine kN_ ?_ _ | refine kD_ ?_ | refine kA_ ?_ _)); exact BK279.out) hb) (bT_ (qB HB) hb); clear BK279 HB; obtain ⟨BK279, HB⟩ := n_; (obtain ⟨hcz17_0, hcz17_1, hcz17_2, hcz17_3, hcz17_4, hcz17_5, hcz17_6, hcz17_7, hcz17_8, hcz17_9⟩ := cells10 BK279.out); (obtain ⟨hfz17_0, hfz17_1, hfz17_2, hfz17_3, hfz17_4, hfz17_5, hfz17_6, hfz17_7, hfz17_8, hfz17_9⟩ := frozen10 BK279.out)))
        go_meet
        case rel => exact ⟨_, (false), qF, H', ⟨by have := HJ2.out; have := HK2.out; first | omega | exact Nat.le_refl _⟩, ⟨by (with_reducible repeat (first | refine kN_ ?_ _ | refine kD_ ?_ | refine kA_ ?_ _)); exact BK279.out⟩, ⟨qB HB⟩⟩
      rw [if_neg c14] at H
      have c14b0 : (((rd_T122 l0 x5_2).f1.f0) == 1) = false := beq_eq_false_iff_ne.mpr c14
      have c14b1 : (((rd_T122 l0 x5_2).f1.f0) != 1) = true := bne_iff_ne.mpr c14
      by_cases c18 : (((rd_T122 l0 x5_2).f3).length : Int) = 0
      · rw [if_pos c18] at H
        have c18b0 : ((((rd_T122 l0 x5_2).f3).length : Int) == 0) = true := beq_iff_eq.mpr c18
        have c18b1 : ((((rd_T122 l0 x5_2).f3).length : Int) != 0) = false := bne_eq_false_iff_eq.mpr c18
        clear c18
        have H' := aM_ H
        clear H
        (obtain ⟨hcz19_0, hcz19_1, hcz19_2, hcz19_3, hcz19_4, hcz19_5, hcz19_6, hcz19_7, hcz19_8, hcz19_9⟩ := cells10 BK279.out)
        (obtain ⟨hfz19_0, hfz19_1, hfz19_2, hfz19_3, hfz19_4, hfz19_5, hfz19_6, hfz19_7, hfz19_8, hfz19_9⟩ := frozen10 BK279.out)
        go_wp2_with (first | ((with_reducible refine gc_ 74 ?_); refine gL_ (some 31) Tryz.func74 #[.agg #[.int .i64 ((rd_T122 l0 x5_2).f1.f0), .int .i64 ((rd_T122 l0 x5_2).f1.f1)]] ?_; (with_reducible refine (spec_AddrOk.calls ((rd_T122 l0 x5_2).f1.f0) ((rd_T122 l0 x5_2).f1.f1) true _ A12.out).mono ?_); rintro e w20 ⟨rfl, hb⟩; refine ⟨_, rfl, ?_⟩; have n_ := aN2_ (blk_below (g := gb279) (o := .cells #[.int .i64 ((rd_T122 l0 x5_2).f0), .int .i64 ((rd_T122 l0 x5_2).f1.f0), .int .i64 ((rd_T122 l0 x5_2).f1.f1), .int .i64 ((rd_T122 l0 x5_2).f2.f0), .int .i64 ((rd_T122 l0 x5_2).f2.f1), .int .i64 ((rd_T122 l0 x5_2).f2.f2.f0), .int .i64 ((rd_T122 l0 x5_2).f2.f2.f1), .slice A278_7 ((rd_T122 l0 x5_2).f2.f3).length c278_7, .slice A278_8 ((rd_T122 l0 x5_2).f3).length c278_8, .slice A278_9 ((rd_T122 l0 x5_2).f4).length c278_9] 122 (0, 0)) (by (with_reducible repeat (first | refine kN_ ?_ _ | refine kD_ ?_ | refine kA_ ?_ _)); refine kP_ (cs := #[.int .i64 ((rd_T122 l0 x5_2).f0), .int .i64 ((rd_T122 l0 x5_2).f1.f0), .int .i64 ((rd_T122 l0 x5_2).f1.f1), .int .i64 ((rd_T122 l0 x5_2).f2.f0), .int .i64 ((rd_T122 l0 x5_2).f2.f1), .int .i64 ((rd_T122 l0 x5_2).f2.f2.f0), .int .i64 ((rd_T122 l0 x5_2).f2.f2.f1), .slice A278_7 ((rd_T122 l0 x5_2).f2.f3).length c278_7, .slice A278_8 ((rd_T122 l0 x5_2).f3).length c278_8, .slice none 0 0]) ?_ 9 _ rfl; (with_reducible repeat (first | refine kN_ ?_ _ | refine kD_ ?_ | refine kA_ ?_ _)); refine kP_ (cs := #[.int .i64 ((rd_T122 l0 x5_2).f0), .int .i64 ((rd_T122 l0 x5_2).f1.f0), .int .i64 ((rd_T122 l0 x5_2).f1.f1), .int .i64 ((rd_T122 l0 x5_2).f2.f0), .int .i64 ((rd_T122 l0 x5_2).f2.f1), .int .i64 ((rd_T122 l0 x5_2).f2.f2.f0), .int .i64 ((rd_T122 l0 x5_2).f2.f2.f1), .slice A278_7 ((rd_T122 l0 x5_2).f2.f3).length c278_7, .slice none 0 0, .slice none 0 0]) ?_ 8 _ rfl; (with_reducible repeat (first | refine kN_ ?_ _ | refine kD_ ?_ | refine kA_ ?_ _)); refine kP_ (cs := #[.int .i64 ((rd_T122 l0 x5_2).f0), .int .i64 ((rd_T122 l0 x5_2).f1.f0), .int .i64 ((rd_T122 l0 x5_2).f1.f1), .int .i64 ((rd_T122 l0 x5_2).f2.f0), .int .i64 ((rd_T122 l0 x5_2).f2.f1), .int .i64 ((rd_T122 l0 x5_2).f2.f2.f0), .int .i64 ((rd_T122 l0 x5_2).f2.f2.f1), .slice none 0 0, .slice none 0 0, .slice none 0 0]) ?_ 7 _ rfl; (with_reducible repeat (first | refine kN_ ?_ _ | refine kD_ ?_ | refine kA_ ?_ _)); refine kP_ (cs := #[.int .i64 ((rd_T122 l0 x5_2).f0), .int .i64 ((rd_T122 l0 x5_2).f1.f0), .int .i64 ((rd_T122 l0 x5_2).f1.f1), .int .i64 ((rd_T122 l0 x5_2).f2.f0), .int .i64 ((rd_T122 l0 x5_2).f2.f1), .int .i64 ((rd_T122 l0 x5_2).f2.f2.f0), .int .i64 0, .slice none 0 0, .slice none 0 0, .slice none 0 0]) ?_ 6 _ rfl; (with_reducible repeat (first | refine kN_ ?_ _ | refine kD_ ?_ | refine kA_ ?_ _)); refine kP_ (cs := #[.int .i64 ((rd_T122 l0 x5_2).f0), .int .i64 ((rd_T122 l0 x5_2).f1.f0), .int .i64 ((rd_T122 l0 x5_2).f1.f1), .int .i64 ((rd_T122 l0 x5_2).f2.f0), .int .i64 ((rd_T122 l0 x5_2).f2.f1), .int .i64 0, .int .i64 0, .slice none 0 0, .slice none 0 0, .slice none 0 0]) ?_ 5 _ rfl; (with_reducible repeat (first | refine kN_ ?_ _ | refine kD_ ?_ | refine kA_ ?_ _)); refine kP_ (cs := #[.int .i64 ((rd_T122 l0 x5_2).f0), .int .i64 ((rd_T122 l0 x5_2).f1.f0), .int .i64 ((rd_T122 l0 x5_2).f1.f1), .int .i64 ((rd_T122 l0 x5_2).f2.f0), .int .i64 0, .int .i64 0, .int .i64 0, .slice none 0 0, .slice none 0 0, .slice none 0 0]) ?_ 4 _ rfl; (with_reducible repeat (first | refine kN_ ?_ _ | refine kD_ ?_ | refine kA_ ?_ _)); refine kP_ (cs := #[.int .i64 ((rd_T122 l0 x5_2).f0), .int .i64 ((rd_T122 l0 x5_2).f1.f0), .int .i64 ((rd_T122 l0 x5_2).f1.f1), .int .i64 0, .int .i64 0, .int .i64 0, .int .i64 0, .slice none 0 0, .slice none 0 0, .slice none 0 0]) ?_ 3 _ rfl; (with_reducible repeat (first | refine kN_ ?_ _ | refine kD_ ?_ | refine kA_ ?_ _)); refine kP_ (cs := #[.int .i64 ((rd_T122 l0 x5_2).f0), .int .i64 ((rd_T122 l0 x5_2).f1.f0), .int .i64 0, .int .i64 0, .int .i64 0, .int .i64 0, .int .i64 0, .slice none 0 0, .slice none 0 0, .slice none 0 0]) ?_ 2 _ rfl; (with_reducible repeat (first | refine kN_ ?_ _ | refine kD_ ?_ | refine kA_ ?_ _)); refine kP_ (cs := #[.int .i64 ((rd_T122 l0 x5_2).f0), .int .i64 0, .int .i64 0, .int .i64 0, .int .i64 0, .int .i64 0, .int .i64 0, .slice none 0 0, .slice none 0 0, .slice none 0 0]) ?_ 1 _ rfl; (with_reducible repeat (first | refine kN_ ?_ _ | refine kD_ ?_ | refine kA_ ?_ _)); refine kP_ (cs := #[.int .i64 0, .int .i64 0, .int .i64 0, .int .i64 0, .int .i64 0, .int .i64 0, .int .i64 0, .slice none 0 0, .slice none 0 0, .slice none 0 0]) ?_ 0 _ rfl; (with_reducible repeat (first | refine kN_ ?_ _ | refine kD_ ?_ | refine kA_ ?_ _)); exact BK279.out) hb) (bT_ (qB HB) hb); clear BK279 HB; obtain ⟨BK279, HB⟩ := n_; (obtain ⟨hcz21_0, hcz21_1, hcz21_2, hcz21_3, hcz21_4, hcz21_5, hcz21_6, hcz21_7, hcz21_8, hcz21_9⟩ := cells10 BK279.out); (obtain ⟨hfz21_0, hfz21_1, hfz21_2, hfz21_3, hfz21_4, hfz21_5, hfz21_6, hfz21_7, hfz21_8, hfz21_9⟩ := frozen10 BK279.out)))
        go_meet
        case rel => exact ⟨_, (((((rd_T122 l0 x5_2).f4).length : Int) == 0)), qF, H', ⟨by have := HJ2.out; have := HK2.out; first | omega | exact Nat.le_refl _⟩, ⟨by (with_reducible repeat (first | refine kN_ ?_ _ | refine kD_ ?_ | refine kA_ ?_ _)); exact BK279.out⟩, ⟨qB HB⟩⟩
      rw [if_neg c18] at H
      have c18b0 : ((((rd_T122 l0 x5_2).f3).length : Int) == 0) = false := beq_eq_false_iff_ne.mpr c18
      have c18b1 : ((((rd_T122 l0 x5_2).f3).length : Int) != 0) = true := bne_iff_ne.mpr c18
      have c18b2 : ¬ (((rd_T122 l0 x5_2).f3) = []) := fun h_ => c18 (by rw [h_]; rfl)
      have H' := aM_ H
      clear H
      (obtain ⟨hcz22_0, hcz22_1, hcz22_2, hcz22_3, hcz22_4, hcz22_5, hcz22_6, hcz22_7, hcz22_8, hcz22_9⟩ := cells10 BK279.out)
      (obtain ⟨hfz22_0, hfz22_1, hfz22_2, hfz22_3, hfz22_4, hfz22_5, hfz22_6, hfz22_7, hfz22_8, hfz22_9⟩ := frozen10 BK279.out)
      go_wp2_with (first | ((with_reducible refine gc_ 74 ?_); refine gL_ (some 31) Tryz.func74 #[.agg #[.int .i64 ((rd_T122 l0 x5_2).f1.f0), .int .i64 ((rd_T122 l0 x5_2).f1.f1)]] ?_; (with_reducible refine (spec_AddrOk.calls ((rd_T122 l0 x5_2).f1.f0) ((rd_T122 l0 x5_2).f1.f1) true _ A12.out).mono ?_); rintro e w23 ⟨rfl, hb⟩; refine ⟨_, rfl, ?_⟩; have n_ := aN2_ (blk_below (g := gb279) (o := .cells #[.int .i64 ((rd_T122 l0 x5_2).f0), .int .i64 ((rd_T122 l0 x5_2).f1.f0), .int .i64 ((rd_T122 l0 x5_2).f1.f1), .int .i64 ((rd_T122 l0 x5_2).f2.f0), .int .i64 ((rd_T122 l0 x5_2).f2.f1), .int .i64 ((rd_T122 l0 x5_2).f2.f2.f0), .int .i64 ((rd_T122 l0 x5_2).f2.f2.f1), .slice A278_7 ((rd_T122 l0 x5_2).f2.f3).length c278_7, .slice A278_8 ((rd_T122 l0 x5_2).f3).length c278_8, .slice A278_9 ((rd_T122 l0 x5_2).f4).length c278_9] 122 (0, 0)) (by (with_reducible repeat (first | refine kN_ ?_ _ | refine kD_ ?_ | refine kA_ ?_ _)); refine kP_ (cs := #[.int .i64 ((rd_T122 l0 x5_2).f0), .int .i64 ((rd_T122 l0 x5_2).f1.f0), .int .i64 ((rd_T122 l0 x5_2).f1.f1), .int .i64 ((rd_T122 l0 x5_2).f2.f0), .int .i64 ((rd_T122 l0 x5_2).f2.f1), .int .i64 ((rd_T122 l0 x5_2).f2.f2.f0), .int .i64 ((rd_T122 l0 x5_2).f2.f2.f1), .slice A278_7 ((rd_T122 l0 x5_2).f2.f3).length c278_7, .slice A278_8 ((rd_T122 l0 x5_2).f3).length c278_8, .slice none 0 0]) ?_ 9 _ rfl; (with_reducible repeat (first | refine kN_ ?_ _ | refine kD_ ?_ | refine kA_ ?_ _)); refine kP_ (cs := #[.int .i64 ((rd_T122 l0 x5_2).f0), .int .i64 ((rd_T122 l0 x5_2).f1.f0), .int .i64 ((rd_T122 l0 x5_2).f1.f1), .int .i64 ((rd_T122 l0 x5_2).f2.f0), .int .i64 ((rd_T122 l0 x5_2).f2.f1), .int .i64 ((rd_T122 l0 x5_2).f2.f2.f0), .int .i64 ((rd_T122 l0 x5_2).f2.f2.f1), .slice A278_7 ((rd_T122 l0 x5_2).f2.f3).length c278_7, .slice none 0 0, .slice none 0 0]) ?_ 8 _ rfl; (with_reducible repeat (first | refine kN_ ?_ _ | refine kD_ ?_ | refine kA_ ?_ _)); refine kP_ (cs := #[.int .i64 ((rd_T122 l0 x5_2).f0), .int .i64 ((rd_T122 l0 x5_2).f1.f0), .int .i64 ((rd_T122 l0 x5_2).f1.f1), .int .i64 ((rd_T122 l0 x5_2).f2.f0), .int .i64 ((rd_T122 l0 x5_2).f2.f1), .int .i64 ((rd_T122 l0 x5_2).f2.f2.f0), .int .i64 ((rd_T122 l0 x5_2).f2.f2.f1), .slice none 0 0, .slice none 0 0, .slice none 0 0]) ?_ 7 _ rfl; (with_reducible repeat (first | refine kN_ ?_ _ | refine kD_ ?_ | refine kA_ ?_ _)); refine kP_ (cs := #[.int .i64 ((rd_T122 l0 x5_2).f0), .int .i64 ((rd_T122 l0 x5_2).f1.f0), .int .i64 ((rd_T122 l0 x5_2).f1.f1), .int .i64 ((rd_T122 l0 x5_2).f2.f0), .int .i64 ((rd_T122 l0 x5_2).f2.f1), .int .i64 ((rd_T122 l0 x5_2).f2.f2.f0), .int .i64 0, .slice none 0 0, .slice none 0 0, .slice none 0 0]) ?_ 6 _ rfl; (with_reducible repeat (first | refine kN_ ?_ _ | refine kD_ ?_ | refine kA_ ?_ _)); refine kP_ (cs := #[.int .i64 ((rd_T122 l0 x5_2).f0), .int .i64 ((rd_T122 l0 x5_2).f1.f0), .int .i64 ((rd_T122 l0 x5_2).f1.f1), .int .i64 ((rd_T122 l0 x5_2).f2.f0), .int .i64 ((rd_T122 l0 x5_2).f2.f1), .int .i64 0, .int .i64 0, .slice none 0 0, .slice none 0 0, .slice none 0 0]) ?_ 5 _ rfl; (with_reducible repeat (first | refine kN_ ?_ _ | refine kD_ ?_ | refine kA_ ?_ _)); refine kP_ (cs := #[.int .i64 ((rd_T122 l0 x5_2).f0), .int .i64 ((rd_T122 l0 x5_2).f1.f0), .int .i64 ((rd_T122 l0 x5_2).f1.f1), .int .i64 ((rd_T122 l0 x5_2).f2.f0), .int .i64 0, .int .i64 0, .int .i64 0, .slice none 0 0, .slice none 0 0, .slice none 0 0]) ?_ 4 _ rfl; (with_reducible repeat (first | refine kN_ ?_ _ | refine kD_ ?_ | refine kA_ ?_ _)); refine kP_ (cs := #[.int .i64 ((rd_T122 l0 x5_2).f0), .int .i64 ((rd_T122 l0 x5_2).f1.f0), .int .i64 ((rd_T122 l0 x5_2).f1.f1), .int .i64 0, .int .i64 0, .int .i64 0, .int .i64 0, .slice none 0 0, .slice none 0 0, .slice none 0 0]) ?_ 3 _ rfl; (with_reducible repeat (first | refine kN_ ?_ _ | refine kD_ ?_ | refine kA_ ?_ _)); refine kP_ (cs := #[.int .i64 ((rd_T122 l0 x5_2).f0), .int .i64 ((rd_T122 l0 x5_2).f1.f0), .int .i64 0, .int .i64 0, .int .i64 0, .int .i64 0, .int .i64 0, .slice none 0 0, .slice none 0 0, .slice none 0 0]) ?_ 2 _ rfl; (with_reducible repeat (first | refine kN_ ?_ _ | refine kD_ ?_ | refine kA_ ?_ _)); refine kP_ (cs := #[.int .i64 ((rd_T122 l0 x5_2).f0), .int .i64 0, .int .i64 0, .int .i64 0, .int .i64 0, .int .i64 0, .int .i64 0, .slice none 0 0, .slice none 0 0, .slice none 0 0]) ?_ 1 _ rfl; (with_reducible repeat (first | refine kN_ ?_ _ | refine kD_ ?_ | refine kA_ ?_ _)); refine kP_ (cs := #[.int .i64 0, .int .i64 0, .int .i64 0, .int .i64 0, .int .i64 0, .int .i64 0, .int .i64 0, .slice none 0 0, .slice none 0 0, .slice none 0 0]) ?_ 0 _ rfl; (with_reducible repeat (first | refine kN_ ?_ _ | refine kD_ ?_ | refine kA_ ?_ _)); exact BK279.out) hb) (bT_ (qB HB) hb); clear BK279 HB; obtain ⟨BK279, HB⟩ := n_; (obtain ⟨hcz24_0, hcz24_1, hcz24_2, hcz24_3, hcz24_4, hcz24_5, hcz24_6, hcz24_7, hcz24_8, hcz24_9⟩ := cells10 BK279.out); (obtain ⟨hfz24_0, hfz24_1, hfz24_2, hfz24_3, hfz24_4, hfz24_5, hfz24_6, hfz24_7, hfz24_8, hfz24_9⟩ := frozen10 BK279.out)))
      go_meet
      case rel => exact ⟨_, (false), qF, H', ⟨by have := HJ2.out; have := HK2.out; first | omega | exact Nat.le_refl _⟩, ⟨by (with_reducible repeat (first | refine kN_ ?_ _ | refine kD_ ?_ | refine kA_ ?_ _)); exact BK279.out⟩, ⟨qB HB⟩⟩
     case rest =>
      clear HC8
      try clear c1
      try clear c2
      try clear p2
      try clear q2
      try clear hx2
      try clear c3
      try clear c4
      try clear c4b0
      try clear c4b1
      try clear c5
      try clear c6
      try clear c6b0
      try clear c7
      try clear c7b0
      try clear c11
      try clear c11b0
      try clear c11b1
      try clear c12
      try clear c13
      try clear c14
      try clear c14b0
      try clear c14b1
      try clear c18
      try clear c18b0
      try clear c18b1
      try clear c18b2
      try clear c27
      try clear c27b0
      try clear c27b1
      try clear p27
      try clear q27
      try clear hx27
      try clear c29
      try clear c29b0
      try clear c29b1
      try clear c30
      try clear c30b0
      try clear c30b1
      try clear c30b2
      try clear hcz10_0
      try clear hcz10_1
      try clear hcz10_2
      try clear hcz10_3
      try clear hcz10_4
      try clear hcz10_5
      try clear hcz10_6
      try clear hcz10_7
      try clear hcz10_8
      try clear hcz10_9
      try clear hcz15_0
      try clear hcz15_1
      try clear hcz15_2
      try clear hcz15_3
      try clear hcz15_4
      try clear hcz15_5
      try clear hcz15_6
      try clear hcz15_7
      try clear hcz15_8
      try clear hcz15_9
      try clear hcz17_0
      try clear hcz17_1
      try clear hcz17_2
      try clear hcz17_3
      try clear hcz17_4
      try clear hcz17_5
      try clear hcz17_6
      try clear hcz17_7
      try clear hcz17_8
      try clear hcz17_9
      try clear hcz19_0
      try clear hcz19_1
      try clear hcz19_2
      try clear hcz19_3
      try clear hcz19_4
      try clear hcz19_5
      try clear hcz19_6
      try clear hcz19_7
      try clear hcz19_8
      try clear hcz19_9
      try clear hcz21_0
      try clear hcz21_1
      try clear hcz21_2
      try clear hcz21_3
      try clear hcz21_4
      try clear hcz21_5
      try clear hcz21_6
      try clear hcz21_7
      try clear hcz21_8
      try clear hcz21_9
      try clear hcz22_0
      try clear hcz22_1
      try clear hcz22_2
      try clear hcz22_3
      try clear hcz22_4
      try clear hcz22_5
      try clear hcz22_6
      try clear hcz22_7
      try clear hcz22_8
      try clear hcz22_9
      try clear hcz24_0
      try clear hcz24_1
      try clear hcz24_2
      try clear hcz24_3
      try clear hcz24_4
      try clear hcz24_5
      try clear hcz24_6
      try clear hcz24_7
      try clear hcz24_8
      try clear hcz24_9
      try clear hcz25_0
      try clear hcz25_1
      try clear hcz25_2
      try clear hcz25_3
      try clear hcz25_4
      try clear hcz25_5
      try clear hcz25_6
      try clear hcz25_7
      try clear hcz25_8
      try clear hcz25_9
      try clear hcz28_0
      try clear hcz28_1
      try clear hcz28_2
      try clear hcz28_3
      try clear hcz28_4
      try clear hcz28_5
      try clear hcz28_6
      try clear hcz28_7
      try clear hcz28_8
      try clear hcz28_9
      try clear hcz31_0
      try clear hcz31_1
      try clear hcz31_2
      try clear hcz31_3
      try clear hcz31_4
      try clear hcz31_5
      try clear hcz31_6
      try clear hcz31_7
      try clear hcz31_8
      try clear hcz31_9
      try clear hcz32_0
      try clear hcz32_1
      try clear hcz32_2
      try clear hcz32_3
      try clear hcz32_4
      try clear hcz32_5
      try clear hcz32_6
      try clear hcz32_7
      try clear hcz32_8
      try clear hcz32_9
      try clear hfz10_0
      try clear hfz10_1
      try clear hfz10_2
      try clear hfz10_3
      try clear hfz10_4
      try clear hfz10_5
      try clear hfz10_6
      try clear hfz10_7
      try clear hfz10_8
      try clear hfz10_9
      try clear hfz15_0
      try clear hfz15_1
      try clear hfz15_2
      try clear hfz15_3
      try clear hfz15_4
      try clear hfz15_5
      try clear hfz15_6
      try clear hfz15_7
      try clear hfz15_8
      try clear hfz15_9
      try clear hfz17_0
      try clear hfz17_1
      try clear hfz17_2
      try clear hfz17_3
      try clear hfz17_4
      try clear hfz17_5
      try clear hfz17_6
      try clear hfz17_7
      try clear hfz17_8
      try clear hfz17_9
      try clear hfz19_0
      try clear hfz19_1
      try clear hfz19_2
      try clear hfz19_3
      try clear hfz19_4
      try clear hfz19_5
      try clear hfz19_6
      try clear hfz19_7
      try clear hfz19_8
      try clear hfz19_9
      try clear hfz21_0
      try clear hfz21_1
      try clear hfz21_2
      try clear hfz21_3
      try clear hfz21_4
      try clear hfz21_5
      try clear hfz21_6
      try clear hfz21_7
      try clear hfz21_8
      try clear hfz21_9
      try clear hfz22_0
      try clear hfz22_1
      try clear hfz22_2
      try clear hfz22_3
      try clear hfz22_4
      try clear hfz22_5
      try clear hfz22_6
      try clear hfz22_7
      try clear hfz22_8
      try clear hfz22_9
      try clear hfz24_0
      try clear hfz24_1
      try clear hfz24_2
      try clear hfz24_3
      try clear hfz24_4
      try clear hfz24_5
      try clear hfz24_6
      try clear hfz24_7
      try clear hfz24_8
      try clear hfz24_9
      try clear hfz25_0
      try clear hfz25_1
      try clear hfz25_2
      try clear hfz25_3
      try clear hfz25_4
      try clear hfz25_5
      try clear hfz25_6
      try clear hfz25_7
      try clear hfz25_8
      try clear hfz25_9
      try clear hfz28_0
      try clear hfz28_1
      try clear hfz28_2
      try clear hfz28_3
      try clear hfz28_4
      try clear hfz28_5
      try clear hfz28_6
      try clear hfz28_7
      try clear hfz28_8
      try clear hfz28_9
      try clear hfz31_0
      try clear hfz31_1
      try clear hfz31_2
      try clear hfz31_3
      try clear hfz31_4
      try clear hfz31_5
      try clear hfz31_6
      try clear hfz31_7
      try clear hfz31_8
      try clear hfz31_9
      try clear hfz32_0
      try clear hfz32_1
      try clear hfz32_2
      try clear hfz32_3
      try clear hfz32_4
      try clear hfz32_5
      try clear hfz32_6
      try clear hfz32_7
      try clear hfz32_8
      try clear hfz32_9
      try clear hx278_0
      try clear hx278_1
      try clear hx278_2
      try clear hx278_3
      try clear hx278_4
      try clear hx278_5
      try clear hx278_6
      try clear hx278_7
      try clear hx278_8
      try clear hx278_9
      try clear p2
      try clear p278
      try clear q278
      obtain ⟨kq, x7_7, rfl, HA, HJ7, BK279, HB⟩ := hcut
      cases kq with
      | zero => exact absurd HA.out (by simp [spec_l4Form.j2])
      | succ kj7 =>
       have H := HA.out
       clear HA
       simp only [spec_l4Form.j2] at H
       by_cases c33 : x7_7 = true
       rotate_left
       · replace c33 := Bool.eq_false_iff.mpr c33
         subst c33
         rw [if_neg (show ¬ (false = true) by decide)] at H
         obtain rfl := oI_ H
         go_wp2
         go_ret
         exact ⟨qE, qB HB⟩
       subst c33
       rw [if_pos rfl] at H
       replace H := oB_ H
       obtain ⟨t281, A340, H⟩ := H
       have A34 := aM_ A340
       clear A340
       by_cases c35 : t281 = true
       rotate_left
       · replace c35 := Bool.eq_false_iff.mpr c35
         subst c35
         rw [if_neg (show ¬ (false = true) by decide)] at H
         obtain rfl := oI_ H
         (obtain ⟨hcz56_0, hcz56_1, hcz56_2, hcz56_3, hcz56_4, hcz56_5, hcz56_6, hcz56_7, hcz56_8, hcz56_9⟩ := cells10 BK279.out)
         (obtain ⟨hfz56_0, hfz56_1, hfz56_2, hfz56_3, hfz56_4, hfz56_5, hfz56_6, hfz56_7, hfz56_8, hfz56_9⟩ := frozen10 BK279.out)
         go_wp2_with (first | (go_at_call 134; (with_reducible refine (spec_ExprOk.calls kj7 ((rd_T122 l0 x5_2).f2.f0) ((rd_T122 l0 x5_2).f2.f1) ((rd_T122 l0 x5_2).f2.f2.f0) ((rd_T122 l0 x5_2).f2.f2.f1) _ _ ((rd_T122 l0 x5_2).f2.f3) false _ ?side1 ?side2 A34.out).mono ?_); (case side1 => exact qC (Kd.C_below HR278_7.out HB.out)); (case side2 => exact HC278_7.out); rintro e w57 ⟨rfl, hb⟩; have n_ := aN2_ (blk_below (g := gb279) (o := .cells #[.int .i64 ((rd_T122 l0 x5_2).f0), .int .i64 ((rd_T122 l0 x5_2).f1.f0), .int .i64 ((rd_T122 l0 x5_2).f1.f1), .int .i64 ((rd_T122 l0 x5_2).f2.f0), .int .i64 ((rd_T122 l0 x5_2).f2.f1), .int .i64 ((rd_T122 l0 x5_2).f2.f2.f0), .int .i64 ((rd_T122 l0 x5_2).f2.f2.f1), .slice A278_7 ((rd_T122 l0 x5_2).f2.f3).length c278_7, .slice A278_8 ((rd_T122 l0 x5_2).f3).length c278_8, .slice A278_9 ((rd_T122 l0 x5_2).f4).length c278_9] 122 (0, 0)) qk hb) (bT_ (qB HB) hb); clear BK279 HB; obtain ⟨BK279, HB⟩ := n_))
         go_ret
         exact ⟨qE, qB HB⟩
       subst c35
       rw [if_pos rfl] at H
       replace H := oB_ H
       obtain ⟨t282, A360, H⟩ := H
       have A36 := aM_ A360
       clear A360
       by_cases c37 : t282 = true
       rotate_left
       · replace c37 := Bool.eq_false_iff.mpr c37
         subst c37
         rw [if_neg (show ¬ (false = true) by decide)] at H
         obtain rfl := oI_ H
         (obtain ⟨hcz52_0, hcz52_1, hcz52_2, hcz52_3, hcz52_4, hcz52_5, hcz52_6, hcz52_7, hcz52_8, hcz52_9⟩ := cells10 BK279.out)
         (obtain ⟨hfz52_0, hfz52_1, hfz52_2, hfz52_3, hfz52_4, hfz52_5, hfz52_6, hfz52_7, hfz52_8, hfz52_9⟩ := frozen10 BK279.out)
         go_wp2_with (first | (go_at_call 134; (with_reducible refine (spec_ExprOk.calls kj7 ((rd_T122 l0 x5_2).f2.f0) ((rd_T122 l0 x5_2).f2.f1) ((rd_T122 l0 x5_2).f2.f2.f0) ((rd_T122 l0 x5_2).f2.f2.f1) _ _ ((rd_T122 l0 x5_2).f2.f3) true _ ?side1 ?side2 A34.out).mono ?_); (case side1 => exact qC (Kd.C_below HR278_7.out HB.out)); (case side2 => exact HC278_7.out); rintro e w53 ⟨rfl, hb⟩; have n_ := aN2_ (blk_below (g := gb279) (o := .cells #[.int .i64 ((rd_T122 l0 x5_2).f0), .int .i64 ((rd_T122 l0 x5_2).f1.f0), .int .i64 ((rd_T122 l0 x5_2).f1.f1), .int .i64 ((rd_T122 l0 x5_2).f2.f0), .int .i64 ((rd_T122 l0 x5_2).f2.f1), .int .i64 ((rd_T122 l0 x5_2).f2.f2.f0), .int .i64 ((rd_T122 l0 x5_2).f2.f2.f1), .slice A278_7 ((rd_T122 l0 x5_2).f2.f3).length c278_7, .slice A278_8 ((rd_T122 l0 x5_2).f3).length c278_8, .slice A278_9 ((rd_T122 l0 x5_2).f4).length c278_9] 122 (0, 0)) qk hb) (bT_ (qB HB) hb); clear BK279 HB; obtain ⟨BK279, HB⟩ := n_; (obtain ⟨hcz54_0, hcz54_1, hcz54_2, hcz54_3, hcz54_4, hcz54_5, hcz54_6, hcz54_7, hcz54_8, hcz54_9⟩ := cells10 BK279.out); (obtain ⟨hfz54_0, hfz54_1, hfz54_2, hfz54_3, hfz54_4, hfz54_5, hfz54_6, hfz54_7, hfz54_8, hfz54_9⟩ := frozen10 BK279.out)) | (go_at_call 122; (with_reducible refine (ih kj7 (by have := HJ2.out; have := HK2.out; have := HJ7.out; omega) _ _ ((rd_T122 l0 x5_2).f3) (wrap64 (a1 - 1)) false _ ?side1 ?side2 A36.out).mono ?_); (case side1 => exact qC (Kd.C_below HR278_8.out HB.out)); (case side2 => exact HC278_8.out); rintro e w55 ⟨rfl, hb⟩; have n_ := aN2_ (blk_below (g := gb279) (o := .cells #[.int .i64 ((rd_T122 l0 x5_2).f0), .int .i64 ((rd_T122 l0 x5_2).f1.f0), .int .i64 ((rd_T122 l0 x5_2).f1.f1), .int .i64 ((rd_T122 l0 x5_2).f2.f0), .int .i64 ((rd_T122 l0 x5_2).f2.f1), .int .i64 ((rd_T122 l0 x5_2).f2.f2.f0), .int .i64 ((rd_T122 l0 x5_2).f2.f2.f1), .slice A278_7 ((rd_T122 l0 x5_2).f2.f3).length c278_7, .slice A278_8 ((rd_T122 l0 x5_2).f3).length c278_8, .slice A278_9 ((rd_T122 l0 x5_2).f4).length c278_9] 122 (0, 0)) qk hb) (bT_ (qB HB) hb); clear BK279 HB; obtain ⟨BK279, HB⟩ := n_))
         go_ret
         exact ⟨qE, qB HB⟩
       subst c37
       rw [if_pos rfl] at H
       replace H := oB_ H
       obtain ⟨t283, A380, H⟩ := H
       have A38 := aM_ A380
       clear A380
       by_cases c39 : t283 = true
       rotate_left
       · replace c39 := Bool.eq_false_iff.mpr c39
         subst c39
         rw [if_neg (show ¬ (false = true) by decide)] at H
         obtain rfl := oI_ H
         (obtain ⟨hcz46_0, hcz46_1, hcz46_2, hcz46_3, hcz46_4, hcz46_5, hcz46_6, hcz46_7, hcz46_8, hcz46_9⟩ := cells10 BK279.out)
         (obtain ⟨hfz46_0, hfz46_1, hfz46_2, hfz46_3, hfz46_4, hfz46_5, hfz46_6, hfz46_7, hfz46_8, hfz46_9⟩ := frozen10 BK279.out)
         go_wp2_with (first | (go_at_call 134; (with_reducible refine (spec_ExprOk.calls kj7 ((rd_T122 l0 x5_2).f2.f0) ((rd_T122 l0 x5_2).f2.f1) ((rd_T122 l0 x5_2).f2.f2.f0) ((rd_T122 l0 x5_2).f2.f2.f1) _ _ ((rd_T122 l0 x5_2).f2.f3) true _ ?side1 ?side2 A34.out).mono ?_); (case side1 => exact qC (Kd.C_below HR278_7.out HB.out)); (case side2 => exact HC278_7.out); rintro e w47 ⟨rfl, hb⟩; have n_ := aN2_ (blk_below (g := gb279) (o := .cells #[.int .i64 ((rd_T122 l0 x5_2).f0), .int .i64 ((rd_T122 l0 x5_2).f1.f0), .int .i64 ((rd_T122 l0 x5_2).f1.f1), .int .i64 ((rd_T122 l0 x5_2).f2.f0), .int .i64 ((rd_T122 l0 x5_2).f2.f1), .int .i64 ((rd_T122 l0 x5_2).f2.f2.f0), .int .i64 ((rd_T122 l0 x5_2).f2.f2.f1), .slice A278_7 ((rd_T122 l0 x5_2).f2.f3).length c278_7, .slice A278_8 ((rd_T122 l0 x5_2).f3).length c278_8, .slice A278_9 ((rd_T122 l0 x5_2).f4).length c278_9] 122 (0, 0)) qk hb) (bT_ (qB HB) hb); clear BK279 HB; obtain ⟨BK279, HB⟩ := n_; (obtain ⟨hcz48_0, hcz48_1, hcz48_2, hcz48_3, hcz48_4, hcz48_5, hcz48_6, hcz48_7, hcz48_8, hcz48_9⟩ := cells10 BK279.out); (obtain ⟨hfz48_0, hfz48_1, hfz48_2, hfz48_3, hfz48_4, hfz48_5, hfz48_6, hfz48_7, hfz48_8, hfz48_9⟩ := frozen10 BK279.out)) | (go_at_call 122; (with_reducible refine (ih kj7 (by have := HJ2.out; have := HK2.out; have := HJ7.out; omega) _ _ ((rd_T122 l0 x5_2).f3) (wrap64 (a1 - 1)) true _ ?side1 ?side2 A36.out).mono ?_); (case side1 => exact qC (Kd.C_below HR278_8.out HB.out)); (case side2 => exact HC278_8.out); rintro e w49 ⟨rfl, hb⟩; have n_ := aN2_ (blk_below (g := gb279) (o := .cells #[.int .i64 ((rd_T122 l0 x5_2).f0), .int .i64 ((rd_T122 l0 x5_2).f1.f0), .int .i64 ((rd_T122 l0 x5_2).f1.f1), .int .i64 ((rd_T122 l0 x5_2).f2.f0), .int .i64 ((rd_T122 l0 x5_2).f2.f1), .int .i64 ((rd_T122 l0 x5_2).f2.f2.f0), .int .i64 ((rd_T122 l0 x5_2).f2.f2.f1), .slice A278_7 ((rd_T122 l0 x5_2).f2.f3).length c278_7, .slice A278_8 ((rd_T122 l0 x5_2).f3).length c278_8, .slice A278_9 ((rd_T122 l0 x5_2).f4).length c278_9] 122 (0, 0)) qk hb) (bT_ (qB HB) hb); clear BK279 HB; obtain ⟨BK279, HB⟩ := n_; (obtain ⟨hcz50_0, hcz50_1, hcz50_2, hcz50_3, hcz50_4, hcz50_5, hcz50_6, hcz50_7, hcz50_8, hcz50_9⟩ := cells10 BK279.out); (obtain ⟨hfz50_0, hfz50_1, hfz50_2, hfz50_3, hfz50_4, hfz50_5, hfz50_6, hfz50_7, hfz50_8, hfz50_9⟩ := frozen10 BK279.out)) | (go_at_call 122; (with_reducible refine (ih kj7 (by have := HJ2.out; have := HK2.out; have := HJ7.out; omega) _ _ ((rd_T122 l0 x5_2).f4) (wrap64 (a1 - 1)) false _ ?side1 ?side2 A38.out).mono ?_); (case side1 => exact qC (Kd.C_below HR278_9.out HB.out)); (case side2 => exact HC278_9.out); rintro e w51 ⟨rfl, hb⟩; have n_ := aN2_ (blk_below (g := gb279) (o := .cells #[.int .i64 ((rd_T122 l0 x5_2).f0), .int .i64 ((rd_T122 l0 x5_2).f1.f0), .int .i64 ((rd_T122 l0 x5_2).f1.f1), .int .i64 ((rd_T122 l0 x5_2).f2.f0), .int .i64 ((rd_T122 l0 x5_2).f2.f1), .int .i64 ((rd_T122 l0 x5_2).f2.f2.f0), .int .i64 ((rd_T122 l0 x5_2).f2.f2.f1), .slice A278_7 ((rd_T122 l0 x5_2).f2.f3).length c278_7, .slice A278_8 ((rd_T122 l0 x5_2).f3).length c278_8, .slice A278_9 ((rd_T122 l0 x5_2).f4).length c278_9] 122 (0, 0)) qk hb) (bT_ (qB HB) hb); clear BK279 HB; obtain ⟨BK279, HB⟩ := n_))
         go_ret
         exact ⟨qE, qB HB⟩
       subst c39
       rw [if_pos rfl] at H
       have H' := aM_ H
       clear H
       (obtain ⟨hcz40_0, hcz40_1, hcz40_2, hcz40_3, hcz40_4, hcz40_5, hcz40_6, hcz40_7, hcz40_8, hcz40_9⟩ := cells10 BK279.out)
       (obtain ⟨hfz40_0, hfz40_1, hfz40_2, hfz40_3, hfz40_4, hfz40_5, hfz40_6, hfz40_7, hfz40_8, hfz40_9⟩ := frozen10 BK279.out)
       go_wp2_with (first | (go_at_call 134; (with_reducible refine (spec_ExprOk.calls kj7 ((rd_T122 l0 x5_2).f2.f0) ((rd_T122 l0 x5_2).f2.f1) ((rd_T122 l0 x5_2).f2.f2.f0) ((rd_T122 l0 x5_2).f2.f2.f1) _ _ ((rd_T122 l0 x5_2).f2.f3) true _ ?side1 ?side2 A34.out).mono ?_); (case side1 => exact qC (Kd.C_below HR278_7.out HB.out)); (case side2 => exact HC278_7.out); rintro e w41 ⟨rfl, hb⟩; have n_ := aN2_ (blk_below (g := gb279) (o := .cells #[.int .i64 ((rd_T122 l0 x5_2).f0), .int .i64 ((rd_T122 l0 x5_2).f1.f0), .int .i64 ((rd_T122 l0 x5_2).f1.f1), .int .i64 ((rd_T122 l0 x5_2).f2.f0), .int .i64 ((rd_T122 l0 x5_2).f2.f1), .int .i64 ((rd_T122 l0 x5_2).f2.f2.f0), .int .i64 ((rd_T122 l0 x5_2).f2.f2.f1), .slice A278_7 ((rd_T122 l0 x5_2).f2.f3).length c278_7, .slice A278_8 ((rd_T122 l0 x5_2).f3).length c278_8, .slice A278_9 ((rd_T122 l0 x5_2).f4).length c278_9] 122 (0, 0)) qk hb) (bT_ (qB HB) hb); clear BK279 HB; obtain ⟨BK279, HB⟩ := n_; (obtain ⟨hcz42_0, hcz42_1, hcz42_2, hcz42_3, hcz42_4, hcz42_5, hcz42_6, hcz42_7, hcz42_8, hcz42_9⟩ := cells10 BK279.out); (obtain ⟨hfz42_0, hfz42_1, hfz42_2, hfz42_3, hfz42_4, hfz42_5, hfz42_6, hfz42_7, hfz42_8, hfz42_9⟩ := frozen10 BK279.out)) | (go_at_call 122; (with_reducible refine (ih kj7 (by have := HJ2.out; have := HK2.out; have := HJ7.out; omega) _ _ ((rd_T122 l0 x5_2).f3) (wrap64 (a1 - 1)) true _ ?side1 ?side2 A36.out).mono ?_); (case side1 => exact qC (Kd.C_below HR278_8.out HB.out)); (case side2 => exact HC278_8.out); rintro e w43 ⟨rfl, hb⟩; have n_ := aN2_ (blk_below (g := gb279) (o := .cells #[.int .i64 ((rd_T122 l0 x5_2).f0), .int .i64 ((rd_T122 l0 x5_2).f1.f0), .int .i64 ((rd_T122 l0 x5_2).f1.f1), .int .i64 ((rd_T122 l0 x5_2).f2.f0), .int .i64 ((rd_T122 l0 x5_2).f2.f1), .int .i64 ((rd_T122 l0 x5_2).f2.f2.f0), .int .i64 ((rd_T122 l0 x5_2).f2.f2.f1), .slice A278_7 ((rd_T122 l0 x5_2).f2.f3).length c278_7, .slice A278_8 ((rd_T122 l0 x5_2).f3).length c278_8, .slice A278_9 ((rd_T122 l0 x5_2).f4).length c278_9] 122 (0, 0)) qk hb) (bT_ (qB HB) hb); clear BK279 HB; obtain ⟨BK279, HB⟩ := n_; (obtain ⟨hcz44_0, hcz44_1, hcz44_2, hcz44_3, hcz44_4, hcz44_5, hcz44_6, hcz44_7, hcz44_8, hcz44_9⟩ := cells10 BK279.out); (obtain ⟨hfz44_0, hfz44_1, hfz44_2, hfz44_3, hfz44_4, hfz44_5, hfz44_6, hfz44_7, hfz44_8, hfz44_9⟩ := frozen10 BK279.out)) | (go_at_call 122; (with_reducible refine (ih kj7 (by have := HJ2.out; have := HK2.out; have := HJ7.out; omega) _ _ ((rd_T122 l0 x5_2).f4) (wrap64 (a1 - 1)) true _ ?side1 ?side2 A38.out).mono ?_); (case side1 => exact qC (Kd.C_below HR278_9.out HB.out)); (case side2 => exact HC278_9.out); rintro e w45 ⟨rfl, hb⟩; have n_ := aN2_ (blk_below (g := gb279) (o := .cells #[.int .i64 ((rd_T122 l0 x5_2).f0), .int .i64 ((rd_T122 l0 x5_2).f1.f0), .int .i64 ((rd_T122 l0 x5_2).f1.f1), .int .i64 ((rd_T122 l0 x5_2).f2.f0), .int .i64 ((rd_T122 l0 x5_2).f2.f1), .int .i64 ((rd_T122 l0 x5_2).f2.f2.f0), .int .i64 ((rd_T122 l0 x5_2).f2.f2.f1), .slice A278_7 ((rd_T122 l0 x5_2).f2.f3).length c278_7, .slice A278_8 ((rd_T122 l0 x5_2).f3).length c278_8, .slice A278_9 ((rd_T122 l0 x5_2).f4).length c278_9] 122 (0, 0)) qk hb) (bT_ (qB HB) hb); clear BK279 HB; obtain ⟨BK279, HB⟩ := n_))
       go_roundg kj7
       case measure => have := HJ2.out; have := HK2.out; have := HJ7.out; omega
       case rel => exact ⟨(wrap64 (x5_2 + 1)), qF, H', ⟨by have := HJ2.out; have := HK2.out; have := HJ7.out; omega⟩, ⟨qB HB⟩⟩
end Go.Proofs.YtjamfddhcigchaaGreatDoor.HFnCodeSame
