-- Made by a program of this session (hp.py) over the kit's print: functions told by hand stand beside printed ones. Lean checks it.
import Derived.Test.YtjamfddhcigchaaGreatDoorTFnExactCodeRunHFnExactCodeRunx5
namespace Go.Proofs.YtjamfddhcigchaaGreatDoor.HFnExactCodeRun
open Go.RowKit Go.Proofs.YtjamfddhcigchaaGreatDoorW.PrintWords Go.Proofs.YtjamfddhcigchaaGreatDoorW.PrintLast Go.Proofs.YtjamfddhcigchaaGreatDoorW.PrintMore
attribute [local go_sem] max2_int min2_int max_two min_two max_three min_three max_four min_four
set_option linter.unusedVariables false
set_option linter.unusedSimpArgs false
mutual
def spec_l5Depths.l0 : Nat → List (S30) → List Int → Int → Option (List Int)
  | 0, _, _, _ => none
  | k + 1, x0, x3, x4 => if x4 ≤ (x0.length : Int) then (if 0 ≤ x4 then (if x4 < (x3.length : Int) then (spec_l5Depths.l0 k x0 (x3.set (x4 : Int).toNat (-1)) (wrap64 (x4 + 1))) else (none)) else (none)) else (spec_l5Depths.l1 k x0 x3 0)
def spec_l5Depths.l1 : Nat → List (S30) → List Int → Int → Option (List Int)
  | 0, _, _, _ => none
  | k + 1, x0, x3, x5 => if x5 < (x0.length : Int) then (if 0 ≤ x5 then ((spec_l5Turn.f k ((rd_T30 x0 x5).f0) ((rd_T30 x0 x5).f1) ((rd_T30 x0 x5).f2.f0) ((rd_T30 x0 x5).f2.f1)).bind fun bt140 => (if x5 < (x3.length : Int) then (if (rd x3 x5) < bt140.2 then (spec_l5Depths.j2 k x0 x3 x5 bt140.1 true) else (spec_l5Depths.j2 k x0 x3 x5 bt140.1 (decide ((wrap64 ((rd x3 x5) + bt140.1)) > 12)))) else (none))) else (none)) else (some x3)
def spec_l5Depths.j2 : Nat → List (S30) → List Int → Int → Int → Bool → Option (List Int)
  | 0, _, _, _, _, _ => none
  | k + 1, x0, x3, x5, x6, x51 => if x51 = true then (some ([] : List Int)) else (if 0 ≤ x5 then (if x5 < (x3.length : Int) then (if x5 < (x0.length : Int) then ((spec_l5Jumps.f ((rd_T30 x0 x5).f0) ((rd_T30 x0 x5).f1) ((rd_T30 x0 x5).f2.f0) ((rd_T30 x0 x5).f2.f1)).bind fun t146 => (if t146 = true then (spec_l5Depths.j3 k x0 x3 x5 (wrap64 ((rd x3 x5) + x6)) ((rd_T30 x0 x5).f1)) else (spec_l5Depths.j3 k x0 x3 x5 (wrap64 ((rd x3 x5) + x6)) (wrap64 (x5 + 1))))) else (none)) else (none)) else (none))
def spec_l5Depths.j3 : Nat → List (S30) → List Int → Int → Int → Int → Option (List Int)
  | 0, _, _, _, _, _ => none
  | k + 1, x0, x3, x5, x8, x9 => if x9 ≤ x5 then (if 0 ≤ x9 then (if x9 < (x3.length : Int) then (if (rd x3 x9) = x8 then (if x9 > x5 then (if (rd x3 x9) ≥ 0 then (spec_l5Depths.j4 k x0 x3 x5 x8 x9 ((rd x3 x9) != x8)) else (spec_l5Depths.j4 k x0 x3 x5 x8 x9 false)) else (spec_l5Depths.j4 k x0 x3 x5 x8 x9 false)) else (spec_l5Depths.j4 k x0 x3 x5 x8 x9 true)) else (none)) else (none)) else (if x9 > x5 then (if 0 ≤ x9 then (if x9 < (x3.length : Int) then (if (rd x3 x9) ≥ 0 then (spec_l5Depths.j4 k x0 x3 x5 x8 x9 ((rd x3 x9) != x8)) else (spec_l5Depths.j4 k x0 x3 x5 x8 x9 false)) else (none)) else (none)) else (spec_l5Depths.j4 k x0 x3 x5 x8 x9 false))
def spec_l5Depths.j4 : Nat → List (S30) → List Int → Int → Int → Int → Bool → Option (List Int)
  | 0, _, _, _, _, _, _ => none
  | k + 1, x0, x3, x5, x8, x9, x100 => if x100 = true then (some ([] : List Int)) else (if 0 ≤ x9 then (if x9 < (x3.length : Int) then ((some (x3.set (x9 : Int).toNat x8 : List Int)).bind fun y153 => (if 0 ≤ x5 then (if x5 < (x0.length : Int) then (if ((rd_T30 x0 x5).f0) = 7 then (spec_l5Depths.j5 k x0 y153 x5 x8 true) else (spec_l5Depths.j5 k x0 y153 x5 x8 (((rd_T30 x0 x5).f0) == 8))) else (none)) else (none))) else (none)) else (none))
def spec_l5Depths.j5 : Nat → List (S30) → List Int → Int → Int → Bool → Option (List Int)
  | 0, _, _, _, _, _ => none
  | k + 1, x0, x3, x5, x8, x118 => if x118 = true then (spec_l5Depths.l1 k x0 x3 (wrap64 (x5 + 1))) else (if 0 ≤ (wrap64 (x5 + 1)) then (if (wrap64 (x5 + 1)) < (x3.length : Int) then (if (rd x3 (wrap64 (x5 + 1))) ≥ 0 then (if (rd x3 (wrap64 (x5 + 1))) = x8 then (spec_l5Depths.l1 k x0 (x3.set ((wrap64 (x5 + 1)) : Int).toNat x8) (wrap64 (x5 + 1))) else (some ([] : List Int))) else (spec_l5Depths.l1 k x0 (x3.set ((wrap64 (x5 + 1)) : Int).toNat x8) (wrap64 (x5 + 1)))) else (none)) else (none))
end
def spec_l5Depths.f (k : Nat) (l0 : List (S30)) : Option (List Int) := if 0 ≤ (wrap64 ((l0.length : Int) + 1)) then (if (wrap64 ((l0.length : Int) + 1) : Int).toNat ≤ 35184372088832 then (spec_l5Depths.l0 k l0 (List.replicate (wrap64 ((l0.length : Int) + 1) : Int).toNat 0) 1) else (none)) else (none)
set_option maxHeartbeats 8000000 in
set_option maxRecDepth 100000 in
theorem spec_l5Depths.calls (k : Nat) (A0 : Option Addr) (c0 : Nat) (l0 : List (S30)) (r : List Int) (w : World) (hr0 : Kd.C k30 w A0 l0.length l0) (hc0 : l0.length ≤ c0) (h : spec_l5Depths.f k l0 = some r) :
    Calls Tryz.prog 42 #[.slice A0 l0.length c0] w fun e w' => ∃ v0_ : Value, e = .returned (v0_) ∧ Kd.R (Kd.int .i64) 3 w' w.heap.size (fun _ => True) v0_ r ∧ Below w.heap.size w w' := by
 have hu30 := Tryz.underlying30
 have HR0 := Aside0.mk hr0
 have HC0 := Aside0.mk hc0
 clear hr0 hc0
 have HB := Aside0.mk (Below.refl w.heap.size w)
 have H : (if 0 ≤ (wrap64 ((l0.length : Int) + 1)) then (if (wrap64 ((l0.length : Int) + 1) : Int).toNat ≤ 35184372088832 then (spec_l5Depths.l0 k l0 (List.replicate (wrap64 ((l0.length : Int) + 1) : Int).toNat 0) 1) else (none)) else (none)) = some r := h
 clear h
 obtain ⟨ji2, hji2⟩ : ∃ j_ : Int, (wrap64 ((l0.length : Int) + 1)) = j_ := ⟨_, rfl⟩
 replace H : (if 0 ≤ (ji2) then (if (ji2 : Int).toNat ≤ 35184372088832 then (spec_l5Depths.l0 k l0 (List.replicate (ji2 : Int).toNat 0) 1) else (none)) else (none)) = some r := by first | (rw [hji2] at H; exact H) | (simp only [hji2] at H ⊢; exact H)
 have hji2w : (IntKind.i64.wrap ((l0.length : Int) + 1)) = ji2 := (i64_w _).trans hji2
 by_cases c3 : 0 ≤ (ji2)
 rotate_left
 · rw [if_neg c3] at H
   exact absurd H (by simp)
 rw [if_pos c3] at H
 have c3b0 := eq_true c3
 have c3b1 : decide (0 ≤ (ji2)) = true := decide_eq_true c3
 clear c3
 by_cases c4 : (ji2 : Int).toNat ≤ 35184372088832
 rotate_left
 · rw [if_neg c4] at H
   exact absurd H (by simp)
 rw [if_pos c4] at H
 have c4b0 := eq_true c4
 have c4b1 : decide ((ji2 : Int).toNat ≤ 35184372088832) = true := decide_eq_true c4
 clear c4
 obtain ⟨y135, hy135⟩ : ∃ y_ : List Int, y_ = (List.replicate (ji2 : Int).toNat 0) := ⟨_, rfl⟩
 replace H : (spec_l5Depths.l0 k l0 y135 1) = some r := by first | (rw [hy135]; with_reducible exact H) | (have H2_ := (Option.bind_some _ _).symm.trans H; rw [hy135]; with_reducible exact H2_) | (have H2_ := (Option.bind_some _ _).symm.trans H; with_reducible exact H2_) | with_reducible exact H | (rw [hy135]; exact H) | exact H
 have Ny135 := Aside0.mk hy135
 clear hy135
 have H' := Aside0.mk H
 clear H
 go_enter Tryz.func42, Tryz.ntmps42
 go_wp2_with (first | ((with_reducible refine gate_dst (N := 13) rfl ?_); refine Kd.R_make (Kd.int .i64) _ 3 rfl (N := 13) rfl 31 _ _ rfl ji2 rfl rfl Tryz.underlying31 (.int .i64 0) 8 info3 rfl (by decide) (by omega) 0 (ok := fun _ => True) (okp := fun _ => True) rfl (fun _ hk => hk) trivial (of_decide_eq_true (by first | (with_reducible assumption) | assumption)) (Nat.le_trans (Nat.mul_le_mul_right _ (of_decide_eq_true (by first | (with_reducible assumption) | assumption) : ji2.toNat ≤ 35184372088832)) (by omega)) (Below.refl _ _) (Nat.le_refl _) ?_; intro v136 w5 ho6 hb hg_ hnew_; clear hg_ hnew_; (first | rw [← Ny135.out] at ho6 | (simp only [Int.reduceToNat] at ho6; rw [← Ny135.out] at ho6)); have n0_ := Aside0.mk (Kd.R_lower ho6 (below_size (by repeat (first | (with_reducible first | exact HB.out | apply below_alloc | apply pw_below_drewN | apply below_drew1) | exact HB.out)))); have n1_ := Aside0.mk (below_step (by repeat (first | (with_reducible first | exact HB.out | apply below_alloc | apply pw_below_drewN | apply below_drew1) | exact HB.out)) hb); clear HB; have HO137 := n0_; have HB := n1_; clear n0_ n1_; clear hb ho6))
 go_loopg [4] k (fun kq v4 w' => ∃ (x3_1 : List Int) (x4_1 : Int), v4 = .int .i64 x4_1 ∧ Aside0 (spec_l5Depths.l0 kq l0 x3_1 x4_1 = some r) ∧ Aside0 (kq ≤ k) ∧ Aside0 (Kd.R (Kd.int .i64) 3 w' w.heap.size (fun _ => True) v136 x3_1) ∧ Aside0 (Below w.heap.size w w'))
 case atStart => exact ⟨(y135), (1), (by first | rfl | (simp; done) | (simp [*]; done)), H', ⟨Nat.le_refl _⟩, ⟨by (with_reducible repeat (first | apply Kd.R_alloc | apply Kd.R_drewN | apply Kd.R_drew)); exact HO137.out⟩, ⟨by repeat (first | (with_reducible first | exact HB.out | apply below_alloc | apply pw_below_drewN | apply below_drew1) | exact HB.out)⟩⟩
 case round =>
  clear H'
  try clear p2
  try clear c3
  try clear c3b0
  try clear c3b1
  try clear c4
  try clear c4b0
  try clear c4b1
  try clear p6
  obtain ⟨x3_1, x4_1, rfl, HA, HK1, HO_3, HB⟩ := hrel
  cases gk with
  | zero => exact absurd HA.out (by simp [spec_l5Depths.l0])
  | succ k1 =>
   have H := HA.out
   clear HA
   simp only [spec_l5Depths.l0] at H
   by_cases c7 : x4_1 ≤ (l0.length : Int)
   · rw [if_pos c7] at H
     have c7b0 : decide (x4_1 ≤ (l0.length : Int)) = true := decide_eq_true c7
     clear c7
     by_cases c8 : 0 ≤ x4_1
     rotate_left
     · rw [if_neg c8] at H
       exact absurd H (by simp)
     rw [if_pos c8] at H
     have c8b0 : decide (0 ≤ x4_1) = true := decide_eq_true c8
     clear c8
     by_cases c9 : x4_1 < (x3_1.length : Int)
     rotate_left
     · rw [if_neg c9] at H
       exact absurd H (by simp)
     rw [if_pos c9] at H
     have c9b0 : decide (x4_1 < (x3_1.length : Int)) = true := decide_eq_true c9
     clear c9
     obtain ⟨y138, hy138⟩ : ∃ y_ : List Int, y_ = (x3_1.set (x4_1 : Int).toNat (-1)) := ⟨_, rfl⟩
     replace H : (spec_l5Depths.l0 k1 l0 y138 (wrap64 (x4_1 + 1))) = some r := by first | (rw [hy138]; with_reducible exact H) | (have H2_ := (Option.bind_some _ _).symm.trans H; rw [hy138]; with_reducible exact H2_) | (have H2_ := (Option.bind_some _ _).symm.trans H; with_reducible exact H2_) | with_reducible exact H | (rw [hy138]; exact H) | exact H
     have Ny138 := Aside0.mk hy138
     clear hy138
     have H' := Aside0.mk H
     clear H
     have p10 : 0 ≤ (x4_1 : Int) := of_decide_eq_true (by first | (with_reducible assumption) | assumption)
     have q10 : (x4_1 : Int) < ((x3_1.length : Int) : Int) := of_decide_eq_true (by first | (with_reducible assumption) | assumption)
     obtain ⟨go10, co10, eo10, gb10, gl10, cl10, HG10⟩ := Kd.R_form HO_3.out (by omega)
     (first | cases eo10 | (injection eo10 with ea_ en_ ec_; (first | subst ea_ | (injection ea_ with ea_; subst ea_)); subst ec_; clear en_))
     have GB10 := Aside0.mk gb10
     have GG10 := Aside0.mk HG10
     clear gb10 gl10 HG10
     obtain ⟨hx10_0, hf10_0⟩ := Kd.R_celln 0 HO_3.out (x4_1 : Int) p10 q10
     replace p10 := eq_true p10
     replace q10 := eq_true q10
     have HP11 := Kd.R_putg HO_3.out (x4_1 : Int) (-1)
     go_wp2_with (first | ((with_reducible refine gate_store (t := 3) (p := 22) rfl ?_); refine store_event (t := 3) (p := 22) (v := ?vo_w12) (w1 := (wr.setCell ⟨go10, (x4_1 : Int).toNat, none⟩ (.int .i64 (-1)))) ?hg ?ho ?hn ?hr ?_; (case ho => rfl); (case hg => rfl); (case hn => rfl); (case hr => first | (go_simp; done) | (go_simp; rfl)); intro w12 hw; have hg : wr.grownBy w12 (some go10) := (by rw [hw]; exact HP11.2); have hp_ : Kd.R (Kd.int .i64) 3 w12 w.heap.size (fun _ => True) (.slice (some ⟨go10, 0, none⟩) x3_1.length co10) y138 := (by rw [hw, Ny138.out]; exact HP11.1); clear HP11; have n0_ := Aside0.mk (hp_); have n1_ := Aside0.mk ((by rw [hw]; exact below_set (HB.out) GB10.out : Below w.heap.size w w12)); clear HO_3; clear HB; have HO_3 := n0_; have HB := n1_; clear n0_ n1_; clear hg hw hp_))
     go_roundg k1
     case measure => have := HK1.out; omega
     case rel => exact ⟨(y138), (wrap64 (x4_1 + 1)), (by first | rfl | (simp; done) | (simp [*]; done)), H', ⟨by have := HK1.out; omega⟩, ⟨by (with_reducible repeat (first | apply Kd.R_alloc | apply Kd.R_drewN | apply Kd.R_drew)); exact HO_3.out⟩, ⟨by repeat (first | (with_reducible first | exact HB.out | apply below_alloc | apply pw_below_drewN | apply below_drew1) | exact HB.out)⟩⟩
   rw [if_neg c7] at H
   have c7b0 : decide (x4_1 ≤ (l0.length : Int)) = false := decide_eq_false c7
   clear c7
   have H' := Aside0.mk H
   clear H
   go_wp2
   go_loopg [5] k1 (fun kq v5 w' => ∃ (x3_2 : List Int) (x5_2 : Int), v5 = .int .i64 x5_2 ∧ Aside0 (spec_l5Depths.l1 kq l0 x3_2 x5_2 = some r) ∧ Aside0 (kq ≤ k1) ∧ Aside0 (Kd.R (Kd.int .i64) 3 w' w.heap.size (fun _ => True) v136 x3_2) ∧ Aside0 (Below w.heap.size w w'))
   case atStart => exact ⟨(x3_1), (0), (by first | rfl | (simp; done) | (simp [*]; done)), H', ⟨Nat.le_refl _⟩, ⟨by (with_reducible repeat (first | apply Kd.R_alloc | apply Kd.R_drewN | apply Kd.R_drew)); exact HO_3.out⟩, ⟨by repeat (first | (with_reducible first | exact HB.out | apply below_alloc | apply pw_below_drewN | apply below_drew1) | exact HB.out)⟩⟩
   case round =>
    clear H'
    try clear p1
    try clear q1
    try clear hx1
    try clear hf1
    try clear p2
    try clear c3
    try clear c3b0
    try clear c3b1
    try clear c4
    try clear c4b0
    try clear c4b1
    try clear p6
    try clear c7
    try clear c7b0
    try clear c8
    try clear c8b0
    try clear c9
    try clear c9b0
    try clear p10
    try clear q10
    try clear hx10
    try clear hf10
    try clear hx10_0
    try clear p10
    try clear p2
    try clear p6
    try clear q10
    obtain ⟨x3_2, x5_2, rfl, HA, HK2, HO_3, HB⟩ := hrel
    cases gk with
    | zero => exact absurd HA.out (by simp [spec_l5Depths.l1])
    | succ k2 =>
     have H := HA.out
     clear HA
     simp only [spec_l5Depths.l1] at H
     by_cases c13 : x5_2 < (l0.length : Int)
     rotate_left
     · rw [if_neg c13] at H
       have c13b0 : decide (x5_2 < (l0.length : Int)) = false := decide_eq_false c13
       clear c13
       obtain rfl := Option.some.inj H
       go_wp2
       go_ret
       exact ⟨_, by first | rfl | (simp [errW_none, errW_some] <;> rfl) | (simp only [← hji2]; first | rfl | (simp [errW_none, errW_some] <;> rfl)) | (simp [*, errW_none, errW_some] <;> rfl), by (with_reducible repeat (first | apply Kd.R_alloc | apply Kd.R_drewN | apply Kd.R_drew)); exact HO_3.out, by repeat (first | (with_reducible first | exact HB.out | apply below_alloc | apply pw_below_drewN | apply below_drew1) | exact HB.out)⟩
     rw [if_pos c13] at H
     have c13b0 : decide (x5_2 < (l0.length : Int)) = true := decide_eq_true c13
     clear c13
     by_cases c14 : 0 ≤ x5_2
     rotate_left
     · rw [if_neg c14] at H
       exact absurd H (by simp)
     rw [if_pos c14] at H
     have c14b0 : decide (0 ≤ x5_2) = true := decide_eq_true c14
     clear c14
     replace H := Option.bind_eq_some_iff.mp H
     obtain ⟨⟨t140, t141⟩, A150, H⟩ := H
     replace H : (if x5_2 < (x3_2.length : Int) then (if (rd x3_2 x5_2) < t141 then (spec_l5Depths.j2 k2 l0 x3_2 x5_2 t140 true) else (spec_l5Depths.j2 k2 l0 x3_2 x5_2 t140 (decide ((wrap64 ((rd x3_2 x5_2) + t140)) > 12)))) else (none)) = some r := H
     have A15 := Aside0.mk A150
     clear A150
     have HC16 := Aside0.mk H
     clear H
     have p139 : 0 ≤ (x5_2 : Int) := of_decide_eq_true (by first | (with_reducible assumption) | assumption)
     have q139 : x5_2 < (l0.length : Int) := of_decide_eq_true (by first | (with_reducible assumption) | assumption)
     obtain ⟨ad139, e139, hx139_0, hx139_1, hx139_2, hx139_3⟩ := at_T30 HR0.out x5_2 p139 q139
     cases e139
     replace hx139_0 := (HB.out.cell (World.block_lt_of_cell? w _ hx139_0)).trans hx139_0
     replace hx139_1 := (HB.out.cell (World.block_lt_of_cell? w _ hx139_1)).trans hx139_1
     replace hx139_2 := (HB.out.cell (World.block_lt_of_cell? w _ hx139_2)).trans hx139_2
     replace hx139_3 := (HB.out.cell (World.block_lt_of_cell? w _ hx139_3)).trans hx139_3
     replace p139 := eq_true p139
     replace q139 := eq_true q139
     go_upto_region 10 with (first | ((with_reducible refine gate_callee (f := 75) rfl ?_); refine goesL_ (some 34) rfl rfl Tryz.func75 (by kernel_rfl) rfl #[.agg #[.int .i64 ((rd_T30 l0 x5_2).f0), .int .i64 ((rd_T30 l0 x5_2).f1), .int .i64 ((rd_T30 l0 x5_2).f2.f0), .int .i64 ((rd_T30 l0 x5_2).f2.f1)]] rfl (by (try simp only [List.map_toArray, List.map_cons, List.map_nil]); first | done | rfl | (simp only [List.length_drop, List.length_take]; rfl)) ?_; (with_reducible refine (spec_l5Turn.calls k2 ((rd_T30 l0 x5_2).f0) ((rd_T30 l0 x5_2).f1) ((rd_T30 l0 x5_2).f2.f0) ((rd_T30 l0 x5_2).f2.f1) t140 t141 _ A15.out).mono ?_); rintro e w17 ⟨rfl, hb⟩; refine ⟨_, rfl, ?_⟩; have n0_ := Aside0.mk (Kd.R_below (by (with_reducible repeat (first | apply Kd.R_alloc | apply Kd.R_drewN | apply Kd.R_drew)); exact HO_3.out) hb); have n1_ := Aside0.mk (below_step (by repeat (first | (with_reducible first | exact HB.out | apply below_alloc | apply pw_below_drewN | apply below_drew1) | exact HB.out)) hb); clear HO_3; clear HB; have HO_3 := n0_; have HB := n1_; clear n0_ n1_; (try clear hb); (try clear hb2); (try clear hk); (try clear hi)))
     (try simp only [Act.put, List.setIfInBounds_toArray, List.set_cons_zero, List.set_cons_succ])
     go_cut [51] (fun v51 wc => ∃ (kq : Nat) (x51_15 : Bool), v51 = .bool x51_15 ∧ Aside0 (spec_l5Depths.j2 kq l0 x3_2 x5_2 t140 x51_15 = some r) ∧ Aside0 (kq ≤ k2) ∧ Aside0 (Kd.R (Kd.int .i64) 3 wc w.heap.size (fun _ => True) v136 x3_2) ∧ Aside0 (Below w.heap.size w wc))
     case first =>
      have H := HC16.out
      clear HC16
      by_cases c18 : x5_2 < (x3_2.length : Int)
      rotate_left
      · rw [if_neg c18] at H
        exact absurd H (by simp)
      rw [if_pos c18] at H
      have c18b0 : decide (x5_2 < (x3_2.length : Int)) = true := decide_eq_true c18
      clear c18
      (first | rw [c18b0] | (simp only [i64_w, i32_w]; rw [c18b0]) | skip)
      by_cases c19 : (rd x3_2 x5_2) < t141
      · rw [if_pos c19] at H
        have c19b0 : decide ((rd x3_2 x5_2) < t141) = true := decide_eq_true c19
        clear c19
        have H' := Aside0.mk H
        clear H
        obtain ⟨Ao20, co20, eo20⟩ := Kd.R_slice HO_3.out
        subst eo20
        have p142 : 0 ≤ (x5_2 : Int) := of_decide_eq_true (by first | (with_reducible assumption) | assumption)
        have q142 : x5_2 < (x3_2.length : Int) := of_decide_eq_true (by first | (with_reducible assumption) | assumption)
        obtain ⟨ad142, e142, hx142_0⟩ := Kd.at_int (Kd.R_reads' HO_3.out).2.2 x5_2 p142 q142
        cases e142
        replace p142 := eq_true p142
        replace q142 := eq_true q142
        go_wp2
        go_meet
        case rel => exact ⟨_, (true), (by first | rfl | (simp; done) | (simp [*]; done)), H', ⟨by have := HK1.out; have := HK2.out; first | omega | exact Nat.le_refl _⟩, ⟨by (with_reducible repeat (first | apply Kd.R_alloc | apply Kd.R_drewN | apply Kd.R_drew)); exact HO_3.out⟩, ⟨by repeat (first | (with_reducible first | exact HB.out | apply below_alloc | apply pw_below_drewN | apply below_drew1) | exact HB.out)⟩⟩
      rw [if_neg c19] at H
      have c19b0 : decide ((rd x3_2 x5_2) < t141) = false := decide_eq_false c19
      clear c19
      have H' := Aside0.mk H
      clear H
      obtain ⟨Ao21, co21, eo21⟩ := Kd.R_slice HO_3.out
      subst eo21
      have p142 : 0 ≤ (x5_2 : Int) := of_decide_eq_true (by first | (with_reducible assumption) | assumption)
      have q142 : x5_2 < (x3_2.length : Int) := of_decide_eq_true (by first | (with_reducible assumption) | assumption)
      obtain ⟨ad142, e142, hx142_0⟩ := Kd.at_int (Kd.R_reads' HO_3.out).2.2 x5_2 p142 q142
      cases e142
      replace p142 := eq_true p142
      replace q142 := eq_true q142
      have p143 : 0 ≤ (x5_2 : Int) := of_decide_eq_true (by first | (with_reducible assumption) | assumption)
      have q143 : x5_2 < (x3_2.length : Int) := of_decide_eq_true (by first | (with_reducible assumption) | assumption)
      obtain ⟨ad143, e143, hx143_0⟩ := Kd.at_int (Kd.R_reads' HO_3.out).2.2 x5_2 p143 q143
      obtain rfl : ad142 = ad143 := (by injection e143)
      replace p143 := eq_true p143
      replace q143 := eq_true q143
      go_wp2
      go_meet
      case rel => exact ⟨_, (decide ((wrap64 ((rd x3_2 x5_2) + t140)) > 12)), (by first | rfl | (simp; done) | (simp [*]; done)), H', ⟨by have := HK1.out; have := HK2.out; first | omega | exact Nat.le_refl _⟩, ⟨by (with_reducible repeat (first | apply Kd.R_alloc | apply Kd.R_drewN | apply Kd.R_drew)); exact HO_3.out⟩, ⟨by repeat (first | (with_reducible first | exact HB.out | apply below_alloc | apply pw_below_drewN | apply below_drew1) | exact HB.out)⟩⟩
     case rest =>
      clear HC16
      try clear c1
      try clear p1
      try clear q1
      try clear hx1
      try clear hf1
      try clear p2
      try clear c3
      try clear c3b0
      try clear c3b1
      try clear c4
      try clear c4b0
      try clear c4b1
      try clear p6
      try clear c7
      try clear c7b0
      try clear c8
      try clear c8b0
      try clear c9
      try clear c9b0
      try clear p10
      try clear q10
      try clear hx10
      try clear hf10
      try clear c13
      try clear c13b0
      try clear p13
      try clear q13
      try clear hx13
      try clear c14
      try clear c14b0
      try clear p14
      try clear q14
      try clear hx14
      try clear c18
      try clear c18b0
      try clear c19
      try clear c19b0
      try clear hx10_0
      try clear hx139_0
      try clear hx139_1
      try clear hx139_2
      try clear hx139_3
      try clear hx142_0
      try clear hx143_0
      try clear p1
      try clear p10
      try clear p139
      try clear p142
      try clear p143
      try clear p2
      try clear p6
      try clear q1
      try clear q10
      try clear q139
      try clear q142
      try clear q143
      obtain ⟨kq, x51_15, rfl, HA, HJ15, HO_3, HB⟩ := hcut
      cases kq with
      | zero => exact absurd HA.out (by simp [spec_l5Depths.j2])
      | succ kj15 =>
       have H := HA.out
       clear HA
       simp only [spec_l5Depths.j2] at H
       by_cases c22 : x51_15 = true
       · subst c22
         have H1 : (some ([] : List Int)) = some r := by rw [if_pos rfl] at H; exact H
         clear H
         have H := H1
         clear H1
         obtain rfl := Option.some.inj H
         go_wp2
         go_ret
         exact ⟨_, by first | rfl | (simp [errW_none, errW_some] <;> rfl) | (simp only [← hji2]; first | rfl | (simp [errW_none, errW_some] <;> rfl)) | (simp [*, errW_none, errW_some] <;> rfl), by first | exact Kd.R_nil _ _ _ _ _ | exact Kd.N_nil _ _ _ _ _ | exact Kd.V_nil _ _ _ _ _ | exact Kd.Q_nil _ _ _ _ _ | exact Kd.S_nil _ _ _ _ _, by repeat (first | (with_reducible first | exact HB.out | apply below_alloc | apply pw_below_drewN | apply below_drew1) | exact HB.out)⟩
       replace c22 := Bool.eq_false_iff.mpr c22
       subst c22
       have H1 : (if 0 ≤ x5_2 then (if x5_2 < (x3_2.length : Int) then (if x5_2 < (l0.length : Int) then ((spec_l5Jumps.f ((rd_T30 l0 x5_2).f0) ((rd_T30 l0 x5_2).f1) ((rd_T30 l0 x5_2).f2.f0) ((rd_T30 l0 x5_2).f2.f1)).bind fun t146 => (if t146 = true then (spec_l5Depths.j3 kj15 l0 x3_2 x5_2 (wrap64 ((rd x3_2 x5_2) + t140)) ((rd_T30 l0 x5_2).f1)) else (spec_l5Depths.j3 kj15 l0 x3_2 x5_2 (wrap64 ((rd x3_2 x5_2) + t140)) (wrap64 (x5_2 + 1))))) else (none)) else (none)) else (none)) = some r := by rw [if_neg (show ¬ (false = true) by decide)] at H; exact H
       clear H
       have H := H1
       clear H1
       by_cases c23 : 0 ≤ x5_2
       rotate_left
       · rw [if_neg c23] at H
         exact absurd H (by simp)
       rw [if_pos c23] at H
       have c23b0 : decide (0 ≤ x5_2) = true := decide_eq_true c23
       clear c23
       by_cases c24 : x5_2 < (x3_2.length : Int)
       rotate_left
       · rw [if_neg c24] at H
         exact absurd H (by simp)
       rw [if_pos c24] at H
       have c24b0 : decide (x5_2 < (x3_2.length : Int)) = true := decide_eq_true c24
       clear c24
       by_cases c25 : x5_2 < (l0.length : Int)
       rotate_left
       · rw [if_neg c25] at H
         exact absurd H (by simp)
       rw [if_pos c25] at H
       have c25b0 : decide (x5_2 < (l0.length : Int)) = true := decide_eq_true c25
       clear c25
       replace H := Option.bind_eq_some_iff.mp H
       obtain ⟨t146, A260, H⟩ := H
       replace H : (if t146 = true then (spec_l5Depths.j3 kj15 l0 x3_2 x5_2 (wrap64 ((rd x3_2 x5_2) + t140)) ((rd_T30 l0 x5_2).f1)) else (spec_l5Depths.j3 kj15 l0 x3_2 x5_2 (wrap64 ((rd x3_2 x5_2) + t140)) (wrap64 (x5_2 + 1)))) = some r := H
       have A26 := Aside0.mk A260
       clear A260
       have HC27 := Aside0.mk H
       clear H
       obtain ⟨Ao28, co28, eo28⟩ := Kd.R_slice HO_3.out
       subst eo28
       have p144 : 0 ≤ (x5_2 : Int) := of_decide_eq_true (by first | (with_reducible assumption) | assumption)
       have q144 : x5_2 < (x3_2.length : Int) := of_decide_eq_true (by first | (with_reducible assumption) | assumption)
       obtain ⟨ad144, e144, hx144_0⟩ := Kd.at_int (Kd.R_reads' HO_3.out).2.2 x5_2 p144 q144
       cases e144
       replace p144 := eq_true p144
       replace q144 := eq_true q144
       have p145 : 0 ≤ (x5_2 : Int) := of_decide_eq_true (by first | (with_reducible assumption) | assumption)
       have q145 : x5_2 < (l0.length : Int) := of_decide_eq_true (by first | (with_reducible assumption) | assumption)
       obtain ⟨ad145, e145, hx145_0, hx145_1, hx145_2, hx145_3⟩ := at_T30 HR0.out x5_2 p145 q145
       obtain rfl : ad139 = ad145 := (by injection e145)
       replace hx145_0 := (HB.out.cell (World.block_lt_of_cell? w _ hx145_0)).trans hx145_0
       replace hx145_1 := (HB.out.cell (World.block_lt_of_cell? w _ hx145_1)).trans hx145_1
       replace hx145_2 := (HB.out.cell (World.block_lt_of_cell? w _ hx145_2)).trans hx145_2
       replace hx145_3 := (HB.out.cell (World.block_lt_of_cell? w _ hx145_3)).trans hx145_3
       replace p145 := eq_true p145
       replace q145 := eq_true q145
       go_upto_if 64 with (first | ((with_reducible refine gate_callee (f := 76) rfl ?_); refine goesL_ (some 64) rfl rfl Tryz.func76 (by kernel_rfl) rfl #[.agg #[.int .i64 ((rd_T30 l0 x5_2).f0), .int .i64 ((rd_T30 l0 x5_2).f1), .int .i64 ((rd_T30 l0 x5_2).f2.f0), .int .i64 ((rd_T30 l0 x5_2).f2.f1)]] rfl (by (try simp only [List.map_toArray, List.map_cons, List.map_nil]); first | done | rfl | (simp only [List.length_drop, List.length_take]; rfl)) ?_; (with_reducible refine (spec_l5Jumps.calls ((rd_T30 l0 x5_2).f0) ((rd_T30 l0 x5_2).f1) ((rd_T30 l0 x5_2).f2.f0) ((rd_T30 l0 x5_2).f2.f1) t146 _ A26.out).mono ?_); rintro e w29 ⟨rfl, hb⟩; refine ⟨_, rfl, ?_⟩; have n0_ := Aside0.mk (Kd.R_below (by (with_reducible repeat (first | apply Kd.R_alloc | apply Kd.R_drewN | apply Kd.R_drew)); exact HO_3.out) hb); have n1_ := Aside0.mk (below_step (by repeat (first | (with_reducible first | exact HB.out | apply below_alloc | apply pw_below_drewN | apply below_drew1) | exact HB.out)) hb); clear HO_3; clear HB; have HO_3 := n0_; have HB := n1_; clear n0_ n1_; (try clear hb); (try clear hb2); (try clear hk); (try clear hi)))
       (try simp only [Act.put, List.setIfInBounds_toArray, List.set_cons_zero, List.set_cons_succ])
       go_cut [9] (fun v9 wc => ∃ (kq : Nat) (x9_26 : Int), v9 = .int .i64 x9_26 ∧ Aside0 (spec_l5Depths.j3 kq l0 x3_2 x5_2 (wrap64 ((rd x3_2 x5_2) + t140)) x9_26 = some r) ∧ Aside0 (kq ≤ kj15) ∧ Aside0 (Kd.R (Kd.int .i64) 3 wc w.heap.size (fun _ => True) (.slice (some ad144) x3_2.length co28) x3_2) ∧ Aside0 (Below w.heap.size w wc))
       case first =>
        have H := HC27.out
        clear HC27
        by_cases c30 : t146 = true
        rotate_left
        · replace c30 := Bool.eq_false_iff.mpr c30
          subst c30
          have H1 : (spec_l5Depths.j3 kj15 l0 x3_2 x5_2 (wrap64 ((rd x3_2 x5_2) + t140)) (wrap64 (x5_2 + 1))) = some r := by rw [if_neg (show ¬ (false = true) by decide)] at H; exact H
          clear H
          have H := H1
          clear H1
          have H' := Aside0.mk H
          clear H
          go_wp2
          go_meet
          case rel => exact ⟨_, (wrap64 (x5_2 + 1)), (by first | rfl | (simp; done) | (simp [*]; done)), H', ⟨by have := HK1.out; have := HK2.out; have := HJ15.out; first | omega | exact Nat.le_refl _⟩, ⟨by (with_reducible repeat (first | apply Kd.R_alloc | apply Kd.R_drewN | apply Kd.R_drew)); exact HO_3.out⟩, ⟨by repeat (first | (with_reducible first | exact HB.out | apply below_alloc | apply pw_below_drewN | apply below_drew1) | exact HB.out)⟩⟩
        subst c30
        have H1 : (spec_l5Depths.j3 kj15 l0 x3_2 x5_2 (wrap64 ((rd x3_2 x5_2) + t140)) ((rd_T30 l0 x5_2).f1)) = some r := by rw [if_pos rfl] at H; exact H
        clear H
        have H := H1
        clear H1
        have H' := Aside0.mk H
        clear H
        have p147 : 0 ≤ (x5_2 : Int) := of_decide_eq_true (by first | (with_reducible assumption) | assumption)
        have q147 : x5_2 < (l0.length : Int) := of_decide_eq_true (by first | (with_reducible assumption) | assumption)
        obtain ⟨ad147, e147, hx147_0, hx147_1, hx147_2, hx147_3⟩ := at_T30 HR0.out x5_2 p147 q147
        obtain rfl : ad139 = ad147 := (by injection e147)
        replace hx147_0 := (HB.out.cell (World.block_lt_of_cell? w _ hx147_0)).trans hx147_0
        replace hx147_1 := (HB.out.cell (World.block_lt_of_cell? w _ hx147_1)).trans hx147_1
        replace hx147_2 := (HB.out.cell (World.block_lt_of_cell? w _ hx147_2)).trans hx147_2
        replace hx147_3 := (HB.out.cell (World.block_lt_of_cell? w _ hx147_3)).trans hx147_3
        replace p147 := eq_true p147
        replace q147 := eq_true q147
        go_wp2
        go_meet
        case rel => exact ⟨_, ((rd_T30 l0 x5_2).f1), (by first | rfl | (simp; done) | (simp [*]; done)), H', ⟨by have := HK1.out; have := HK2.out; have := HJ15.out; first | omega | exact Nat.le_refl _⟩, ⟨by (with_reducible repeat (first | apply Kd.R_alloc | apply Kd.R_drewN | apply Kd.R_drew)); exact HO_3.out⟩, ⟨by repeat (first | (with_reducible first | exact HB.out | apply below_alloc | apply pw_below_drewN | apply below_drew1) | exact HB.out)⟩⟩
       case rest =>
        clear HC27
        try clear c1
        try clear p1
        try clear q1
        try clear hx1
        try clear hf1
        try clear c2
        try clear p2
        try clear c3
        try clear c3b0
        try clear c3b1
        try clear c4
        try clear c4b0
        try clear c4b1
        try clear p6
        try clear c7
        try clear c7b0
        try clear c8
        try clear c8b0
        try clear c9
        try clear c9b0
        try clear p10
        try clear q10
        try clear hx10
        try clear hf10
        try clear c13
        try clear c13b0
        try clear p13
        try clear q13
        try clear hx13
        try clear c14
        try clear c14b0
        try clear p14
        try clear q14
        try clear hx14
        try clear c18
        try clear c18b0
        try clear c19
        try clear c19b0
        try clear c22
        try clear c23
        try clear c23b0
        try clear c24
        try clear c24b0
        try clear c25
        try clear c25b0
        try clear c30
        try clear hx10_0
        try clear hx139_0
        try clear hx139_1
        try clear hx139_2
        try clear hx139_3
        try clear hx142_0
        try clear hx143_0
        try clear hx144_0
        try clear hx145_0
        try clear hx145_1
        try clear hx145_2
        try clear hx145_3
        try clear hx147_0
        try clear hx147_1
        try clear hx147_2
        try clear hx147_3
        try clear p1
        try clear p10
        try clear p13
        try clear p139
        try clear p14
        try clear p142
        try clear p143
        try clear p144
        try clear p145
        try clear p147
        try clear p2
        try clear p6
        try clear q1
        try clear q10
        try clear q13
        try clear q139
        try clear q14
        try clear q142
        try clear q143
        try clear q144
        try clear q145
        try clear q147
        obtain ⟨kq, x9_26, rfl, HA, HJ26, HO_3, HB⟩ := hcut
        cases kq with
        | zero => exact absurd HA.out (by simp [spec_l5Depths.j3])
        | succ kj26 =>
         have H := HA.out
         clear HA
         simp only [spec_l5Depths.j3] at H
         have HC31 := Aside0.mk H
         clear H
         go_upto_region 16 with (fail)
         go_cut [100] (fun v100 wc => ∃ (kq : Nat) (x100_30 : Bool), v100 = .bool x100_30 ∧ Aside0 (spec_l5Depths.j4 kq l0 x3_2 x5_2 (wrap64 ((rd x3_2 x5_2) + t140)) x9_26 x100_30 = some r) ∧ Aside0 (kq ≤ kj26) ∧ Aside0 (Kd.R (Kd.int .i64) 3 wc w.heap.size (fun _ => True) (.slice (some ad144) x3_2.length co28) x3_2) ∧ Aside0 (Below w.heap.size w wc))
         case first =>
          have H := HC31.out
          clear HC31
          by_cases c32 : x9_26 ≤ x5_2
          rotate_left
          · rw [if_neg c32] at H
            have c32b0 : decide (x9_26 ≤ x5_2) = false := decide_eq_false c32
            clear c32
            (first | rw [c32b0] | (simp only [i64_w, i32_w]; rw [c32b0]) | skip)
            by_cases c38 : x9_26 > x5_2
            rotate_left
            · rw [if_neg c38] at H
              have c38b0 : decide (x5_2 < x9_26) = false := decide_eq_false c38
              clear c38
              have H' := Aside0.mk H
              clear H
              go_wp2
              go_meet
              case rel => exact ⟨_, (false), (by first | rfl | (simp; done) | (simp [*]; done)), H', ⟨by have := HK1.out; have := HK2.out; have := HJ15.out; have := HJ26.out; first | omega | exact Nat.le_refl _⟩, ⟨by (with_reducible repeat (first | apply Kd.R_alloc | apply Kd.R_drewN | apply Kd.R_drew)); exact HO_3.out⟩, ⟨by repeat (first | (with_reducible first | exact HB.out | apply below_alloc | apply pw_below_drewN | apply below_drew1) | exact HB.out)⟩⟩
            rw [if_pos c38] at H
            have c38b0 : decide (x5_2 < x9_26) = true := decide_eq_true c38
            clear c38
            by_cases c39 : 0 ≤ x9_26
            rotate_left
            · rw [if_neg c39] at H
              exact absurd H (by simp)
            rw [if_pos c39] at H
            have c39b0 : decide (0 ≤ x9_26) = true := decide_eq_true c39
            clear c39
            by_cases c40 : x9_26 < (x3_2.length : Int)
            rotate_left
            · rw [if_neg c40] at H
              exact absurd H (by simp)
            rw [if_pos c40] at H
            have c40b0 : decide (x9_26 < (x3_2.length : Int)) = true := decide_eq_true c40
            clear c40
            by_cases c41 : (rd x3_2 x9_26) ≥ 0
            rotate_left
            · rw [if_neg c41] at H
              have c41b0 : decide (0 ≤ (rd x3_2 x9_26)) = false := decide_eq_false c41
              clear c41
              have H' := Aside0.mk H
              clear H
              have p151 : 0 ≤ (x9_26 : Int) := of_decide_eq_true (by first | (with_reducible assumption) | assumption)
              have q151 : x9_26 < (x3_2.length : Int) := of_decide_eq_true (by first | (with_reducible assumption) | assumption)
              obtain ⟨ad151, e151, hx151_0⟩ := Kd.at_int (Kd.R_reads' HO_3.out).2.2 x9_26 p151 q151
              obtain rfl : ad144 = ad151 := (by injection e151)
              replace p151 := eq_true p151
              replace q151 := eq_true q151
              go_wp2
              go_meet
              case rel => exact ⟨_, (false), (by first | rfl | (simp; done) | (simp [*]; done)), H', ⟨by have := HK1.out; have := HK2.out; have := HJ15.out; have := HJ26.out; first | omega | exact Nat.le_refl _⟩, ⟨by (with_reducible repeat (first | apply Kd.R_alloc | apply Kd.R_drewN | apply Kd.R_drew)); exact HO_3.out⟩, ⟨by repeat (first | (with_reducible first | exact HB.out | apply below_alloc | apply pw_below_drewN | apply below_drew1) | exact HB.out)⟩⟩
            rw [if_pos c41] at H
            have c41b0 : decide (0 ≤ (rd x3_2 x9_26)) = true := decide_eq_true c41
            clear c41
            have H' := Aside0.mk H
            clear H
            have p151 : 0 ≤ (x9_26 : Int) := of_decide_eq_true (by first | (with_reducible assumption) | assumption)
            have q151 : x9_26 < (x3_2.length : Int) := of_decide_eq_true (by first | (with_reducible assumption) | assumption)
            obtain ⟨ad151, e151, hx151_0⟩ := Kd.at_int (Kd.R_reads' HO_3.out).2.2 x9_26 p151 q151
            obtain rfl : ad144 = ad151 := (by injection e151)
            replace p151 := eq_true p151
            replace q151 := eq_true q151
            have p152 : 0 ≤ (x9_26 : Int) := of_decide_eq_true (by first | (with_reducible assumption) | assumption)
            have q152 : x9_26 < (x3_2.length : Int) := of_decide_eq_true (by first | (with_reducible assumption) | assumption)
            obtain ⟨ad152, e152, hx152_0⟩ := Kd.at_int (Kd.R_reads' HO_3.out).2.2 x9_26 p152 q152
            obtain rfl : ad144 = ad152 := (by injection e152)
            replace p152 := eq_true p152
            replace q152 := eq_true q152
            go_wp2
            go_meet
            case rel => exact ⟨_, (((rd x3_2 x9_26) != (wrap64 ((rd x3_2 x5_2) + t140)))), (by first | rfl | (simp; done) | (simp [*]; done)), H', ⟨by have := HK1.out; have := HK2.out; have := HJ15.out; have := HJ26.out; first | omega | exact Nat.le_refl _⟩, ⟨by (with_reducible repeat (first | apply Kd.R_alloc | apply Kd.R_drewN | apply Kd.R_drew)); exact HO_3.out⟩, ⟨by repeat (first | (with_reducible first | exact HB.out | apply below_alloc | apply pw_below_drewN | apply below_drew1) | exact HB.out)⟩⟩
          rw [if_pos c32] at H
          have c32b0 : decide (x9_26 ≤ x5_2) = true := decide_eq_true c32
          clear c32
          (first | rw [c32b0] | (simp only [i64_w, i32_w]; rw [c32b0]) | skip)
          by_cases c33 : 0 ≤ x9_26
          rotate_left
          · rw [if_neg c33] at H
            exact absurd H (by simp)
          rw [if_pos c33] at H
          have c33b0 : decide (0 ≤ x9_26) = true := decide_eq_true c33
          clear c33
          by_cases c34 : x9_26 < (x3_2.length : Int)
          rotate_left
          · rw [if_neg c34] at H
            exact absurd H (by simp)
          rw [if_pos c34] at H
          have c34b0 : decide (x9_26 < (x3_2.length : Int)) = true := decide_eq_true c34
          clear c34
          by_cases c35 : (rd x3_2 x9_26) = (wrap64 ((rd x3_2 x5_2) + t140))
          rotate_left
          · rw [if_neg c35] at H
            have c35b0 : ((rd x3_2 x9_26) == (wrap64 ((rd x3_2 x5_2) + t140))) = false := beq_eq_false_iff_ne.mpr c35
            have c35b1 : ((rd x3_2 x9_26) != (wrap64 ((rd x3_2 x5_2) + t140))) = true := bne_iff_ne.mpr c35
            have H' := Aside0.mk H
            clear H
            have p148 : 0 ≤ (x9_26 : Int) := of_decide_eq_true (by first | (with_reducible assumption) | assumption)
            have q148 : x9_26 < (x3_2.length : Int) := of_decide_eq_true (by first | (with_reducible assumption) | assumption)
            obtain ⟨ad148, e148, hx148_0⟩ := Kd.at_int (Kd.R_reads' HO_3.out).2.2 x9_26 p148 q148
            obtain rfl : ad144 = ad148 := (by injection e148)
            replace p148 := eq_true p148
            replace q148 := eq_true q148
            go_wp2
            go_meet
            case rel => exact ⟨_, (true), (by first | rfl | (simp; done) | (simp [*]; done)), H', ⟨by have := HK1.out; have := HK2.out; have := HJ15.out; have := HJ26.out; first | omega | exact Nat.le_refl _⟩, ⟨by (with_reducible repeat (first | apply Kd.R_alloc | apply Kd.R_drewN | apply Kd.R_drew)); exact HO_3.out⟩, ⟨by repeat (first | (with_reducible first | exact HB.out | apply below_alloc | apply pw_below_drewN | apply below_drew1) | exact HB.out)⟩⟩
          rw [if_pos c35] at H
          have c35b0 : ((rd x3_2 x9_26) == (wrap64 ((rd x3_2 x5_2) + t140))) = true := beq_iff_eq.mpr c35
          have c35b1 : ((rd x3_2 x9_26) != (wrap64 ((rd x3_2 x5_2) + t140))) = false := bne_eq_false_iff_eq.mpr c35
          clear c35
          by_cases c36 : x9_26 > x5_2
          rotate_left
          · rw [if_neg c36] at H
            have c36b0 : decide (x5_2 < x9_26) = false := decide_eq_false c36
            clear c36
            have H' := Aside0.mk H
            clear H
            have p148 : 0 ≤ (x9_26 : Int) := of_decide_eq_true (by first | (with_reducible assumption) | assumption)
            have q148 : x9_26 < (x3_2.length : Int) := of_decide_eq_true (by first | (with_reducible assumption) | assumption)
            obtain ⟨ad148, e148, hx148_0⟩ := Kd.at_int (Kd.R_reads' HO_3.out).2.2 x9_26 p148 q148
            obtain rfl : ad144 = ad148 := (by injection e148)
            replace p148 := eq_true p148
            replace q148 := eq_true q148
            go_wp2
            go_meet
            case rel => exact ⟨_, (false), (by first | rfl | (simp; done) | (simp [*]; done)), H', ⟨by have := HK1.out; have := HK2.out; have := HJ15.out; have := HJ26.out; first | omega | exact Nat.le_refl _⟩, ⟨by (with_reducible repeat (first | apply Kd.R_alloc | apply Kd.R_drewN | apply Kd.R_drew)); exact HO_3.out⟩, ⟨by repeat (first | (with_reducible first | exact HB.out | apply below_alloc | apply pw_below_drewN | apply below_drew1) | exact HB.out)⟩⟩
          rw [if_pos c36] at H
          have c36b0 : decide (x5_2 < x9_26) = true := decide_eq_true c36
          clear c36
          by_cases c37 : (rd x3_2 x9_26) ≥ 0
          rotate_left
          · rw [if_neg c37] at H
            have c37b0 : decide (0 ≤ (rd x3_2 x9_26)) = false := decide_eq_false c37
            clear c37
            have H' := Aside0.mk H
            clear H
            have p148 : 0 ≤ (x9_26 : Int) := of_decide_eq_true (by first | (with_reducible assumption) | assumption)
            have q148 : x9_26 < (x3_2.length : Int) := of_decide_eq_true (by first | (with_reducible assumption) | assumption)
            obtain ⟨ad148, e148, hx148_0⟩ := Kd.at_int (Kd.R_reads' HO_3.out).2.2 x9_26 p148 q148
            obtain rfl : ad144 = ad148 := (by injection e148)
            replace p148 := eq_true p148
            replace q148 := eq_true q148
            have p149 : 0 ≤ (x9_26 : Int) := of_decide_eq_true (by first | (with_reducible assumption) | assumption)
            have q149 : x9_26 < (x3_2.length : Int) := of_decide_eq_true (by first | (with_reducible assumption) | assumption)
            obtain ⟨ad149, e149, hx149_0⟩ := Kd.at_int (Kd.R_reads' HO_3.out).2.2 x9_26 p149 q149
            obtain rfl : ad144 = ad149 := (by injection e149)
            replace p149 := eq_true p149
            replace q149 := eq_true q149
            go_wp2
            go_meet
            case rel => exact ⟨_, (false), (by first | rfl | (simp; done) | (simp [*]; done)), H', ⟨by have := HK1.out; have := HK2.out; have := HJ15.out; have := HJ26.out; first | omega | exact Nat.le_refl _⟩, ⟨by (with_reducible repeat (first | apply Kd.R_alloc | apply Kd.R_drewN | apply Kd.R_drew)); exact HO_3.out⟩, ⟨by repeat (first | (with_reducible first | exact HB.out | apply below_alloc | apply pw_below_drewN | apply below_drew1) | exact HB.out)⟩⟩
          rw [if_pos c37] at H
          have c37b0 : decide (0 ≤ (rd x3_2 x9_26)) = true := decide_eq_true c37
          clear c37
          have H' := Aside0.mk H
          clear H
          have p148 : 0 ≤ (x9_26 : Int) := of_decide_eq_true (by first | (with_reducible assumption) | assumption)
          have q148 : x9_26 < (x3_2.length : Int) := of_decide_eq_true (by first | (with_reducible assumption) | assumption)
          obtain ⟨ad148, e148, hx148_0⟩ := Kd.at_int (Kd.R_reads' HO_3.out).2.2 x9_26 p148 q148
          obtain rfl : ad144 = ad148 := (by injection e148)
          replace p148 := eq_true p148
          replace q148 := eq_true q148
          have p149 : 0 ≤ (x9_26 : Int) := of_decide_eq_true (by first | (with_reducible assumption) | assumption)
          have q149 : x9_26 < (x3_2.length : Int) := of_decide_eq_true (by first | (with_reducible assumption) | assumption)
          obtain ⟨ad149, e149, hx149_0⟩ := Kd.at_int (Kd.R_reads' HO_3.out).2.2 x9_26 p149 q149
          obtain rfl : ad144 = ad149 := (by injection e149)
          replace p149 := eq_true p149
          replace q149 := eq_true q149
          have p150 : 0 ≤ (x9_26 : Int) := of_decide_eq_true (by first | (with_reducible assumption) | assumption)
          have q150 : x9_26 < (x3_2.length : Int) := of_decide_eq_true (by first | (with_reducible assumption) | assumption)
          obtain ⟨ad150, e150, hx150_0⟩ := Kd.at_int (Kd.R_reads' HO_3.out).2.2 x9_26 p150 q150
          obtain rfl : ad144 = ad150 := (by injection e150)
          replace p150 := eq_true p150
          replace q150 := eq_true q150
          go_wp2
          go_meet
          case rel => exact ⟨_, (((rd x3_2 x9_26) != (wrap64 ((rd x3_2 x5_2) + t140)))), (by first | rfl | (simp; done) | (simp [*]; done)), H', ⟨by have := HK1.out; have := HK2.out; have := HJ15.out; have := HJ26.out; first | omega | exact Nat.le_refl _⟩, ⟨by (with_reducible repeat (first | apply Kd.R_alloc | apply Kd.R_drewN | apply Kd.R_drew)); exact HO_3.out⟩, ⟨by repeat (first | (with_reducible first | exact HB.out | apply below_alloc | apply pw_below_drewN | apply below_drew1) | exact HB.out)⟩⟩
         case rest =>
          clear HC31
          try clear c1
          try clear p1
          try clear q1
          try clear hx1
          try clear hf1
          try clear c2
          try clear p2
          try clear c3
          try clear c3b0
          try clear c3b1
          try clear c4
          try clear c4b0
          try clear c4b1
          try clear p6
          try clear c7
          try clear c7b0
          try clear c8
          try clear c8b0
          try clear c9
          try clear c9b0
          try clear p10
          try clear q10
          try clear hx10
          try clear hf10
          try clear c13
          try clear c13b0
          try clear p13
          try clear q13
          try clear hx13
          try clear c14
          try clear c14b0
          try clear p14
          try clear q14
          try clear hx14
          try clear p15
          try clear q15
          try clear hx15
          try clear c18
          try clear c18b0
          try clear c19
          try clear c19b0
          try clear c22
          try clear c23
          try clear c23b0
          try clear c24
          try clear c24b0
          try clear c25
          try clear c25b0
          try clear c30
          try clear c32
          try clear c32b0
          try clear c33
          try clear c33b0
          try clear c34
          try clear c34b0
          try clear c35
          try clear c35b0
          try clear c35b1
          try clear c36
          try clear c36b0
          try clear c37
          try clear c37b0
          try clear c38
          try clear c38b0
          try clear c39
          try clear c39b0
          try clear c40
          try clear c40b0
          try clear c41
          try clear c41b0
          try clear hx10_0
          try clear hx139_0
          try clear hx139_1
          try clear hx139_2
          try clear hx139_3
          try clear hx142_0
          try clear hx143_0
          try clear hx144_0
          try clear hx145_0
          try clear hx145_1
          try clear hx145_2
          try clear hx145_3
          try clear hx147_0
          try clear hx147_1
          try clear hx147_2
          try clear hx147_3
          try clear hx148_0
          try clear hx149_0
          try clear hx150_0
          try clear hx151_0
          try clear hx152_0
          try clear p1
          try clear p10
          try clear p13
          try clear p139
          try clear p14
          try clear p142
          try clear p143
          try clear p144
          try clear p145
          try clear p147
          try clear p148
          try clear p149
          try clear p150
          try clear p151
          try clear p152
          try clear p2
          try clear p6
          try clear q1
          try clear q10
          try clear q13
          try clear q139
          try clear q14
          try clear q142
          try clear q143
          try clear q144
          try clear q145
          try clear q147
          try clear q148
          try clear q149
          try clear q150
          try clear q151
          try clear q152
          obtain ⟨kq, x100_30, rfl, HA, HJ30, HO_3, HB⟩ := hcut
          cases kq with
          | zero => exact absurd HA.out (by simp [spec_l5Depths.j4])
          | succ kj30 =>
           have H := HA.out
           clear HA
           simp only [spec_l5Depths.j4] at H
           by_cases c42 : x100_30 = true
           · subst c42
             have H1 : (some ([] : List Int)) = some r := by rw [if_pos rfl] at H; exact H
             clear H
             have H := H1
             clear H1
             obtain rfl := Option.some.inj H
             go_wp2
             go_ret
             exact ⟨_, by first | rfl | (simp [errW_none, errW_some] <;> rfl) | (simp only [← hji2]; first | rfl | (simp [errW_none, errW_some] <;> rfl)) | (simp [*, errW_none, errW_some] <;> rfl), by first | exact Kd.R_nil _ _ _ _ _ | exact Kd.N_nil _ _ _ _ _ | exact Kd.V_nil _ _ _ _ _ | exact Kd.Q_nil _ _ _ _ _ | exact Kd.S_nil _ _ _ _ _, by repeat (first | (with_reducible first | exact HB.out | apply below_alloc | apply pw_below_drewN | apply below_drew1) | exact HB.out)⟩
           replace c42 := Bool.eq_false_iff.mpr c42
           subst c42
           have H1 : (if 0 ≤ x9_26 then (if x9_26 < (x3_2.length : Int) then ((some (x3_2.set (x9_26 : Int).toNat (wrap64 ((rd x3_2 x5_2) + t140)) : List Int)).bind fun y153 => (if 0 ≤ x5_2 then (if x5_2 < (l0.length : Int) then (if ((rd_T30 l0 x5_2).f0) = 7 then (spec_l5Depths.j5 kj30 l0 y153 x5_2 (wrap64 ((rd x3_2 x5_2) + t140)) true) else (spec_l5Depths.j5 kj30 l0 y153 x5_2 (wrap64 ((rd x3_2 x5_2) + t140)) (((rd_T30 l0 x5_2).f0) == 8))) else (none)) else (none))) else (none)) else (none)) = some r := by rw [if_neg (show ¬ (false = true) by decide)] at H; exact H
           clear H
           have H := H1
           clear H1
           by_cases c43 : 0 ≤ x9_26
           rotate_left
           · rw [if_neg c43] at H
             exact absurd H (by simp)
           rw [if_pos c43] at H
           have c43b0 : decide (0 ≤ x9_26) = true := decide_eq_true c43
           clear c43
           by_cases c44 : x9_26 < (x3_2.length : Int)
           rotate_left
           · rw [if_neg c44] at H
             exact absurd H (by simp)
           rw [if_pos c44] at H
           have c44b0 : decide (x9_26 < (x3_2.length : Int)) = true := decide_eq_true c44
           clear c44
           obtain ⟨y153, hy153⟩ : ∃ y_ : List Int, y_ = (x3_2.set (x9_26 : Int).toNat (wrap64 ((rd x3_2 x5_2) + t140))) := ⟨_, rfl⟩
           replace H : (if 0 ≤ x5_2 then (if x5_2 < (l0.length : Int) then (if ((rd_T30 l0 x5_2).f0) = 7 then (spec_l5Depths.j5 kj30 l0 y153 x5_2 (wrap64 ((rd x3_2 x5_2) + t140)) true) else (spec_l5Depths.j5 kj30 l0 y153 x5_2 (wrap64 ((rd x3_2 x5_2) + t140)) (((rd_T30 l0 x5_2).f0) == 8))) else (none)) else (none)) = some r := by first | (rw [hy153]; with_reducible exact H) | (have H2_ := (Option.bind_some _ _).symm.trans H; rw [hy153]; with_reducible exact H2_) | (have H2_ := (Option.bind_some _ _).symm.trans H; with_reducible exact H2_) | with_reducible exact H | (rw [hy153]; exact H) | exact H
           have Ny153 := Aside0.mk hy153
           clear hy153
           have HC46 := Aside0.mk H
           clear H
           have p45 : 0 ≤ (x9_26 : Int) := of_decide_eq_true (by first | (with_reducible assumption) | assumption)
           have q45 : (x9_26 : Int) < ((x3_2.length : Int) : Int) := of_decide_eq_true (by first | (with_reducible assumption) | assumption)
           obtain ⟨go45, co45, eo45, gb45, gl45, cl45, HG45⟩ := Kd.R_form HO_3.out (by omega)
           (first | cases eo45 | (injection eo45 with ea_ en_ ec_; (first | subst ea_ | (injection ea_ with ea_; subst ea_)); subst ec_; clear en_))
           have GB45 := Aside0.mk gb45
           have GG45 := Aside0.mk HG45
           clear gb45 gl45 HG45
           (first | simp only [add_plain] at hx144_0 | skip)
           (first | simp only [add_plain] at hx148_0 | skip)
           (first | simp only [add_plain] at hx149_0 | skip)
           (first | simp only [add_plain] at hx150_0 | skip)
           (first | simp only [add_plain] at hx151_0 | skip)
           (first | simp only [add_plain] at hx152_0 | skip)
           obtain ⟨hx45_0, hf45_0⟩ := Kd.R_celln 0 HO_3.out (x9_26 : Int) p45 q45
           replace p45 := eq_true p45
           replace q45 := eq_true q45
           have HP47 := Kd.R_putg HO_3.out (x9_26 : Int) (wrap64 ((rd x3_2 x5_2) + t140))
           go_upto_region 19 with (first | ((with_reducible refine gate_store (t := 3) (p := 104) rfl ?_); refine store_event (t := 3) (p := 104) (v := ?vo_w48) (w1 := (wc.setCell ⟨go45, (x9_26 : Int).toNat, none⟩ (.int .i64 (wrap64 ((rd x3_2 x5_2) + t140))))) ?hg ?ho ?hn ?hr ?_; (case ho => rfl); (case hg => rfl); (case hn => rfl); (case hr => first | (go_simp; done) | (go_simp; rfl)); intro w48 hw; have hg : wc.grownBy w48 (some go45) := (by rw [hw]; exact HP47.2); have hp_ : Kd.R (Kd.int .i64) 3 w48 w.heap.size (fun _ => True) (.slice (some ⟨go45, 0, none⟩) x3_2.length co28) y153 := (by rw [hw, Ny153.out]; exact HP47.1); clear HP47; have n0_ := Aside0.mk (hp_); have n1_ := Aside0.mk ((by rw [hw]; exact below_set (HB.out) GB45.out : Below w.heap.size w w48)); clear HO_3; clear HB; have HO_3 := n0_; have HB := n1_; clear n0_ n1_; clear hg hw hp_))
           (try simp only [Act.put, List.setIfInBounds_toArray, List.set_cons_zero, List.set_cons_succ])
           go_cut [118] (fun v118 wc => ∃ (kq : Nat) (x118_45 : Bool), v118 = .bool x118_45 ∧ Aside0 (spec_l5Depths.j5 kq l0 y153 x5_2 (wrap64 ((rd x3_2 x5_2) + t140)) x118_45 = some r) ∧ Aside0 (kq ≤ kj30) ∧ Aside0 (Kd.R (Kd.int .i64) 3 wc w.heap.size (fun _ => True) (.slice (some ⟨go45, 0, none⟩) x3_2.length co28) y153) ∧ Aside0 (Below w.heap.size w wc))
           case first =>
            have H := HC46.out
            clear HC46
            by_cases c49 : 0 ≤ x5_2
            rotate_left
            · rw [if_neg c49] at H
              exact absurd H (by simp)
            rw [if_pos c49] at H
            have c49b0 : decide (0 ≤ x5_2) = true := decide_eq_true c49
            clear c49
            (first | rw [c49b0] | (simp only [i64_w, i32_w]; rw [c49b0]) | skip)
            by_cases c50 : x5_2 < (l0.length : Int)
            rotate_left
            · rw [if_neg c50] at H
              exact absurd H (by simp)
            rw [if_pos c50] at H
            have c50b0 : decide (x5_2 < (l0.length : Int)) = true := decide_eq_true c50
            clear c50
            by_cases c51 : ((rd_T30 l0 x5_2).f0) = 7
            · rw [if_pos c51] at H
              have c51b0 : (((rd_T30 l0 x5_2).f0) == 7) = true := beq_iff_eq.mpr c51
              have c51b1 : (((rd_T30 l0 x5_2).f0) != 7) = false := bne_eq_false_iff_eq.mpr c51
              clear c51
              have H' := Aside0.mk H
              clear H
              have p154 : 0 ≤ (x5_2 : Int) := of_decide_eq_true (by first | (with_reducible assumption) | assumption)
              have q154 : x5_2 < (l0.length : Int) := of_decide_eq_true (by first | (with_reducible assumption) | assumption)
              obtain ⟨ad154, e154, hx154_0, hx154_1, hx154_2, hx154_3⟩ := at_T30 HR0.out x5_2 p154 q154
              obtain rfl : ad139 = ad154 := (by injection e154)
              replace hx154_0 := (HB.out.cell (World.block_lt_of_cell? w _ hx154_0)).trans hx154_0
              replace hx154_1 := (HB.out.cell (World.block_lt_of_cell? w _ hx154_1)).trans hx154_1
              replace hx154_2 := (HB.out.cell (World.block_lt_of_cell? w _ hx154_2)).trans hx154_2
              replace hx154_3 := (HB.out.cell (World.block_lt_of_cell? w _ hx154_3)).trans hx154_3
              replace p154 := eq_true p154
              replace q154 := eq_true q154
              go_wp2
              go_meet
              case rel => exact ⟨_, (true), (by first | rfl | (simp; done) | (simp [*]; done)), H', ⟨by have := HK1.out; have := HK2.out; have := HJ15.out; have := HJ26.out; have := HJ30.out; first | omega | exact Nat.le_refl _⟩, ⟨by (with_reducible repeat (first | apply Kd.R_alloc | apply Kd.R_drewN | apply Kd.R_drew)); exact HO_3.out⟩, ⟨by repeat (first | (with_reducible first | exact HB.out | apply below_alloc | apply pw_below_drewN | apply below_drew1) | exact HB.out)⟩⟩
            rw [if_neg c51] at H
            have c51b0 : (((rd_T30 l0 x5_2).f0) == 7) = false := beq_eq_false_iff_ne.mpr c51
            have c51b1 : (((rd_T30 l0 x5_2).f0) != 7) = true := bne_iff_ne.mpr c51
            have H' := Aside0.mk H
            clear H
            have p154 : 0 ≤ (x5_2 : Int) := of_decide_eq_true (by first | (with_reducible assumption) | assumption)
            have q154 : x5_2 < (l0.length : Int) := of_decide_eq_true (by first | (with_reducible assumption) | assumption)
            obtain ⟨ad154, e154, hx154_0, hx154_1, hx154_2, hx154_3⟩ := at_T30 HR0.out x5_2 p154 q154
            obtain rfl : ad139 = ad154 := (by injection e154)
            replace hx154_0 := (HB.out.cell (World.block_lt_of_cell? w _ hx154_0)).trans hx154_0
            replace hx154_1 := (HB.out.cell (World.block_lt_of_cell? w _ hx154_1)).trans hx154_1
            replace hx154_2 := (HB.out.cell (World.block_lt_of_cell? w _ hx154_2)).trans hx154_2
            replace hx154_3 := (HB.out.cell (World.block_lt_of_cell? w _ hx154_3)).trans hx154_3
            replace p154 := eq_true p154
            replace q154 := eq_true q154
            have p155 : 0 ≤ (x5_2 : Int) := of_decide_eq_true (by first | (with_reducible assumption) | assumption)
            have q155 : x5_2 < (l0.length : Int) := of_decide_eq_true (by first | (with_reducible assumption) | assumption)
            obtain ⟨ad155, e155, hx155_0, hx155_1, hx155_2, hx155_3⟩ := at_T30 HR0.out x5_2 p155 q155
            obtain rfl : ad139 = ad155 := (by injection e155)
            replace hx155_0 := (HB.out.cell (World.block_lt_of_cell? w _ hx155_0)).trans hx155_0
            replace hx155_1 := (HB.out.cell (World.block_lt_of_cell? w _ hx155_1)).trans hx155_1
            replace hx155_2 := (HB.out.cell (World.block_lt_of_cell? w _ hx155_2)).trans hx155_2
            replace hx155_3 := (HB.out.cell (World.block_lt_of_cell? w _ hx155_3)).trans hx155_3
            replace p155 := eq_true p155
            replace q155 := eq_true q155
            go_wp2
            go_meet
            case rel => exact ⟨_, ((((rd_T30 l0 x5_2).f0) == 8)), (by first | rfl | (simp; done) | (simp [*]; done)), H', ⟨by have := HK1.out; have := HK2.out; have := HJ15.out; have := HJ26.out; have := HJ30.out; first | omega | exact Nat.le_refl _⟩, ⟨by (with_reducible repeat (first | apply Kd.R_alloc | apply Kd.R_drewN | apply Kd.R_drew)); exact HO_3.out⟩, ⟨by repeat (first | (with_reducible first | exact HB.out | apply below_alloc | apply pw_below_drewN | apply below_drew1) | exact HB.out)⟩⟩
           case rest =>
            clear HC46
            try clear c1
            try clear p1
            try clear q1
            try clear hx1
            try clear hf1
            try clear c2
            try clear p2
            try clear c3
            try clear c3b0
            try clear c3b1
            try clear c4
            try clear c4b0
            try clear c4b1
            try clear p4
            try clear q4
            try clear hx4
            try clear hf4
            try clear c5
            try clear p6
            try clear c7
            try clear c7b0
            try clear c8
            try clear c8b0
            try clear c9
            try clear c9b0
            try clear p10
            try clear q10
            try clear hx10
            try clear hf10
            try clear c13
            try clear c13b0
            try clear p13
            try clear q13
            try clear hx13
            try clear c14
            try clear c14b0
            try clear p14
            try clear q14
            try clear hx14
            try clear p15
            try clear q15
            try clear hx15
            try clear c18
            try clear c18b0
            try clear c19
            try clear c19b0
            try clear c22
            try clear c23
            try clear c23b0
            try clear c24
            try clear c24b0
            try clear c25
            try clear c25b0
            try clear c30
            try clear c32
            try clear c32b0
            try clear c33
            try clear c33b0
            try clear c34
            try clear c34b0
            try clear c35
            try clear c35b0
            try clear c35b1
            try clear c36
            try clear c36b0
            try clear c37
            try clear c37b0
            try clear c38
            try clear c38b0
            try clear c39
            try clear c39b0
            try clear c40
            try clear c40b0
            try clear c41
            try clear c41b0
            try clear c42
            try clear c43
            try clear c43b0
            try clear c44
            try clear c44b0
            try clear p45
            try clear q45
            try clear hx45
            try clear hf45
            try clear c49
            try clear c49b0
            try clear c50
            try clear c50b0
            try clear c51
            try clear c51b0
            try clear c51b1
            try clear hx10_0
            try clear hx139_0
            try clear hx139_1
            try clear hx139_2
            try clear hx139_3
            try clear hx142_0
            try clear hx143_0
            try clear hx144_0
            try clear hx145_0
            try clear hx145_1
            try clear hx145_2
            try clear hx145_3
            try clear hx147_0
            try clear hx147_1
            try clear hx147_2
            try clear hx147_3
            try clear hx148_0
            try clear hx149_0
            try clear hx150_0
            try clear hx151_0
            try clear hx152_0
            try clear hx154_0
            try clear hx154_1
            try clear hx154_2
            try clear hx154_3
            try clear hx155_0
            try clear hx155_1
            try clear hx155_2
            try clear hx155_3
            try clear hx45_0
            try clear p1
            try clear p10
            try clear p13
            try clear p139
            try clear p14
            try clear p142
            try clear p143
            try clear p144
            try clear p145
            try clear p147
            try clear p148
            try clear p149
            try clear p15
            try clear p150
            try clear p151
            try clear p152
            try clear p154
            try clear p155
            try clear p2
            try clear p45
            try clear p6
            try clear q1
            try clear q10
            try clear q13
            try clear q139
            try clear q14
            try clear q142
            try clear q143
            try clear q144
            try clear q145
            try clear q147
            try clear q148
            try clear q149
            try clear q15
            try clear q150
            try clear q151
            try clear q152
            try clear q154
            try clear q155
            try clear q45
            obtain ⟨kq, x118_45, rfl, HA, HJ45, HO_3, HB⟩ := hcut
            have hl3_45 := (Kd.R_reads' HO_3.out).1
            rw [hl3_45] at HO_3
            (try simp only [hl3_45])
            cases kq with
            | zero => exact absurd HA.out (by simp [spec_l5Depths.j5])
            | succ kj45 =>
             have H := HA.out
             clear HA
             simp only [spec_l5Depths.j5] at H
             by_cases c52 : x118_45 = true
             · subst c52
               have H1 : (spec_l5Depths.l1 kj45 l0 y153 (wrap64 (x5_2 + 1))) = some r := by rw [if_pos rfl] at H; exact H
               clear H
               have H := H1
               clear H1
               have H' := Aside0.mk H
               clear H
               go_wp2
               (try simp only [← hl3_45])
               go_roundg kj45
               case measure => have := HK1.out; have := HK2.out; have := HJ15.out; have := HJ26.out; have := HJ30.out; have := HJ45.out; omega
               case rel => exact ⟨(y153), (wrap64 (x5_2 + 1)), (by first | rfl | (simp; done) | (simp [*]; done)), H', ⟨by have := HK1.out; have := HK2.out; have := HJ15.out; have := HJ26.out; have := HJ30.out; have := HJ45.out; omega⟩, ⟨by (try simp only [hl3_45]); (with_reducible repeat (first | apply Kd.R_alloc | apply Kd.R_drewN | apply Kd.R_drew)); exact HO_3.out⟩, ⟨by repeat (first | (with_reducible first | exact HB.out | apply below_alloc | apply pw_below_drewN | apply below_drew1) | exact HB.out)⟩⟩
             replace c52 := Bool.eq_false_iff.mpr c52
             subst c52
             have H1 : (if 0 ≤ (wrap64 (x5_2 + 1)) then (if (wrap64 (x5_2 + 1)) < (y153.length : Int) then (if (rd y153 (wrap64 (x5_2 + 1))) ≥ 0 then (if (rd y153 (wrap64 (x5_2 + 1))) = (wrap64 ((rd x3_2 x5_2) + t140)) then (spec_l5Depths.l1 kj45 l0 (y153.set ((wrap64 (x5_2 + 1)) : Int).toNat (wrap64 ((rd x3_2 x5_2) + t140))) (wrap64 (x5_2 + 1))) else (some ([] : List Int))) else (spec_l5Depths.l1 kj45 l0 (y153.set ((wrap64 (x5_2 + 1)) : Int).toNat (wrap64 ((rd x3_2 x5_2) + t140))) (wrap64 (x5_2 + 1)))) else (none)) else (none)) = some r := by rw [if_neg (show ¬ (false = true) by decide)] at H; exact H
             clear H
             have H := H1
             clear H1
             obtain ⟨ji53, hji53⟩ : ∃ j_ : Int, (wrap64 (x5_2 + 1)) = j_ := ⟨_, rfl⟩
             replace H : (if 0 ≤ (ji53) then (if (ji53) < (y153.length : Int) then (if (rd y153 (ji53)) ≥ 0 then (if (rd y153 (ji53)) = (wrap64 ((rd x3_2 x5_2) + t140)) then (spec_l5Depths.l1 kj45 l0 (y153.set ((ji53) : Int).toNat (wrap64 ((rd x3_2 x5_2) + t140))) ji53) else (some ([] : List Int))) else (spec_l5Depths.l1 kj45 l0 (y153.set ((ji53) : Int).toNat (wrap64 ((rd x3_2 x5_2) + t140))) ji53)) else (none)) else (none)) = some r := by first | (rw [hji53] at H; exact H) | (simp only [hji53] at H ⊢; exact H)
             have hji53w : (IntKind.i64.wrap (x5_2 + 1)) = ji53 := (i64_w _).trans hji53
             by_cases c54 : 0 ≤ (ji53)
             rotate_left
             · rw [if_neg c54] at H
               exact absurd H (by simp)
             rw [if_pos c54] at H
             have c54b0 : decide (0 ≤ (ji53)) = true := decide_eq_true c54
             clear c54
             by_cases c55 : (ji53) < (y153.length : Int)
             rotate_left
             · rw [if_neg c55] at H
               exact absurd H (by simp)
             rw [if_pos c55] at H
             have c55b0 : decide ((ji53) < (y153.length : Int)) = true := decide_eq_true c55
             clear c55
             by_cases c56 : (rd y153 (ji53)) ≥ 0
             rotate_left
             · rw [if_neg c56] at H
               have c56b0 : decide (0 ≤ (rd y153 (ji53))) = false := decide_eq_false c56
               clear c56
               obtain ⟨y159, hy159⟩ : ∃ y_ : List Int, y_ = (y153.set ((ji53) : Int).toNat (wrap64 ((rd x3_2 x5_2) + t140))) := ⟨_, rfl⟩
               replace H : (spec_l5Depths.l1 kj45 l0 y159 ji53) = some r := by first | (rw [hy159]; with_reducible exact H) | (have H2_ := (Option.bind_some _ _).symm.trans H; rw [hy159]; with_reducible exact H2_) | (have H2_ := (Option.bind_some _ _).symm.trans H; with_reducible exact H2_) | with_reducible exact H | (rw [hy159]; exact H) | exact H
               have Ny159 := Aside0.mk hy159
               clear hy159
               have H' := Aside0.mk H
               clear H
               have p156 : 0 ≤ ((ji53) : Int) := of_decide_eq_true (by first | (with_reducible assumption) | assumption)
               have q156 : (ji53) < (y153.length : Int) := of_decide_eq_true (by first | (with_reducible assumption) | assumption)
               obtain ⟨ad156, e156, hx156_0⟩ := Kd.at_int (Kd.R_reads' HO_3.out).2.2 (ji53) p156 q156
               obtain rfl : (⟨go45, 0, none⟩ : Addr) = ad156 := (by injection e156)
               (first | simp only [add_plain] at hx156_0 | simp only [add_at] at hx156_0 | simp only [Addr.add, Nat.zero_add] at hx156_0 | skip)
               replace p156 := eq_true p156
               replace q156 := eq_true q156
               have p61 : 0 ≤ ((ji53) : Int) := of_decide_eq_true (by first | (with_reducible assumption) | assumption)
               have q61 : ((ji53) : Int) < ((y153.length : Int) : Int) := of_decide_eq_true (by first | (with_reducible assumption) | assumption)
               obtain ⟨hx61_0, hf61_0⟩ := Kd.R_celln 0 HO_3.out ((ji53) : Int) p61 q61
               replace p61 := eq_true p61
               replace q61 := eq_true q61
               have HP62 := Kd.R_putg HO_3.out ((ji53) : Int) (wrap64 ((rd x3_2 x5_2) + t140))
               go_wp2_with (first | ((with_reducible refine gate_store (t := 3) (p := 138) rfl ?_); refine store_event (t := 3) (p := 138) (v := ?vo_w63) (w1 := (wc.setCell ⟨go45, ((ji53) : Int).toNat, none⟩ (.int .i64 (wrap64 ((rd x3_2 x5_2) + t140))))) ?hg ?ho ?hn ?hr ?_; (case ho => rfl); (case hg => rfl); (case hn => rfl); (case hr => first | (go_simp; done) | (go_simp; rfl)); intro w63 hw; have hg : wc.grownBy w63 (some go45) := (by rw [hw]; exact HP62.2); have hp_ : Kd.R (Kd.int .i64) 3 w63 w.heap.size (fun _ => True) (.slice (some ⟨go45, 0, none⟩) y153.length co28) y159 := (by rw [hw, Ny159.out]; exact HP62.1); clear HP62; have n0_ := Aside0.mk (hp_); have n1_ := Aside0.mk ((by rw [hw]; exact below_set (HB.out) GB45.out : Below w.heap.size w w63)); clear HO_3; clear HB; have HO_3 := n0_; have HB := n1_; clear n0_ n1_; clear hg hw hp_))
               (try simp only [← hl3_45])
               go_roundg kj45
               case measure => have := HK1.out; have := HK2.out; have := HJ15.out; have := HJ26.out; have := HJ30.out; have := HJ45.out; omega
               case rel => exact ⟨(y159), (ji53), (by first | rfl | (simp; done) | (simp only [← hji53] <;> (first | rfl | simp)) | (simp [*]; done)), H', ⟨by have := HK1.out; have := HK2.out; have := HJ15.out; have := HJ26.out; have := HJ30.out; have := HJ45.out; omega⟩, ⟨by (try simp only [hl3_45]); (with_reducible repeat (first | apply Kd.R_alloc | apply Kd.R_drewN | apply Kd.R_drew)); exact HO_3.out⟩, ⟨by repeat (first | (with_reducible first | exact HB.out | apply below_alloc | apply pw_below_drewN | apply below_drew1) | exact HB.out)⟩⟩
             rw [if_pos c56] at H
             have c56b0 : decide (0 ≤ (rd y153 (ji53))) = true := decide_eq_true c56
             clear c56
             by_cases c57 : (rd y153 (ji53)) = (wrap64 ((rd x3_2 x5_2) + t140))
             rotate_left
             · rw [if_neg c57] at H
               have c57b0 : ((rd y153 (ji53)) == (wrap64 ((rd x3_2 x5_2) + t140))) = false := beq_eq_false_iff_ne.mpr c57
               have c57b1 : ((rd y153 (ji53)) != (wrap64 ((rd x3_2 x5_2) + t140))) = true := bne_iff_ne.mpr c57
               obtain rfl := Option.some.inj H
               have p156 : 0 ≤ ((ji53) : Int) := of_decide_eq_true (by first | (with_reducible assumption) | assumption)
               have q156 : (ji53) < (y153.length : Int) := of_decide_eq_true (by first | (with_reducible assumption) | assumption)
               obtain ⟨ad156, e156, hx156_0⟩ := Kd.at_int (Kd.R_reads' HO_3.out).2.2 (ji53) p156 q156
               obtain rfl : (⟨go45, 0, none⟩ : Addr) = ad156 := (by injection e156)
               (first | simp only [add_plain] at hx156_0 | simp only [add_at] at hx156_0 | simp only [Addr.add, Nat.zero_add] at hx156_0 | skip)
               replace p156 := eq_true p156
               replace q156 := eq_true q156
               have p157 : 0 ≤ ((ji53) : Int) := of_decide_eq_true (by first | (with_reducible assumption) | assumption)
               have q157 : (ji53) < (y153.length : Int) := of_decide_eq_true (by first | (with_reducible assumption) | assumption)
               obtain ⟨ad157, e157, hx157_0⟩ := Kd.at_int (Kd.R_reads' HO_3.out).2.2 (ji53) p157 q157
               obtain rfl : (⟨go45, 0, none⟩ : Addr) = ad157 := (by injection e157)
               (first | simp only [add_plain] at hx157_0 | simp only [add_at] at hx157_0 | simp only [Addr.add, Nat.zero_add] at hx157_0 | skip)
               replace p157 := eq_true p157
               replace q157 := eq_true q157
               go_wp2
               go_ret
               exact ⟨_, by first | rfl | (simp [errW_none, errW_some] <;> rfl) | (simp only [← hji2, ← hji53]; first | rfl | (simp [errW_none, errW_some] <;> rfl)) | (simp [*, errW_none, errW_some] <;> rfl), by first | exact Kd.R_nil _ _ _ _ _ | exact Kd.N_nil _ _ _ _ _ | exact Kd.V_nil _ _ _ _ _ | exact Kd.Q_nil _ _ _ _ _ | exact Kd.S_nil _ _ _ _ _, by repeat (first | (with_reducible first | exact HB.out | apply below_alloc | apply pw_below_drewN | apply below_drew1) | exact HB.out)⟩
             rw [if_pos c57] at H
             have c57b0 : ((rd y153 (ji53)) == (wrap64 ((rd x3_2 x5_2) + t140))) = true := beq_iff_eq.mpr c57
             have c57b1 : ((rd y153 (ji53)) != (wrap64 ((rd x3_2 x5_2) + t140))) = false := bne_eq_false_iff_eq.mpr c57
             clear c57
             obtain ⟨y158, hy158⟩ : ∃ y_ : List Int, y_ = (y153.set ((ji53) : Int).toNat (wrap64 ((rd x3_2 x5_2) + t140))) := ⟨_, rfl⟩
             replace H : (spec_l5Depths.l1 kj45 l0 y158 ji53) = some r := by first | (rw [hy158]; with_reducible exact H) | (have H2_ := (Option.bind_some _ _).symm.trans H; rw [hy158]; with_reducible exact H2_) | (have H2_ := (Option.bind_some _ _).symm.trans H; with_reducible exact H2_) | with_reducible exact H | (rw [hy158]; exact H) | exact H
             have Ny158 := Aside0.mk hy158
             clear hy158
             have H' := Aside0.mk H
             clear H
             have p156 : 0 ≤ ((ji53) : Int) := of_decide_eq_true (by first | (with_reducible assumption) | assumption)
             have q156 : (ji53) < (y153.length : Int) := of_decide_eq_true (by first | (with_reducible assumption) | assumption)
             obtain ⟨ad156, e156, hx156_0⟩ := Kd.at_int (Kd.R_reads' HO_3.out).2.2 (ji53) p156 q156
             obtain rfl : (⟨go45, 0, none⟩ : Addr) = ad156 := (by injection e156)
             (first | simp only [add_plain] at hx156_0 | simp only [add_at] at hx156_0 | simp only [Addr.add, Nat.zero_add] at hx156_0 | skip)
             replace p156 := eq_true p156
             replace q156 := eq_true q156
             have p157 : 0 ≤ ((ji53) : Int) := of_decide_eq_true (by first | (with_reducible assumption) | assumption)
             have q157 : (ji53) < (y153.length : Int) := of_decide_eq_true (by first | (with_reducible assumption) | assumption)
             obtain ⟨ad157, e157, hx157_0⟩ := Kd.at_int (Kd.R_reads' HO_3.out).2.2 (ji53) p157 q157
             obtain rfl : (⟨go45, 0, none⟩ : Addr) = ad157 := (by injection e157)
             (first | simp only [add_plain] at hx157_0 | simp only [add_at] at hx157_0 | simp only [Addr.add, Nat.zero_add] at hx157_0 | skip)
             replace p157 := eq_true p157
             replace q157 := eq_true q157
             have p58 : 0 ≤ ((ji53) : Int) := of_decide_eq_true (by first | (with_reducible assumption) | assumption)
             have q58 : ((ji53) : Int) < ((y153.length : Int) : Int) := of_decide_eq_true (by first | (with_reducible assumption) | assumption)
             obtain ⟨hx58_0, hf58_0⟩ := Kd.R_celln 0 HO_3.out ((ji53) : Int) p58 q58
             replace p58 := eq_true p58
             replace q58 := eq_true q58
             have HP59 := Kd.R_putg HO_3.out ((ji53) : Int) (wrap64 ((rd x3_2 x5_2) + t140))
             go_wp2_with (first | ((with_reducible refine gate_store (t := 3) (p := 138) rfl ?_); refine store_event (t := 3) (p := 138) (v := ?vo_w60) (w1 := (wc.setCell ⟨go45, ((ji53) : Int).toNat, none⟩ (.int .i64 (wrap64 ((rd x3_2 x5_2) + t140))))) ?hg ?ho ?hn ?hr ?_; (case ho => rfl); (case hg => rfl); (case hn => rfl); (case hr => first | (go_simp; done) | (go_simp; rfl)); intro w60 hw; have hg : wc.grownBy w60 (some go45) := (by rw [hw]; exact HP59.2); have hp_ : Kd.R (Kd.int .i64) 3 w60 w.heap.size (fun _ => True) (.slice (some ⟨go45, 0, none⟩) y153.length co28) y158 := (by rw [hw, Ny158.out]; exact HP59.1); clear HP59; have n0_ := Aside0.mk (hp_); have n1_ := Aside0.mk ((by rw [hw]; exact below_set (HB.out) GB45.out : Below w.heap.size w w60)); clear HO_3; clear HB; have HO_3 := n0_; have HB := n1_; clear n0_ n1_; clear hg hw hp_))
             (try simp only [← hl3_45])
             go_roundg kj45
             case measure => have := HK1.out; have := HK2.out; have := HJ15.out; have := HJ26.out; have := HJ30.out; have := HJ45.out; omega
             case rel => exact ⟨(y158), (ji53), (by first | rfl | (simp; done) | (simp only [← hji53] <;> (first | rfl | simp)) | (simp [*]; done)), H', ⟨by have := HK1.out; have := HK2.out; have := HJ15.out; have := HJ26.out; have := HJ30.out; have := HJ45.out; omega⟩, ⟨by (try simp only [hl3_45]); (with_reducible repeat (first | apply Kd.R_alloc | apply Kd.R_drewN | apply Kd.R_drew)); exact HO_3.out⟩, ⟨by repeat (first | (with_reducible first | exact HB.out | apply below_alloc | apply pw_below_drewN | apply below_drew1) | exact HB.out)⟩⟩
end Go.Proofs.YtjamfddhcigchaaGreatDoor.HFnExactCodeRun
