-- Made by a program of this session (hp.py) over the kit's print: functions told by hand stand beside printed ones. Lean checks it.
import Derived.Test.YtjamfddhcigchaaGreatDoorTFnCodeBentHFnCodeBentx13
namespace Go.Proofs.YtjamfddhcigchaaGreatDoor.HFnCodeBent
open Go.RowKit Go.Proofs.YtjamfddhcigchaaGreatDoorW.PrintWords Go.Proofs.YtjamfddhcigchaaGreatDoorW.PrintLast Go.Proofs.YtjamfddhcigchaaGreatDoorW.PrintMore
attribute [local go_sem] max2_int min2_int max_two min_two max_three min_three max_four min_four
set_option linter.unusedVariables false
set_option linter.unusedSimpArgs false
mutual
def spec_l5Depths.l0 : Nat → List (S30) → List Int → Int → Option (List Int)
  | 0, _, _, _ => none
  | k + 1, x0, x3, x4 => if x4 ≤ (x0.length : Int) then (if 0 ≤ x4 then (if x4 < (x3.length : Int) then (spec_l5Depths.l0 k x0 (x3.set (x4 : Int).toNat (-1)) (wrap64 (x4 + 1))) else (none)) else (none)) else (spec_l5Depths.l1 k x0 x3 0)
def spec_l5Depths.l1 : Nat → List (S30) → List Int → Int → Option (List Int)
  | 0, _, _, _ => none
  | k + 1, x0, x3, x5 => if x5 < (x0.length : Int) then (if 0 ≤ x5 then ((spec_l5Turn.f k ((rd_T30 x0 x5).f0) ((rd_T30 x0 x5).f1) ((rd_T30 x0 x5).f2.f0) ((rd_T30 x0 x5).f2.f1)).bind fun bt415 => (if x5 < (x3.length : Int) then (if (rd x3 x5) < bt415.2 then (spec_l5Depths.j2 k x0 x3 x5 bt415.1 true) else (spec_l5Depths.j2 k x0 x3 x5 bt415.1 (decide ((wrap64 ((rd x3 x5) + bt415.1)) > 12)))) else (none))) else (none)) else (some x3)
def spec_l5Depths.j2 : Nat → List (S30) → List Int → Int → Int → Bool → Option (List Int)
  | 0, _, _, _, _, _ => none
  | k + 1, x0, x3, x5, x6, x51 => if x51 = true then (some ([] : List Int)) else (if 0 ≤ x5 then (if x5 < (x3.length : Int) then (if x5 < (x0.length : Int) then ((spec_l5Jumps.f ((rd_T30 x0 x5).f0) ((rd_T30 x0 x5).f1) ((rd_T30 x0 x5).f2.f0) ((rd_T30 x0 x5).f2.f1)).bind fun t421 => (if t421 = true then (spec_l5Depths.j3 k x0 x3 x5 (wrap64 ((rd x3 x5) + x6)) ((rd_T30 x0 x5).f1)) else (spec_l5Depths.j3 k x0 x3 x5 (wrap64 ((rd x3 x5) + x6)) (wrap64 (x5 + 1))))) else (none)) else (none)) else (none))
def spec_l5Depths.j3 : Nat → List (S30) → List Int → Int → Int → Int → Option (List Int)
  | 0, _, _, _, _, _ => none
  | k + 1, x0, x3, x5, x8, x9 => if x9 ≤ x5 then (if 0 ≤ x9 then (if x9 < (x3.length : Int) then (if (rd x3 x9) = x8 then (if x9 > x5 then (if (rd x3 x9) ≥ 0 then (spec_l5Depths.j4 k x0 x3 x5 x8 x9 ((rd x3 x9) != x8)) else (spec_l5Depths.j4 k x0 x3 x5 x8 x9 false)) else (spec_l5Depths.j4 k x0 x3 x5 x8 x9 false)) else (spec_l5Depths.j4 k x0 x3 x5 x8 x9 true)) else (none)) else (none)) else (if x9 > x5 then (if 0 ≤ x9 then (if x9 < (x3.length : Int) then (if (rd x3 x9) ≥ 0 then (spec_l5Depths.j4 k x0 x3 x5 x8 x9 ((rd x3 x9) != x8)) else (spec_l5Depths.j4 k x0 x3 x5 x8 x9 false)) else (none)) else (none)) else (spec_l5Depths.j4 k x0 x3 x5 x8 x9 false))
def spec_l5Depths.j4 : Nat → List (S30) → List Int → Int → Int → Int → Bool → Option (List Int)
  | 0, _, _, _, _, _, _ => none
  | k + 1, x0, x3, x5, x8, x9, x100 => if x100 = true then (some ([] : List Int)) else (if 0 ≤ x9 then (if x9 < (x3.length : Int) then ((some (x3.set (x9 : Int).toNat x8 : List Int)).bind fun y428 => (if 0 ≤ x5 then (if x5 < (x0.length : Int) then (if ((rd_T30 x0 x5).f0) = 7 then (spec_l5Depths.j5 k x0 y428 x5 x8 true) else (spec_l5Depths.j5 k x0 y428 x5 x8 (((rd_T30 x0 x5).f0) == 8))) else (none)) else (none))) else (none)) else (none))
def spec_l5Depths.j5 : Nat → List (S30) → List Int → Int → Int → Bool → Option (List Int)
  | 0, _, _, _, _, _ => none
  | k + 1, x0, x3, x5, x8, x118 => if x118 = true then (spec_l5Depths.l1 k x0 x3 (wrap64 (x5 + 1))) else (if 0 ≤ (wrap64 (x5 + 1)) then (if (wrap64 (x5 + 1)) < (x3.length : Int) then (if (rd x3 (wrap64 (x5 + 1))) ≥ 0 then (if (rd x3 (wrap64 (x5 + 1))) = x8 then (spec_l5Depths.l1 k x0 (x3.set ((wrap64 (x5 + 1)) : Int).toNat x8) (wrap64 (x5 + 1))) else (some ([] : List Int))) else (spec_l5Depths.l1 k x0 (x3.set ((wrap64 (x5 + 1)) : Int).toNat x8) (wrap64 (x5 + 1)))) else (none)) else (none))
end
def spec_l5Depths.f (k : Nat) (l0 : List (S30)) : Option (List Int) := if 0 ≤ (wrap64 ((l0.length : Int) + 1)) then (if (wrap64 ((l0.length : Int) + 1) : Int).toNat ≤ 35184372088832 then (spec_l5Depths.l0 k l0 (List.replicate (wrap64 ((l0.length : Int) + 1) : Int).toNat 0) 1) else (none)) else (none)
set_option maxHeartbeats 8000000 in
set_option maxRecDepth 100000 in
theorem spec_l5Depths.calls (k : Nat) (A0 : Option Addr) (c0 : Nat) (l0 : List (S30)) (r : List Int) (w : World) (hr0 : Kd.C k30 w A0 l0.length l0) (hc0 : l0.length ≤ c0) (h : spec_l5Depths.f k l0 = some r) :
    Calls Tryz.prog 42 #[.slice A0 l0.length c0] w fun e w' => ∃ v0_ : Value, e = .returned (v0_) ∧ Kd.R (Kd.int .i64) 3 w' w.heap.size (fun _ => True) v0_ r ∧ Below w.heap.size w w' := by
 have hu30 := Tryz.underlying30
 have HR0 := aM_ hr0
 have HC0 := aM_ hc0
 clear hr0 hc0
 have HB := aM_ (Below.refl w.heap.size w)
 have H : (if 0 ≤ (wrap64 ((l0.length : Int) + 1)) then (if (wrap64 ((l0.length : Int) + 1) : Int).toNat ≤ 35184372088832 then (spec_l5Depths.l0 k l0 (List.replicate (wrap64 ((l0.length : Int) + 1) : Int).toNat 0) 1) else (none)) else (none)) = some r := h
 clear h
 obtain ⟨ji2, hji2⟩ : ∃ j_ : Int, (wrap64 ((l0.length : Int) + 1)) = j_ := ⟨_, rfl⟩
 replace H : (if 0 ≤ (ji2) then (if (ji2 : Int).toNat ≤ 35184372088832 then (spec_l5Depths.l0 k l0 (List.replicate (ji2 : Int).toNat 0) 1) else (none)) else (none)) = some r := by first | (rw [hji2] at H; exact H) | (simp only [hji2] at H ⊢; exact H)
 have hji2w : (IntKind.i64.wrap ((l0.length : Int) + 1)) = ji2 := (i64_w _).trans hji2
 by_cases c3 : 0 ≤ (ji2)
 rotate_left
 · rw [if_neg c3] at H
   exact absurd H (by simp)
 rw [if_pos c3] at H
 have c3b0 := eq_true c3
 have c3b1 : decide (0 ≤ (ji2)) = true := dT_ c3
 clear c3
 by_cases c4 : (ji2 : Int).toNat ≤ 35184372088832
 rotate_left
 · rw [if_neg c4] at H
   exact absurd H (by simp)
 rw [if_pos c4] at H
 have c4b0 := eq_true c4
 have c4b1 : decide ((ji2 : Int).toNat ≤ 35184372088832) = true := dT_ c4
 clear c4
 obtain ⟨y410, hy410⟩ : ∃ y_ : List Int, y_ = (List.replicate (ji2 : Int).toNat 0) := ⟨_, rfl⟩
 replace H : (spec_l5Depths.l0 k l0 y410 1) = some r := by first | (rw [hy410]; with_reducible exact H) | (have H2_ := (Option.bind_some _ _).symm.trans H; rw [hy410]; with_reducible exact H2_) | (have H2_ := (Option.bind_some _ _).symm.trans H; with_reducible exact H2_) | with_reducible exact H | (rw [hy410]; exact H) | exact H
 have Ny410 := aM_ hy410
 clear hy410
 have H' := aM_ H
 clear H
 go_enter Tryz.func42, Tryz.ntmps42
 go_wp2_with (first | ((with_reducible refine gate_dst (N := 13) rfl ?_); refine Kd.R_make (Kd.int .i64) _ 3 rfl (N := 13) rfl 31 _ _ rfl ji2 rfl rfl Tryz.underlying31 (.int .i64 0) 8 info3 rfl (by decide) (by omega) 0 (ok := fun _ => True) (okp := fun _ => True) rfl (fun _ hk => hk) trivial (oD_ (by first | (with_reducible assumption) | assumption)) (Nat.le_trans (Nat.mul_le_mul_right _ (oD_ (by first | (with_reducible assumption) | assumption) : ji2.toNat ≤ 35184372088832)) (by omega)) (Below.refl _ _) (Nat.le_refl _) ?_; intro v411 w5 ho6 hb hg_ hnew_; clear hg_ hnew_; (first | rw [← Ny410.out] at ho6 | (simp only [Int.reduceToNat] at ho6; rw [← Ny410.out] at ho6)); have n0_ := aM_ (Kd.R_lower ho6 (bZ_ (qB HB))); have n1_ := aM_ (bT_ (qB HB) hb); clear HB; have HO412 := n0_; have HB := n1_; clear n0_ n1_ hb ho6))
 go_loopg [4] k (fun kq v4 w' => ∃ (x3_1 : List Int) (x4_1 : Int), v4 = .int .i64 x4_1 ∧ Aside0 (spec_l5Depths.l0 kq l0 x3_1 x4_1 = some r) ∧ Aside0 (kq ≤ k) ∧ Aside0 (Kd.R (Kd.int .i64) 3 w' w.heap.size (fun _ => True) v411 x3_1) ∧ Aside0 (Below w.heap.size w w'))
 case atStart => exact ⟨(y410), (1), qF, H', ⟨Nat.le_refl _⟩, ⟨by (with_reducible repeat (first | apply rA_ | apply rN_ | apply rD_)); exact HO412.out⟩, ⟨qB HB⟩⟩
 case round =>
  clear H'
  try clear p2
  try clear c3
  try clear c3b0
  try clear c3b1
  try clear c4
  try clear c4b0
  try clear c4b1
  try clear p6
  obtain ⟨x3_1, x4_1, rfl, HA, HK1, HO_3, HB⟩ := hrel
  cases gk with
  | zero => exact absurd HA.out (by simp [spec_l5Depths.l0])
  | succ k1 =>
   have H := HA.out
   clear HA
   simp only [spec_l5Depths.l0] at H
   by_cases c7 : x4_1 ≤ (l0.length : Int)
   · rw [if_pos c7] at H
     have c7b0 : decide (x4_1 ≤ (l0.length : Int)) = true := dT_ c7
     clear c7
     by_cases c8 : 0 ≤ x4_1
     rotate_left
     · rw [if_neg c8] at H
       exact absurd H (by simp)
     rw [if_pos c8] at H
     have c8b0 : decide (0 ≤ x4_1) = true := dT_ c8
     clear c8
     by_cases c9 : x4_1 < (x3_1.length : Int)
     rotate_left
     · rw [if_neg c9] at H
       exact absurd H (by simp)
     rw [if_pos c9] at H
     have c9b0 : decide (x4_1 < (x3_1.length : Int)) = true := dT_ c9
     clear c9
     obtain ⟨y413, hy413⟩ : ∃ y_ : List Int, y_ = (x3_1.set (x4_1 : Int).toNat (-1)) := ⟨_, rfl⟩
     replace H : (spec_l5Depths.l0 k1 l0 y413 (wrap64 (x4_1 + 1))) = some r := by first | (rw [hy413]; with_reducible exact H) | (have H2_ := (Option.bind_some _ _).symm.trans H; rw [hy413]; with_reducible exact H2_) | (have H2_ := (Option.bind_some _ _).symm.trans H; with_reducible exact H2_) | with_reducible exact H | (rw [hy413]; exact H) | exact H
     have Ny413 := aM_ hy413
     clear hy413
     have H' := aM_ H
     clear H
     have p10 : 0 ≤ (x4_1 : Int) := oD_ (by first | (with_reducible assumption) | assumption)
     have q10 : (x4_1 : Int) < ((x3_1.length : Int) : Int) := oD_ (by first | (with_reducible assumption) | assumption)
     obtain ⟨go10, co10, eo10, gb10, gl10, cl10, HG10⟩ := Kd.R_form HO_3.out (by omega)
     (first | cases eo10 | (injection eo10 with ea_ en_ ec_; (first | subst ea_ | (injection ea_ with ea_; subst ea_)); subst ec_; clear en_))
     have GB10 := aM_ gb10
     have GG10 := aM_ HG10
     clear gb10 gl10 HG10
     obtain ⟨hx10_0, hf10_0⟩ := Kd.R_celln 0 HO_3.out (x4_1 : Int) p10 q10
     replace p10 := eq_true p10
     replace q10 := eq_true q10
     have HP11 := Kd.R_putg HO_3.out (x4_1 : Int) (-1)
     go_wp2_with (first | ((with_reducible refine gate_store (t := 3) (p := 22) rfl ?_); refine store_event (t := 3) (p := 22) (v := ?vo_w12) (w1 := (wr.setCell ⟨go10, (x4_1 : Int).toNat, none⟩ (.int .i64 (-1)))) ?hg ?ho ?hn ?hr ?_; (case ho => rfl); (case hg => rfl); (case hn => rfl); (case hr => first | (go_simp; done) | (go_simp; rfl)); intro w12 hw; have hg : wr.grownBy w12 (some go10) := (by rw [hw]; exact HP11.2); have hp_ : Kd.R (Kd.int .i64) 3 w12 w.heap.size (fun _ => True) (.slice (some ⟨go10, 0, none⟩) x3_1.length co10) y413 := (by rw [hw, Ny413.out]; exact HP11.1); clear HP11; have n0_ := aM_ (hp_); have n1_ := aM_ ((by rw [hw]; exact bS_ (HB.out) GB10.out : Below w.heap.size w w12)); clear HO_3 HB; have HO_3 := n0_; have HB := n1_; clear n0_ n1_ hg hw hp_))
     go_roundg k1
     case measure => have := HK1.out; omega
     case rel => exact ⟨(y413), (wrap64 (x4_1 + 1)), qF, H', ⟨by have := HK1.out; omega⟩, ⟨by (with_reducible repeat (first | apply rA_ | apply rN_ | apply rD_)); exact HO_3.out⟩, ⟨qB HB⟩⟩
   rw [if_neg c7] at H
   have c7b0 : decide (x4_1 ≤ (l0.length : Int)) = false := dF_ c7
   clear c7
   have H' := aM_ H
   clear H
   go_wp2
   go_loopg [5] k1 (fun kq v5 w' => ∃ (x3_2 : List Int) (x5_2 : Int), v5 = .int .i64 x5_2 ∧ Aside0 (spec_l5Depths.l1 kq l0 x3_2 x5_2 = some r) ∧ Aside0 (kq ≤ k1) ∧ Aside0 (Kd.R (Kd.int .i64) 3 w' w.heap.size (fun _ => True) v411 x3_2) ∧ Aside0 (Below w.heap.size w w'))
   case atStart => exact ⟨(x3_1), (0), qF, H', ⟨Nat.le_refl _⟩, ⟨by (with_reducible repeat (first | apply rA_ | apply rN_ | apply rD_)); exact HO_3.out⟩, ⟨qB HB⟩⟩
   case round =>
    clear H'
    try clear p1
    try clear q1
    try clear hx1
    try clear hf1
    try clear p2
    try clear c3
    try clear c3b0
    try clear c3b1
    try clear c4
    try clear c4b0
    try clear c4b1
    try clear p6
    try clear c7
    try clear c7b0
    try clear c8
    try clear c8b0
    try clear c9
    try clear c9b0
    try clear p10
    try clear q10
    try clear hx10
    try clear hf10
    try clear hx10_0
    try clear p10
    try clear p2
    try clear p6
    try clear q10
    obtain ⟨x3_2, x5_2, rfl, HA, HK2, HO_3, HB⟩ := hrel
    cases gk with
    | zero => exact absurd HA.out (by simp [spec_l5Depths.l1])
    | succ k2 =>
     have H := HA.out
     clear HA
     simp only [spec_l5Depths.l1] at H
     by_cases c13 : x5_2 < (l0.length : Int)
     rotate_left
     · rw [if_neg c13] at H
       have c13b0 : decide (x5_2 < (l0.length : Int)) = false := dF_ c13
       clear c13
       obtain rfl := oI_ H
       go_wp2
       go_ret
       exact ⟨_, by first | rfl | (simp [errW_none, errW_some] <;> rfl) | (simp only [← hji2]; first | rfl | (simp [errW_none, errW_some] <;> rfl)) | (simp [*, errW_none, errW_some] <;> rfl), by (with_reducible repeat (first | apply rA_ | apply rN_ | apply rD_)); exact HO_3.out, qB HB⟩
     rw [if_pos c13] at H
     have c13b0 : decide (x5_2 < (l0.length : Int)) = true := dT_ c13
     clear c13
     by_cases c14 : 0 ≤ x5_2
     rotate_left
     · rw [if_neg c14] at H
       exact absurd H (by simp)
     rw [if_pos c14] at H
     have c14b0 : decide (0 ≤ x5_2) = true := dT_ c14
     clear c14
     replace H := oB_ H
     obtain ⟨⟨t415, t416⟩, A150, H⟩ := H
     replace H : (if x5_2 < (x3_2.length : Int) then (if (rd x3_2 x5_2) < t416 then (spec_l5Depths.j2 k2 l0 x3_2 x5_2 t415 true) else (spec_l5Depths.j2 k2 l0 x3_2 x5_2 t415 (decide ((wrap64 ((rd x3_2 x5_2) + t415)) > 12)))) else (none)) = some r := H
     have A15 := aM_ A150
     clear A150
     have HC16 := aM_ H
     clear H
     have p414 : 0 ≤ (x5_2 : Int) := oD_ (by first | (with_reducible assumption) | assumption)
     have q414 : x5_2 < (l0.length : Int) := oD_ (by first | (with_reducible assumption) | assumption)
     obtain ⟨ad414, e414, hx414_0, hx414_1, hx414_2, hx414_3⟩ := at_T30 HR0.out x5_2 p414 q414
     cases e414
     replace hx414_0 := qc HB hx414_0
     replace hx414_1 := qc HB hx414_1
     replace hx414_2 := qc HB hx414_2
     replace hx414_3 := qc HB hx414_3
     replace p414 := eq_true p414
     replace q414 := eq_true q414
     go_upto_region 10 with (first | ((with_reducible refine gate_callee (f := 75) rfl ?_); refine goesL_ (some 34) rfl rfl Tryz.func75 (by kernel_rfl) rfl #[.agg #[.int .i64 ((rd_T30 l0 x5_2).f0), .int .i64 ((rd_T30 l0 x5_2).f1), .int .i64 ((rd_T30 l0 x5_2).f2.f0), .int .i64 ((rd_T30 l0 x5_2).f2.f1)]] rfl (by (try simp only [mA_, List.map_cons, List.map_nil]); first | done | rfl | (simp only [lD_, lT_]; rfl)) ?_; (with_reducible refine (spec_l5Turn.calls k2 ((rd_T30 l0 x5_2).f0) ((rd_T30 l0 x5_2).f1) ((rd_T30 l0 x5_2).f2.f0) ((rd_T30 l0 x5_2).f2.f1) t415 t416 _ A15.out).mono ?_); rintro e w17 ⟨rfl, hb⟩; refine ⟨_, rfl, ?_⟩; have n0_ := aM_ (Kd.R_below (qR HO_3) hb); have n1_ := aM_ (bT_ (qB HB) hb); clear HO_3 HB; revert n0_ n1_; intro HO_3 HB; (try clear hb); (try clear hb2); (try clear hk); (try clear hi)))
     (try simp only [Act.put, sA_, sB_, sC_])
     go_cut [51] (fun v51 wc => ∃ (kq : Nat) (x51_15 : Bool), v51 = .bool x51_15 ∧ Aside0 (spec_l5Depths.j2 kq l0 x3_2 x5_2 t415 x51_15 = some r) ∧ Aside0 (kq ≤ k2) ∧ Aside0 (Kd.R (Kd.int .i64) 3 wc w.heap.size (fun _ => True) v411 x3_2) ∧ Aside0 (Below w.heap.size w wc))
     case first =>
      have H := HC16.out
      clear HC16
      by_cases c18 : x5_2 < (x3_2.length : Int)
      rotate_left
      · rw [if_neg c18] at H
        exact absurd H (by simp)
      rw [if_pos c18] at H
      have c18b0 : decide (x5_2 < (x3_2.length : Int)) = true := dT_ c18
      clear c18
      (first | rw [c18b0] | (simp only [i64_w, i32_w]; rw [c18b0]) | skip)
      by_cases c19 : (rd x3_2 x5_2) < t416
      · rw [if_pos c19] at H
        have c19b0 : decide ((rd x3_2 x5_2) < t416) = true := dT_ c19
        clear c19
        have H' := aM_ H
        clear H
        obtain ⟨Ao20, co20, eo20⟩ := Kd.R_slice HO_3.out
        subst eo20
        have p417 : 0 ≤ (x5_2 : Int) := oD_ (by first | (with_reducible assumption) | assumption)
        have q417 : x5_2 < (x3_2.length : Int) := oD_ (by first | (with_reducible assumption) | assumption)
        obtain ⟨ad417, e417, hx417_0⟩ := Kd.at_int (Kd.R_reads' HO_3.out).2.2 x5_2 p417 q417
        cases e417
        replace p417 := eq_true p417
        replace q417 := eq_true q417
        go_wp2
        go_meet
        case rel => exact ⟨_, (true), qF, H', ⟨by have := HK1.out; have := HK2.out; first | omega | exact Nat.le_refl _⟩, ⟨by (with_reducible repeat (first | apply rA_ | apply rN_ | apply rD_)); exact HO_3.out⟩, ⟨qB HB⟩⟩
      rw [if_neg c19] at H
      have c19b0 : decide ((rd x3_2 x5_2) < t416) = false := dF_ c19
      clear c19
      have H' := aM_ H
      clear H
      obtain ⟨Ao21, co21, eo21⟩ := Kd.R_slice HO_3.out
      subst eo21
      have p417 : 0 ≤ (x5_2 : Int) := oD_ (by first | (with_reducible assumption) | assumption)
      have q417 : x5_2 < (x3_2.length : Int) := oD_ (by first | (with_reducible assumption) | assumption)
      obtain ⟨ad417, e417, hx417_0⟩ := Kd.at_int (Kd.R_reads' HO_3.out).2.2 x5_2 p417 q417
      cases e417
      replace p417 := eq_true p417
      replace q417 := eq_true q417
      have p418 : 0 ≤ (x5_2 : Int) := oD_ (by first | (with_reducible assumption) | assumption)
      have q418 : x5_2 < (x3_2.length : Int) := oD_ (by first | (with_reducible assumption) | assumption)
      obtain ⟨ad418, e418, hx418_0⟩ := Kd.at_int (Kd.R_reads' HO_3.out).2.2 x5_2 p418 q418
      obtain rfl : ad417 = ad418 := (by injection e418)
      replace p418 := eq_true p418
      replace q418 := eq_true q418
      go_wp2
      go_meet
      case rel => exact ⟨_, (decide ((wrap64 ((rd x3_2 x5_2) + t415)) > 12)), qF, H', ⟨by have := HK1.out; have := HK2.out; first | omega | exact Nat.le_refl _⟩, ⟨by (with_reducible repeat (first | apply rA_ | apply rN_ | apply rD_)); exact HO_3.out⟩, ⟨qB HB⟩⟩
     case rest =>
      clear HC16
      try clear c1
      try clear p1
      try clear q1
      try clear hx1
      try clear hf1
      try clear p2
      try clear c3
      try clear c3b0
      try clear c3b1
      try clear c4
      try clear c4b0
      try clear c4b1
      try clear p4
      try clear q4
      try clear hx4
      try clear p6
      try clear c7
      try clear c7b0
      try clear c8
      try clear c8b0
      try clear c9
      try clear c9b0
      try clear p10
      try clear q10
      try clear hx10
      try clear hf10
      try clear c13
      try clear c13b0
      try clear c14
      try clear c14b0
      try clear c18
      try clear c18b0
      try clear c19
      try clear c19b0
      try clear hx10_0
      try clear hx414_0
      try clear hx414_1
      try clear hx414_2
      try clear hx414_3
      try clear hx417_0
      try clear hx418_0
      try clear p1
      try clear p10
      try clear p2
      try clear p414
      try clear p417
      try clear p418
      try clear p6
      try clear q1
      try clear q10
      try clear q414
      try clear q417
      try clear q418
      obtain ⟨kq, x51_15, rfl, HA, HJ15, HO_3, HB⟩ := hcut
      cases kq with
      | zero => exact absurd HA.out (by simp [spec_l5Depths.j2])
      | succ kj15 =>
       have H := HA.out
       clear HA
       simp only [spec_l5Depths.j2] at H
       by_cases c22 : x51_15 = true
       · subst c22
         have H1 : (some ([] : List Int)) = some r := by rw [if_pos rfl] at H; exact H
         clear H
         have H := H1
         clear H1
         obtain rfl := oI_ H
         go_wp2
         go_ret
         exact ⟨_, by first | rfl | (simp [errW_none, errW_some] <;> rfl) | (simp only [← hji2]; first | rfl | (simp [errW_none, errW_some] <;> rfl)) | (simp [*, errW_none, errW_some] <;> rfl), by first | exact Kd.R_nil _ _ _ _ _ | exact Kd.N_nil _ _ _ _ _ | exact Kd.V_nil _ _ _ _ _ | exact Kd.Q_nil _ _ _ _ _ | exact Kd.S_nil _ _ _ _ _, qB HB⟩
       replace c22 := Bool.eq_false_iff.mpr c22
       subst c22
       have H1 : (if 0 ≤ x5_2 then (if x5_2 < (x3_2.length : Int) then (if x5_2 < (l0.length : Int) then ((spec_l5Jumps.f ((rd_T30 l0 x5_2).f0) ((rd_T30 l0 x5_2).f1) ((rd_T30 l0 x5_2).f2.f0) ((rd_T30 l0 x5_2).f2.f1)).bind fun t421 => (if t421 = true then (spec_l5Depths.j3 kj15 l0 x3_2 x5_2 (wrap64 ((rd x3_2 x5_2) + t415)) ((rd_T30 l0 x5_2).f1)) else (spec_l5Depths.j3 kj15 l0 x3_2 x5_2 (wrap64 ((rd x3_2 x5_2) + t415)) (wrap64 (x5_2 + 1))))) else (none)) else (none)) else (none)) = some r := by rw [if_neg (show ¬ (false = true) by decide)] at H; exact H
       clear H
       have H := H1
       clear H1
       by_cases c23 : 0 ≤ x5_2
       rotate_left
       · rw [if_neg c23] at H
         exact absurd H (by simp)
       rw [if_pos c23] at H
       have c23b0 : decide (0 ≤ x5_2) = true := dT_ c23
       clear c23
       by_cases c24 : x5_2 < (x3_2.length : Int)
       rotate_left
       · rw [if_neg c24] at H
         exact absurd H (by simp)
       rw [if_pos c24] at H
       have c24b0 : decide (x5_2 < (x3_2.length : Int)) = true := dT_ c24
       clear c24
       by_cases c25 : x5_2 < (l0.length : Int)
       rotate_left
       · rw [if_neg c25] at H
         exact absurd H (by simp)
       rw [if_pos c25] at H
       have c25b0 : decide (x5_2 < (l0.length : Int)) = true := dT_ c25
       clear c25
       replace H := oB_ H
       obtain ⟨t421, A260, H⟩ := H
       replace H : (if t421 = true then (spec_l5Depths.j3 kj15 l0 x3_2 x5_2 (wrap64 ((rd x3_2 x5_2) + t415)) ((rd_T30 l0 x5_2).f1)) else (spec_l5Depths.j3 kj15 l0 x3_2 x5_2 (wrap64 ((rd x3_2 x5_2) + t415)) (wrap64 (x5_2 + 1)))) = some r := H
       have A26 := aM_ A260
       clear A260
       have HC27 := aM_ H
       clear H
       obtain ⟨Ao28, co28, eo28⟩ := Kd.R_slice HO_3.out
       subst eo28
       have p419 : 0 ≤ (x5_2 : Int) := oD_ (by first | (with_reducible assumption) | assumption)
       have q419 : x5_2 < (x3_2.length : Int) := oD_ (by first | (with_reducible assumption) | assumption)
       obtain ⟨ad419, e419, hx419_0⟩ := Kd.at_int (Kd.R_reads' HO_3.out).2.2 x5_2 p419 q419
       cases e419
       replace p419 := eq_true p419
       replace q419 := eq_true q419
       have p420 : 0 ≤ (x5_2 : Int) := oD_ (by first | (with_reducible assumption) | assumption)
       have q420 : x5_2 < (l0.length : Int) := oD_ (by first | (with_reducible assumption) | assumption)
       obtain ⟨ad420, e420, hx420_0, hx420_1, hx420_2, hx420_3⟩ := at_T30 HR0.out x5_2 p420 q420
       obtain rfl : ad414 = ad420 := (by injection e420)
       replace hx420_0 := qc HB hx420_0
       replace hx420_1 := qc HB hx420_1
       replace hx420_2 := qc HB hx420_2
       replace hx420_3 := qc HB hx420_3
       replace p420 := eq_true p420
       replace q420 := eq_true q420
       go_upto_if 64 with (first | ((with_reducible refine gate_callee (f := 76) rfl ?_); refine goesL_ (some 64) rfl rfl Tryz.func76 (by kernel_rfl) rfl #[.agg #[.int .i64 ((rd_T30 l0 x5_2).f0), .int .i64 ((rd_T30 l0 x5_2).f1), .int .i64 ((rd_T30 l0 x5_2).f2.f0), .int .i64 ((rd_T30 l0 x5_2).f2.f1)]] rfl (by (try simp only [mA_, List.map_cons, List.map_nil]); first | done | rfl | (simp only [lD_, lT_]; rfl)) ?_; (with_reducible refine (spec_l5Jumps.calls ((rd_T30 l0 x5_2).f0) ((rd_T30 l0 x5_2).f1) ((rd_T30 l0 x5_2).f2.f0) ((rd_T30 l0 x5_2).f2.f1) t421 _ A26.out).mono ?_); rintro e w29 ⟨rfl, hb⟩; refine ⟨_, rfl, ?_⟩; have n0_ := aM_ (Kd.R_below (qR HO_3) hb); have n1_ := aM_ (bT_ (qB HB) hb); clear HO_3 HB; revert n0_ n1_; intro HO_3 HB; (try clear hb); (try clear hb2); (try clear hk); (try clear hi)))
       (try simp only [Act.put, sA_, sB_, sC_])
       go_cut [9] (fun v9 wc => ∃ (kq : Nat) (x9_26 : Int), v9 = .int .i64 x9_26 ∧ Aside0 (spec_l5Depths.j3 kq l0 x3_2 x5_2 (wrap64 ((rd x3_2 x5_2) + t415)) x9_26 = some r) ∧ Aside0 (kq ≤ kj15) ∧ Aside0 (Kd.R (Kd.int .i64) 3 wc w.heap.size (fun _ => True) (.slice (some ad419) x3_2.length co28) x3_2) ∧ Aside0 (Below w.heap.size w wc))
       case first =>
        have H := HC27.out
        clear HC27
        by_cases c30 : t421 = true
        rotate_left
        · replace c30 := Bool.eq_false_iff.mpr c30
          subst c30
          have H1 : (spec_l5Depths.j3 kj15 l0 x3_2 x5_2 (wrap64 ((rd x3_2 x5_2) + t415)) (wrap64 (x5_2 + 1))) = some r := by rw [if_neg (show ¬ (false = true) by decide)] at H; exact H
          clear H
          have H := H1
          clear H1
          have H' := aM_ H
          clear H
          go_wp2
          go_meet
          case rel => exact ⟨_, (wrap64 (x5_2 + 1)), qF, H', ⟨by have := HK1.out; have := HK2.out; have := HJ15.out; first | omega | exact Nat.le_refl _⟩, ⟨by (with_reducible repeat (first | apply rA_ | apply rN_ | apply rD_)); exact HO_3.out⟩, ⟨qB HB⟩⟩
        subst c30
        have H1 : (spec_l5Depths.j3 kj15 l0 x3_2 x5_2 (wrap64 ((rd x3_2 x5_2) + t415)) ((rd_T30 l0 x5_2).f1)) = some r := by rw [if_pos rfl] at H; exact H
        clear H
        have H := H1
        clear H1
        have H' := aM_ H
        clear H
        have p422 : 0 ≤ (x5_2 : Int) := oD_ (by first | (with_reducible assumption) | assumption)
        have q422 : x5_2 < (l0.length : Int) := oD_ (by first | (with_reducible assumption) | assumption)
        obtain ⟨ad422, e422, hx422_0, hx422_1, hx422_2, hx422_3⟩ := at_T30 HR0.out x5_2 p422 q422
        obtain rfl : ad414 = ad422 := (by injection e422)
        replace hx422_0 := qc HB hx422_0
        replace hx422_1 := qc HB hx422_1
        replace hx422_2 := qc HB hx422_2
        replace hx422_3 := qc HB hx422_3
        replace p422 := eq_true p422
        replace q422 := eq_true q422
        go_wp2
        go_meet
        case rel => exact ⟨_, ((rd_T30 l0 x5_2).f1), qF, H', ⟨by have := HK1.out; have := HK2.out; have := HJ15.out; first | omega | exact Nat.le_refl _⟩, ⟨by (with_reducible repeat (first | apply rA_ | apply rN_ | apply rD_)); exact HO_3.out⟩, ⟨qB HB⟩⟩
       case rest =>
        clear HC27
        try clear c1
        try clear p1
        try clear q1
        try clear hx1
        try clear hf1
        try clear c2
        try clear p2
        try clear c3
        try clear c3b0
        try clear c3b1
        try clear c4
        try clear c4b0
        try clear c4b1
        try clear p4
        try clear q4
        try clear hx4
        try clear p6
        try clear c7
        try clear c7b0
        try clear c8
        try clear c8b0
        try clear c9
        try clear c9b0
        try clear p10
        try clear q10
        try clear hx10
        try clear hf10
        try clear c13
        try clear c13b0
        try clear c14
        try clear c14b0
        try clear c18
        try clear c18b0
        try clear c19
        try clear c19b0
        try clear c22
        try clear c23
        try clear c23b0
        try clear c24
        try clear c24b0
        try clear c25
        try clear c25b0
        try clear c30
        try clear hx10_0
        try clear hx414_0
        try clear hx414_1
        try clear hx414_2
        try clear hx414_3
        try clear hx417_0
        try clear hx418_0
        try clear hx419_0
        try clear hx420_0
        try clear hx420_1
        try clear hx420_2
        try clear hx420_3
        try clear hx422_0
        try clear hx422_1
        try clear hx422_2
        try clear hx422_3
        try clear p1
        try clear p10
        try clear p2
        try clear p4
        try clear p414
        try clear p417
        try clear p418
        try clear p419
        try clear p420
        try clear p422
        try clear p6
        try clear q1
        try clear q10
        try clear q4
        try clear q414
        try clear q417
        try clear q418
        try clear q419
        try clear q420
        try clear q422
        obtain ⟨kq, x9_26, rfl, HA, HJ26, HO_3, HB⟩ := hcut
        cases kq with
        | zero => exact absurd HA.out (by simp [spec_l5Depths.j3])
        | succ kj26 =>
         have H := HA.out
         clear HA
         simp only [spec_l5Depths.j3] at H
         have HC31 := aM_ H
         clear H
         go_upto_region 16 with (fail)
         go_cut [100] (fun v100 wc => ∃ (kq : Nat) (x100_30 : Bool), v100 = .bool x100_30 ∧ Aside0 (spec_l5Depths.j4 kq l0 x3_2 x5_2 (wrap64 ((rd x3_2 x5_2) + t415)) x9_26 x100_30 = some r) ∧ Aside0 (kq ≤ kj26) ∧ Aside0 (Kd.R (Kd.int .i64) 3 wc w.heap.size (fun _ => True) (.slice (some ad419) x3_2.length co28) x3_2) ∧ Aside0 (Below w.heap.size w wc))
         case first =>
          have H := HC31.out
          clear HC31
          by_cases c32 : x9_26 ≤ x5_2
          rotate_left
          · rw [if_neg c32] at H
            have c32b0 : decide (x9_26 ≤ x5_2) = false := dF_ c32
            clear c32
            (first | rw [c32b0] | (simp only [i64_w, i32_w]; rw [c32b0]) | skip)
            by_cases c38 : x9_26 > x5_2
            rotate_left
            · rw [if_neg c38] at H
              have c38b0 : decide (x5_2 < x9_26) = false := dF_ c38
              clear c38
              have H' := aM_ H
              clear H
              go_wp2
              go_meet
              case rel => exact ⟨_, (false), qF, H', ⟨by have := HK1.out; have := HK2.out; have := HJ15.out; have := HJ26.out; first | omega | exact Nat.le_refl _⟩, ⟨by (with_reducible repeat (first | apply rA_ | apply rN_ | apply rD_)); exact HO_3.out⟩, ⟨qB HB⟩⟩
            rw [if_pos c38] at H
            have c38b0 : decide (x5_2 < x9_26) = true := dT_ c38
            clear c38
            by_cases c39 : 0 ≤ x9_26
            rotate_left
            · rw [if_neg c39] at H
              exact absurd H (by simp)
            rw [if_pos c39] at H
            have c39b0 : decide (0 ≤ x9_26) = true := dT_ c39
            clear c39
            by_cases c40 : x9_26 < (x3_2.length : Int)
            rotate_left
            · rw [if_neg c40] at H
              exact absurd H (by simp)
            rw [if_pos c40] at H
            have c40b0 : decide (x9_26 < (x3_2.length : Int)) = true := dT_ c40
            clear c40
            by_cases c41 : (rd x3_2 x9_26) ≥ 0
            rotate_left
            · rw [if_neg c41] at H
              have c41b0 : decide (0 ≤ (rd x3_2 x9_26)) = false := dF_ c41
              clear c41
              have H' := aM_ H
              clear H
              have p426 : 0 ≤ (x9_26 : Int) := oD_ (by first | (with_reducible assumption) | assumption)
              have q426 : x9_26 < (x3_2.length : Int) := oD_ (by first | (with_reducible assumption) | assumption)
              obtain ⟨ad426, e426, hx426_0⟩ := Kd.at_int (Kd.R_reads' HO_3.out).2.2 x9_26 p426 q426
              obtain rfl : ad419 = ad426 := (by injection e426)
              replace p426 := eq_true p426
              replace q426 := eq_true q426
              go_wp2
              go_meet
              case rel => exact ⟨_, (false), qF, H', ⟨by have := HK1.out; have := HK2.out; have := HJ15.out; have := HJ26.out; first | omega | exact Nat.le_refl _⟩, ⟨by (with_reducible repeat (first | apply rA_ | apply rN_ | apply rD_)); exact HO_3.out⟩, ⟨qB HB⟩⟩
            rw [if_pos c41] at H
            have c41b0 : decide (0 ≤ (rd x3_2 x9_26)) = true := dT_ c41
            clear c41
            have H' := aM_ H
            clear H
            have p426 : 0 ≤ (x9_26 : Int) := oD_ (by first | (with_reducible assumption) | assumption)
            have q426 : x9_26 < (x3_2.length : Int) := oD_ (by first | (with_reducible assumption) | assumption)
            obtain ⟨ad426, e426, hx426_0⟩ := Kd.at_int (Kd.R_reads' HO_3.out).2.2 x9_26 p426 q426
            obtain rfl : ad419 = ad426 := (by injection e426)
            replace p426 := eq_true p426
            replace q426 := eq_true q426
            have p427 : 0 ≤ (x9_26 : Int) := oD_ (by first | (with_reducible assumption) | assumption)
            have q427 : x9_26 < (x3_2.length : Int) := oD_ (by first | (with_reducible assumption) | assumption)
            obtain ⟨ad427, e427, hx427_0⟩ := Kd.at_int (Kd.R_reads' HO_3.out).2.2 x9_26 p427 q427
            obtain rfl : ad419 = ad427 := (by injection e427)
            replace p427 := eq_true p427
            replace q427 := eq_true q427
            go_wp2
            go_meet
            case rel => exact ⟨_, (((rd x3_2 x9_26) != (wrap64 ((rd x3_2 x5_2) + t415)))), qF, H', ⟨by have := HK1.out; have := HK2.out; have := HJ15.out; have := HJ26.out; first | omega | exact Nat.le_refl _⟩, ⟨by (with_reducible repeat (first | apply rA_ | apply rN_ | apply rD_)); exact HO_3.out⟩, ⟨qB HB⟩⟩
          rw [if_pos c32] at H
          have c32b0 : decide (x9_26 ≤ x5_2) = true := dT_ c32
          clear c32
          (first | rw [c32b0] | (simp only [i64_w, i32_w]; rw [c32b0]) | skip)
          by_cases c33 : 0 ≤ x9_26
          rotate_left
          · rw [if_neg c33] at H
            exact absurd H (by simp)
          rw [if_pos c33] at H
          have c33b0 : decide (0 ≤ x9_26) = true := dT_ c33
          clear c33
          by_cases c34 : x9_26 < (x3_2.length : Int)
          rotate_left
          · rw [if_neg c34] at H
            exact absurd H (by simp)
          rw [if_pos c34] at H
          have c34b0 : decide (x9_26 < (x3_2.length : Int)) = true := dT_ c34
          clear c34
          by_cases c35 : (rd x3_2 x9_26) = (wrap64 ((rd x3_2 x5_2) + t415))
          rotate_left
          · rw [if_neg c35] at H
            have c35b0 : ((rd x3_2 x9_26) == (wrap64 ((rd x3_2 x5_2) + t415))) = false := beq_eq_false_iff_ne.mpr c35
            have c35b1 : ((rd x3_2 x9_26) != (wrap64 ((rd x3_2 x5_2) + t415))) = true := bne_iff_ne.mpr c35
            have H' := aM_ H
            clear H
            have p423 : 0 ≤ (x9_26 : Int) := oD_ (by first | (with_reducible assumption) | assumption)
            have q423 : x9_26 < (x3_2.length : Int) := oD_ (by first | (with_reducible assumption) | assumption)
            obtain ⟨ad423, e423, hx423_0⟩ := Kd.at_int (Kd.R_reads' HO_3.out).2.2 x9_26 p423 q423
            obtain rfl : ad419 = ad423 := (by injection e423)
            replace p423 := eq_true p423
            replace q423 := eq_true q423
            go_wp2
            go_meet
            case rel => exact ⟨_, (true), qF, H', ⟨by have := HK1.out; have := HK2.out; have := HJ15.out; have := HJ26.out; first | omega | exact Nat.le_refl _⟩, ⟨by (with_reducible repeat (first | apply rA_ | apply rN_ | apply rD_)); exact HO_3.out⟩, ⟨qB HB⟩⟩
          rw [if_pos c35] at H
          have c35b0 : ((rd x3_2 x9_26) == (wrap64 ((rd x3_2 x5_2) + t415))) = true := beq_iff_eq.mpr c35
          have c35b1 : ((rd x3_2 x9_26) != (wrap64 ((rd x3_2 x5_2) + t415))) = false := bne_eq_false_iff_eq.mpr c35
          clear c35
          by_cases c36 : x9_26 > x5_2
          rotate_left
          · rw [if_neg c36] at H
            have c36b0 : decide (x5_2 < x9_26) = false := dF_ c36
            clear c36
            have H' := aM_ H
            clear H
            have p423 : 0 ≤ (x9_26 : Int) := oD_ (by first | (with_reducible assumption) | assumption)
            have q423 : x9_26 < (x3_2.length : Int) := oD_ (by first | (with_reducible assumption) | assumption)
            obtain ⟨ad423, e423, hx423_0⟩ := Kd.at_int (Kd.R_reads' HO_3.out).2.2 x9_26 p423 q423
            obtain rfl : ad419 = ad423 := (by injection e423)
            replace p423 := eq_true p423
            replace q423 := eq_true q423
            go_wp2
            go_meet
            case rel => exact ⟨_, (false), qF, H', ⟨by have := HK1.out; have := HK2.out; have := HJ15.out; have := HJ26.out; first | omega | exact Nat.le_refl _⟩, ⟨by (with_reducible repeat (first | apply rA_ | apply rN_ | apply rD_)); exact HO_3.out⟩, ⟨qB HB⟩⟩
          rw [if_pos c36] at H
          have c36b0 : decide (x5_2 < x9_26) = true := dT_ c36
          clear c36
          by_cases c37 : (rd x3_2 x9_26) ≥ 0
          rotate_left
          · rw [if_neg c37] at H
            have c37b0 : decide (0 ≤ (rd x3_2 x9_26)) = false := dF_ c37
            clear c37
            have H' := aM_ H
            clear H
            have p423 : 0 ≤ (x9_26 : Int) := oD_ (by first | (with_reducible assumption) | assumption)
            have q423 : x9_26 < (x3_2.length : Int) := oD_ (by first | (with_reducible assumption) | assumption)
            obtain ⟨ad423, e423, hx423_0⟩ := Kd.at_int (Kd.R_reads' HO_3.out).2.2 x9_26 p423 q423
            obtain rfl : ad419 = ad423 := (by injection e423)
            replace p423 := eq_true p423
            replace q423 := eq_true q423
            have p424 : 0 ≤ (x9_26 : Int) := oD_ (by first | (with_reducible assumption) | assumption)
            have q424 : x9_26 < (x3_2.length : Int) := oD_ (by first | (with_reducible assumption) | assumption)
            obtain ⟨ad424, e424, hx424_0⟩ := Kd.at_int (Kd.R_reads' HO_3.out).2.2 x9_26 p424 q424
            obtain rfl : ad419 = ad424 := (by injection e424)
            replace p424 := eq_true p424
            replace q424 := eq_true q424
            go_wp2
            go_meet
            case rel => exact ⟨_, (false), qF, H', ⟨by have := HK1.out; have := HK2.out; have := HJ15.out; have := HJ26.out; first | omega | exact Nat.le_refl _⟩, ⟨by (with_reducible repeat (first | apply rA_ | apply rN_ | apply rD_)); exact HO_3.out⟩, ⟨qB HB⟩⟩
          rw [if_pos c37] at H
          have c37b0 : decide (0 ≤ (rd x3_2 x9_26)) = true := dT_ c37
          clear c37
          have H' := aM_ H
          clear H
          have p423 : 0 ≤ (x9_26 : Int) := oD_ (by first | (with_reducible assumption) | assumption)
          have q423 : x9_26 < (x3_2.length : Int) := oD_ (by first | (with_reducible assumption) | assumption)
          obtain ⟨ad423, e423, hx423_0⟩ := Kd.at_int (Kd.R_reads' HO_3.out).2.2 x9_26 p423 q423
          obtain rfl : ad419 = ad423 := (by injection e423)
          replace p423 := eq_true p423
          replace q423 := eq_true q423
          have p424 : 0 ≤ (x9_26 : Int) := oD_ (by first | (with_reducible assumption) | assumption)
          have q424 : x9_26 < (x3_2.length : Int) := oD_ (by first | (with_reducible assumption) | assumption)
          obtain ⟨ad424, e424, hx424_0⟩ := Kd.at_int (Kd.R_reads' HO_3.out).2.2 x9_26 p424 q424
          obtain rfl : ad419 = ad424 := (by injection e424)
          replace p424 := eq_true p424
          replace q424 := eq_true q424
          have p425 : 0 ≤ (x9_26 : Int) := oD_ (by first | (with_reducible assumption) | assumption)
          have q425 : x9_26 < (x3_2.length : Int) := oD_ (by first | (with_reducible assumption) | assumption)
          obtain ⟨ad425, e425, hx425_0⟩ := Kd.at_int (Kd.R_reads' HO_3.out).2.2 x9_26 p425 q425
          obtain rfl : ad419 = ad425 := (by injection e425)
          replace p425 := eq_true p425
          replace q425 := eq_true q425
          go_wp2
          go_meet
          case rel => exact ⟨_, (((rd x3_2 x9_26) != (wrap64 ((rd x3_2 x5_2) + t415)))), qF, H', ⟨by have := HK1.out; have := HK2.out; have := HJ15.out; have := HJ26.out; first | omega | exact Nat.le_refl _⟩, ⟨by (with_reducible repeat (first | apply rA_ | apply rN_ | apply rD_)); exact HO_3.out⟩, ⟨qB HB⟩⟩
         case rest =>
          clear HC31
          try clear c1
          try clear p1
          try clear q1
          try clear hx1
          try clear hf1
          try clear c2
          try clear p2
          try clear c3
          try clear c3b0
          try clear c3b1
          try clear c4
          try clear c4b0
          try clear c4b1
          try clear p4
          try clear q4
          try clear hx4
          try clear p6
          try clear c7
          try clear c7b0
          try clear c8
          try clear c8b0
          try clear c9
          try clear c9b0
          try clear p10
          try clear q10
          try clear hx10
          try clear hf10
          try clear c13
          try clear c13b0
          try clear c14
          try clear c14b0
          try clear c18
          try clear c18b0
          try clear c19
          try clear c19b0
          try clear c22
          try clear c23
          try clear c23b0
          try clear c24
          try clear c24b0
          try clear c25
          try clear c25b0
          try clear c30
          try clear c32
          try clear c32b0
          try clear c33
          try clear c33b0
          try clear c34
          try clear c34b0
          try clear c35
          try clear c35b0
          try clear c35b1
          try clear c36
          try clear c36b0
          try clear c37
          try clear c37b0
          try clear c38
          try clear c38b0
          try clear c39
          try clear c39b0
          try clear c40
          try clear c40b0
          try clear c41
          try clear c41b0
          try clear p41
          try clear q41
          try clear hx41
          try clear hx10_0
          try clear hx414_0
          try clear hx414_1
          try clear hx414_2
          try clear hx414_3
          try clear hx417_0
          try clear hx418_0
          try clear hx419_0
          try clear hx420_0
          try clear hx420_1
          try clear hx420_2
          try clear hx420_3
          try clear hx422_0
          try clear hx422_1
          try clear hx422_2
          try clear hx422_3
          try clear hx423_0
          try clear hx424_0
          try clear hx425_0
          try clear hx426_0
          try clear hx427_0
          try clear p1
          try clear p10
          try clear p2
          try clear p4
          try clear p414
          try clear p417
          try clear p418
          try clear p419
          try clear p420
          try clear p422
          try clear p423
          try clear p424
          try clear p425
          try clear p426
          try clear p427
          try clear p6
          try clear q1
          try clear q10
          try clear q4
          try clear q414
          try clear q417
          try clear q418
          try clear q419
          try clear q420
          try clear q422
          try clear q423
          try clear q424
          try clear q425
          try clear q426
          try clear q427
          obtain ⟨kq, x100_30, rfl, HA, HJ30, HO_3, HB⟩ := hcut
          cases kq with
          | zero => exact absurd HA.out (by simp [spec_l5Depths.j4])
          | succ kj30 =>
           have H := HA.out
           clear HA
           simp only [spec_l5Depths.j4] at H
           by_cases c42 : x100_30 = true
           · subst c42
             have H1 : (some ([] : List Int)) = some r := by rw [if_pos rfl] at H; exact H
             clear H
             have H := H1
             clear H1
             obtain rfl := oI_ H
             go_wp2
             go_ret
             exact ⟨_, by first | rfl | (simp [errW_none, errW_some] <;> rfl) | (simp only [← hji2]; first | rfl | (simp [errW_none, errW_some] <;> rfl)) | (simp [*, errW_none, errW_some] <;> rfl), by first | exact Kd.R_nil _ _ _ _ _ | exact Kd.N_nil _ _ _ _ _ | exact Kd.V_nil _ _ _ _ _ | exact Kd.Q_nil _ _ _ _ _ | exact Kd.S_nil _ _ _ _ _, qB HB⟩
           replace c42 := Bool.eq_false_iff.mpr c42
           subst c42
           have H1 : (if 0 ≤ x9_26 then (if x9_26 < (x3_2.length : Int) then ((some (x3_2.set (x9_26 : Int).toNat (wrap64 ((rd x3_2 x5_2) + t415)) : List Int)).bind fun y428 => (if 0 ≤ x5_2 then (if x5_2 < (l0.length : Int) then (if ((rd_T30 l0 x5_2).f0) = 7 then (spec_l5Depths.j5 kj30 l0 y428 x5_2 (wrap64 ((rd x3_2 x5_2) + t415)) true) else (spec_l5Depths.j5 kj30 l0 y428 x5_2 (wrap64 ((rd x3_2 x5_2) + t415)) (((rd_T30 l0 x5_2).f0) == 8))) else (none)) else (none))) else (none)) else (none)) = some r := by rw [if_neg (show ¬ (false = true) by decide)] at H; exact H
           clear H
           have H := H1
           clear H1
           by_cases c43 : 0 ≤ x9_26
           rotate_left
           · rw [if_neg c43] at H
             exact absurd H (by simp)
           rw [if_pos c43] at H
           have c43b0 : decide (0 ≤ x9_26) = true := dT_ c43
           clear c43
           by_cases c44 : x9_26 < (x3_2.length : Int)
           rotate_left
           · rw [if_neg c44] at H
             exact absurd H (by simp)
           rw [if_pos c44] at H
           have c44b0 : decide (x9_26 < (x3_2.length : Int)) = true := dT_ c44
           clear c44
           obtain ⟨y428, hy428⟩ : ∃ y_ : List Int, y_ = (x3_2.set (x9_26 : Int).toNat (wrap64 ((rd x3_2 x5_2) + t415))) := ⟨_, rfl⟩
           replace H : (if 0 ≤ x5_2 then (if x5_2 < (l0.length : Int) then (if ((rd_T30 l0 x5_2).f0) = 7 then (spec_l5Depths.j5 kj30 l0 y428 x5_2 (wrap64 ((rd x3_2 x5_2) + t415)) true) else (spec_l5Depths.j5 kj30 l0 y428 x5_2 (wrap64 ((rd x3_2 x5_2) + t415)) (((rd_T30 l0 x5_2).f0) == 8))) else (none)) else (none)) = some r := by first | (rw [hy428]; with_reducible exact H) | (have H2_ := (Option.bind_some _ _).symm.trans H; rw [hy428]; with_reducible exact H2_) | (have H2_ := (Option.bind_some _ _).symm.trans H; with_reducible exact H2_) | with_reducible exact H | (rw [hy428]; exact H) | exact H
           have Ny428 := aM_ hy428
           clear hy428
           have HC46 := aM_ H
           clear H
           have p45 : 0 ≤ (x9_26 : Int) := oD_ (by first | (with_reducible assumption) | assumption)
           have q45 : (x9_26 : Int) < ((x3_2.length : Int) : Int) := oD_ (by first | (with_reducible assumption) | assumption)
           obtain ⟨go45, co45, eo45, gb45, gl45, cl45, HG45⟩ := Kd.R_form HO_3.out (by omega)
           (first | cases eo45 | (injection eo45 with ea_ en_ ec_; (first | subst ea_ | (injection ea_ with ea_; subst ea_)); subst ec_; clear en_))
           have GB45 := aM_ gb45
           have GG45 := aM_ HG45
           clear gb45 gl45 HG45
           (first | simp only [add_plain] at hx419_0 | skip)
           (first | simp only [add_plain] at hx423_0 | skip)
           (first | simp only [add_plain] at hx424_0 | skip)
           (first | simp only [add_plain] at hx425_0 | skip)
           (first | simp only [add_plain] at hx426_0 | skip)
           (first | simp only [add_plain] at hx427_0 | skip)
           obtain ⟨hx45_0, hf45_0⟩ := Kd.R_celln 0 HO_3.out (x9_26 : Int) p45 q45
           replace p45 := eq_true p45
           replace q45 := eq_true q45
           have HP47 := Kd.R_putg HO_3.out (x9_26 : Int) (wrap64 ((rd x3_2 x5_2) + t415))
           go_upto_region 19 with (first | ((with_reducible refine gate_store (t := 3) (p := 104) rfl ?_); refine store_event (t := 3) (p := 104) (v := ?vo_w48) (w1 := (wc.setCell ⟨go45, (x9_26 : Int).toNat, none⟩ (.int .i64 (wrap64 ((rd x3_2 x5_2) + t415))))) ?hg ?ho ?hn ?hr ?_; (case ho => rfl); (case hg => rfl); (case hn => rfl); (case hr => first | (go_simp; done) | (go_simp; rfl)); intro w48 hw; have hg : wc.grownBy w48 (some go45) := (by rw [hw]; exact HP47.2); have hp_ : Kd.R (Kd.int .i64) 3 w48 w.heap.size (fun _ => True) (.slice (some ⟨go45, 0, none⟩) x3_2.length co28) y428 := (by rw [hw, Ny428.out]; exact HP47.1); clear HP47; have n0_ := aM_ (hp_); have n1_ := aM_ ((by rw [hw]; exact bS_ (HB.out) GB45.out : Below w.heap.size w w48)); clear HO_3 HB; have HO_3 := n0_; have HB := n1_; clear n0_ n1_ hg hw hp_))
           (try simp only [Act.put, sA_, sB_, sC_])
           go_cut [118] (fun v118 wc => ∃ (kq : Nat) (x118_45 : Bool), v118 = .bool x118_45 ∧ Aside0 (spec_l5Depths.j5 kq l0 y428 x5_2 (wrap64 ((rd x3_2 x5_2) + t415)) x118_45 = some r) ∧ Aside0 (kq ≤ kj30) ∧ Aside0 (Kd.R (Kd.int .i64) 3 wc w.heap.size (fun _ => True) (.slice (some ⟨go45, 0, none⟩) x3_2.length co28) y428) ∧ Aside0 (Below w.heap.size w wc))
           case first =>
            have H := HC46.out
            clear HC46
            by_cases c49 : 0 ≤ x5_2
            rotate_left
            · rw [if_neg c49] at H
              exact absurd H (by simp)
            rw [if_pos c49] at H
            have c49b0 : decide (0 ≤ x5_2) = true := dT_ c49
            clear c49
            (first | rw [c49b0] | (simp only [i64_w, i32_w]; rw [c49b0]) | skip)
            by_cases c50 : x5_2 < (l0.length : Int)
            rotate_left
            · rw [if_neg c50] at H
              exact absurd H (by simp)
            rw [if_pos c50] at H
            have c50b0 : decide (x5_2 < (l0.length : Int)) = true := dT_ c50
            clear c50
            by_cases c51 : ((rd_T30 l0 x5_2).f0) = 7
            · rw [if_pos c51] at H
              have c51b0 : (((rd_T30 l0 x5_2).f0) == 7) = true := beq_iff_eq.mpr c51
              have c51b1 : (((rd_T30 l0 x5_2).f0) != 7) = false := bne_eq_false_iff_eq.mpr c51
              clear c51
              have H' := aM_ H
              clear H
              have p429 : 0 ≤ (x5_2 : Int) := oD_ (by first | (with_reducible assumption) | assumption)
              have q429 : x5_2 < (l0.length : Int) := oD_ (by first | (with_reducible assumption) | assumption)
              obtain ⟨ad429, e429, hx429_0, hx429_1, hx429_2, hx429_3⟩ := at_T30 HR0.out x5_2 p429 q429
              obtain rfl : ad414 = ad429 := (by injection e429)
              replace hx429_0 := qc HB hx429_0
              replace hx429_1 := qc HB hx429_1
              replace hx429_2 := qc HB hx429_2
              replace hx429_3 := qc HB hx429_3
              replace p429 := eq_true p429
              replace q429 := eq_true q429
              go_wp2
              go_meet
              case rel => exact ⟨_, (true), qF, H', ⟨by have := HK1.out; have := HK2.out; have := HJ15.out; have := HJ26.out; have := HJ30.out; first | omega | exact Nat.le_refl _⟩, ⟨by (with_reducible repeat (first | apply rA_ | apply rN_ | apply rD_)); exact HO_3.out⟩, ⟨qB HB⟩⟩
            rw [if_neg c51] at H
            have c51b0 : (((rd_T30 l0 x5_2).f0) == 7) = false := beq_eq_false_iff_ne.mpr c51
            have c51b1 : (((rd_T30 l0 x5_2).f0) != 7) = true := bne_iff_ne.mpr c51
            have H' := aM_ H
            clear H
            have p429 : 0 ≤ (x5_2 : Int) := oD_ (by first | (with_reducible assumption) | assumption)
            have q429 : x5_2 < (l0.length : Int) := oD_ (by first | (with_reducible assumption) | assumption)
            obtain ⟨ad429, e429, hx429_0, hx429_1, hx429_2, hx429_3⟩ := at_T30 HR0.out x5_2 p429 q429
            obtain rfl : ad414 = ad429 := (by injection e429)
            replace hx429_0 := qc HB hx429_0
            replace hx429_1 := qc HB hx429_1
            replace hx429_2 := qc HB hx429_2
            replace hx429_3 := qc HB hx429_3
            replace p429 := eq_true p429
            replace q429 := eq_true q429
            have p430 : 0 ≤ (x5_2 : Int) := oD_ (by first | (with_reducible assumption) | assumption)
            have q430 : x5_2 < (l0.length : Int) := oD_ (by first | (with_reducible assumption) | assumption)
            obtain ⟨ad430, e430, hx430_0, hx430_1, hx430_2, hx430_3⟩ := at_T30 HR0.out x5_2 p430 q430
            obtain rfl : ad414 = ad430 := (by injection e430)
            replace hx430_0 := qc HB hx430_0
            replace hx430_1 := qc HB hx430_1
            replace hx430_2 := qc HB hx430_2
            replace hx430_3 := qc HB hx430_3
            replace p430 := eq_true p430
            replace q430 := eq_true q430
            go_wp2
            go_meet
            case rel => exact ⟨_, ((((rd_T30 l0 x5_2).f0) == 8)), qF, H', ⟨by have := HK1.out; have := HK2.out; have := HJ15.out; have := HJ26.out; have := HJ30.out; first | omega | exact Nat.le_refl _⟩, ⟨by (with_reducible repeat (first | apply rA_ | apply rN_ | apply rD_)); exact HO_3.out⟩, ⟨qB HB⟩⟩
           case rest =>
            clear HC46
            try clear c1
            try clear p1
            try clear q1
            try clear hx1
            try clear hf1
            try clear c2
            try clear p2
            try clear c3
            try clear c3b0
            try clear c3b1
            try clear c4
            try clear c4b0
            try clear c4b1
            try clear p4
            try clear q4
            try clear hx4
            try clear hf4
            try clear c5
            try clear p6
            try clear c7
            try clear c7b0
            try clear c8
            try clear c8b0
            try clear c9
            try clear c9b0
            try clear p10
            try clear q10
            try clear hx10
            try clear hf10
            try clear c13
            try clear c13b0
            try clear c14
            try clear c14b0
            try clear c18
            try clear c18b0
            try clear c19
            try clear c19b0
            try clear c22
            try clear c23
            try clear c23b0
            try clear c24
            try clear c24b0
            try clear c25
            try clear c25b0
            try clear c30
            try clear c32
            try clear c32b0
            try clear c33
            try clear c33b0
            try clear c34
            try clear c34b0
            try clear c35
            try clear c35b0
            try clear c35b1
            try clear c36
            try clear c36b0
            try clear c37
            try clear c37b0
            try clear c38
            try clear c38b0
            try clear c39
            try clear c39b0
            try clear c40
            try clear c40b0
            try clear c41
            try clear c41b0
            try clear p41
            try clear q41
            try clear hx41
            try clear c42
            try clear p42
            try clear q42
            try clear hx42
            try clear c43
            try clear c43b0
            try clear p43
            try clear q43
            try clear hx43
            try clear c44
            try clear c44b0
            try clear p45
            try clear q45
            try clear hx45
            try clear hf45
            try clear c49
            try clear c49b0
            try clear c50
            try clear c50b0
            try clear c51
            try clear c51b0
            try clear c51b1
            try clear hx10_0
            try clear hx414_0
            try clear hx414_1
            try clear hx414_2
            try clear hx414_3
            try clear hx417_0
            try clear hx418_0
            try clear hx419_0
            try clear hx420_0
            try clear hx420_1
            try clear hx420_2
            try clear hx420_3
            try clear hx422_0
            try clear hx422_1
            try clear hx422_2
            try clear hx422_3
            try clear hx423_0
            try clear hx424_0
            try clear hx425_0
            try clear hx426_0
            try clear hx427_0
            try clear hx429_0
            try clear hx429_1
            try clear hx429_2
            try clear hx429_3
            try clear hx430_0
            try clear hx430_1
            try clear hx430_2
            try clear hx430_3
            try clear hx45_0
            try clear p1
            try clear p10
            try clear p2
            try clear p4
            try clear p41
            try clear p414
            try clear p417
            try clear p418
            try clear p419
            try clear p420
            try clear p422
            try clear p423
            try clear p424
            try clear p425
            try clear p426
            try clear p427
            try clear p429
            try clear p430
            try clear p45
            try clear p6
            try clear q1
            try clear q10
            try clear q4
            try clear q41
            try clear q414
            try clear q417
            try clear q418
            try clear q419
            try clear q420
            try clear q422
            try clear q423
            try clear q424
            try clear q425
            try clear q426
            try clear q427
            try clear q429
            try clear q430
            try clear q45
            obtain ⟨kq, x118_45, rfl, HA, HJ45, HO_3, HB⟩ := hcut
            have hl3_45 := (Kd.R_reads' HO_3.out).1
            rw [hl3_45] at HO_3
            (try simp only [hl3_45])
            cases kq with
            | zero => exact absurd HA.out (by simp [spec_l5Depths.j5])
            | succ kj45 =>
             have H := HA.out
             clear HA
             simp only [spec_l5Depths.j5] at H
             by_cases c52 : x118_45 = true
             · subst c52
               have H1 : (spec_l5Depths.l1 kj45 l0 y428 (wrap64 (x5_2 + 1))) = some r := by rw [if_pos rfl] at H; exact H
               clear H
               have H := H1
               clear H1
               have H' := aM_ H
               clear H
               go_wp2
               (try simp only [← hl3_45])
               go_roundg kj45
               case measure => have := HK1.out; have := HK2.out; have := HJ15.out; have := HJ26.out; have := HJ30.out; have := HJ45.out; omega
               case rel => exact ⟨(y428), (wrap64 (x5_2 + 1)), qF, H', ⟨by have := HK1.out; have := HK2.out; have := HJ15.out; have := HJ26.out; have := HJ30.out; have := HJ45.out; omega⟩, ⟨by (try simp only [hl3_45]); (with_reducible repeat (first | apply rA_ | apply rN_ | apply rD_)); exact HO_3.out⟩, ⟨qB HB⟩⟩
             replace c52 := Bool.eq_false_iff.mpr c52
             subst c52
             have H1 : (if 0 ≤ (wrap64 (x5_2 + 1)) then (if (wrap64 (x5_2 + 1)) < (y428.length : Int) then (if (rd y428 (wrap64 (x5_2 + 1))) ≥ 0 then (if (rd y428 (wrap64 (x5_2 + 1))) = (wrap64 ((rd x3_2 x5_2) + t415)) then (spec_l5Depths.l1 kj45 l0 (y428.set ((wrap64 (x5_2 + 1)) : Int).toNat (wrap64 ((rd x3_2 x5_2) + t415))) (wrap64 (x5_2 + 1))) else (some ([] : List Int))) else (spec_l5Depths.l1 kj45 l0 (y428.set ((wrap64 (x5_2 + 1)) : Int).toNat (wrap64 ((rd x3_2 x5_2) + t415))) (wrap64 (x5_2 + 1)))) else (none)) else (none)) = some r := by rw [if_neg (show ¬ (false = true) by decide)] at H; exact H
             clear H
             have H := H1
             clear H1
             obtain ⟨ji53, hji53⟩ : ∃ j_ : Int, (wrap64 (x5_2 + 1)) = j_ := ⟨_, rfl⟩
             replace H : (if 0 ≤ (ji53) then (if (ji53) < (y428.length : Int) then (if (rd y428 (ji53)) ≥ 0 then (if (rd y428 (ji53)) = (wrap64 ((rd x3_2 x5_2) + t415)) then (spec_l5Depths.l1 kj45 l0 (y428.set ((ji53) : Int).toNat (wrap64 ((rd x3_2 x5_2) + t415))) ji53) else (some ([] : List Int))) else (spec_l5Depths.l1 kj45 l0 (y428.set ((ji53) : Int).toNat (wrap64 ((rd x3_2 x5_2) + t415))) ji53)) else (none)) else (none)) = some r := by first | (rw [hji53] at H; exact H) | (simp only [hji53] at H ⊢; exact H)
             have hji53w : (IntKind.i64.wrap (x5_2 + 1)) = ji53 := (i64_w _).trans hji53
             by_cases c54 : 0 ≤ (ji53)
             rotate_left
             · rw [if_neg c54] at H
               exact absurd H (by simp)
             rw [if_pos c54] at H
             have c54b0 : decide (0 ≤ (ji53)) = true := dT_ c54
             clear c54
             by_cases c55 : (ji53) < (y428.length : Int)
             rotate_left
             · rw [if_neg c55] at H
               exact absurd H (by simp)
             rw [if_pos c55] at H
             have c55b0 : decide ((ji53) < (y428.length : Int)) = true := dT_ c55
             clear c55
             by_cases c56 : (rd y428 (ji53)) ≥ 0
             rotate_left
             · rw [if_neg c56] at H
               have c56b0 : decide (0 ≤ (rd y428 (ji53))) = false := dF_ c56
               clear c56
               obtain ⟨y434, hy434⟩ : ∃ y_ : List Int, y_ = (y428.set ((ji53) : Int).toNat (wrap64 ((rd x3_2 x5_2) + t415))) := ⟨_, rfl⟩
               replace H : (spec_l5Depths.l1 kj45 l0 y434 ji53) = some r := by first | (rw [hy434]; with_reducible exact H) | (have H2_ := (Option.bind_some _ _).symm.trans H; rw [hy434]; with_reducible exact H2_) | (have H2_ := (Option.bind_some _ _).symm.trans H; with_reducible exact H2_) | with_reducible exact H | (rw [hy434]; exact H) | exact H
               have Ny434 := aM_ hy434
               clear hy434
               have H' := aM_ H
               clear H
               have p431 : 0 ≤ ((ji53) : Int) := oD_ (by first | (with_reducible assumption) | assumption)
               have q431 : (ji53) < (y428.length : Int) := oD_ (by first | (with_reducible assumption) | assumption)
               obtain ⟨ad431, e431, hx431_0⟩ := Kd.at_int (Kd.R_reads' HO_3.out).2.2 (ji53) p431 q431
               obtain rfl : (⟨go45, 0, none⟩ : Addr) = ad431 := (by injection e431)
               (first | simp only [add_plain] at hx431_0 | simp only [add_at] at hx431_0 | simp only [Addr.add, Nat.zero_add] at hx431_0 | skip)
               replace p431 := eq_true p431
               replace q431 := eq_true q431
               have p61 : 0 ≤ ((ji53) : Int) := oD_ (by first | (with_reducible assumption) | assumption)
               have q61 : ((ji53) : Int) < ((y428.length : Int) : Int) := oD_ (by first | (with_reducible assumption) | assumption)
               obtain ⟨hx61_0, hf61_0⟩ := Kd.R_celln 0 HO_3.out ((ji53) : Int) p61 q61
               replace p61 := eq_true p61
               replace q61 := eq_true q61
               have HP62 := Kd.R_putg HO_3.out ((ji53) : Int) (wrap64 ((rd x3_2 x5_2) + t415))
               go_wp2_with (first | ((with_reducible refine gate_store (t := 3) (p := 138) rfl ?_); refine store_event (t := 3) (p := 138) (v := ?vo_w63) (w1 := (wc.setCell ⟨go45, ((ji53) : Int).toNat, none⟩ (.int .i64 (wrap64 ((rd x3_2 x5_2) + t415))))) ?hg ?ho ?hn ?hr ?_; (case ho => rfl); (case hg => rfl); (case hn => rfl); (case hr => first | (go_simp; done) | (go_simp; rfl)); intro w63 hw; have hg : wc.grownBy w63 (some go45) := (by rw [hw]; exact HP62.2); have hp_ : Kd.R (Kd.int .i64) 3 w63 w.heap.size (fun _ => True) (.slice (some ⟨go45, 0, none⟩) y428.length co28) y434 := (by rw [hw, Ny434.out]; exact HP62.1); clear HP62; have n0_ := aM_ (hp_); have n1_ := aM_ ((by rw [hw]; exact bS_ (HB.out) GB45.out : Below w.heap.size w w63)); clear HO_3 HB; have HO_3 := n0_; have HB := n1_; clear n0_ n1_ hg hw hp_))
               (try simp only [← hl3_45])
               go_roundg kj45
               case measure => have := HK1.out; have := HK2.out; have := HJ15.out; have := HJ26.out; have := HJ30.out; have := HJ45.out; omega
               case rel => exact ⟨(y434), (ji53), (by first | rfl | (simp; done) | (simp only [← hji53] <;> (first | rfl | simp)) | (simp [*]; done)), H', ⟨by have := HK1.out; have := HK2.out; have := HJ15.out; have := HJ26.out; have := HJ30.out; have := HJ45.out; omega⟩, ⟨by (try simp only [hl3_45]); (with_reducible repeat (first | apply rA_ | apply rN_ | apply rD_)); exact HO_3.out⟩, ⟨qB HB⟩⟩
             rw [if_pos c56] at H
             have c56b0 : decide (0 ≤ (rd y428 (ji53))) = true := dT_ c56
             clear c56
             by_cases c57 : (rd y428 (ji53)) = (wrap64 ((rd x3_2 x5_2) + t415))
             rotate_left
             · rw [if_neg c57] at H
               have c57b0 : ((rd y428 (ji53)) == (wrap64 ((rd x3_2 x5_2) + t415))) = false := beq_eq_false_iff_ne.mpr c57
               have c57b1 : ((rd y428 (ji53)) != (wrap64 ((rd x3_2 x5_2) + t415))) = true := bne_iff_ne.mpr c57
               obtain rfl := oI_ H
               have p431 : 0 ≤ ((ji53) : Int) := oD_ (by first | (with_reducible assumption) | assumption)
               have q431 : (ji53) < (y428.length : Int) := oD_ (by first | (with_reducible assumption) | assumption)
               obtain ⟨ad431, e431, hx431_0⟩ := Kd.at_int (Kd.R_reads' HO_3.out).2.2 (ji53) p431 q431
               obtain rfl : (⟨go45, 0, none⟩ : Addr) = ad431 := (by injection e431)
               (first | simp only [add_plain] at hx431_0 | simp only [add_at] at hx431_0 | simp only [Addr.add, Nat.zero_add] at hx431_0 | skip)
               replace p431 := eq_true p431
               replace q431 := eq_true q431
               have p432 : 0 ≤ ((ji53) : Int) := oD_ (by first | (with_reducible assumption) | assumption)
               have q432 : (ji53) < (y428.length : Int) := oD_ (by first | (with_reducible assumption) | assumption)
               obtain ⟨ad432, e432, hx432_0⟩ := Kd.at_int (Kd.R_reads' HO_3.out).2.2 (ji53) p432 q432
               obtain rfl : (⟨go45, 0, none⟩ : Addr) = ad432 := (by injection e432)
               (first | simp only [add_plain] at hx432_0 | simp only [add_at] at hx432_0 | simp only [Addr.add, Nat.zero_add] at hx432_0 | skip)
               replace p432 := eq_true p432
               replace q432 := eq_true q432
               go_wp2
               go_ret
               exact ⟨_, by first | rfl | (simp [errW_none, errW_some] <;> rfl) | (simp only [← hji2, ← hji53]; first | rfl | (simp [errW_none, errW_some] <;> rfl)) | (simp [*, errW_none, errW_some] <;> rfl), by first | exact Kd.R_nil _ _ _ _ _ | exact Kd.N_nil _ _ _ _ _ | exact Kd.V_nil _ _ _ _ _ | exact Kd.Q_nil _ _ _ _ _ | exact Kd.S_nil _ _ _ _ _, qB HB⟩
             rw [if_pos c57] at H
             have c57b0 : ((rd y428 (ji53)) == (wrap64 ((rd x3_2 x5_2) + t415))) = true := beq_iff_eq.mpr c57
             have c57b1 : ((rd y428 (ji53)) != (wrap64 ((rd x3_2 x5_2) + t415))) = false := bne_eq_false_iff_eq.mpr c57
             clear c57
             obtain ⟨y433, hy433⟩ : ∃ y_ : List Int, y_ = (y428.set ((ji53) : Int).toNat (wrap64 ((rd x3_2 x5_2) + t415))) := ⟨_, rfl⟩
             replace H : (spec_l5Depths.l1 kj45 l0 y433 ji53) = some r := by first | (rw [hy433]; with_reducible exact H) | (have H2_ := (Option.bind_some _ _).symm.trans H; rw [hy433]; with_reducible exact H2_) | (have H2_ := (Option.bind_some _ _).symm.trans H; with_reducible exact H2_) | with_reducible exact H | (rw [hy433]; exact H) | exact H
             have Ny433 := aM_ hy433
             clear hy433
             have H' := aM_ H
             clear H
             have p431 : 0 ≤ ((ji53) : Int) := oD_ (by first | (with_reducible assumption) | assumption)
             have q431 : (ji53) < (y428.length : Int) := oD_ (by first | (with_reducible assumption) | assumption)
             obtain ⟨ad431, e431, hx431_0⟩ := Kd.at_int (Kd.R_reads' HO_3.out).2.2 (ji53) p431 q431
             obtain rfl : (⟨go45, 0, none⟩ : Addr) = ad431 := (by injection e431)
             (first | simp only [add_plain] at hx431_0 | simp only [add_at] at hx431_0 | simp only [Addr.add, Nat.zero_add] at hx431_0 | skip)
             replace p431 := eq_true p431
             replace q431 := eq_true q431
             have p432 : 0 ≤ ((ji53) : Int) := oD_ (by first | (with_reducible assumption) | assumption)
             have q432 : (ji53) < (y428.length : Int) := oD_ (by first | (with_reducible assumption) | assumption)
             obtain ⟨ad432, e432, hx432_0⟩ := Kd.at_int (Kd.R_reads' HO_3.out).2.2 (ji53) p432 q432
             obtain rfl : (⟨go45, 0, none⟩ : Addr) = ad432 := (by injection e432)
             (first | simp only [add_plain] at hx432_0 | simp only [add_at] at hx432_0 | simp only [Addr.add, Nat.zero_add] at hx432_0 | skip)
             replace p432 := eq_true p432
             replace q432 := eq_true q432
             have p58 : 0 ≤ ((ji53) : Int) := oD_ (by first | (with_reducible assumption) | assumption)
             have q58 : ((ji53) : Int) < ((y428.length : Int) : Int) := oD_ (by first | (with_reducible assumption) | assumption)
             obtain ⟨hx58_0, hf58_0⟩ := Kd.R_celln 0 HO_3.out ((ji53) : Int) p58 q58
             replace p58 := eq_true p58
             replace q58 := eq_true q58
             have HP59 := Kd.R_putg HO_3.out ((ji53) : Int) (wrap64 ((rd x3_2 x5_2) + t415))
             go_wp2_with (first | ((with_reducible refine gate_store (t := 3) (p := 138) rfl ?_); refine store_event (t := 3) (p := 138) (v := ?vo_w60) (w1 := (wc.setCell ⟨go45, ((ji53) : Int).toNat, none⟩ (.int .i64 (wrap64 ((rd x3_2 x5_2) + t415))))) ?hg ?ho ?hn ?hr ?_; (case ho => rfl); (case hg => rfl); (case hn => rfl); (case hr => first | (go_simp; done) | (go_simp; rfl)); intro w60 hw; have hg : wc.grownBy w60 (some go45) := (by rw [hw]; exact HP59.2); have hp_ : Kd.R (Kd.int .i64) 3 w60 w.heap.size (fun _ => True) (.slice (some ⟨go45, 0, none⟩) y428.length co28) y433 := (by rw [hw, Ny433.out]; exact HP59.1); clear HP59; have n0_ := aM_ (hp_); have n1_ := aM_ ((by rw [hw]; exact bS_ (HB.out) GB45.out : Below w.heap.size w w60)); clear HO_3 HB; have HO_3 := n0_; have HB := n1_; clear n0_ n1_ hg hw hp_))
             (try simp only [← hl3_45])
             go_roundg kj45
             case measure => have := HK1.out; have := HK2.out; have := HJ15.out; have := HJ26.out; have := HJ30.out; have := HJ45.out; omega
             case rel => exact ⟨(y433), (ji53), (by first | rfl | (simp; done) | (simp only [← hji53] <;> (first | rfl | simp)) | (simp [*]; done)), H', ⟨by have := HK1.out; have := HK2.out; have := HJ15.out; have := HJ26.out; have := HJ30.out; have := HJ45.out; omega⟩, ⟨by (try simp only [hl3_45]); (with_reducible repeat (first | apply rA_ | apply rN_ | apply rD_)); exact HO_3.out⟩, ⟨qB HB⟩⟩
end Go.Proofs.YtjamfddhcigchaaGreatDoor.HFnCodeBent
namespace Go.Proofs.YtjamfddhcigchaaGreatDoor.HFnCodeBent
open Go.RowKit Go.Proofs.YtjamfddhcigchaaGreatDoorW.PrintWords Go.Proofs.YtjamfddhcigchaaGreatDoorW.PrintLast Go.Proofs.YtjamfddhcigchaaGreatDoorW.PrintMore
attribute [local go_sem] max2_int min2_int max_two min_two max_three min_three max_four min_four
set_option linter.unusedVariables false
set_option linter.unusedSimpArgs false
def spec_CodeOk.l0 : Nat → List (S30) → Int → Option (Bool)
  | 0, _, _ => none
  | k + 1, x0, x3 => if x3 < (x0.length : Int) then (if 0 ≤ x3 then ((spec_l5Ins.f k ((rd_T30 x0 x3).f0) ((rd_T30 x0 x3).f1) ((rd_T30 x0 x3).f2.f0) ((rd_T30 x0 x3).f2.f1) x3 (x0.length : Int)).bind fun t436 => (if t436 = true then (spec_CodeOk.l0 k x0 (wrap64 (x3 + 1))) else (some false))) else (none)) else ((spec_l5Depths.f k x0).bind fun t437 => (if (t437.length : Int) = (wrap64 ((x0.length : Int) + 1)) then (if 0 ≤ (x0.length : Int) then (if (x0.length : Int) < (t437.length : Int) then (some ((rd t437 (x0.length : Int)) == 0)) else (none)) else (none)) else (some false)))
def spec_CodeOk.f (k : Nat) (l0 : List (S30)) : Option (Bool) := if (l0.length : Int) > 400 then (some false) else (spec_CodeOk.l0 k l0 0)
set_option maxHeartbeats 8000000 in
set_option maxRecDepth 100000 in
theorem spec_CodeOk.calls (k : Nat) (A0 : Option Addr) (c0 : Nat) (l0 : List (S30)) (r : Bool) (w : World) (hr0 : Kd.C k30 w A0 l0.length l0) (hc0 : l0.length ≤ c0) (h : spec_CodeOk.f k l0 = some r) :
    Calls Tryz.prog 16 #[.slice A0 l0.length c0] w fun e w' => e = .returned (.bool r) ∧ Below w.heap.size w w' := by
 have hu30 := Tryz.underlying30
 have HR0 := aM_ hr0
 have HC0 := aM_ hc0
 clear hr0 hc0
 have HB := aM_ (Below.refl w.heap.size w)
 have H : (if (l0.length : Int) > 400 then (some false) else (spec_CodeOk.l0 k l0 0)) = some r := h
 clear h
 by_cases c2 : (l0.length : Int) > 400
 · rw [if_pos c2] at H
   have c2b0 : decide (400 < (l0.length : Int)) = true := dT_ c2
   have c2b1 : decide (400 < l0.length) = true := dT_ (by omega)
   clear c2
   obtain rfl := oI_ H
   go_enter Tryz.func16, Tryz.ntmps16
   go_wp2
   go_ret
   exact ⟨qE, qB HB⟩
 rw [if_neg c2] at H
 have c2b0 : decide (400 < (l0.length : Int)) = false := dF_ c2
 have c2b1 : decide (400 < l0.length) = false := dF_ (by omega)
 clear c2
 have H' := aM_ H
 clear H
 go_enter Tryz.func16, Tryz.ntmps16
 go_wp2
 go_loopg [3] k (fun kq v3 w' => ∃ (x3_1 : Int), v3 = .int .i64 x3_1 ∧ Aside0 (spec_CodeOk.l0 kq l0 x3_1 = some r) ∧ Aside0 (kq ≤ k) ∧ Aside0 (Below w.heap.size w w'))
 case atStart => exact ⟨(0), qF, H', ⟨Nat.le_refl _⟩, ⟨qB HB⟩⟩
 case round =>
  clear H'
  try clear c1
  try clear c2
  try clear c2b0
  try clear c2b1
  try clear p2
  obtain ⟨x3_1, rfl, HA, HK1, HB⟩ := hrel
  cases gk with
  | zero => exact absurd HA.out (by simp [spec_CodeOk.l0])
  | succ k1 =>
   have H := HA.out
   clear HA
   simp only [spec_CodeOk.l0] at H
   by_cases c3 : x3_1 < (l0.length : Int)
   · rw [if_pos c3] at H
     have c3b0 : decide (x3_1 < (l0.length : Int)) = true := dT_ c3
     clear c3
     by_cases c4 : 0 ≤ x3_1
     rotate_left
     · rw [if_neg c4] at H
       exact absurd H (by simp)
     rw [if_pos c4] at H
     have c4b0 : decide (0 ≤ x3_1) = true := dT_ c4
     clear c4
     replace H := oB_ H
     obtain ⟨t436, A50, H⟩ := H
     replace H : (if t436 = true then (spec_CodeOk.l0 k1 l0 (wrap64 (x3_1 + 1))) else (some false)) = some r := H
     have A5 := aM_ A50
     clear A50
     by_cases c6 : t436 = true
     rotate_left
     · replace c6 := Bool.eq_false_iff.mpr c6
       subst c6
       have H1 : (some false) = some r := by rw [if_neg (show ¬ (false = true) by decide)] at H; exact H
       clear H
       have H := H1
       clear H1
       obtain rfl := oI_ H
       have p435 : 0 ≤ (x3_1 : Int) := oD_ (by first | (with_reducible assumption) | assumption)
       have q435 : x3_1 < (l0.length : Int) := oD_ (by first | (with_reducible assumption) | assumption)
       obtain ⟨ad435, e435, hx435_0, hx435_1, hx435_2, hx435_3⟩ := at_T30 HR0.out x3_1 p435 q435
       cases e435
       replace hx435_0 := qc HB hx435_0
       replace hx435_1 := qc HB hx435_1
       replace hx435_2 := qc HB hx435_2
       replace hx435_3 := qc HB hx435_3
       replace p435 := eq_true p435
       replace q435 := eq_true q435
       go_wp2_with (first | ((with_reducible refine gate_callee (f := 41) rfl ?_); refine goesL_ (some 21) rfl rfl Tryz.func41 (by kernel_rfl) rfl #[.agg #[.int .i64 ((rd_T30 l0 x3_1).f0), .int .i64 ((rd_T30 l0 x3_1).f1), .int .i64 ((rd_T30 l0 x3_1).f2.f0), .int .i64 ((rd_T30 l0 x3_1).f2.f1)], .int .i64 x3_1, .int .i64 (l0.length : Int)] rfl (by (try simp only [mA_, List.map_cons, List.map_nil]); first | done | rfl | (simp only [lD_, lT_]; rfl)) ?_; (with_reducible refine (spec_l5Ins.calls k1 ((rd_T30 l0 x3_1).f0) ((rd_T30 l0 x3_1).f1) ((rd_T30 l0 x3_1).f2.f0) ((rd_T30 l0 x3_1).f2.f1) x3_1 (l0.length : Int) false _ A5.out).mono ?_); rintro e w8 ⟨rfl, hb⟩; refine ⟨_, rfl, ?_⟩; have n0_ := aM_ (bT_ (qB HB) hb); clear HB; revert n0_; intro HB; (try clear hb); (try clear hb2); (try clear hk); (try clear hi)))
       go_ret
       exact ⟨qE, qB HB⟩
     subst c6
     have H1 : (spec_CodeOk.l0 k1 l0 (wrap64 (x3_1 + 1))) = some r := by rw [if_pos rfl] at H; exact H
     clear H
     have H := H1
     clear H1
     have H' := aM_ H
     clear H
     have p435 : 0 ≤ (x3_1 : Int) := oD_ (by first | (with_reducible assumption) | assumption)
     have q435 : x3_1 < (l0.length : Int) := oD_ (by first | (with_reducible assumption) | assumption)
     obtain ⟨ad435, e435, hx435_0, hx435_1, hx435_2, hx435_3⟩ := at_T30 HR0.out x3_1 p435 q435
     cases e435
     replace hx435_0 := qc HB hx435_0
     replace hx435_1 := qc HB hx435_1
     replace hx435_2 := qc HB hx435_2
     replace hx435_3 := qc HB hx435_3
     replace p435 := eq_true p435
     replace q435 := eq_true q435
     go_wp2_with (first | ((with_reducible refine gate_callee (f := 41) rfl ?_); refine goesL_ (some 21) rfl rfl Tryz.func41 (by kernel_rfl) rfl #[.agg #[.int .i64 ((rd_T30 l0 x3_1).f0), .int .i64 ((rd_T30 l0 x3_1).f1), .int .i64 ((rd_T30 l0 x3_1).f2.f0), .int .i64 ((rd_T30 l0 x3_1).f2.f1)], .int .i64 x3_1, .int .i64 (l0.length : Int)] rfl (by (try simp only [mA_, List.map_cons, List.map_nil]); first | done | rfl | (simp only [lD_, lT_]; rfl)) ?_; (with_reducible refine (spec_l5Ins.calls k1 ((rd_T30 l0 x3_1).f0) ((rd_T30 l0 x3_1).f1) ((rd_T30 l0 x3_1).f2.f0) ((rd_T30 l0 x3_1).f2.f1) x3_1 (l0.length : Int) true _ A5.out).mono ?_); rintro e w7 ⟨rfl, hb⟩; refine ⟨_, rfl, ?_⟩; have n0_ := aM_ (bT_ (qB HB) hb); clear HB; revert n0_; intro HB; (try clear hb); (try clear hb2); (try clear hk); (try clear hi)))
     go_roundg k1
     case measure => have := HK1.out; omega
     case rel => exact ⟨(wrap64 (x3_1 + 1)), qF, H', ⟨by have := HK1.out; omega⟩, ⟨qB HB⟩⟩
   rw [if_neg c3] at H
   have c3b0 : decide (x3_1 < (l0.length : Int)) = false := dF_ c3
   clear c3
   replace H := oB_ H
   obtain ⟨t437, A90, H⟩ := H
   replace H : (if (t437.length : Int) = (wrap64 ((l0.length : Int) + 1)) then (if 0 ≤ (l0.length : Int) then (if (l0.length : Int) < (t437.length : Int) then (some ((rd t437 (l0.length : Int)) == 0)) else (none)) else (none)) else (some false)) = some r := H
   have A9 := aM_ A90
   clear A90
   by_cases c10 : (t437.length : Int) = (wrap64 ((l0.length : Int) + 1))
   rotate_left
   · rw [if_neg c10] at H
     have c10b0 : ((t437.length : Int) == (wrap64 ((l0.length : Int) + 1))) = false := beq_eq_false_iff_ne.mpr c10
     have c10b1 : ((t437.length : Int) != (wrap64 ((l0.length : Int) + 1))) = true := bne_iff_ne.mpr c10
     obtain rfl := oI_ H
     go_wp2_with (first | ((with_reducible refine gate_callee (f := 42) rfl ?_); refine goesL_ (some 24) rfl rfl Tryz.func42 (by kernel_rfl) rfl #[.slice A0 l0.length c0] rfl (by (try simp only [mA_, List.map_cons, List.map_nil]); first | done | rfl | (simp only [lD_, lT_]; rfl)) ?_; (with_reducible refine (spec_l5Depths.calls k1 _ _ l0 t437 _ ?side1 ?side2 A9.out).mono ?_); (case side1 => exact qC (Kd.C_below HR0.out HB.out)); (case side2 => exact HC0.out); rintro e w15 ⟨v438, rfl, ho0, hb⟩; refine ⟨_, rfl, ?_⟩; have n0_ := aM_ (Kd.R_lower ho0 (bZ_ (qB HB))); have n1_ := aM_ (bT_ (qB HB) hb); clear HB; revert n0_ n1_; intro HO439 HB; (try clear hb); (try clear hb2); (try clear hk); (try clear hi); (try clear ho0); obtain ⟨Ao16, co16, eo16⟩ := Kd.R_slice HO439.out; subst eo16))
     go_ret
     exact ⟨qE, qB HB⟩
   rw [if_pos c10] at H
   have c10b0 : ((t437.length : Int) == (wrap64 ((l0.length : Int) + 1))) = true := beq_iff_eq.mpr c10
   have c10b1 : ((t437.length : Int) != (wrap64 ((l0.length : Int) + 1))) = false := bne_eq_false_iff_eq.mpr c10
   clear c10
   by_cases c11 : 0 ≤ (l0.length : Int)
   rotate_left
   · rw [if_neg c11] at H
     exact absurd H (by simp)
   rw [if_pos c11] at H
   have c11b0 : decide (0 ≤ (l0.length : Int)) = true := dT_ c11
   have c11b1 : decide (0 ≤ l0.length) = true := dT_ (by omega)
   clear c11
   by_cases c12 : (l0.length : Int) < (t437.length : Int)
   rotate_left
   · rw [if_neg c12] at H
     exact absurd H (by simp)
   rw [if_pos c12] at H
   have c12b0 : decide ((l0.length : Int) < (t437.length : Int)) = true := dT_ c12
   have c12b1 : decide (l0.length < t437.length) = true := dT_ (Int.ofNat_lt.mp c12)
   clear c12
   obtain rfl := oI_ H
   go_wp2_with (first | ((with_reducible refine gate_callee (f := 42) rfl ?_); refine goesL_ (some 24) rfl rfl Tryz.func42 (by kernel_rfl) rfl #[.slice A0 l0.length c0] rfl (by (try simp only [mA_, List.map_cons, List.map_nil]); first | done | rfl | (simp only [lD_, lT_]; rfl)) ?_; (with_reducible refine (spec_l5Depths.calls k1 _ _ l0 t437 _ ?side1 ?side2 A9.out).mono ?_); (case side1 => exact qC (Kd.C_below HR0.out HB.out)); (case side2 => exact HC0.out); rintro e w13 ⟨v438, rfl, ho0, hb⟩; refine ⟨_, rfl, ?_⟩; have n0_ := aM_ (Kd.R_lower ho0 (bZ_ (qB HB))); have n1_ := aM_ (bT_ (qB HB) hb); clear HB; revert n0_ n1_; intro HO439 HB; (try clear hb); (try clear hb2); (try clear hk); (try clear hi); (try clear ho0); obtain ⟨Ao14, co14, eo14⟩ := Kd.R_slice HO439.out; subst eo14; have p440 : 0 ≤ ((l0.length : Int) : Int) := oD_ (by first | (with_reducible assumption) | assumption); have q440 : (l0.length : Int) < (t437.length : Int) := oD_ (by first | (with_reducible assumption) | assumption); obtain ⟨ad440, e440, hx440_0⟩ := Kd.at_int (Kd.R_reads' HO439.out).2.2 (l0.length : Int) p440 q440; cases e440; (try simp only [Go.IntWalk.toNatUp] at hx440_0); replace p440 := eq_true p440; replace q440 := eq_true q440))
   go_ret
   exact ⟨qE, qB HB⟩
end Go.Proofs.YtjamfddhcigchaaGreatDoor.HFnCodeBent
