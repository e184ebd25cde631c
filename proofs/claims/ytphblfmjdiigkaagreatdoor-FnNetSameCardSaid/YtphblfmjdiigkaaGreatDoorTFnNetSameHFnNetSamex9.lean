-- Made by a program of this session (hp.py) over the kit's print: functions told by hand stand beside printed ones. Lean checks it.
import Derived.Test.YtphblfmjdiigkaaGreatDoorTFnNetSameHFnNetSamex8
namespace Go.Proofs.YtphblfmjdiigkaaGreatDoor.HFnNetSame
open Go.RowKit Go.Proofs.YtphblfmjdiigkaaGreatDoorW.PrintWords Go.Proofs.YtphblfmjdiigkaaGreatDoorW.PrintLast Go.Proofs.YtphblfmjdiigkaaGreatDoorW.PrintMore
attribute [local go_sem] max2_int min2_int max_two min_two max_three min_three max_four min_four
set_option linter.unusedVariables false
set_option linter.unusedSimpArgs false
mutual
def spec_l7Order.l0 : Nat → List (S43) → List Bool → List Int → Int → Option (List Int)
  | 0, _, _, _, _ => none
  | k + 1, x0, x3, x4, x5 => if x5 < (x0.length : Int) then (spec_l7Order.l1 k x0 x3 x4 x5 (-1) 0) else (some x4)
def spec_l7Order.l1 : Nat → List (S43) → List Bool → List Int → Int → Int → Int → Option (List Int)
  | 0, _, _, _, _, _, _ => none
  | k + 1, x0, x3, x4, x5, x6, x7 => if x7 < (x0.length : Int) then (spec_l7Order.j2 k x0 x3 x4 x5 x6 x7 (decide (x6 < 0))) else (spec_l7Order.j2 k x0 x3 x4 x5 x6 x7 false)
def spec_l7Order.j2 : Nat → List (S43) → List Bool → List Int → Int → Int → Int → Bool → Option (List Int)
  | 0, _, _, _, _, _, _, _ => none
  | k + 1, x0, x3, x4, x5, x6, x7, x25 => if x25 = true then (if 0 ≤ x7 then (if x7 < (x3.length : Int) then (if rdOf false x3 x7 = true then (spec_l7Order.l1 k x0 x3 x4 x5 x6 (wrap64 (x7 + 1))) else (if x7 < (x0.length : Int) then ((spec_l7Waits.f ((rd_T43 x0 x7).f0) ((rd_T43 x0 x7).f1) ((rd_T43 x0 x7).f2.f0) ((rd_T43 x0 x7).f2.f1) ((rd_T43 x0 x7).f2.f2.f0) ((rd_T43 x0 x7).f2.f2.f1) ((rd_T43 x0 x7).f2.f3) ((rd_T43 x0 x7).f3.f0) ((rd_T43 x0 x7).f3.f1) ((rd_T43 x0 x7).f3.f2.f0) ((rd_T43 x0 x7).f3.f2.f1) ((rd_T43 x0 x7).f3.f3) x3).bind fun t191 => (if t191 = true then (spec_l7Order.l1 k x0 x3 x4 x5 x6 (wrap64 (x7 + 1))) else (spec_l7Order.l1 k x0 x3 x4 x5 x7 (wrap64 (x7 + 1))))) else (none))) else (none)) else (none)) else (if x6 ≥ 0 then (if 0 ≤ x6 then (if x6 < (x3.length : Int) then (if x4.length < 17592186044416 then (spec_l7Order.l0 k x0 (x3.set (x6 : Int).toNat true) (x4 ++ [x6]) (wrap64 (x5 + 1))) else (none)) else (none)) else (none)) else (spec_l7Order.l0 k x0 x3 x4 (wrap64 (x5 + 1))))
end
def spec_l7Order.f (k : Nat) (l0 : List (S43)) : Option (List Int) := if 0 ≤ (l0.length : Int) then (if ((l0.length : Int) : Int).toNat ≤ 281474976710656 then (spec_l7Order.l0 k l0 (List.replicate ((l0.length : Int) : Int).toNat false) (([] : List Int)) 0) else (none)) else (none)
set_option maxHeartbeats 8000000 in
set_option maxRecDepth 100000 in
theorem spec_l7Order.calls (k : Nat) (A0 : Option Addr) (c0 : Nat) (l0 : List (S43)) (r : List Int) (w : World) (hr0 : Kd.C k43 w A0 l0.length l0) (hc0 : l0.length ≤ c0) (h : spec_l7Order.f k l0 = some r) :
    Calls Tryz.prog 38 #[.slice A0 l0.length c0] w fun e w' => ∃ v0_ : Value, e = .returned (v0_) ∧ Kd.R (Kd.int .i64) 3 w' w.heap.size (fun _ => True) v0_ r ∧ Below w.heap.size w w' := by
 have hu43 := Tryz.underlying43
 have HR0 := aM_ hr0
 have HC0 := aM_ hc0
 clear hr0 hc0
 have HB := aM_ (Below.refl w.heap.size w)
 have H : (if 0 ≤ (l0.length : Int) then (if ((l0.length : Int) : Int).toNat ≤ 281474976710656 then (spec_l7Order.l0 k l0 (List.replicate ((l0.length : Int) : Int).toNat false) (([] : List Int)) 0) else (none)) else (none)) = some r := h
 clear h
 by_cases c2 : 0 ≤ (l0.length : Int)
 rotate_left
 · rw [if_neg c2] at H
   exact absurd H (by simp)
 rw [if_pos c2] at H
 have c2b0 := eq_true c2
 have c2b1 : decide (0 ≤ (l0.length : Int)) = true := dT_ c2
 clear c2
 by_cases c3 : ((l0.length : Int) : Int).toNat ≤ 281474976710656
 rotate_left
 · rw [if_neg c3] at H
   exact absurd H (by simp)
 rw [if_pos c3] at H
 have c3b0 := eq_true c3
 have c3b1 : decide (((l0.length : Int) : Int).toNat ≤ 281474976710656) = true := dT_ c3
 clear c3
 obtain ⟨y183, hy183⟩ : ∃ y_ : List Bool, y_ = (List.replicate ((l0.length : Int) : Int).toNat false) := ⟨_, rfl⟩
 replace H : (spec_l7Order.l0 k l0 y183 (([] : List Int)) 0) = some r := by first | (rw [hy183]; with_reducible exact H) | (have H2_ := (Option.bind_some _ _).symm.trans H; rw [hy183]; with_reducible exact H2_) | (have H2_ := (Option.bind_some _ _).symm.trans H; with_reducible exact H2_) | with_reducible exact H | (rw [hy183]; exact H) | exact H
 have Ny183 := aM_ hy183
 clear hy183
 obtain ⟨y186, hy186⟩ : ∃ y_ : List Int, y_ = (([] : List Int)) := ⟨_, rfl⟩
 replace H : (spec_l7Order.l0 k l0 y183 y186 0) = some r := by first | (rw [hy186]; with_reducible exact H) | (have H2_ := (Option.bind_some _ _).symm.trans H; rw [hy186]; with_reducible exact H2_) | (have H2_ := (Option.bind_some _ _).symm.trans H; with_reducible exact H2_) | with_reducible exact H | (rw [hy186]; exact H) | exact H
 have Ny186 := aM_ hy186
 clear hy186
 have H' := aM_ H
 clear H
 go_enter Tryz.func38, Tryz.ntmps38
 go_wp2_with (first | ((with_reducible refine gate_dst (N := 10) rfl ?_); refine Kd.R_make Kd.bool _ 4 rfl (N := 10) rfl 119 _ _ rfl (l0.length : Int) rfl rfl Tryz.underlying119 (.bool false) 1 info4 rfl (by decide) (by omega) false (ok := fun _ => True) (okp := fun _ => True) rfl (fun _ hk => hk) trivial (oD_ (by first | (with_reducible assumption) | assumption)) (Nat.le_trans (Nat.mul_le_mul_right _ (oD_ (by first | (with_reducible assumption) | assumption) : (l0.length : Int).toNat ≤ 281474976710656)) (by omega)) (Below.refl _ _) (Nat.le_refl _) ?_; intro v184 w4 ho5 hb hg_ hnew_; clear hg_ hnew_; (first | rw [← Ny183.out] at ho5 | (simp only [Int.reduceToNat] at ho5; rw [← Ny183.out] at ho5)); have n0_ := aM_ (Kd.R_lower ho5 (bZ_ (by repeat (first | (with_reducible first | exact HB.out | apply bA_ | apply bN_ | apply b1_) | exact HB.out)))); have n1_ := aM_ (bT_ (by repeat (first | (with_reducible first | exact HB.out | apply bA_ | apply bN_ | apply b1_) | exact HB.out)) hb); clear HB; have HO185 := n0_; have HB := n1_; clear n0_ n1_ hb ho5) | ((with_reducible refine gate_dst (N := 11) rfl ?_); refine Kd.R_lit (Kd.int .i64) _ 3 ?hg (N := 11) ?hd (xs := ([] : List Int)) (inner := []) (ok := fun _ => True) (okp := fun _ => True) ?hr ?hp (fun _ hk => hk) trivial (Below.refl _ _) (Nat.le_refl _) (by simp) ?_; (case hd => rfl); (case hg => rfl); (case hr => first | (go_simp; done) | (go_simp; rfl)); (case hp => exact (Reps.none _ _)); intro v187 w6 ho7 hb hg_ hnew_; clear hg_ hnew_; (first | rw [← Ny186.out] at ho7 | (simp only [Int.reduceToNat] at ho7; rw [← Ny186.out] at ho7)); have n0_ := aM_ (Kd.R_below (by (with_reducible repeat (first | apply rN_ | apply rD_)); exact HO185.out) hb); have n1_ := aM_ (Kd.R_lower ho7 (bZ_ (by repeat (first | (with_reducible first | exact HB.out | apply bA_ | apply bN_ | apply b1_) | exact HB.out)))); have n2_ := aM_ (bT_ (by repeat (first | (with_reducible first | exact HB.out | apply bA_ | apply bN_ | apply b1_) | exact HB.out)) hb); clear HO185 HB; have HO185 := n0_; have HO188 := n1_; have HB := n2_; clear n0_ n1_ n2_ hb ho7))
 go_loopg [4, 5] k (fun kq v4 v5 w' => ∃ (x3_1 : List Bool) (x4_1 : List Int) (x5_1 : Int), v5 = .int .i64 x5_1 ∧ Aside0 (spec_l7Order.l0 kq l0 x3_1 x4_1 x5_1 = some r) ∧ Aside0 (kq ≤ k) ∧ Aside0 (Kd.R Kd.bool 4 w' w.heap.size (fun _ => True) v184 x3_1) ∧ Aside0 (Kd.R (Kd.int .i64) 3 w' w.heap.size (fun _ => True) v4 x4_1) ∧ Aside0 (Below w.heap.size w w'))
 case atStart => exact ⟨(y183), (y186), (0), (by first | rfl | (simp; done) | (simp [*]; done)), H', ⟨Nat.le_refl _⟩, ⟨by (with_reducible repeat (first | apply rN_ | apply rD_)); exact HO185.out⟩, ⟨by (with_reducible repeat (first | apply rN_ | apply rD_)); exact HO188.out⟩, ⟨by repeat (first | (with_reducible first | exact HB.out | apply bA_ | apply bN_ | apply b1_) | exact HB.out)⟩⟩
 case round =>
  clear H'
  try clear c2
  try clear c2b0
  try clear c2b1
  try clear p2
  try clear c3
  try clear c3b0
  try clear c3b1
  obtain ⟨x3_1, x4_1, x5_1, rfl, HA, HK1, HO_3, HO_4, HB⟩ := hrel
  cases gk with
  | zero => exact absurd HA.out (by simp [spec_l7Order.l0])
  | succ k1 =>
   have H := HA.out
   clear HA
   simp only [spec_l7Order.l0] at H
   by_cases c8 : x5_1 < (l0.length : Int)
   rotate_left
   · rw [if_neg c8] at H
     have c8b0 : decide (x5_1 < (l0.length : Int)) = false := dF_ c8
     clear c8
     obtain rfl := oI_ H
     go_wp2
     go_ret
     exact ⟨_, by first | rfl | (simp [errW_none, errW_some] <;> rfl) | (simp [*, errW_none, errW_some] <;> rfl), by (with_reducible repeat (first | apply rN_ | apply rD_)); exact HO_4.out, by repeat (first | (with_reducible first | exact HB.out | apply bA_ | apply bN_ | apply b1_) | exact HB.out)⟩
   rw [if_pos c8] at H
   have c8b0 : decide (x5_1 < (l0.length : Int)) = true := dT_ c8
   clear c8
   have H' := aM_ H
   clear H
   go_wp2
   go_loopg [6, 7] k1 (fun kq v6 v7 w' => ∃ (x6_2 : Int) (x7_2 : Int), v6 = .int .i64 x6_2 ∧ v7 = .int .i64 x7_2 ∧ Aside0 (spec_l7Order.l1 kq l0 x3_1 x4_1 x5_1 x6_2 x7_2 = some r) ∧ Aside0 (kq ≤ k1) ∧ Aside0 (Kd.R Kd.bool 4 w' w.heap.size (fun _ => True) v184 x3_1) ∧ Aside0 (Kd.R (Kd.int .i64) 3 w' w.heap.size (fun _ => True) u4 x4_1) ∧ Aside0 (Below w.heap.size w w'))
   case atStart => exact ⟨((-1)), (0), (by first | rfl | (simp; done) | (simp [*]; done)), (by first | rfl | (simp; done) | (simp [*]; done)), H', ⟨Nat.le_refl _⟩, ⟨by (with_reducible repeat (first | apply rN_ | apply rD_)); exact HO_3.out⟩, ⟨by (with_reducible repeat (first | apply rN_ | apply rD_)); exact HO_4.out⟩, ⟨by repeat (first | (with_reducible first | exact HB.out | apply bA_ | apply bN_ | apply b1_) | exact HB.out)⟩⟩
   case round =>
    clear H'
    try clear c2
    try clear c2b0
    try clear c2b1
    try clear p2
    try clear c3
    try clear c3b0
    try clear c3b1
    try clear c8
    try clear c8b0
    try clear p2
    obtain ⟨x6_2, x7_2, rfl, rfl, HA, HK2, HO_3, HO_4, HB⟩ := hrel
    cases gk with
    | zero => exact absurd HA.out (by simp [spec_l7Order.l1])
    | succ k2 =>
     have H := HA.out
     clear HA
     simp only [spec_l7Order.l1] at H
     have HC9 := aM_ H
     clear H
     go_upto_region 8 with (fail)
     go_cut [25] (fun v25 wc => ∃ (kq : Nat) (x25_8 : Bool), v25 = .bool x25_8 ∧ Aside0 (spec_l7Order.j2 kq l0 x3_1 x4_1 x5_1 x6_2 x7_2 x25_8 = some r) ∧ Aside0 (kq ≤ k2) ∧ Aside0 (Kd.R Kd.bool 4 wc w.heap.size (fun _ => True) v184 x3_1) ∧ Aside0 (Kd.R (Kd.int .i64) 3 wc w.heap.size (fun _ => True) u4 x4_1) ∧ Aside0 (Below w.heap.size w wc))
     case first =>
      have H := HC9.out
      clear HC9
      by_cases c10 : x7_2 < (l0.length : Int)
      rotate_left
      · rw [if_neg c10] at H
        have c10b0 : decide (x7_2 < (l0.length : Int)) = false := dF_ c10
        clear c10
        (first | rw [c10b0] | (simp only [i64_w, i32_w]; rw [c10b0]) | skip)
        have H' := aM_ H
        clear H
        go_wp2
        go_meet
        case rel => exact ⟨_, (false), (by first | rfl | (simp; done) | (simp [*]; done)), H', ⟨by have := HK1.out; have := HK2.out; first | omega | exact Nat.le_refl _⟩, ⟨by (with_reducible repeat (first | apply rN_ | apply rD_)); exact HO_3.out⟩, ⟨by (with_reducible repeat (first | apply rN_ | apply rD_)); exact HO_4.out⟩, ⟨by repeat (first | (with_reducible first | exact HB.out | apply bA_ | apply bN_ | apply b1_) | exact HB.out)⟩⟩
      rw [if_pos c10] at H
      have c10b0 : decide (x7_2 < (l0.length : Int)) = true := dT_ c10
      clear c10
      (first | rw [c10b0] | (simp only [i64_w, i32_w]; rw [c10b0]) | skip)
      have H' := aM_ H
      clear H
      go_wp2
      go_meet
      case rel => exact ⟨_, (decide (x6_2 < 0)), (by first | rfl | (simp; done) | (simp [*]; done)), H', ⟨by have := HK1.out; have := HK2.out; first | omega | exact Nat.le_refl _⟩, ⟨by (with_reducible repeat (first | apply rN_ | apply rD_)); exact HO_3.out⟩, ⟨by (with_reducible repeat (first | apply rN_ | apply rD_)); exact HO_4.out⟩, ⟨by repeat (first | (with_reducible first | exact HB.out | apply bA_ | apply bN_ | apply b1_) | exact HB.out)⟩⟩
     case rest =>
      clear HC9
      try clear c1
      try clear c2
      try clear c2b0
      try clear c2b1
      try clear p2
      try clear c3
      try clear c3b0
      try clear c3b1
      try clear c8
      try clear c8b0
      try clear c10
      try clear c10b0
      try clear p2
      obtain ⟨kq, x25_8, rfl, HA, HJ8, HO_3, HO_4, HB⟩ := hcut
      cases kq with
      | zero => exact absurd HA.out (by simp [spec_l7Order.j2])
      | succ kj8 =>
       have H := HA.out
       clear HA
       simp only [spec_l7Order.j2] at H
       by_cases c11 : x25_8 = true
       rotate_left
       · replace c11 := Bool.eq_false_iff.mpr c11
         subst c11
         have H1 : (if x6_2 ≥ 0 then (if 0 ≤ x6_2 then (if x6_2 < (x3_1.length : Int) then (if x4_1.length < 17592186044416 then (spec_l7Order.l0 kj8 l0 (x3_1.set (x6_2 : Int).toNat true) (x4_1 ++ [x6_2]) (wrap64 (x5_1 + 1))) else (none)) else (none)) else (none)) else (spec_l7Order.l0 kj8 l0 x3_1 x4_1 (wrap64 (x5_1 + 1)))) = some r := by rw [if_neg (show ¬ (false = true) by decide)] at H; exact H
         clear H
         have H := H1
         clear H1
         by_cases c24 : x6_2 ≥ 0
         rotate_left
         · rw [if_neg c24] at H
           have c24b0 : decide (0 ≤ x6_2) = false := dF_ c24
           clear c24
           have H' := aM_ H
           clear H
           go_wp2
           go_roundg kj8
           case measure => have := HK1.out; have := HK2.out; have := HJ8.out; omega
           case rel => exact ⟨(x3_1), (x4_1), (wrap64 (x5_1 + 1)), (by first | rfl | (simp; done) | (simp [*]; done)), H', ⟨by have := HK1.out; have := HK2.out; have := HJ8.out; omega⟩, ⟨by (with_reducible repeat (first | apply rN_ | apply rD_)); exact HO_3.out⟩, ⟨by (with_reducible repeat (first | apply rN_ | apply rD_)); exact HO_4.out⟩, ⟨by repeat (first | (with_reducible first | exact HB.out | apply bA_ | apply bN_ | apply b1_) | exact HB.out)⟩⟩
         rw [if_pos c24] at H
         have c24b0 : decide (0 ≤ x6_2) = true := dT_ c24
         clear c24
         by_cases c25 : 0 ≤ x6_2
         rotate_left
         · rw [if_neg c25] at H
           exact absurd H (by simp)
         rw [if_pos c25] at H
         have c25b0 : decide (0 ≤ x6_2) = true := dT_ c25
         clear c25
         by_cases c26 : x6_2 < (x3_1.length : Int)
         rotate_left
         · rw [if_neg c26] at H
           exact absurd H (by simp)
         rw [if_pos c26] at H
         have c26b0 : decide (x6_2 < (x3_1.length : Int)) = true := dT_ c26
         clear c26
         obtain ⟨y192, hy192⟩ : ∃ y_ : List Bool, y_ = (x3_1.set (x6_2 : Int).toNat true) := ⟨_, rfl⟩
         replace H : (if x4_1.length < 17592186044416 then (spec_l7Order.l0 kj8 l0 y192 (x4_1 ++ [x6_2]) (wrap64 (x5_1 + 1))) else (none)) = some r := by first | (rw [hy192]; with_reducible exact H) | (have H2_ := (Option.bind_some _ _).symm.trans H; rw [hy192]; with_reducible exact H2_) | (have H2_ := (Option.bind_some _ _).symm.trans H; with_reducible exact H2_) | with_reducible exact H | (rw [hy192]; exact H) | exact H
         have Ny192 := aM_ hy192
         clear hy192
         by_cases c28 : x4_1.length < 17592186044416
         rotate_left
         · rw [if_neg c28] at H
           exact absurd H (by simp)
         rw [if_pos c28] at H
         have LMc28 := aM_ c28
         clear c28
         obtain ⟨y193, hy193⟩ : ∃ y_ : List Int, y_ = (x4_1 ++ [x6_2]) := ⟨_, rfl⟩
         replace H : (spec_l7Order.l0 kj8 l0 y192 y193 (wrap64 (x5_1 + 1))) = some r := by first | (rw [hy193]; with_reducible exact H) | (have H2_ := (Option.bind_some _ _).symm.trans H; rw [hy193]; with_reducible exact H2_) | (have H2_ := (Option.bind_some _ _).symm.trans H; with_reducible exact H2_) | with_reducible exact H | (rw [hy193]; exact H) | exact H
         have Ny193 := aM_ hy193
         clear hy193
         have H' := aM_ H
         clear H
         have p27 : 0 ≤ (x6_2 : Int) := oD_ (by first | (with_reducible assumption) | assumption)
         have q27 : (x6_2 : Int) < ((x3_1.length : Int) : Int) := oD_ (by first | (with_reducible assumption) | assumption)
         obtain ⟨go27, co27, eo27, gb27, gl27, cl27, HG27⟩ := Kd.R_form HO_3.out (by omega)
         (first | cases eo27 | (injection eo27 with ea_ en_ ec_; (first | subst ea_ | (injection ea_ with ea_; subst ea_)); subst ec_; clear en_))
         have GB27 := aM_ gb27
         have GG27 := aM_ HG27
         clear gb27 gl27 HG27
         obtain ⟨hx27_0, hf27_0⟩ := Kd.R_celln false HO_3.out (x6_2 : Int) p27 q27
         replace p27 := eq_true p27
         replace q27 := eq_true q27
         have HP29 := Kd.R_putg HO_3.out (x6_2 : Int) true
         go_wp2_with (first | ((with_reducible refine gate_store (t := 4) (p := 47) rfl ?_); refine store_event (t := 4) (p := 47) (v := ?vo_w30) (w1 := (wc.setCell ⟨go27, (x6_2 : Int).toNat, none⟩ (.bool true))) ?hg ?ho ?hn ?hr ?_; (case ho => rfl); (case hg => rfl); (case hn => rfl); (case hr => first | (go_simp; done) | (go_simp; rfl)); intro w30 hw; have hg : wc.grownBy w30 (some go27) := (by rw [hw]; exact HP29.2); have hp_ : Kd.R Kd.bool 4 w30 w.heap.size (fun _ => True) (.slice (some ⟨go27, 0, none⟩) x3_1.length co27) y192 := (by rw [hw, Ny192.out]; exact HP29.1); clear HP29; have n0_ := aM_ (hp_); have n1_ := aM_ (Kd.R_over' (v := (.slice (some ⟨go27, 0, none⟩) x3_1.length co27)) (by (with_reducible repeat (first | apply rN_ | apply rD_)); exact HO_4.out) (Kd.R_typed HO_3.out) (by decide) hg); have n2_ := aM_ ((by rw [hw]; exact bS_ (HB.out) GB27.out : Below w.heap.size w w30)); clear HO_3 HO_4 HB; have HO_3 := n0_; have HO_4 := n1_; have HB := n2_; clear n0_ n1_ n2_ hg hw hp_) | ((with_reducible refine gate_builtin (b := .append) (xs := #[.tmp 48, .tmp 50]) rfl ?_); at_builtin; refine Kd.R_append (Kd.int .i64) (w0 := w) w.heap.size rfl (.tmp 48) (.tmp 50) 75 3 (.int .i64 0) 8 rfl Tryz.underlying75 info3 rfl (by decide) (by omega) u4 x4_1 x6_2 [.int .i64 x6_2] (fun _ => True) (fun _ => False) rfl rfl ?aP (fun _ hk => hk.elim) ?aF ?aO ?aB ?aS ?aL ?_; (case aP => exact rfl); (case aB => exact (by repeat (first | (with_reducible first | exact HB.out | apply bA_ | apply bN_ | apply b1_) | exact HB.out))); (case aF => exact (fun _ _ => trivial)); (case aO => exact (by (with_reducible repeat (first | apply rN_ | apply rD_)); exact HO_4.out)); (case aS => exact (bZ_ (by repeat (first | (with_reducible first | exact HB.out | apply bA_ | apply bN_ | apply b1_) | exact HB.out)))); (case aL => have := LMc28.out; omega); intro v194 w31 ho hb hg hat; rw [← Ny193.out] at ho; have n0_ := aM_ (Kd.R_over' (by (with_reducible repeat (first | apply rN_ | apply rD_)); exact HO_3.out) (Kd.R_typed (by (with_reducible repeat (first | apply rN_ | apply rD_)); exact HO_4.out)) (by decide) hg); have n1_ := aM_ (hb); have n2_ := aM_ (ho); clear HO_3 HB HO_4; have HO_3 := n0_; have HB := n1_; have HO195 := n2_; clear n0_ n1_ n2_ ho hb hg hat))
         go_roundg kj8
         case measure => have := HK1.out; have := HK2.out; have := HJ8.out; omega
         case rel => exact ⟨(y192), (y193), (wrap64 (x5_1 + 1)), (by first | rfl | (simp; done) | (simp [*]; done)), H', ⟨by have := HK1.out; have := HK2.out; have := HJ8.out; omega⟩, ⟨by (with_reducible repeat (first | apply rN_ | apply rD_)); exact HO_3.out⟩, ⟨by (with_reducible repeat (first | apply rN_ | apply rD_)); exact HO195.out⟩, ⟨by repeat (first | (with_reducible first | exact HB.out | apply bA_ | apply bN_ | apply b1_) | exact HB.out)⟩⟩
       subst c11
       have H1 : (if 0 ≤ x7_2 then (if x7_2 < (x3_1.length : Int) then (if rdOf false x3_1 x7_2 = true then (spec_l7Order.l1 kj8 l0 x3_1 x4_1 x5_1 x6_2 (wrap64 (x7_2 + 1))) else (if x7_2 < (l0.length : Int) then ((spec_l7Waits.f ((rd_T43 l0 x7_2).f0) ((rd_T43 l0 x7_2).f1) ((rd_T43 l0 x7_2).f2.f0) ((rd_T43 l0 x7_2).f2.f1) ((rd_T43 l0 x7_2).f2.f2.f0) ((rd_T43 l0 x7_2).f2.f2.f1) ((rd_T43 l0 x7_2).f2.f3) ((rd_T43 l0 x7_2).f3.f0) ((rd_T43 l0 x7_2).f3.f1) ((rd_T43 l0 x7_2).f3.f2.f0) ((rd_T43 l0 x7_2).f3.f2.f1) ((rd_T43 l0 x7_2).f3.f3) x3_1).bind fun t191 => (if t191 = true then (spec_l7Order.l1 kj8 l0 x3_1 x4_1 x5_1 x6_2 (wrap64 (x7_2 + 1))) else (spec_l7Order.l1 kj8 l0 x3_1 x4_1 x5_1 x7_2 (wrap64 (x7_2 + 1))))) else (none))) else (none)) else (none)) = some r := by rw [if_pos rfl] at H; exact H
       clear H
       have H := H1
       clear H1
       by_cases c12 : 0 ≤ x7_2
       rotate_left
       · rw [if_neg c12] at H
         exact absurd H (by simp)
       rw [if_pos c12] at H
       have c12b0 : decide (0 ≤ x7_2) = true := dT_ c12
       clear c12
       by_cases c13 : x7_2 < (x3_1.length : Int)
       rotate_left
       · rw [if_neg c13] at H
         exact absurd H (by simp)
       rw [if_pos c13] at H
       have c13b0 : decide (x7_2 < (x3_1.length : Int)) = true := dT_ c13
       clear c13
       obtain ⟨bq14, hbq14⟩ : ∃ b_ : Bool, b_ = (rdOf false x3_1 x7_2) := ⟨_, rfl⟩
       replace H : (if bq14 = true then (spec_l7Order.l1 kj8 l0 x3_1 x4_1 x5_1 x6_2 (wrap64 (x7_2 + 1))) else (if x7_2 < (l0.length : Int) then ((spec_l7Waits.f ((rd_T43 l0 x7_2).f0) ((rd_T43 l0 x7_2).f1) ((rd_T43 l0 x7_2).f2.f0) ((rd_T43 l0 x7_2).f2.f1) ((rd_T43 l0 x7_2).f2.f2.f0) ((rd_T43 l0 x7_2).f2.f2.f1) ((rd_T43 l0 x7_2).f2.f3) ((rd_T43 l0 x7_2).f3.f0) ((rd_T43 l0 x7_2).f3.f1) ((rd_T43 l0 x7_2).f3.f2.f0) ((rd_T43 l0 x7_2).f3.f2.f1) ((rd_T43 l0 x7_2).f3.f3) x3_1).bind fun t191 => (if t191 = true then (spec_l7Order.l1 kj8 l0 x3_1 x4_1 x5_1 x6_2 (wrap64 (x7_2 + 1))) else (spec_l7Order.l1 kj8 l0 x3_1 x4_1 x5_1 x7_2 (wrap64 (x7_2 + 1))))) else (none))) = some r := by rw [← hbq14] at H; exact H
       have Nbq14 := aM_ hbq14
       clear hbq14
       by_cases c15 : bq14 = true
       · subst c15
         have H1 : (spec_l7Order.l1 kj8 l0 x3_1 x4_1 x5_1 x6_2 (wrap64 (x7_2 + 1))) = some r := by rw [if_pos rfl] at H; exact H
         clear H
         have H := H1
         clear H1
         have H' := aM_ H
         clear H
         obtain ⟨Ao16, co16, eo16⟩ := Kd.R_slice HO_3.out
         subst eo16
         have p189 : 0 ≤ (x7_2 : Int) := oD_ (by first | (with_reducible assumption) | assumption)
         have q189 : x7_2 < (x3_1.length : Int) := oD_ (by first | (with_reducible assumption) | assumption)
         obtain ⟨ad189, e189, hx189_0⟩ := Kd.at_bool (Kd.R_reads' HO_3.out).2.2 x7_2 p189 q189
         (try rw [← Nbq14.out] at hx189_0)
         cases e189
         replace p189 := eq_true p189
         replace q189 := eq_true q189
         go_wp2
         go_roundg kj8
         case measure => have := HK1.out; have := HK2.out; have := HJ8.out; omega
         case rel => exact ⟨(x6_2), (wrap64 (x7_2 + 1)), (by first | rfl | (simp; done) | (simp [*]; done)), (by first | rfl | (simp; done) | (simp [*]; done)), H', ⟨by have := HK1.out; have := HK2.out; have := HJ8.out; omega⟩, ⟨by (with_reducible repeat (first | apply rN_ | apply rD_)); exact HO_3.out⟩, ⟨by (with_reducible repeat (first | apply rN_ | apply rD_)); exact HO_4.out⟩, ⟨by repeat (first | (with_reducible first | exact HB.out | apply bA_ | apply bN_ | apply b1_) | exact HB.out)⟩⟩
       replace c15 := Bool.eq_false_iff.mpr c15
       subst c15
       have H1 : (if x7_2 < (l0.length : Int) then ((spec_l7Waits.f ((rd_T43 l0 x7_2).f0) ((rd_T43 l0 x7_2).f1) ((rd_T43 l0 x7_2).f2.f0) ((rd_T43 l0 x7_2).f2.f1) ((rd_T43 l0 x7_2).f2.f2.f0) ((rd_T43 l0 x7_2).f2.f2.f1) ((rd_T43 l0 x7_2).f2.f3) ((rd_T43 l0 x7_2).f3.f0) ((rd_T43 l0 x7_2).f3.f1) ((rd_T43 l0 x7_2).f3.f2.f0) ((rd_T43 l0 x7_2).f3.f2.f1) ((rd_T43 l0 x7_2).f3.f3) x3_1).bind fun t191 => (if t191 = true then (spec_l7Order.l1 kj8 l0 x3_1 x4_1 x5_1 x6_2 (wrap64 (x7_2 + 1))) else (spec_l7Order.l1 kj8 l0 x3_1 x4_1 x5_1 x7_2 (wrap64 (x7_2 + 1))))) else (none)) = some r := by rw [if_neg (show ¬ (false = true) by decide)] at H; exact H
       clear H
       have H := H1
       clear H1
       by_cases c17 : x7_2 < (l0.length : Int)
       rotate_left
       · rw [if_neg c17] at H
         exact absurd H (by simp)
       rw [if_pos c17] at H
       have c17b0 : decide (x7_2 < (l0.length : Int)) = true := dT_ c17
       clear c17
       replace H := Option.bind_eq_some_iff.mp H
       obtain ⟨t191, A180, H⟩ := H
       replace H : (if t191 = true then (spec_l7Order.l1 kj8 l0 x3_1 x4_1 x5_1 x6_2 (wrap64 (x7_2 + 1))) else (spec_l7Order.l1 kj8 l0 x3_1 x4_1 x5_1 x7_2 (wrap64 (x7_2 + 1)))) = some r := H
       have A18 := aM_ A180
       clear A180
       by_cases c19 : t191 = true
       · subst c19
         have H1 : (spec_l7Order.l1 kj8 l0 x3_1 x4_1 x5_1 x6_2 (wrap64 (x7_2 + 1))) = some r := by rw [if_pos rfl] at H; exact H
         clear H
         have H := H1
         clear H1
         have H' := aM_ H
         clear H
         obtain ⟨Ao20, co20, eo20⟩ := Kd.R_slice HO_3.out
         subst eo20
         have p189 : 0 ≤ (x7_2 : Int) := oD_ (by first | (with_reducible assumption) | assumption)
         have q189 : x7_2 < (x3_1.length : Int) := oD_ (by first | (with_reducible assumption) | assumption)
         obtain ⟨ad189, e189, hx189_0⟩ := Kd.at_bool (Kd.R_reads' HO_3.out).2.2 x7_2 p189 q189
         (try rw [← Nbq14.out] at hx189_0)
         cases e189
         replace p189 := eq_true p189
         replace q189 := eq_true q189
         have p190 : 0 ≤ (x7_2 : Int) := oD_ (by first | (with_reducible assumption) | assumption)
         have q190 : x7_2 < (l0.length : Int) := oD_ (by first | (with_reducible assumption) | assumption)
         obtain ⟨ad190, e190, hx190_0, hx190_1, hx190_2, hx190_3, hx190_4, hx190_5, hx190_6, hx190_7, hx190_8, hx190_9, hx190_10, hx190_11⟩ := at_T43 HR0.out x7_2 p190 q190
         (try rw [← Nbq14.out] at hx190_6)
         (try rw [← Nbq14.out] at hx190_11)
         cases e190
         replace hx190_0 := (HB.out.cell (bL_ w _ hx190_0)).trans hx190_0
         replace hx190_1 := (HB.out.cell (bL_ w _ hx190_1)).trans hx190_1
         replace hx190_2 := (HB.out.cell (bL_ w _ hx190_2)).trans hx190_2
         replace hx190_3 := (HB.out.cell (bL_ w _ hx190_3)).trans hx190_3
         replace hx190_4 := (HB.out.cell (bL_ w _ hx190_4)).trans hx190_4
         replace hx190_5 := (HB.out.cell (bL_ w _ hx190_5)).trans hx190_5
         replace hx190_6 := (HB.out.cell (bL_ w _ hx190_6)).trans hx190_6
         replace hx190_7 := (HB.out.cell (bL_ w _ hx190_7)).trans hx190_7
         replace hx190_8 := (HB.out.cell (bL_ w _ hx190_8)).trans hx190_8
         replace hx190_9 := (HB.out.cell (bL_ w _ hx190_9)).trans hx190_9
         replace hx190_10 := (HB.out.cell (bL_ w _ hx190_10)).trans hx190_10
         replace hx190_11 := (HB.out.cell (bL_ w _ hx190_11)).trans hx190_11
         replace p190 := eq_true p190
         replace q190 := eq_true q190
         go_wp2_with (first | (go_at_call 71; (with_reducible refine (spec_l7Waits.calls ((rd_T43 l0 x7_2).f0) ((rd_T43 l0 x7_2).f1) ((rd_T43 l0 x7_2).f2.f0) ((rd_T43 l0 x7_2).f2.f1) ((rd_T43 l0 x7_2).f2.f2.f0) ((rd_T43 l0 x7_2).f2.f2.f1) ((rd_T43 l0 x7_2).f2.f3) ((rd_T43 l0 x7_2).f3.f0) ((rd_T43 l0 x7_2).f3.f1) ((rd_T43 l0 x7_2).f3.f2.f0) ((rd_T43 l0 x7_2).f3.f2.f1) ((rd_T43 l0 x7_2).f3.f3) _ _ x3_1 true _ ?side1 ?side2 A18.out).mono ?_); (case side1 => repeat (first | exact (Kd.R_reads' HO_3.out).2.2 | (with_reducible refine Kd.C_alloc ?_ _) | (with_reducible refine Kd.C_drewN ?_ _) | (with_reducible refine Kd.C_drew ?_))); (case side2 => exact (Kd.R_reads' HO_3.out).2.1); rintro e w21 ⟨rfl, hb⟩; have n0_ := aM_ (Kd.R_below (by (with_reducible repeat (first | apply rN_ | apply rD_)); exact HO_3.out) hb); have n1_ := aM_ (Kd.R_below (by (with_reducible repeat (first | apply rN_ | apply rD_)); exact HO_4.out) hb); have n2_ := aM_ (bT_ (by repeat (first | (with_reducible first | exact HB.out | apply bA_ | apply bN_ | apply b1_) | exact HB.out)) hb); clear HO_3 HO_4 HB; revert n0_ n1_ n2_; intro HO_3 HO_4 HB; (try clear hb); (try clear hb2); (try clear hk); (try clear hi)))
         go_roundg kj8
         case measure => have := HK1.out; have := HK2.out; have := HJ8.out; omega
         case rel => exact ⟨(x6_2), (wrap64 (x7_2 + 1)), (by first | rfl | (simp; done) | (simp [*]; done)), (by first | rfl | (simp; done) | (simp [*]; done)), H', ⟨by have := HK1.out; have := HK2.out; have := HJ8.out; omega⟩, ⟨by (with_reducible repeat (first | apply rN_ | apply rD_)); exact HO_3.out⟩, ⟨by (with_reducible repeat (first | apply rN_ | apply rD_)); exact HO_4.out⟩, ⟨by repeat (first | (with_reducible first | exact HB.out | apply bA_ | apply bN_ | apply b1_) | exact HB.out)⟩⟩
       replace c19 := Bool.eq_false_iff.mpr c19
       subst c19
       have H1 : (spec_l7Order.l1 kj8 l0 x3_1 x4_1 x5_1 x7_2 (wrap64 (x7_2 + 1))) = some r := by rw [if_neg (show ¬ (false = true) by decide)] at H; exact H
       clear H
       have H := H1
       clear H1
       have H' := aM_ H
       clear H
       obtain ⟨Ao22, co22, eo22⟩ := Kd.R_slice HO_3.out
       subst eo22
       have p189 : 0 ≤ (x7_2 : Int) := oD_ (by first | (with_reducible assumption) | assumption)
       have q189 : x7_2 < (x3_1.length : Int) := oD_ (by first | (with_reducible assumption) | assumption)
       obtain ⟨ad189, e189, hx189_0⟩ := Kd.at_bool (Kd.R_reads' HO_3.out).2.2 x7_2 p189 q189
       (try rw [← Nbq14.out] at hx189_0)
       cases e189
       replace p189 := eq_true p189
       replace q189 := eq_true q189
       have p190 : 0 ≤ (x7_2 : Int) := oD_ (by first | (with_reducible assumption) | assumption)
       have q190 : x7_2 < (l0.length : Int) := oD_ (by first | (with_reducible assumption) | assumption)
       obtain ⟨ad190, e190, hx190_0, hx190_1, hx190_2, hx190_3, hx190_4, hx190_5, hx190_6, hx190_7, hx190_8, hx190_9, hx190_10, hx190_11⟩ := at_T43 HR0.out x7_2 p190 q190
       (try rw [← Nbq14.out] at hx190_6)
       (try rw [← Nbq14.out] at hx190_11)
       cases e190
       replace hx190_0 := (HB.out.cell (bL_ w _ hx190_0)).trans hx190_0
       replace hx190_1 := (HB.out.cell (bL_ w _ hx190_1)).trans hx190_1
       replace hx190_2 := (HB.out.cell (bL_ w _ hx190_2)).trans hx190_2
       replace hx190_3 := (HB.out.cell (bL_ w _ hx190_3)).trans hx190_3
       replace hx190_4 := (HB.out.cell (bL_ w _ hx190_4)).trans hx190_4
       replace hx190_5 := (HB.out.cell (bL_ w _ hx190_5)).trans hx190_5
       replace hx190_6 := (HB.out.cell (bL_ w _ hx190_6)).trans hx190_6
       replace hx190_7 := (HB.out.cell (bL_ w _ hx190_7)).trans hx190_7
       replace hx190_8 := (HB.out.cell (bL_ w _ hx190_8)).trans hx190_8
       replace hx190_9 := (HB.out.cell (bL_ w _ hx190_9)).trans hx190_9
       replace hx190_10 := (HB.out.cell (bL_ w _ hx190_10)).trans hx190_10
       replace hx190_11 := (HB.out.cell (bL_ w _ hx190_11)).trans hx190_11
       replace p190 := eq_true p190
       replace q190 := eq_true q190
       go_wp2_with (first | (go_at_call 71; (with_reducible refine (spec_l7Waits.calls ((rd_T43 l0 x7_2).f0) ((rd_T43 l0 x7_2).f1) ((rd_T43 l0 x7_2).f2.f0) ((rd_T43 l0 x7_2).f2.f1) ((rd_T43 l0 x7_2).f2.f2.f0) ((rd_T43 l0 x7_2).f2.f2.f1) ((rd_T43 l0 x7_2).f2.f3) ((rd_T43 l0 x7_2).f3.f0) ((rd_T43 l0 x7_2).f3.f1) ((rd_T43 l0 x7_2).f3.f2.f0) ((rd_T43 l0 x7_2).f3.f2.f1) ((rd_T43 l0 x7_2).f3.f3) _ _ x3_1 false _ ?side1 ?side2 A18.out).mono ?_); (case side1 => repeat (first | exact (Kd.R_reads' HO_3.out).2.2 | (with_reducible refine Kd.C_alloc ?_ _) | (with_reducible refine Kd.C_drewN ?_ _) | (with_reducible refine Kd.C_drew ?_))); (case side2 => exact (Kd.R_reads' HO_3.out).2.1); rintro e w23 ⟨rfl, hb⟩; have n0_ := aM_ (Kd.R_below (by (with_reducible repeat (first | apply rN_ | apply rD_)); exact HO_3.out) hb); have n1_ := aM_ (Kd.R_below (by (with_reducible repeat (first | apply rN_ | apply rD_)); exact HO_4.out) hb); have n2_ := aM_ (bT_ (by repeat (first | (with_reducible first | exact HB.out | apply bA_ | apply bN_ | apply b1_) | exact HB.out)) hb); clear HO_3 HO_4 HB; revert n0_ n1_ n2_; intro HO_3 HO_4 HB; (try clear hb); (try clear hb2); (try clear hk); (try clear hi)))
       go_roundg kj8
       case measure => have := HK1.out; have := HK2.out; have := HJ8.out; omega
       case rel => exact ⟨(x7_2), (wrap64 (x7_2 + 1)), (by first | rfl | (simp; done) | (simp [*]; done)), (by first | rfl | (simp; done) | (simp [*]; done)), H', ⟨by have := HK1.out; have := HK2.out; have := HJ8.out; omega⟩, ⟨by (with_reducible repeat (first | apply rN_ | apply rD_)); exact HO_3.out⟩, ⟨by (with_reducible repeat (first | apply rN_ | apply rD_)); exact HO_4.out⟩, ⟨by repeat (first | (with_reducible first | exact HB.out | apply bA_ | apply bN_ | apply b1_) | exact HB.out)⟩⟩
end Go.Proofs.YtphblfmjdiigkaaGreatDoor.HFnNetSame
