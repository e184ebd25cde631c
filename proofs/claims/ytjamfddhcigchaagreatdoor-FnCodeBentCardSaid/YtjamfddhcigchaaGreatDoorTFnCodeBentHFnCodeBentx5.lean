-- Made by a program of this session (hp.py) over the kit's print: functions told by hand stand beside printed ones. Lean checks it.
import Derived.Test.YtjamfddhcigchaaGreatDoorTFnCodeBentHFnCodeBentx3
namespace Go.Proofs.YtjamfddhcigchaaGreatDoor.HFnCodeBent
open Go.RowKit Go.Proofs.YtjamfddhcigchaaGreatDoorW.PrintWords Go.Proofs.YtjamfddhcigchaaGreatDoorW.PrintLast Go.Proofs.YtjamfddhcigchaaGreatDoorW.PrintMore
attribute [local go_sem] max2_int min2_int max_two min_two max_three min_three max_four min_four
set_option linter.unusedVariables false
set_option linter.unusedSimpArgs false
def spec_l5Expr.f : Nat → Int → Int → Int → Int → List (S120) → Option ((List (S30)))
  | 0, _, _, _, _, _ => none
  | k + 1, a0_0, a0_1, a0_2, a0_3, l0_4 => if a0_0 = 1 then (some (([(⟨1, a0_1, (⟨0, 0⟩ : S28)⟩ : S30)] : List (S30)))) else (if a0_0 = 2 then (some (([(⟨2, 0, (⟨a0_2, a0_3⟩ : S28)⟩ : S30)] : List (S30)))) else (if a0_0 = 10 then (if 0 < (l0_4.length : Int) then ((spec_l5Expr.f k ((rd_T120 l0_4 0).f0) ((rd_T120 l0_4 0).f1) ((rd_T120 l0_4 0).f2.f0) ((rd_T120 l0_4 0).f2.f1) ((rd_T120 l0_4 0).f3)).bind fun t136 => ((some (([(⟨5, 0, (⟨0, 0⟩ : S28)⟩ : S30)] : List (S30)) : List (S30))).bind fun y139 => (if t136.length + y139.length < 4398046511104 then (some (t136 ++ y139)) else (none)))) else (none)) else (if 0 < (l0_4.length : Int) then ((spec_l5Expr.f k ((rd_T120 l0_4 0).f0) ((rd_T120 l0_4 0).f1) ((rd_T120 l0_4 0).f2.f0) ((rd_T120 l0_4 0).f2.f1) ((rd_T120 l0_4 0).f3)).bind fun t146 => (if 1 < (l0_4.length : Int) then ((spec_l5Expr.f k ((rd_T120 l0_4 1).f0) ((rd_T120 l0_4 1).f1) ((rd_T120 l0_4 1).f2.f0) ((rd_T120 l0_4 1).f2.f1) ((rd_T120 l0_4 1).f3)).bind fun t150 => (if t146.length + t150.length < 4398046511104 then ((some (t146 ++ t150 : List (S30))).bind fun y153 => ((some (([(⟨4, a0_0, (⟨0, 0⟩ : S28)⟩ : S30)] : List (S30)) : List (S30))).bind fun y156 => (if y153.length + y156.length < 4398046511104 then (some (y153 ++ y156)) else (none)))) else (none))) else (none))) else (none))))
def spec_l5Expr.T8 : Bool × List (List Nat × List Nat) := (true, [([], []), ([0], [0]), ([1], [1]), ([2], [2]), ([3], [3]), ([], []), ([5], [5]), ([6], [6]), ([7], [7]), ([8, 4], [8]), ([4, 9, 9], [4, 9]), ([], []), ([11], [11]), ([12], [12]), ([13], [13]), ([10, 14, 10], [10, 14]), ([15, 15, 0, 1, 2, 3, 4, 5, 6, 7, 8, 9, 10, 11, 12, 13, 14, 15], [15])])
def spec_l5Expr.B8 : List Nat := [0, 1, 3, 7, 15, 0, 32, 96, 224, 511, 1023, 0, 2048, 6144, 14336, 32767, 65535]
theorem spec_l5Expr.tab8 : rtab .any (opsOf Tryz.f118 8) = spec_l5Expr.T8 := by kernel_rfl
theorem spec_l5Expr.bits8 : waitsOk spec_l5Expr.T8.2 spec_l5Expr.B8 = true := by kernel_rfl
set_option maxHeartbeats 8000000 in
set_option maxRecDepth 100000 in
theorem spec_l5Expr.calls (k : Nat) : ∀ (a0_0 : Int) (a0_1 : Int) (a0_2 : Int) (a0_3 : Int) (A0_4 : Option Addr) (c0_4 : Nat) (l0_4 : List (S120)) (r : List (S30)) (w : World) (hr0_4 : Kd.C k120 w A0_4 l0_4.length l0_4) (hc0_4 : l0_4.length ≤ c0_4) (h : spec_l5Expr.f k a0_0 a0_1 a0_2 a0_3 l0_4 = some r),
    Calls Tryz.prog 118 #[.agg #[.int .i64 a0_0, .int .i64 a0_1, .int .i64 a0_2, .int .i64 a0_3, .slice A0_4 l0_4.length c0_4]] w fun e w' => ∃ v0_ : Value, e = .returned (v0_) ∧ Kd.R k30 30 w' w.heap.size (fun _ => True) v0_ r ∧ Below w.heap.size w w' := by
 induction k using Nat.strongRecOn with
 | _ k ih =>
 intro a0_0 a0_1 a0_2 a0_3 A0_4 c0_4 l0_4 r w hr0_4 hc0_4 h
 cases k with
 | zero => exact absurd h (by simp [spec_l5Expr.f])
 | succ k =>
 simp only [spec_l5Expr.f] at h
 have hu120 := Tryz.underlying120
 have hu30 := Tryz.underlying30
 have hu28 := Tryz.underlying28
 have HR0_4 := aM_ hr0_4
 have HC0_4 := aM_ hc0_4
 clear hr0_4 hc0_4
 have HB := aM_ (Below.refl w.heap.size w)
 have H : (if a0_0 = 1 then (some (([(⟨1, a0_1, (⟨0, 0⟩ : S28)⟩ : S30)] : List (S30)))) else (if a0_0 = 2 then (some (([(⟨2, 0, (⟨a0_2, a0_3⟩ : S28)⟩ : S30)] : List (S30)))) else (if a0_0 = 10 then (if 0 < (l0_4.length : Int) then ((spec_l5Expr.f k ((rd_T120 l0_4 0).f0) ((rd_T120 l0_4 0).f1) ((rd_T120 l0_4 0).f2.f0) ((rd_T120 l0_4 0).f2.f1) ((rd_T120 l0_4 0).f3)).bind fun t136 => ((some (([(⟨5, 0, (⟨0, 0⟩ : S28)⟩ : S30)] : List (S30)) : List (S30))).bind fun y139 => (if t136.length + y139.length < 4398046511104 then (some (t136 ++ y139)) else (none)))) else (none)) else (if 0 < (l0_4.length : Int) then ((spec_l5Expr.f k ((rd_T120 l0_4 0).f0) ((rd_T120 l0_4 0).f1) ((rd_T120 l0_4 0).f2.f0) ((rd_T120 l0_4 0).f2.f1) ((rd_T120 l0_4 0).f3)).bind fun t146 => (if 1 < (l0_4.length : Int) then ((spec_l5Expr.f k ((rd_T120 l0_4 1).f0) ((rd_T120 l0_4 1).f1) ((rd_T120 l0_4 1).f2.f0) ((rd_T120 l0_4 1).f2.f1) ((rd_T120 l0_4 1).f3)).bind fun t150 => (if t146.length + t150.length < 4398046511104 then ((some (t146 ++ t150 : List (S30))).bind fun y153 => ((some (([(⟨4, a0_0, (⟨0, 0⟩ : S28)⟩ : S30)] : List (S30)) : List (S30))).bind fun y156 => (if y153.length + y156.length < 4398046511104 then (some (y153 ++ y156)) else (none)))) else (none))) else (none))) else (none))))) = some r := h
 clear h
 by_cases c2 : a0_0 = 1
 · rw [if_pos c2] at H
   have c2b0 : (a0_0 == 1) = true := beq_iff_eq.mpr c2
   have c2b1 : (a0_0 != 1) = false := bne_eq_false_iff_eq.mpr c2
   clear c2
   obtain ⟨y129, hy129⟩ : ∃ y_ : List (S30), y_ = (([(⟨1, a0_1, (⟨0, 0⟩ : S28)⟩ : S30)] : List (S30))) := ⟨_, rfl⟩
   replace H : (some y129) = some r := by first | (rw [hy129]; with_reducible exact H) | (have H2_ := (Option.bind_some _ _).symm.trans H; rw [hy129]; with_reducible exact H2_) | (have H2_ := (Option.bind_some _ _).symm.trans H; with_reducible exact H2_) | with_reducible exact H | (rw [hy129]; exact H) | exact H
   have Ny129 := aM_ hy129
   clear hy129
   obtain rfl := oI_ H
   go_enter Tryz.func118, Tryz.ntmps118
   go_wp2_with (first | ((with_reducible refine gate_dst (N := 1) rfl ?_); refine box_event ?hg (N := 1) ?hd (cs := #[.int .i64 a0_0, .int .i64 a0_1, .int .i64 a0_2, .int .i64 a0_3, .slice A0_4 l0_4.length c0_4]) (t := 120) ?hr ?_; (case hd => rfl); (case hg => rfl); (case hr => first | (go_simp; done) | (go_simp; rfl)); intro gb128 hg w3 hbox hb; have n0_ := aM_ (bT_ (qB HB) hb); have n1_ := aM_ (hbox); have n2_ := aM_ ((by rw [hg]; exact (bZ_ (qB HB)) : w.heap.size ≤ gb128)); have n3_ := aM_ ((by rw [hg]; exact (bZ_ (qB HB)) : w.heap.size ≤ gb128)); clear HB; have HB := n0_; have BK128 := n1_; have GW128 := n2_; have GE128 := n3_; clear n0_ n1_ n2_ n3_ hb hbox hg; (obtain ⟨hcz4_0, hcz4_1, hcz4_2, hcz4_3, hcz4_4⟩ := cells5 BK128.out); (obtain ⟨hfz4_0, hfz4_1, hfz4_2, hfz4_3, hfz4_4⟩ := frozen5 BK128.out)) | ((with_reducible refine gate_dst (N := 10) rfl ?_); refine Kd.R_lit k30 _ 30 ?hg (N := 10) ?hd (xs := ([(⟨1, a0_1, (⟨0, 0⟩ : S28)⟩ : S30)] : List (S30))) (inner := [.int .i64 1, .int .i64 a0_1, .int .i64 0, .int .i64 0]) (ok := fun _ => True) (okp := fun _ => True) ?hr ?hp (fun _ hk => hk) trivial (Below.refl _ _) (Nat.le_refl _) (by simp) ?_; (case hd => rfl); (case hg => rfl); (case hr => first | (go_simp; done) | (go_simp; rfl)); (case hp => exact (Reps.c4 (show Kd.M k30 _ _ _ (⟨1, a0_1, (⟨0, 0⟩ : S28)⟩ : S30) [.int .i64 1, .int .i64 a0_1, .int .i64 0, .int .i64 0] from (k30_mkM _ _ _ (⟨1, a0_1, (⟨0, 0⟩ : S28)⟩ : S30) )) (Reps.none _ _))); intro v130 w5 ho6 hb hg_ hnew_; clear hg_ hnew_; (first | rw [← Ny129.out] at ho6 | (simp only [Int.reduceToNat] at ho6; rw [← Ny129.out] at ho6)); have n0_ := aM_ (Kd.R_lower ho6 (bZ_ (qB HB))); have n1_ := aM_ (blk_below (g := gb128) (o := .cells #[.int .i64 a0_0, .int .i64 a0_1, .int .i64 a0_2, .int .i64 a0_3, .slice A0_4 l0_4.length c0_4] 120 (0, 0)) qk hb); have n2_ := aM_ (bT_ (qB HB) hb); clear BK128 HB; have HO131 := n0_; have BK128 := n1_; have HB := n2_; clear n0_ n1_ n2_ hb ho6))
   go_ret
   exact ⟨_, qE, by (with_reducible repeat (first | apply rA_ | apply rN_ | apply rD_)); exact HO131.out, qB HB⟩
 rw [if_neg c2] at H
 have c2b0 : (a0_0 == 1) = false := beq_eq_false_iff_ne.mpr c2
 have c2b1 : (a0_0 != 1) = true := bne_iff_ne.mpr c2
 by_cases c7 : a0_0 = 2
 · rw [if_pos c7] at H
   have c7b0 : (a0_0 == 2) = true := beq_iff_eq.mpr c7
   have c7b1 : (a0_0 != 2) = false := bne_eq_false_iff_eq.mpr c7
   clear c7
   obtain ⟨y132, hy132⟩ : ∃ y_ : List (S30), y_ = (([(⟨2, 0, (⟨a0_2, a0_3⟩ : S28)⟩ : S30)] : List (S30))) := ⟨_, rfl⟩
   replace H : (some y132) = some r := by first | (rw [hy132]; with_reducible exact H) | (have H2_ := (Option.bind_some _ _).symm.trans H; rw [hy132]; with_reducible exact H2_) | (have H2_ := (Option.bind_some _ _).symm.trans H; with_reducible exact H2_) | with_reducible exact H | (rw [hy132]; exact H) | exact H
   have Ny132 := aM_ hy132
   clear hy132
   obtain rfl := oI_ H
   go_enter Tryz.func118, Tryz.ntmps118
   go_wp2_with (first | ((with_reducible refine gate_dst (N := 1) rfl ?_); refine box_event ?hg (N := 1) ?hd (cs := #[.int .i64 a0_0, .int .i64 a0_1, .int .i64 a0_2, .int .i64 a0_3, .slice A0_4 l0_4.length c0_4]) (t := 120) ?hr ?_; (case hd => rfl); (case hg => rfl); (case hr => first | (go_simp; done) | (go_simp; rfl)); intro gb128 hg w8 hbox hb; have n0_ := aM_ (bT_ (qB HB) hb); have n1_ := aM_ (hbox); have n2_ := aM_ ((by rw [hg]; exact (bZ_ (qB HB)) : w.heap.size ≤ gb128)); have n3_ := aM_ ((by rw [hg]; exact (bZ_ (qB HB)) : w.heap.size ≤ gb128)); clear HB; have HB := n0_; have BK128 := n1_; have GW128 := n2_; have GE128 := n3_; clear n0_ n1_ n2_ n3_ hb hbox hg; (obtain ⟨hcz9_0, hcz9_1, hcz9_2, hcz9_3, hcz9_4⟩ := cells5 BK128.out); (obtain ⟨hfz9_0, hfz9_1, hfz9_2, hfz9_3, hfz9_4⟩ := frozen5 BK128.out)) | ((with_reducible refine gate_dst (N := 16) rfl ?_); refine Kd.R_lit k30 _ 30 ?hg (N := 16) ?hd (xs := ([(⟨2, 0, (⟨a0_2, a0_3⟩ : S28)⟩ : S30)] : List (S30))) (inner := [.int .i64 2, .int .i64 0, .int .i64 a0_2, .int .i64 a0_3]) (ok := fun _ => True) (okp := fun _ => True) ?hr ?hp (fun _ hk => hk) trivial (Below.refl _ _) (Nat.le_refl _) (by simp) ?_; (case hd => rfl); (case hg => rfl); (case hr => first | (go_simp; done) | (go_simp; rfl)); (case hp => exact (Reps.c4 (show Kd.M k30 _ _ _ (⟨2, 0, (⟨a0_2, a0_3⟩ : S28)⟩ : S30) [.int .i64 2, .int .i64 0, .int .i64 a0_2, .int .i64 a0_3] from (k30_mkM _ _ _ (⟨2, 0, (⟨a0_2, a0_3⟩ : S28)⟩ : S30) )) (Reps.none _ _))); intro v133 w10 ho11 hb hg_ hnew_; clear hg_ hnew_; (first | rw [← Ny132.out] at ho11 | (simp only [Int.reduceToNat] at ho11; rw [← Ny132.out] at ho11)); have n0_ := aM_ (Kd.R_lower ho11 (bZ_ (qB HB))); have n1_ := aM_ (blk_below (g := gb128) (o := .cells #[.int .i64 a0_0, .int .i64 a0_1, .int .i64 a0_2, .int .i64 a0_3, .slice A0_4 l0_4.length c0_4] 120 (0, 0)) qk hb); have n2_ := aM_ (bT_ (qB HB) hb); clear BK128 HB; have HO134 := n0_; have BK128 := n1_; have HB := n2_; clear n0_ n1_ n2_ hb ho11))
   go_ret
   exact ⟨_, qE, by (with_reducible repeat (first | apply rA_ | apply rN_ | apply rD_)); exact HO134.out, qB HB⟩
 rw [if_neg c7] at H
 have c7b0 : (a0_0 == 2) = false := beq_eq_false_iff_ne.mpr c7
 have c7b1 : (a0_0 != 2) = true := bne_iff_ne.mpr c7
 by_cases c12 : a0_0 = 10
 · rw [if_pos c12] at H
   have c12b0 : (a0_0 == 10) = true := beq_iff_eq.mpr c12
   have c12b1 : (a0_0 != 10) = false := bne_eq_false_iff_eq.mpr c12
   clear c12
   by_cases c13 : 0 < (l0_4.length : Int)
   rotate_left
   · rw [if_neg c13] at H
     exact absurd H (by simp)
   rw [if_pos c13] at H
   have c13b0 : decide (0 < (l0_4.length : Int)) = true := dT_ c13
   have c13b1 : decide (0 < l0_4.length) = true := dT_ (by omega)
   clear c13
   replace H := oB_ H
   obtain ⟨t136, A140, H⟩ := H
   replace H : ((some (([(⟨5, 0, (⟨0, 0⟩ : S28)⟩ : S30)] : List (S30)) : List (S30))).bind fun y139 => (if t136.length + y139.length < 4398046511104 then (some (t136 ++ y139)) else (none))) = some r := H
   have A14 := aM_ A140
   clear A140
   obtain ⟨y139, hy139⟩ : ∃ y_ : List (S30), y_ = (([(⟨5, 0, (⟨0, 0⟩ : S28)⟩ : S30)] : List (S30))) := ⟨_, rfl⟩
   replace H : (if t136.length + y139.length < 4398046511104 then (some (t136 ++ y139)) else (none)) = some r := by first | (rw [hy139]; with_reducible exact H) | (have H2_ := (Option.bind_some _ _).symm.trans H; rw [hy139]; with_reducible exact H2_) | (have H2_ := (Option.bind_some _ _).symm.trans H; with_reducible exact H2_) | with_reducible exact H | (rw [hy139]; exact H) | exact H
   have Ny139 := aM_ hy139
   clear hy139
   by_cases c15 : t136.length + y139.length < 4398046511104
   rotate_left
   · rw [if_neg c15] at H
     exact absurd H (by simp)
   rw [if_pos c15] at H
   have LMc15 := aM_ c15
   clear c15
   obtain ⟨y142, hy142⟩ : ∃ y_ : List (S30), y_ = (t136 ++ y139) := ⟨_, rfl⟩
   replace H : (some y142) = some r := by first | (rw [hy142]; with_reducible exact H) | (have H2_ := (Option.bind_some _ _).symm.trans H; rw [hy142]; with_reducible exact H2_) | (have H2_ := (Option.bind_some _ _).symm.trans H; with_reducible exact H2_) | with_reducible exact H | (rw [hy142]; exact H) | exact H
   have Ny142 := aM_ hy142
   clear hy142
   obtain rfl := oI_ H
   go_enter Tryz.func118, Tryz.ntmps118
   go_wp2_with (first | ((with_reducible refine gate_dst (N := 1) rfl ?_); refine box_event ?hg (N := 1) ?hd (cs := #[.int .i64 a0_0, .int .i64 a0_1, .int .i64 a0_2, .int .i64 a0_3, .slice A0_4 l0_4.length c0_4]) (t := 120) ?hr ?_; (case hd => rfl); (case hg => rfl); (case hr => first | (go_simp; done) | (go_simp; rfl)); intro gb128 hg w16 hbox hb; have n0_ := aM_ (bT_ (qB HB) hb); have n1_ := aM_ (hbox); have n2_ := aM_ ((by rw [hg]; exact (bZ_ (qB HB)) : w.heap.size ≤ gb128)); have n3_ := aM_ ((by rw [hg]; exact (bZ_ (qB HB)) : w.heap.size ≤ gb128)); clear HB; have HB := n0_; have BK128 := n1_; have GW128 := n2_; have GE128 := n3_; clear n0_ n1_ n2_ n3_ hb hbox hg; (obtain ⟨hcz17_0, hcz17_1, hcz17_2, hcz17_3, hcz17_4⟩ := cells5 BK128.out); (obtain ⟨hfz17_0, hfz17_1, hfz17_2, hfz17_3, hfz17_4⟩ := frozen5 BK128.out); have p135 : 0 ≤ (0 : Int) := (by omega); have q135 : 0 < (l0_4.length : Int) := oD_ (by first | (with_reducible assumption) | assumption); obtain ⟨ad135, A135_4, c135_4, e135, hx135_0, hx135_1, hx135_2, hx135_3, hx135_4, hl135_4, hi135_4⟩ := at_T120 HR0_4.out 0 p135 q135; cases e135; have qi135 : (0 < l0_4.length) = True := eq_true (by omega); (try rw [show ((0 : Int)).toNat = 0 from rfl] at hx135_0); (try rw [show 0 * 5 = 0 from rfl] at hx135_0); (try rw [Addr.add_zero'] at hx135_0); (try rw [show ((0 : Int)).toNat = 0 from rfl] at hx135_1); (try rw [show 0 * 5 = 0 from rfl] at hx135_1); (try rw [Addr.add_zero'] at hx135_1); (try rw [show ((0 : Int)).toNat = 0 from rfl] at hx135_2); (try rw [show 0 * 5 = 0 from rfl] at hx135_2); (try rw [Addr.add_zero'] at hx135_2); (try rw [show ((0 : Int)).toNat = 0 from rfl] at hx135_3); (try rw [show 0 * 5 = 0 from rfl] at hx135_3); (try rw [Addr.add_zero'] at hx135_3); (try rw [show ((0 : Int)).toNat = 0 from rfl] at hx135_4); (try rw [show 0 * 5 = 0 from rfl] at hx135_4); (try rw [Addr.add_zero'] at hx135_4); replace hx135_0 := qc HB hx135_0; replace hx135_1 := qc HB hx135_1; replace hx135_2 := qc HB hx135_2; replace hx135_3 := qc HB hx135_3; replace hx135_4 := qc HB hx135_4; have HR135_4 := aM_ hi135_4; have HC135_4 := aM_ hl135_4; clear hi135_4 hl135_4; replace p135 := eq_true p135; replace q135 := eq_true q135) | ((with_reducible refine gate_callee (f := 118) rfl ?_); refine goesL_ (some 23) rfl rfl Tryz.func118 (by kernel_rfl) rfl #[.agg #[.int .i64 ((rd_T120 l0_4 0).f0), .int .i64 ((rd_T120 l0_4 0).f1), .int .i64 ((rd_T120 l0_4 0).f2.f0), .int .i64 ((rd_T120 l0_4 0).f2.f1), .slice A135_4 ((rd_T120 l0_4 0).f3).length c135_4]] rfl (by (try simp only [mA_, List.map_cons, List.map_nil]); first | done | rfl | (simp only [lD_, lT_]; rfl)) ?_; (with_reducible refine (ih k (by omega) ((rd_T120 l0_4 0).f0) ((rd_T120 l0_4 0).f1) ((rd_T120 l0_4 0).f2.f0) ((rd_T120 l0_4 0).f2.f1) _ _ ((rd_T120 l0_4 0).f3) t136 _ ?side1 ?side2 A14.out).mono ?_); (case side1 => exact qC (Kd.C_below HR135_4.out HB.out)); (case side2 => exact HC135_4.out); rintro e w18 ⟨v137, rfl, ho0, hb⟩; refine ⟨_, rfl, ?_⟩; have n0_ := aM_ (Kd.R_lower ho0 (bZ_ (qB HB))); have n1_ := aM_ (blk_below (g := gb128) (o := .cells #[.int .i64 a0_0, .int .i64 a0_1, .int .i64 a0_2, .int .i64 a0_3, .slice (some ad135) l0_4.length c0_4] 120 (0, 0)) qk hb); have n2_ := aM_ (bT_ (qB HB) hb); clear BK128 HB; revert n0_ n1_ n2_; intro HO138 BK128 HB; (try clear hb); (try clear hb2); (try clear hk); (try clear hi); (try clear ho0)) | ((with_reducible refine gate_dst (N := 25) rfl ?_); refine Kd.R_lit k30 _ 30 ?hg (N := 25) ?hd (xs := ([(⟨5, 0, (⟨0, 0⟩ : S28)⟩ : S30)] : List (S30))) (inner := [.int .i64 5, .int .i64 0, .int .i64 0, .int .i64 0]) (ok := fun _ => True) (okp := fun _ => True) ?hr ?hp (fun _ hk => hk) trivial (Below.refl _ _) (Nat.le_refl _) (by simp) ?_; (case hd => rfl); (case hg => rfl); (case hr => first | (go_simp; done) | (go_simp; rfl)); (case hp => exact (Reps.c4 (show Kd.M k30 _ _ _ (⟨5, 0, (⟨0, 0⟩ : S28)⟩ : S30) [.int .i64 5, .int .i64 0, .int .i64 0, .int .i64 0] from (k30_mkM _ _ _ (⟨5, 0, (⟨0, 0⟩ : S28)⟩ : S30) )) (Reps.none _ _))); intro v140 w19 ho20 hb hg_ hnew_; clear hg_ hnew_; (first | rw [← Ny139.out] at ho20 | (simp only [Int.reduceToNat] at ho20; rw [← Ny139.out] at ho20)); have n0_ := aM_ (Kd.R_elder' (qR HO138) (Kd.R_base ho20) hb); have n1_ := aM_ (Kd.R_lower (Kd.R_new' ho20 (Kd.R_lt (qR HO138))) (bZ_ (qB HB))); have n2_ := aM_ (blk_below (g := gb128) (o := .cells #[.int .i64 a0_0, .int .i64 a0_1, .int .i64 a0_2, .int .i64 a0_3, .slice (some ad135) l0_4.length c0_4] 120 (0, 0)) qk hb); have n3_ := aM_ (bT_ (qB HB) hb); clear HO138 BK128 HB; have HO138 := n0_; have HO141 := n1_; have BK128 := n2_; have HB := n3_; clear n0_ n1_ n2_ n3_ hb ho20; obtain ⟨Ao22, co22, eo22⟩ := Kd.R_slice HO141.out; subst eo22) | ((with_reducible refine gate_builtin (b := .append) (xs := #[.tmp 23, .tmp 25]) rfl ?_); at_builtin; refine Kd.R_append_rows k30 (w0 := w) w.heap.size rfl (.tmp 23) (.tmp 25) 23 30 (.agg #[(.int .i64 0), (.int .i64 0), (.int .i64 0), (.int .i64 0)]) 32 rfl Tryz.underlying23 info30 rfl (by decide) (by omega) v137 t136 y139 _ _ _ (fun k_ => some k_ ≠ (.slice Ao22 y139.length co22 : Value).ownBlock) (fun _ => False) rfl rfl ?aO ?aR (fun _ _ h => h) (fun _ h => h.elim) ?aF ?aB ?aS ?aL ?_; (case aR => exact qC ((Kd.R_reads' HO141.out).2.2)); (case aB => exact (qB HB)); (case aF => exact (fun k_ hk => Kd.fresh' (Kd.R_lt (qR HO141)) k_ hk)); (case aO => exact (qr (Kd.R_mono HO138.out (fun _ hk => hk.2)))); (case aS => exact (bZ_ (qB HB))); (case aL => have := LMc15.out; omega); intro v143 w21 ho hb hg hat; rw [← Ny142.out] at ho; have n0_ := aM_ (blk_grown (g := gb128) (o := .cells #[.int .i64 a0_0, .int .i64 a0_1, .int .i64 a0_2, .int .i64 a0_3, .slice (some ad135) l0_4.length c0_4] 120 (0, 0)) qk hg (Kd.R_ne HO138.out BK128.out (by decide))); have n1_ := aM_ (Kd.R_after (ok := (fun _ => True)) (qR HO141) hg hat); have n2_ := aM_ (hb); have n3_ := aM_ (ho); clear BK128 HO141 HB HO138; have BK128 := n0_; have HO141 := n1_; have HB := n2_; have HO144 := n3_; clear n0_ n1_ n2_ n3_ ho hb hg hat))
   go_ret
   exact ⟨_, qE, by (with_reducible repeat (first | apply rA_ | apply rN_ | apply rD_)); exact Kd.R_mono HO144.out (fun _ hk => trivial), qB HB⟩
 rw [if_neg c12] at H
 have c12b0 : (a0_0 == 10) = false := beq_eq_false_iff_ne.mpr c12
 have c12b1 : (a0_0 != 10) = true := bne_iff_ne.mpr c12
 by_cases c23 : 0 < (l0_4.length : Int)
 rotate_left
 · rw [if_neg c23] at H
   exact absurd H (by simp)
 rw [if_pos c23] at H
 have c23b0 : decide (0 < (l0_4.length : Int)) = true := dT_ c23
 have c23b1 : decide (0 < l0_4.length) = true := dT_ (by omega)
 clear c23
 replace H := oB_ H
 obtain ⟨t146, A240, H⟩ := H
 replace H : (if 1 < (l0_4.length : Int) then ((spec_l5Expr.f k ((rd_T120 l0_4 1).f0) ((rd_T120 l0_4 1).f1) ((rd_T120 l0_4 1).f2.f0) ((rd_T120 l0_4 1).f2.f1) ((rd_T120 l0_4 1).f3)).bind fun t150 => (if t146.length + t150.length < 4398046511104 then ((some (t146 ++ t150 : List (S30))).bind fun y153 => ((some (([(⟨4, a0_0, (⟨0, 0⟩ : S28)⟩ : S30)] : List (S30)) : List (S30))).bind fun y156 => (if y153.length + y156.length < 4398046511104 then (some (y153 ++ y156)) else (none)))) else (none))) else (none)) = some r := H
 have A24 := aM_ A240
 clear A240
 by_cases c25 : 1 < (l0_4.length : Int)
 rotate_left
 · rw [if_neg c25] at H
   exact absurd H (by simp)
 rw [if_pos c25] at H
 have c25b0 : decide (1 < (l0_4.length : Int)) = true := dT_ c25
 have c25b1 : decide (1 < l0_4.length) = true := dT_ (by omega)
 clear c25
 replace H := oB_ H
 obtain ⟨t150, A260, H⟩ := H
 replace H : (if t146.length + t150.length < 4398046511104 then ((some (t146 ++ t150 : List (S30))).bind fun y153 => ((some (([(⟨4, a0_0, (⟨0, 0⟩ : S28)⟩ : S30)] : List (S30)) : List (S30))).bind fun y156 => (if y153.length + y156.length < 4398046511104 then (some (y153 ++ y156)) else (none)))) else (none)) = some r := H
 have A26 := aM_ A260
 clear A260
 by_cases c27 : t146.length + t150.length < 4398046511104
 rotate_left
 · rw [if_neg c27] at H
   exact absurd H (by simp)
 rw [if_pos c27] at H
 have LMc27 := aM_ c27
 clear c27
 obtain ⟨y153, hy153⟩ : ∃ y_ : List (S30), y_ = (t146 ++ t150) := ⟨_, rfl⟩
 replace H : ((some (([(⟨4, a0_0, (⟨0, 0⟩ : S28)⟩ : S30)] : List (S30)) : List (S30))).bind fun y156 => (if y153.length + y156.length < 4398046511104 then (some (y153 ++ y156)) else (none))) = some r := by first | (rw [hy153]; with_reducible exact H) | (have H2_ := (Option.bind_some _ _).symm.trans H; rw [hy153]; with_reducible exact H2_) | (have H2_ := (Option.bind_some _ _).symm.trans H; with_reducible exact H2_) | with_reducible exact H | (rw [hy153]; exact H) | exact H
 have Ny153 := aM_ hy153
 clear hy153
 obtain ⟨y156, hy156⟩ : ∃ y_ : List (S30), y_ = (([(⟨4, a0_0, (⟨0, 0⟩ : S28)⟩ : S30)] : List (S30))) := ⟨_, rfl⟩
 replace H : (if y153.length + y156.length < 4398046511104 then (some (y153 ++ y156)) else (none)) = some r := by first | (rw [hy156]; with_reducible exact H) | (have H2_ := (Option.bind_some _ _).symm.trans H; rw [hy156]; with_reducible exact H2_) | (have H2_ := (Option.bind_some _ _).symm.trans H; with_reducible exact H2_) | with_reducible exact H | (rw [hy156]; exact H) | exact H
 have Ny156 := aM_ hy156
 clear hy156
 by_cases c28 : y153.length + y156.length < 4398046511104
 rotate_left
 · rw [if_neg c28] at H
   exact absurd H (by simp)
 rw [if_pos c28] at H
 have LMc28 := aM_ c28
 clear c28
 obtain ⟨y159, hy159⟩ : ∃ y_ : List (S30), y_ = (y153 ++ y156) := ⟨_, rfl⟩
 replace H : (some y159) = some r := by first | (rw [hy159]; with_reducible exact H) | (have H2_ := (Option.bind_some _ _).symm.trans H; rw [hy159]; with_reducible exact H2_) | (have H2_ := (Option.bind_some _ _).symm.trans H; with_reducible exact H2_) | with_reducible exact H | (rw [hy159]; exact H) | exact H
 have Ny159 := aM_ hy159
 clear hy159
 obtain rfl := oI_ H
 go_enter Tryz.func118, Tryz.ntmps118
 try go_wp2_with (first | ((with_reducible refine gate_dst (N := 1) rfl ?_); refine box_event ?hg (N := 1) ?hd (cs := #[.int .i64 a0_0, .int .i64 a0_1, .int .i64 a0_2, .int .i64 a0_3, .slice A0_4 l0_4.length c0_4]) (t := 120) ?hr ?_; (case hd => rfl); (case hg => rfl); (case hr => first | (go_simp; done) | (go_simp; rfl)); intro gb128 hg w29 hbox hb; have n0_ := aM_ (bT_ (qB HB) hb); have n1_ := aM_ (hbox); have n2_ := aM_ ((by rw [hg]; exact (bZ_ (qB HB)) : w.heap.size ≤ gb128)); have n3_ := aM_ ((by rw [hg]; exact (bZ_ (qB HB)) : w.heap.size ≤ gb128)); clear HB; have HB := n0_; have BK128 := n1_; have GW128 := n2_; have GE128 := n3_; clear n0_ n1_ n2_ n3_ hb hbox hg; (obtain ⟨hcz30_0, hcz30_1, hcz30_2, hcz30_3, hcz30_4⟩ := cells5 BK128.out); (obtain ⟨hfz30_0, hfz30_1, hfz30_2, hfz30_3, hfz30_4⟩ := frozen5 BK128.out)))
 have n0_ := aM_ (kD_ BK128.out)
 have n1_ := aM_ (b1_ HB.out)
 clear BK128 HB
 revert n0_ n1_
 intro BK128 HB
 have p145 : 0 ≤ (0 : Int) := (by omega)
 have q145 : 0 < (l0_4.length : Int) := oD_ (by first | (with_reducible assumption) | assumption)
 obtain ⟨ad145, A145_4, c145_4, e145, hx145_0, hx145_1, hx145_2, hx145_3, hx145_4, hl145_4, hi145_4⟩ := at_T120 HR0_4.out 0 p145 q145
 have hw145_4 := hx145_4
 (try rw [show ((0 : Int)).toNat = 0 from rfl] at hw145_4)
 (try rw [show 0 * 5 = 0 from rfl] at hw145_4)
 (try rw [Addr.add_zero'] at hw145_4)
 have hw145_3 := hx145_3
 (try rw [show ((0 : Int)).toNat = 0 from rfl] at hw145_3)
 (try rw [show 0 * 5 = 0 from rfl] at hw145_3)
 (try rw [Addr.add_zero'] at hw145_3)
 have hw145_2 := hx145_2
 (try rw [show ((0 : Int)).toNat = 0 from rfl] at hw145_2)
 (try rw [show 0 * 5 = 0 from rfl] at hw145_2)
 (try rw [Addr.add_zero'] at hw145_2)
 have hw145_1 := hx145_1
 (try rw [show ((0 : Int)).toNat = 0 from rfl] at hw145_1)
 (try rw [show 0 * 5 = 0 from rfl] at hw145_1)
 (try rw [Addr.add_zero'] at hw145_1)
 have hw145_0 := hx145_0
 (try rw [show ((0 : Int)).toNat = 0 from rfl] at hw145_0)
 (try rw [show 0 * 5 = 0 from rfl] at hw145_0)
 (try rw [Addr.add_zero'] at hw145_0)
 cases e145
 have qi145 : (0 < l0_4.length) = True := eq_true (by omega)
 (try rw [show ((0 : Int)).toNat = 0 from rfl] at hx145_0)
 (try rw [show 0 * 5 = 0 from rfl] at hx145_0)
 (try rw [Addr.add_zero'] at hx145_0)
 (try rw [show ((0 : Int)).toNat = 0 from rfl] at hx145_1)
 (try rw [show 0 * 5 = 0 from rfl] at hx145_1)
 (try rw [Addr.add_zero'] at hx145_1)
 (try rw [show ((0 : Int)).toNat = 0 from rfl] at hx145_2)
 (try rw [show 0 * 5 = 0 from rfl] at hx145_2)
 (try rw [Addr.add_zero'] at hx145_2)
 (try rw [show ((0 : Int)).toNat = 0 from rfl] at hx145_3)
 (try rw [show 0 * 5 = 0 from rfl] at hx145_3)
 (try rw [Addr.add_zero'] at hx145_3)
 (try rw [show ((0 : Int)).toNat = 0 from rfl] at hx145_4)
 (try rw [show 0 * 5 = 0 from rfl] at hx145_4)
 (try rw [Addr.add_zero'] at hx145_4)
 replace hx145_0 := qc HB hx145_0
 replace hx145_1 := qc HB hx145_1
 replace hx145_2 := qc HB hx145_2
 replace hx145_3 := qc HB hx145_3
 replace hx145_4 := qc HB hx145_4
 have HR145_4 := aM_ hi145_4
 have HC145_4 := aM_ hl145_4
 clear hi145_4 hl145_4
 replace p145 := eq_true p145
 replace q145 := eq_true q145
 have p149 : 0 ≤ (1 : Int) := (by omega)
 have q149 : 1 < (l0_4.length : Int) := oD_ (by first | (with_reducible assumption) | assumption)
 obtain ⟨ad149, A149_4, c149_4, e149, hx149_0, hx149_1, hx149_2, hx149_3, hx149_4, hl149_4, hi149_4⟩ := at_T120 HR0_4.out 1 p149 q149
 have hw149_4 := hx149_4
 (try rw [show ((1 : Int)).toNat = 1 from rfl] at hw149_4)
 (try rw [show 1 * 5 = 5 from rfl] at hw149_4)
 (try simp only [Nat.reduceMul, Nat.reduceEqDiff, Go.Addr.add, ↓reduceIte] at hw149_4)
 have hw149_3 := hx149_3
 (try rw [show ((1 : Int)).toNat = 1 from rfl] at hw149_3)
 (try rw [show 1 * 5 = 5 from rfl] at hw149_3)
 (try simp only [Nat.reduceMul, Nat.reduceEqDiff, Go.Addr.add, ↓reduceIte] at hw149_3)
 have hw149_2 := hx149_2
 (try rw [show ((1 : Int)).toNat = 1 from rfl] at hw149_2)
 (try rw [show 1 * 5 = 5 from rfl] at hw149_2)
 (try simp only [Nat.reduceMul, Nat.reduceEqDiff, Go.Addr.add, ↓reduceIte] at hw149_2)
 have hw149_1 := hx149_1
 (try rw [show ((1 : Int)).toNat = 1 from rfl] at hw149_1)
 (try rw [show 1 * 5 = 5 from rfl] at hw149_1)
 (try simp only [Nat.reduceMul, Nat.reduceEqDiff, Go.Addr.add, ↓reduceIte] at hw149_1)
 have hw149_0 := hx149_0
 (try rw [show ((1 : Int)).toNat = 1 from rfl] at hw149_0)
 (try rw [show 1 * 5 = 5 from rfl] at hw149_0)
 (try simp only [Nat.reduceMul, Nat.reduceEqDiff, Go.Addr.add, ↓reduceIte] at hw149_0)
 obtain rfl : ad145 = ad149 := (by injection e149)
 (try simp only [show (1 : Int).toNat = 1 from rfl, Nat.reduceMul, Nat.reduceEqDiff, Go.Addr.add, ↓reduceIte] at hx149_0)
 (try simp only [show (1 : Int).toNat = 1 from rfl, Nat.reduceMul, Nat.reduceEqDiff, Go.Addr.add, ↓reduceIte] at hx149_1)
 (try simp only [show (1 : Int).toNat = 1 from rfl, Nat.reduceMul, Nat.reduceEqDiff, Go.Addr.add, ↓reduceIte] at hx149_2)
 (try simp only [show (1 : Int).toNat = 1 from rfl, Nat.reduceMul, Nat.reduceEqDiff, Go.Addr.add, ↓reduceIte] at hx149_3)
 (try simp only [show (1 : Int).toNat = 1 from rfl, Nat.reduceMul, Nat.reduceEqDiff, Go.Addr.add, ↓reduceIte] at hx149_4)
 have qi149 : (1 < l0_4.length) = True := eq_true (by omega)
 (try rw [show ((1 : Int)).toNat = 1 from rfl] at hx149_0)
 (try rw [show 1 * 5 = 5 from rfl] at hx149_0)
 (try rw [show ((1 : Int)).toNat = 1 from rfl] at hx149_1)
 (try rw [show 1 * 5 = 5 from rfl] at hx149_1)
 (try rw [show ((1 : Int)).toNat = 1 from rfl] at hx149_2)
 (try rw [show 1 * 5 = 5 from rfl] at hx149_2)
 (try rw [show ((1 : Int)).toNat = 1 from rfl] at hx149_3)
 (try rw [show 1 * 5 = 5 from rfl] at hx149_3)
 (try rw [show ((1 : Int)).toNat = 1 from rfl] at hx149_4)
 (try rw [show 1 * 5 = 5 from rfl] at hx149_4)
 replace hx149_0 := qc HB hx149_0
 replace hx149_1 := qc HB hx149_1
 replace hx149_2 := qc HB hx149_2
 replace hx149_3 := qc HB hx149_3
 replace hx149_4 := qc HB hx149_4
 have HR149_4 := aM_ hi149_4
 have HC149_4 := aM_ hl149_4
 clear hi149_4 hl149_4
 replace p149 := eq_true p149
 replace q149 := eq_true q149
 refine start_ (n := 17) (S := fun w' => w'.cell? ⟨gb128, 0, none⟩ = some (.int .i64 a0_0) ∧ w'.cell? ⟨gb128, 1, none⟩ = some (.int .i64 a0_1) ∧ w'.cell? ⟨gb128, 2, none⟩ = some (.int .i64 a0_2) ∧ w'.cell? ⟨gb128, 3, none⟩ = some (.int .i64 a0_3) ∧ w'.cell? ⟨gb128, 4, none⟩ = some (.slice (some ad145) l0_4.length c0_4) ∧ w'.cell? ad145 = some (.int .i64 ((rd_T120 l0_4 0).f0)) ∧ w'.cell? ⟨ad145.block, ad145.off + 1, none⟩ = some (.int .i64 ((rd_T120 l0_4 0).f1)) ∧ w'.cell? ⟨ad145.block, ad145.off + 2, none⟩ = some (.int .i64 ((rd_T120 l0_4 0).f2.f0)) ∧ w'.cell? ⟨ad145.block, ad145.off + 3, none⟩ = some (.int .i64 ((rd_T120 l0_4 0).f2.f1)) ∧ w'.cell? ⟨ad145.block, ad145.off + 4, none⟩ = some (.slice A145_4 ((rd_T120 l0_4 0).f3).length c145_4) ∧ w'.cell? ⟨ad145.block, ad145.off + 5, none⟩ = some (.int .i64 ((rd_T120 l0_4 1).f0)) ∧ w'.cell? ⟨ad145.block, ad145.off + 5 + 1, none⟩ = some (.int .i64 ((rd_T120 l0_4 1).f1)) ∧ w'.cell? ⟨ad145.block, ad145.off + 5 + 2, none⟩ = some (.int .i64 ((rd_T120 l0_4 1).f2.f0)) ∧ w'.cell? ⟨ad145.block, ad145.off + 5 + 3, none⟩ = some (.int .i64 ((rd_T120 l0_4 1).f2.f1)) ∧ w'.cell? ⟨ad145.block, ad145.off + 5 + 4, none⟩ = some (.slice A149_4 ((rd_T120 l0_4 1).f3).length c149_4)) (ds := []) #[F_, F_, F_, F_, F_, F_, F_, F_, F_, F_, F_, F_, F_, F_, F_, F_, F_] (by kernel_rfl) rfl rfl ⟨(kC_ BK128.out 0).trans rfl, (kC_ BK128.out 1).trans rfl, (kC_ BK128.out 2).trans rfl, (kC_ BK128.out 3).trans rfl, (kC_ BK128.out 4).trans rfl, (qc HB hw145_0), (qc HB hw145_1), (qc HB hw145_2), (qc HB hw145_3), (qc HB hw145_4), (qc HB hw149_0), (qc HB hw149_1), (qc HB hw149_2), (qc HB hw149_3), (qc HB hw149_4)⟩ (fun hHeld => ?_); refine with_tabW spec_l5Expr.tab8 spec_l5Expr.bits8 (fun HT_ HW_ => ?_)
 generalize w29.drew = w31 at BK128 HB HR145_4 HR149_4 hx145_0 hx145_1 hx145_2 hx145_3 hx145_4 hx149_0 hx149_1 hx149_2 hx149_3 hx149_4 hHeld ⊢
 refine pure_ (i := 0) (N := some 27) (v := ?_) (a' := ?_) #[T_, F_, F_, F_, F_, F_, F_, F_, F_, F_, F_, F_, F_, F_, F_, F_, F_] rfl rfl (any_of HT_.out (by kernel_rfl)) (fun _ _ _ h => h) (Or.inl ⟨by rfl, ?_⟩) ?_ ?_
 rotate_left
 · intro w'
   go_simp
   with_reducible rfl
 rotate_left
 · simp only [Act.put, sA_, sB_, sC_, i64_w, i32_w]
   rfl
 refine pure_ (i := 5) (N := some 32) (v := ?_) (a' := ?_) #[T_, F_, F_, F_, F_, T_, F_, F_, F_, F_, F_, F_, F_, F_, F_, F_, F_] rfl rfl (any_of HT_.out (by kernel_rfl)) (fun _ _ _ h => h) (Or.inl ⟨by rfl, ?_⟩) ?_ ?_
 rotate_left
 · intro w'
   go_simp
   with_reducible rfl
 rotate_left
 · simp only [Act.put, sA_, sB_, sC_, i64_w, i32_w]
   rfl
 refine pure_ (i := 11) (N := some 38) (v := ?_) (a' := ?_) #[T_, F_, F_, F_, F_, T_, F_, F_, F_, F_, F_, T_, F_, F_, F_, F_, F_] rfl rfl (any_of HT_.out (by kernel_rfl)) (fun _ _ _ h => h) (Or.inl ⟨by rfl, ?_⟩) ?_ ?_
 rotate_left
 · intro w'
   go_simp
   with_reducible rfl
 rotate_left
 · simp only [Act.put, sA_, sB_, sC_, i64_w, i32_w]
   rfl
 refine take_ (i := 1) (N := some 28) (v := ?_) (a' := ?_) #[T_, T_, F_, F_, F_, T_, F_, F_, F_, F_, F_, T_, F_, F_, F_, F_, F_] rfl rfl (take_ofW HT_.out HW_.out (by kernel_rfl)) (fun _ _ _ h => h) (Or.inl ⟨by rfl, ?_⟩) hHeld ?_ ?_
 rotate_left
 · rintro w' ⟨s0, s1, s2, s3, s4, s5, s6, s7, s8, s9, s10, s11, s12, s13, s14⟩
   go_simp
   with_reducible rfl
 rotate_left
 · simp only [Act.put, sA_, sB_, sC_, i64_w, i32_w]
   rfl
 refine pure_ (i := 2) (N := some 29) (v := ?_) (a' := ?_) #[T_, T_, T_, F_, F_, T_, F_, F_, F_, F_, F_, T_, F_, F_, F_, F_, F_] rfl rfl (any_of HT_.out (by kernel_rfl)) (fun _ _ _ h => h) (Or.inl ⟨by rfl, ?_⟩) ?_ ?_
 rotate_left
 · intro w'
   go_simp
   with_reducible rfl
 rotate_left
 · simp only [Act.put, sA_, sB_, sC_, i64_w, i32_w]
   rfl
 refine take_ (i := 3) (N := some 30) (v := ?_) (a' := ?_) #[T_, T_, T_, T_, F_, T_, F_, F_, F_, F_, F_, T_, F_, F_, F_, F_, F_] rfl rfl (take_ofW HT_.out HW_.out (by kernel_rfl)) (fun _ _ _ h => h) (Or.inl ⟨by rfl, ?_⟩) hHeld ?_ ?_
 rotate_left
 · rintro w' ⟨s0, s1, s2, s3, s4, s5, s6, s7, s8, s9, s10, s11, s12, s13, s14⟩
   go_simp
   with_reducible rfl
 rotate_left
 · simp only [Act.put, sA_, sB_, sC_, i64_w, i32_w]
   rfl
 refine take_ (i := 6) (N := some 33) (v := ?_) (a' := ?_) #[T_, T_, T_, T_, F_, T_, T_, F_, F_, F_, F_, T_, F_, F_, F_, F_, F_] rfl rfl (take_ofW HT_.out HW_.out (by kernel_rfl)) (fun _ _ _ h => h) (Or.inl ⟨by rfl, ?_⟩) hHeld ?_ ?_
 rotate_left
 · rintro w' ⟨s0, s1, s2, s3, s4, s5, s6, s7, s8, s9, s10, s11, s12, s13, s14⟩
   go_simp
   with_reducible rfl
 rotate_left
 · simp only [Act.put, sA_, sB_, sC_, i64_w, i32_w]
   rfl
 refine pure_ (i := 7) (N := some 34) (v := ?_) (a' := ?_) #[T_, T_, T_, T_, F_, T_, T_, T_, F_, F_, F_, T_, F_, F_, F_, F_, F_] rfl rfl (any_of HT_.out (by kernel_rfl)) (fun _ _ _ h => h) (Or.inl ⟨by rfl, ?_⟩) ?_ ?_
 rotate_left
 · intro w'
   go_simp
   with_reducible rfl
 rotate_left
 · simp only [Act.put, sA_, sB_, sC_, i64_w, i32_w]
   rfl
 refine take_ (i := 8) (N := some 35) (v := ?_) (a' := ?_) #[T_, T_, T_, T_, F_, T_, T_, T_, T_, F_, F_, T_, F_, F_, F_, F_, F_] rfl rfl (take_ofW HT_.out HW_.out (by kernel_rfl)) (fun _ _ _ h => h) (Or.inl ⟨by rfl, ?_⟩) hHeld ?_ ?_
 rotate_left
 · rintro w' ⟨s0, s1, s2, s3, s4, s5, s6, s7, s8, s9, s10, s11, s12, s13, s14⟩
   go_simp
   with_reducible rfl
 rotate_left
 · simp only [Act.put, sA_, sB_, sC_, i64_w, i32_w]
   rfl
 refine take_ (i := 12) (N := some 39) (v := ?_) (a' := ?_) #[T_, T_, T_, T_, F_, T_, T_, T_, T_, F_, F_, T_, T_, F_, F_, F_, F_] rfl rfl (take_ofW HT_.out HW_.out (by kernel_rfl)) (fun _ _ _ h => h) (Or.inl ⟨by rfl, ?_⟩) hHeld ?_ ?_
 rotate_left
 · rintro w' ⟨s0, s1, s2, s3, s4, s5, s6, s7, s8, s9, s10, s11, s12, s13, s14⟩
   go_simp
   with_reducible rfl
 rotate_left
 · simp only [Act.put, sA_, sB_, sC_, i64_w, i32_w]
   rfl
 refine pure_ (i := 13) (N := some 40) (v := ?_) (a' := ?_) #[T_, T_, T_, T_, F_, T_, T_, T_, T_, F_, F_, T_, T_, T_, F_, F_, F_] rfl rfl (any_of HT_.out (by kernel_rfl)) (fun _ _ _ h => h) (Or.inl ⟨by rfl, ?_⟩) ?_ ?_
 rotate_left
 · intro w'
   go_simp
   with_reducible rfl
 rotate_left
 · simp only [Act.put, sA_, sB_, sC_, i64_w, i32_w]
   rfl
 refine join_ (σ := Value × Value × Value × Value) 2 #[T_, T_, T_, T_, T_, T_, T_, T_, T_, T_, T_, T_, T_, T_, T_, F_, F_] (fun s_ => [(31, s_.1), (36, s_.2.1), (37, s_.2.2.1), (41, s_.2.2.2)]) (fun s_ w' => (w'.cell? ⟨gb128, 0, none⟩ = some (.int .i64 a0_0) ∧ w'.cell? ⟨gb128, 1, none⟩ = some (.int .i64 a0_1) ∧ w'.cell? ⟨gb128, 2, none⟩ = some (.int .i64 a0_2) ∧ w'.cell? ⟨gb128, 3, none⟩ = some (.int .i64 a0_3) ∧ w'.cell? ⟨gb128, 4, none⟩ = some (.slice (some ad145) l0_4.length c0_4) ∧ w'.cell? ad145 = some (.int .i64 ((rd_T120 l0_4 0).f0)) ∧ w'.cell? ⟨ad145.block, ad145.off + 1, none⟩ = some (.int .i64 ((rd_T120 l0_4 0).f1)) ∧ w'.cell? ⟨ad145.block, ad145.off + 2, none⟩ = some (.int .i64 ((rd_T120 l0_4 0).f2.f0)) ∧ w'.cell? ⟨ad145.block, ad145.off + 3, none⟩ = some (.int .i64 ((rd_T120 l0_4 0).f2.f1)) ∧ w'.cell? ⟨ad145.block, ad145.off + 4, none⟩ = some (.slice A145_4 ((rd_T120 l0_4 0).f3).length c145_4) ∧ w'.cell? ⟨ad145.block, ad145.off + 5, none⟩ = some (.int .i64 ((rd_T120 l0_4 1).f0)) ∧ w'.cell? ⟨ad145.block, ad145.off + 5 + 1, none⟩ = some (.int .i64 ((rd_T120 l0_4 1).f1)) ∧ w'.cell? ⟨ad145.block, ad145.off + 5 + 2, none⟩ = some (.int .i64 ((rd_T120 l0_4 1).f2.f0)) ∧ w'.cell? ⟨ad145.block, ad145.off + 5 + 3, none⟩ = some (.int .i64 ((rd_T120 l0_4 1).f2.f1)) ∧ w'.cell? ⟨ad145.block, ad145.off + 5 + 4, none⟩ = some (.slice A149_4 ((rd_T120 l0_4 1).f3).length c149_4)) ∧ (Kd.R k30 30 w' w.heap.size (fun k_ => some k_ ≠ (s_.2.2.1 : Value).ownBlock ∧ some k_ ≠ (s_.2.2.2 : Value).ownBlock) s_.2.1 t150) ∧ (Kd.R k30 30 w' w.heap.size (fun k_ => some k_ ≠ (s_.2.1 : Value).ownBlock ∧ some k_ ≠ (s_.2.2.2 : Value).ownBlock) s_.2.2.1 y153) ∧ (Kd.R k30 30 w' w.heap.size (fun k_ => some k_ ≠ (s_.2.1 : Value).ownBlock ∧ some k_ ≠ (s_.2.2.1 : Value).ownBlock) s_.2.2.2 y156) ∧ (w'.heap[gb128]? = some (.cells #[.int .i64 a0_0, .int .i64 a0_1, .int .i64 a0_2, .int .i64 a0_3, .slice (some ad145) l0_4.length c0_4] 120 (0, 0))) ∧ (Below w.heap.size w w')) ?_ ?_
 rotate_left
 · intro hCont
   refine two_ (i := 4) (j := 14) (Ni := some 31) (Nj := some 41) #[T_, T_, T_, T_, T_, T_, T_, T_, T_, F_, F_, T_, T_, T_, F_, F_, F_] #[T_, T_, T_, T_, F_, T_, T_, T_, T_, F_, F_, T_, T_, T_, T_, F_, F_] rfl rfl rfl rfl (two_of HT_.out (by kernel_rfl)) (by decide) (by decide) (fun K hK => ?_) (fun K hK => ?_)
   · skip
     refine goes_ Tryz.func118 (by kernel_rfl) rfl #[.agg #[.int .i64 ((rd_T120 l0_4 0).f0), .int .i64 ((rd_T120 l0_4 0).f1), .int .i64 ((rd_T120 l0_4 0).f2.f0), .int .i64 ((rd_T120 l0_4 0).f2.f1), .slice A145_4 ((rd_T120 l0_4 0).f3).length c145_4]] (by rfl) rfl rfl (by (try simp only [mA_, List.map_cons, List.map_nil]); first | done | rfl | (simp only [lD_, lT_]; rfl)) ?_
     with_reducible refine (ih k (by omega) ((rd_T120 l0_4 0).f0) ((rd_T120 l0_4 0).f1) ((rd_T120 l0_4 0).f2.f0) ((rd_T120 l0_4 0).f2.f1) _ _ ((rd_T120 l0_4 0).f3) t146 _ ?side1 ?side2 A24.out).mono ?_
     (case side1 => exact qC (Kd.C_below HR145_4.out HB.out))
     (case side2 => exact HC145_4.out)
     rintro e w32 ⟨v147, rfl, ho0, hb⟩
     refine ⟨_, rfl, ?_⟩
     have n0_ := aM_ (Kd.R_lower ho0 (bZ_ (qB HB)))
     have n1_ := aM_ (blk_below (g := gb128) (o := .cells #[.int .i64 a0_0, .int .i64 a0_1, .int .i64 a0_2, .int .i64 a0_3, .slice (some ad145) l0_4.length c0_4] 120 (0, 0)) qk hb)
     have n2_ := aM_ (bT_ (qB HB) hb)
     clear BK128 HB
     revert n0_ n1_ n2_
     intro HO148 BK128 HB
     (try clear hb)
     (try clear hb2)
     (try clear hk)
     (try clear hi)
     (try clear ho0)
     refine hK.out _ _ ⟨(kC_ BK128.out 0).trans rfl, (kC_ BK128.out 1).trans rfl, (kC_ BK128.out 2).trans rfl, (kC_ BK128.out 3).trans rfl, (kC_ BK128.out 4).trans rfl, (qc HB hw145_0), (qc HB hw145_1), (qc HB hw145_2), (qc HB hw145_3), (qc HB hw145_4), (qc HB hw149_0), (qc HB hw149_1), (qc HB hw149_2), (qc HB hw149_3), (qc HB hw149_4)⟩ (fun hHeld => ?_)
     clear hK K
     refine norm_ (a' := ?_) ?_ ?_
     rotate_left
     · show Act.put _ (some 31) _ = _
       simp only [Act.put, sA_, sB_, sC_, i64_w, i32_w]
       rfl
     refine two_ (i := 9) (j := 14) (Ni := some 36) (Nj := some 41) #[T_, T_, T_, T_, T_, T_, T_, T_, T_, T_, F_, T_, T_, T_, F_, F_, F_] #[T_, T_, T_, T_, T_, T_, T_, T_, T_, F_, F_, T_, T_, T_, T_, F_, F_] rfl rfl rfl rfl (two_of HT_.out (by kernel_rfl)) (by decide) (by decide) (fun K hK => ?_) (fun K hK => ?_)
     · skip
       refine goes_ Tryz.func118 (by kernel_rfl) rfl #[.agg #[.int .i64 ((rd_T120 l0_4 1).f0), .int .i64 ((rd_T120 l0_4 1).f1), .int .i64 ((rd_T120 l0_4 1).f2.f0), .int .i64 ((rd_T120 l0_4 1).f2.f1), .slice A149_4 ((rd_T120 l0_4 1).f3).length c149_4]] (by rfl) rfl rfl (by (try simp only [mA_, List.map_cons, List.map_nil]); first | done | rfl | (simp only [lD_, lT_]; rfl)) ?_
       with_reducible refine (ih k (by omega) ((rd_T120 l0_4 1).f0) ((rd_T120 l0_4 1).f1) ((rd_T120 l0_4 1).f2.f0) ((rd_T120 l0_4 1).f2.f1) _ _ ((rd_T120 l0_4 1).f3) t150 _ ?side1 ?side2 A26.out).mono ?_
       (case side1 => exact qC (Kd.C_below HR149_4.out HB.out))
       (case side2 => exact HC149_4.out)
       rintro e w33 ⟨v151, rfl, ho0, hb⟩
       refine ⟨_, rfl, ?_⟩
       have n0_ := aM_ (Kd.R_elder' (qR HO148) (Kd.R_base ho0) hb)
       have n1_ := aM_ (Kd.R_lower (Kd.R_new' ho0 (Kd.R_lt (qR HO148))) (bZ_ (qB HB)))
       have n2_ := aM_ (blk_below (g := gb128) (o := .cells #[.int .i64 a0_0, .int .i64 a0_1, .int .i64 a0_2, .int .i64 a0_3, .slice (some ad145) l0_4.length c0_4] 120 (0, 0)) qk hb)
       have n3_ := aM_ (bT_ (qB HB) hb)
       clear HO148 BK128 HB
       revert n0_ n1_ n2_ n3_
       intro HO148 HO152 BK128 HB
       (try clear hb)
       (try clear hb2)
       (try clear hk)
       (try clear hi)
       (try clear ho0)
       obtain ⟨Ao35, co35, eo35⟩ := Kd.R_slice HO152.out
       (first | subst eo35 | (injection eo35 with f1_ f2_ f3_; have f4_ := f1_.symm; have f5_ := f3_.symm; clear f1_ f2_ f3_; subst f4_; subst f5_))
       refine hK.out _ _ ⟨(kC_ BK128.out 0).trans rfl, (kC_ BK128.out 1).trans rfl, (kC_ BK128.out 2).trans rfl, (kC_ BK128.out 3).trans rfl, (kC_ BK128.out 4).trans rfl, (qc HB hw145_0), (qc HB hw145_1), (qc HB hw145_2), (qc HB hw145_3), (qc HB hw145_4), (qc HB hw149_0), (qc HB hw149_1), (qc HB hw149_2), (qc HB hw149_3), (qc HB hw149_4)⟩ (fun hHeld => ?_)
       clear hK K
       refine norm_ (a' := ?_) ?_ ?_
       rotate_left
       · show Act.put _ (some 36) _ = _
         simp only [Act.put, sA_, sB_, sC_, i64_w, i32_w]
         rfl
       refine two_ (i := 10) (j := 14) (Ni := some 37) (Nj := some 41) #[T_, T_, T_, T_, T_, T_, T_, T_, T_, T_, T_, T_, T_, T_, F_, F_, F_] #[T_, T_, T_, T_, T_, T_, T_, T_, T_, T_, F_, T_, T_, T_, T_, F_, F_] rfl rfl rfl rfl (two_of HT_.out (by kernel_rfl)) (by decide) (by decide) (fun K hK => ?_) (fun K hK => ?_)
       · skip
         refine Kd.R_append_rows_step k30 (w0 := w) w.heap.size (by rfl) (.tmp 31) (.tmp 36) 23 30 (.agg #[(.int .i64 0), (.int .i64 0), (.int .i64 0), (.int .i64 0)]) 32 rfl Tryz.underlying23 info30 rfl (by decide) (by omega) v147 t146 t150 _ _ _ (fun k_ => some k_ ≠ (.slice Ao35 t150.length co35 : Value).ownBlock) (fun _ => False) rfl rfl ?aO ?aR (fun _ _ h => h) (fun _ h => h.elim) ?aF ?aB ?aS ?aL ?_
         (case aR => exact qC ((Kd.R_reads' HO152.out).2.2))
         (case aB => exact (qB HB))
         (case aF => exact (fun k_ hk => Kd.fresh' (Kd.R_lt (qR HO152)) k_ hk))
         (case aO => exact (qr (Kd.R_mono HO148.out (fun _ hk => hk.2))))
         (case aS => exact (bZ_ (qB HB)))
         (case aL => have := LMc27.out; omega)
         intro v154 w34 ho hb hg hat
         rw [← Ny153.out] at ho
         have n0_ := aM_ (blk_grown (g := gb128) (o := .cells #[.int .i64 a0_0, .int .i64 a0_1, .int .i64 a0_2, .int .i64 a0_3, .slice (some ad145) l0_4.length c0_4] 120 (0, 0)) qk hg (Kd.R_ne HO148.out BK128.out (by decide)))
         have n1_ := aM_ (Kd.R_after (ok := (fun _ => True)) (qR HO152) hg hat)
         have n2_ := aM_ (hb)
         have n3_ := aM_ (ho)
         clear BK128 HO152 HB HO148
         have BK128 := n0_
         have HO152 := n1_
         have HB := n2_
         have HO155 := n3_
         clear n0_ n1_ n2_ n3_ ho hb hg hat
         refine hK.out _ _ ⟨(kC_ BK128.out 0).trans rfl, (kC_ BK128.out 1).trans rfl, (kC_ BK128.out 2).trans rfl, (kC_ BK128.out 3).trans rfl, (kC_ BK128.out 4).trans rfl, (qc HB hw145_0), (qc HB hw145_1), (qc HB hw145_2), (qc HB hw145_3), (qc HB hw145_4), (qc HB hw149_0), (qc HB hw149_1), (qc HB hw149_2), (qc HB hw149_3), (qc HB hw149_4)⟩ (fun hHeld => ?_)
         clear hK K
         refine norm_ (a' := ?_) ?_ ?_
         rotate_left
         · show Act.put _ (some 37) _ = _
           simp only [Act.put, sA_, sB_, sC_, i64_w, i32_w]
           rfl
         refine one_ (i := 14) (N := some 41) #[T_, T_, T_, T_, T_, T_, T_, T_, T_, T_, T_, T_, T_, T_, T_, F_, F_] rfl rfl (one_of HT_.out (by kernel_rfl)) (by decide) (fun K hK => ?_)
         refine Kd.R_lit_step k30 _ 30 ?hg (N := 41) ?hd (xs := ([(⟨4, a0_0, (⟨0, 0⟩ : S28)⟩ : S30)] : List (S30))) (inner := [.int .i64 4, .int .i64 a0_0, .int .i64 0, .int .i64 0]) (ok := fun _ => True) (okp := fun _ => True) ?hr ?hp (fun _ hk => hk) trivial (Below.refl _ _) (Nat.le_refl _) (by simp) ?_; (case hd => rfl); (case hg => rfl); (case hr => first | (go_simp; done) | (go_simp; rfl)); (case hp => exact (Reps.c4 (show Kd.M k30 _ _ _ (⟨4, a0_0, (⟨0, 0⟩ : S28)⟩ : S30) [.int .i64 4, .int .i64 a0_0, .int .i64 0, .int .i64 0] from (k30_mkM _ _ _ (⟨4, a0_0, (⟨0, 0⟩ : S28)⟩ : S30) )) (Reps.none _ _)))
         intro v157 w36 ho37 hb hg_ hnew_
         clear hg_ hnew_
         (first | rw [← Ny156.out] at ho37 | (simp only [Int.reduceToNat] at ho37; rw [← Ny156.out] at ho37))
         have n0_ := aM_ (Kd.R_elder' (qR HO152) (Kd.R_base ho37) hb)
         have n1_ := aM_ (Kd.R_elder' (qR HO155) (Kd.R_base ho37) hb)
         have n2_ := aM_ (Kd.R_lower (Kd.R_new' (Kd.R_new' ho37 (Kd.R_lt (qR HO152))) (Kd.R_lt (qR HO155))) (bZ_ (qB HB)))
         have n3_ := aM_ (blk_below (g := gb128) (o := .cells #[.int .i64 a0_0, .int .i64 a0_1, .int .i64 a0_2, .int .i64 a0_3, .slice (some ad145) l0_4.length c0_4] 120 (0, 0)) qk hb)
         have n4_ := aM_ (bT_ (qB HB) hb)
         clear HO152 HO155 BK128 HB
         have HO152 := n0_
         have HO155 := n1_
         have HO158 := n2_
         have BK128 := n3_
         have HB := n4_
         clear n0_ n1_ n2_ n3_ n4_ hb ho37
         refine hK.out _ _ ⟨(kC_ BK128.out 0).trans rfl, (kC_ BK128.out 1).trans rfl, (kC_ BK128.out 2).trans rfl, (kC_ BK128.out 3).trans rfl, (kC_ BK128.out 4).trans rfl, (qc HB hw145_0), (qc HB hw145_1), (qc HB hw145_2), (qc HB hw145_3), (qc HB hw145_4), (qc HB hw149_0), (qc HB hw149_1), (qc HB hw149_2), (qc HB hw149_3), (qc HB hw149_4)⟩ (fun hHeld => ?_)
         clear hK K
         refine norm_ (a' := ?_) ?_ ?_
         rotate_left
         · show Act.put _ (some 41) _ = _
           simp only [Act.put, sA_, sB_, sC_, i64_w, i32_w]
           rfl
         exact norm_ (by simp only [putAll, Act.put, sA_, sB_, sC_]) (hCont (v147, .slice Ao35 t150.length co35, v154, v157) _ ⟨hHeld, (qr (Kd.R_mono HO152.out (fun _ hk => ⟨hk.1.2, hk.2⟩))), (qR HO155), (qr (Kd.R_mono HO158.out (fun _ hk => ⟨hk.1.2, hk.2⟩))), qk, (qB HB)⟩)
       · skip
         refine Kd.R_lit_step k30 _ 30 ?hg (N := 41) ?hd (xs := ([(⟨4, a0_0, (⟨0, 0⟩ : S28)⟩ : S30)] : List (S30))) (inner := [.int .i64 4, .int .i64 a0_0, .int .i64 0, .int .i64 0]) (ok := fun _ => True) (okp := fun _ => True) ?hr ?hp (fun _ hk => hk) trivial (Below.refl _ _) (Nat.le_refl _) (by simp) ?_; (case hd => rfl); (case hg => rfl); (case hr => first | (go_simp; done) | (go_simp; rfl)); (case hp => exact (Reps.c4 (show Kd.M k30 _ _ _ (⟨4, a0_0, (⟨0, 0⟩ : S28)⟩ : S30) [.int .i64 4, .int .i64 a0_0, .int .i64 0, .int .i64 0] from (k30_mkM _ _ _ (⟨4, a0_0, (⟨0, 0⟩ : S28)⟩ : S30) )) (Reps.none _ _)))
         intro v157 w34 ho35 hb hg_ hnew_
         clear hg_ hnew_
         (first | rw [← Ny156.out] at ho35 | (simp only [Int.reduceToNat] at ho35; rw [← Ny156.out] at ho35))
         have n0_ := aM_ (Kd.R_elder' (qR HO148) (Kd.R_base ho35) hb)
         have n1_ := aM_ (Kd.R_elder' (qR HO152) (Kd.R_base ho35) hb)
         have n2_ := aM_ (Kd.R_lower (Kd.R_new' (Kd.R_new' ho35 (Kd.R_lt (qR HO148))) (Kd.R_lt (qR HO152))) (bZ_ (qB HB)))
         have n3_ := aM_ (blk_below (g := gb128) (o := .cells #[.int .i64 a0_0, .int .i64 a0_1, .int .i64 a0_2, .int .i64 a0_3, .slice (some ad145) l0_4.length c0_4] 120 (0, 0)) qk hb)
         have n4_ := aM_ (bT_ (qB HB) hb)
         clear HO148 HO152 BK128 HB
         have HO148 := n0_
         have HO152 := n1_
         have HO158 := n2_
         have BK128 := n3_
         have HB := n4_
         clear n0_ n1_ n2_ n3_ n4_ hb ho35
         obtain ⟨Ao37, co37, eo37⟩ := Kd.R_slice HO152.out
         (first | subst eo37 | (injection eo37 with f1_ f2_ f3_; have f4_ := f1_.symm; have f5_ := f3_.symm; clear f1_ f2_ f3_; subst f4_; subst f5_))
         refine hK.out _ _ ⟨(kC_ BK128.out 0).trans rfl, (kC_ BK128.out 1).trans rfl, (kC_ BK128.out 2).trans rfl, (kC_ BK128.out 3).trans rfl, (kC_ BK128.out 4).trans rfl, (qc HB hw145_0), (qc HB hw145_1), (qc HB hw145_2), (qc HB hw145_3), (qc HB hw145_4), (qc HB hw149_0), (qc HB hw149_1), (qc HB hw149_2), (qc HB hw149_3), (qc HB hw149_4)⟩ (fun hHeld => ?_)
         clear hK K
         refine norm_ (a' := ?_) ?_ ?_
         rotate_left
         · show Act.put _ (some 41) _ = _
           simp only [Act.put, sA_, sB_, sC_, i64_w, i32_w]
           rfl
         refine one_ (i := 10) (N := some 37) #[T_, T_, T_, T_, T_, T_, T_, T_, T_, T_, T_, T_, T_, T_, T_, F_, F_] rfl rfl (one_of HT_.out (by kernel_rfl)) (by decide) (fun K hK => ?_)
         refine Kd.R_append_rows_step k30 (w0 := w) w.heap.size (by rfl) (.tmp 31) (.tmp 36) 23 30 (.agg #[(.int .i64 0), (.int .i64 0), (.int .i64 0), (.int .i64 0)]) 32 rfl Tryz.underlying23 info30 rfl (by decide) (by omega) v147 t146 t150 _ _ _ (fun k_ => some k_ ≠ (.slice Ao37 t150.length co37 : Value).ownBlock ∧ some k_ ≠ (v157 : Value).ownBlock) (fun _ => False) rfl rfl ?aO ?aR (fun _ _ h => h) (fun _ h => h.elim) ?aF ?aB ?aS ?aL ?_
         (case aR => exact qC ((Kd.R_reads' HO152.out).2.2))
         (case aB => exact (qB HB))
         (case aF => exact (fun k_ hk => ⟨Kd.fresh' (Kd.R_lt (qR HO152)) k_ hk, Kd.fresh' (Kd.R_lt (qR HO158)) k_ hk⟩))
         (case aO => exact (qr (Kd.R_mono HO148.out (fun _ hk => ⟨hk.1.2, hk.2⟩))))
         (case aS => exact (bZ_ (qB HB)))
         (case aL => have := LMc27.out; omega)
         intro v154 w36 ho hb hg hat
         rw [← Ny153.out] at ho
         have n0_ := aM_ (blk_grown (g := gb128) (o := .cells #[.int .i64 a0_0, .int .i64 a0_1, .int .i64 a0_2, .int .i64 a0_3, .slice (some ad145) l0_4.length c0_4] 120 (0, 0)) qk hg (Kd.R_ne HO148.out BK128.out (by decide)))
         have n1_ := aM_ (Kd.R_after (ok := (fun k_ => some k_ ≠ (v157 : Value).ownBlock)) (qr (Kd.R_mono HO152.out (fun _ hk => ⟨hk.2, hk.1.2⟩))) hg hat)
         have n2_ := aM_ (Kd.R_after (ok := (fun k_ => some k_ ≠ (.slice Ao37 t150.length co37 : Value).ownBlock)) (qr (Kd.R_mono HO158.out (fun _ hk => ⟨hk.2, hk.1.2⟩))) hg hat)
         have n3_ := aM_ (hb)
         have n4_ := aM_ (ho)
         clear BK128 HO152 HO158 HB HO148
         have BK128 := n0_
         have HO152 := n1_
         have HO158 := n2_
         have HB := n3_
         have HO155 := n4_
         clear n0_ n1_ n2_ n3_ n4_ ho hb hg hat
         refine hK.out _ _ ⟨(kC_ BK128.out 0).trans rfl, (kC_ BK128.out 1).trans rfl, (kC_ BK128.out 2).trans rfl, (kC_ BK128.out 3).trans rfl, (kC_ BK128.out 4).trans rfl, (qc HB hw145_0), (qc HB hw145_1), (qc HB hw145_2), (qc HB hw145_3), (qc HB hw145_4), (qc HB hw149_0), (qc HB hw149_1), (qc HB hw149_2), (qc HB hw149_3), (qc HB hw149_4)⟩ (fun hHeld => ?_)
         clear hK K
         refine norm_ (a' := ?_) ?_ ?_
         rotate_left
         · show Act.put _ (some 37) _ = _
           simp only [Act.put, sA_, sB_, sC_, i64_w, i32_w]
           rfl
         exact norm_ (by simp only [putAll, Act.put, sA_, sB_, sC_]) (hCont (v147, .slice Ao37 t150.length co37, v154, v157) _ ⟨hHeld, (qr (Kd.R_mono HO152.out (fun _ hk => ⟨hk.2, hk.1⟩))), (qR HO155), (qR HO158), qk, (qB HB)⟩)
     · skip
       refine Kd.R_lit_step k30 _ 30 ?hg (N := 41) ?hd (xs := ([(⟨4, a0_0, (⟨0, 0⟩ : S28)⟩ : S30)] : List (S30))) (inner := [.int .i64 4, .int .i64 a0_0, .int .i64 0, .int .i64 0]) (ok := fun _ => True) (okp := fun _ => True) ?hr ?hp (fun _ hk => hk) trivial (Below.refl _ _) (Nat.le_refl _) (by simp) ?_; (case hd => rfl); (case hg => rfl); (case hr => first | (go_simp; done) | (go_simp; rfl)); (case hp => exact (Reps.c4 (show Kd.M k30 _ _ _ (⟨4, a0_0, (⟨0, 0⟩ : S28)⟩ : S30) [.int .i64 4, .int .i64 a0_0, .int .i64 0, .int .i64 0] from (k30_mkM _ _ _ (⟨4, a0_0, (⟨0, 0⟩ : S28)⟩ : S30) )) (Reps.none _ _)))
       intro v157 w33 ho34 hb hg_ hnew_
       clear hg_ hnew_
       (first | rw [← Ny156.out] at ho34 | (simp only [Int.reduceToNat] at ho34; rw [← Ny156.out] at ho34))
       have n0_ := aM_ (Kd.R_elder' (qR HO148) (Kd.R_base ho34) hb)
       have n1_ := aM_ (Kd.R_lower (Kd.R_new' ho34 (Kd.R_lt (qR HO148))) (bZ_ (qB HB)))
       have n2_ := aM_ (blk_below (g := gb128) (o := .cells #[.int .i64 a0_0, .int .i64 a0_1, .int .i64 a0_2, .int .i64 a0_3, .slice (some ad145) l0_4.length c0_4] 120 (0, 0)) qk hb)
       have n3_ := aM_ (bT_ (qB HB) hb)
       clear HO148 BK128 HB
       have HO148 := n0_
       have HO158 := n1_
       have BK128 := n2_
       have HB := n3_
       clear n0_ n1_ n2_ n3_ hb ho34
       refine hK.out _ _ ⟨(kC_ BK128.out 0).trans rfl, (kC_ BK128.out 1).trans rfl, (kC_ BK128.out 2).trans rfl, (kC_ BK128.out 3).trans rfl, (kC_ BK128.out 4).trans rfl, (qc HB hw145_0), (qc HB hw145_1), (qc HB hw145_2), (qc HB hw145_3), (qc HB hw145_4), (qc HB hw149_0), (qc HB hw149_1), (qc HB hw149_2), (qc HB hw149_3), (qc HB hw149_4)⟩ (fun hHeld => ?_)
       clear hK K
       refine norm_ (a' := ?_) ?_ ?_
       rotate_left
       · show Act.put _ (some 41) _ = _
         simp only [Act.put, sA_, sB_, sC_, i64_w, i32_w]
         rfl
       refine one_ (i := 9) (N := some 36) #[T_, T_, T_, T_, T_, T_, T_, T_, T_, T_, F_, T_, T_, T_, T_, F_, F_] rfl rfl (one_of HT_.out (by kernel_rfl)) (by decide) (fun K hK => ?_)
       refine goes_ Tryz.func118 (by kernel_rfl) rfl #[.agg #[.int .i64 ((rd_T120 l0_4 1).f0), .int .i64 ((rd_T120 l0_4 1).f1), .int .i64 ((rd_T120 l0_4 1).f2.f0), .int .i64 ((rd_T120 l0_4 1).f2.f1), .slice A149_4 ((rd_T120 l0_4 1).f3).length c149_4]] (by rfl) rfl rfl (by (try simp only [mA_, List.map_cons, List.map_nil]); first | done | rfl | (simp only [lD_, lT_]; rfl)) ?_
       with_reducible refine (ih k (by omega) ((rd_T120 l0_4 1).f0) ((rd_T120 l0_4 1).f1) ((rd_T120 l0_4 1).f2.f0) ((rd_T120 l0_4 1).f2.f1) _ _ ((rd_T120 l0_4 1).f3) t150 _ ?side1 ?side2 A26.out).mono ?_
       (case side1 => exact qC (Kd.C_below HR149_4.out HB.out))
       (case side2 => exact HC149_4.out)
       rintro e w35 ⟨v151, rfl, ho0, hb⟩
       refine ⟨_, rfl, ?_⟩
       have n0_ := aM_ (Kd.R_elder' (qR HO148) (Kd.R_base ho0) hb)
       have n1_ := aM_ (Kd.R_elder' (qR HO158) (Kd.R_base ho0) hb)
       have n2_ := aM_ (Kd.R_lower (Kd.R_new' (Kd.R_new' ho0 (Kd.R_lt (qR HO148))) (Kd.R_lt (qR HO158))) (bZ_ (qB HB)))
       have n3_ := aM_ (blk_below (g := gb128) (o := .cells #[.int .i64 a0_0, .int .i64 a0_1, .int .i64 a0_2, .int .i64 a0_3, .slice (some ad145) l0_4.length c0_4] 120 (0, 0)) qk hb)
       have n4_ := aM_ (bT_ (qB HB) hb)
       clear HO148 HO158 BK128 HB
       revert n0_ n1_ n2_ n3_ n4_
       intro HO148 HO158 HO152 BK128 HB
       (try clear hb)
       (try clear hb2)
       (try clear hk)
       (try clear hi)
       (try clear ho0)
       obtain ⟨Ao37, co37, eo37⟩ := Kd.R_slice HO152.out
       (first | subst eo37 | (injection eo37 with f1_ f2_ f3_; have f4_ := f1_.symm; have f5_ := f3_.symm; clear f1_ f2_ f3_; subst f4_; subst f5_))
       refine hK.out _ _ ⟨(kC_ BK128.out 0).trans rfl, (kC_ BK128.out 1).trans rfl, (kC_ BK128.out 2).trans rfl, (kC_ BK128.out 3).trans rfl, (kC_ BK128.out 4).trans rfl, (qc HB hw145_0), (qc HB hw145_1), (qc HB hw145_2), (qc HB hw145_3), (qc HB hw145_4), (qc HB hw149_0), (qc HB hw149_1), (qc HB hw149_2), (qc HB hw149_3), (qc HB hw149_4)⟩ (fun hHeld => ?_)
       clear hK K
       refine norm_ (a' := ?_) ?_ ?_
       rotate_left
       · show Act.put _ (some 36) _ = _
         simp only [Act.put, sA_, sB_, sC_, i64_w, i32_w]
         rfl
       refine one_ (i := 10) (N := some 37) #[T_, T_, T_, T_, T_, T_, T_, T_, T_, T_, T_, T_, T_, T_, T_, F_, F_] rfl rfl (one_of HT_.out (by kernel_rfl)) (by decide) (fun K hK => ?_)
       refine Kd.R_append_rows_step k30 (w0 := w) w.heap.size (by rfl) (.tmp 31) (.tmp 36) 23 30 (.agg #[(.int .i64 0), (.int .i64 0), (.int .i64 0), (.int .i64 0)]) 32 rfl Tryz.underlying23 info30 rfl (by decide) (by omega) v147 t146 t150 _ _ _ (fun k_ => some k_ ≠ (v157 : Value).ownBlock ∧ some k_ ≠ (.slice Ao37 t150.length co37 : Value).ownBlock) (fun _ => False) rfl rfl ?aO ?aR (fun _ _ h => h) (fun _ h => h.elim) ?aF ?aB ?aS ?aL ?_
       (case aR => exact qC ((Kd.R_reads' HO152.out).2.2))
       (case aB => exact (qB HB))
       (case aF => exact (fun k_ hk => ⟨Kd.fresh' (Kd.R_lt (qR HO158)) k_ hk, Kd.fresh' (Kd.R_lt (qR HO152)) k_ hk⟩))
       (case aO => exact (qr (Kd.R_mono HO148.out (fun _ hk => ⟨hk.1.2, hk.2⟩))))
       (case aS => exact (bZ_ (qB HB)))
       (case aL => have := LMc27.out; omega)
       intro v154 w36 ho hb hg hat
       rw [← Ny153.out] at ho
       have n0_ := aM_ (blk_grown (g := gb128) (o := .cells #[.int .i64 a0_0, .int .i64 a0_1, .int .i64 a0_2, .int .i64 a0_3, .slice (some ad145) l0_4.length c0_4] 120 (0, 0)) qk hg (Kd.R_ne HO148.out BK128.out (by decide)))
       have n1_ := aM_ (Kd.R_after (ok := (fun k_ => some k_ ≠ (.slice Ao37 t150.length co37 : Value).ownBlock)) (qr (Kd.R_mono HO158.out (fun _ hk => ⟨hk.2, hk.1.2⟩))) hg hat)
       have n2_ := aM_ (Kd.R_after (ok := (fun k_ => some k_ ≠ (v157 : Value).ownBlock)) (qr (Kd.R_mono HO152.out (fun _ hk => ⟨hk.2, hk.1.2⟩))) hg hat)
       have n3_ := aM_ (hb)
       have n4_ := aM_ (ho)
       clear BK128 HO158 HO152 HB HO148
       have BK128 := n0_
       have HO158 := n1_
       have HO152 := n2_
       have HB := n3_
       have HO155 := n4_
       clear n0_ n1_ n2_ n3_ n4_ ho hb hg hat
       refine hK.out _ _ ⟨(kC_ BK128.out 0).trans rfl, (kC_ BK128.out 1).trans rfl, (kC_ BK128.out 2).trans rfl, (kC_ BK128.out 3).trans rfl, (kC_ BK128.out 4).trans rfl, (qc HB hw145_0), (qc HB hw145_1), (qc HB hw145_2), (qc HB hw145_3), (qc HB hw145_4), (qc HB hw149_0), (qc HB hw149_1), (qc HB hw149_2), (qc HB hw149_3), (qc HB hw149_4)⟩ (fun hHeld => ?_)
       clear hK K
       refine norm_ (a' := ?_) ?_ ?_
       rotate_left
       · show Act.put _ (some 37) _ = _
         simp only [Act.put, sA_, sB_, sC_, i64_w, i32_w]
         rfl
       exact norm_ (by simp only [putAll, Act.put, sA_, sB_, sC_]) (hCont (v147, .slice Ao37 t150.length co37, v154, v157) _ ⟨hHeld, (qr (Kd.R_mono HO152.out (fun _ hk => ⟨hk.2, hk.1⟩))), (qr (Kd.R_mono HO155.out (fun _ hk => ⟨hk.2, hk.1⟩))), (qR HO158), qk, (qB HB)⟩)
   · skip
     refine Kd.R_lit_step k30 _ 30 ?hg (N := 41) ?hd (xs := ([(⟨4, a0_0, (⟨0, 0⟩ : S28)⟩ : S30)] : List (S30))) (inner := [.int .i64 4, .int .i64 a0_0, .int .i64 0, .int .i64 0]) (ok := fun _ => True) (okp := fun _ => True) ?hr ?hp (fun _ hk => hk) trivial (Below.refl _ _) (Nat.le_refl _) (by simp) ?_; (case hd => rfl); (case hg => rfl); (case hr => first | (go_simp; done) | (go_simp; rfl)); (case hp => exact (Reps.c4 (show Kd.M k30 _ _ _ (⟨4, a0_0, (⟨0, 0⟩ : S28)⟩ : S30) [.int .i64 4, .int .i64 a0_0, .int .i64 0, .int .i64 0] from (k30_mkM _ _ _ (⟨4, a0_0, (⟨0, 0⟩ : S28)⟩ : S30) )) (Reps.none _ _)))
     intro v157 w32 ho33 hb hg_ hnew_
     clear hg_ hnew_
     (first | rw [← Ny156.out] at ho33 | (simp only [Int.reduceToNat] at ho33; rw [← Ny156.out] at ho33))
     have n0_ := aM_ (Kd.R_lower ho33 (bZ_ (qB HB)))
     have n1_ := aM_ (blk_below (g := gb128) (o := .cells #[.int .i64 a0_0, .int .i64 a0_1, .int .i64 a0_2, .int .i64 a0_3, .slice (some ad145) l0_4.length c0_4] 120 (0, 0)) qk hb)
     have n2_ := aM_ (bT_ (qB HB) hb)
     clear BK128 HB
     have HO158 := n0_
     have BK128 := n1_
     have HB := n2_
     clear n0_ n1_ n2_ hb ho33
     refine hK.out _ _ ⟨(kC_ BK128.out 0).trans rfl, (kC_ BK128.out 1).trans rfl, (kC_ BK128.out 2).trans rfl, (kC_ BK128.out 3).trans rfl, (kC_ BK128.out 4).trans rfl, (qc HB hw145_0), (qc HB hw145_1), (qc HB hw145_2), (qc HB hw145_3), (qc HB hw145_4), (qc HB hw149_0), (qc HB hw149_1), (qc HB hw149_2), (qc HB hw149_3), (qc HB hw149_4)⟩ (fun hHeld => ?_)
     clear hK K
     refine norm_ (a' := ?_) ?_ ?_
     rotate_left
     · show Act.put _ (some 41) _ = _
       simp only [Act.put, sA_, sB_, sC_, i64_w, i32_w]
       rfl
     refine one_ (i := 4) (N := some 31) #[T_, T_, T_, T_, T_, T_, T_, T_, T_, F_, F_, T_, T_, T_, T_, F_, F_] rfl rfl (one_of HT_.out (by kernel_rfl)) (by decide) (fun K hK => ?_)
     refine goes_ Tryz.func118 (by kernel_rfl) rfl #[.agg #[.int .i64 ((rd_T120 l0_4 0).f0), .int .i64 ((rd_T120 l0_4 0).f1), .int .i64 ((rd_T120 l0_4 0).f2.f0), .int .i64 ((rd_T120 l0_4 0).f2.f1), .slice A145_4 ((rd_T120 l0_4 0).f3).length c145_4]] (by rfl) rfl rfl (by (try simp only [mA_, List.map_cons, List.map_nil]); first | done | rfl | (simp only [lD_, lT_]; rfl)) ?_
     with_reducible refine (ih k (by omega) ((rd_T120 l0_4 0).f0) ((rd_T120 l0_4 0).f1) ((rd_T120 l0_4 0).f2.f0) ((rd_T120 l0_4 0).f2.f1) _ _ ((rd_T120 l0_4 0).f3) t146 _ ?side1 ?side2 A24.out).mono ?_
     (case side1 => exact qC (Kd.C_below HR145_4.out HB.out))
     (case side2 => exact HC145_4.out)
     rintro e w34 ⟨v147, rfl, ho0, hb⟩
     refine ⟨_, rfl, ?_⟩
     have n0_ := aM_ (Kd.R_elder' (qR HO158) (Kd.R_base ho0) hb)
     have n1_ := aM_ (Kd.R_lower (Kd.R_new' ho0 (Kd.R_lt (qR HO158))) (bZ_ (qB HB)))
     have n2_ := aM_ (blk_below (g := gb128) (o := .cells #[.int .i64 a0_0, .int .i64 a0_1, .int .i64 a0_2, .int .i64 a0_3, .slice (some ad145) l0_4.length c0_4] 120 (0, 0)) qk hb)
     have n3_ := aM_ (bT_ (qB HB) hb)
     clear HO158 BK128 HB
     revert n0_ n1_ n2_ n3_
     intro HO158 HO148 BK128 HB
     (try clear hb)
     (try clear hb2)
     (try clear hk)
     (try clear hi)
     (try clear ho0)
     refine hK.out _ _ ⟨(kC_ BK128.out 0).trans rfl, (kC_ BK128.out 1).trans rfl, (kC_ BK128.out 2).trans rfl, (kC_ BK128.out 3).trans rfl, (kC_ BK128.out 4).trans rfl, (qc HB hw145_0), (qc HB hw145_1), (qc HB hw145_2), (qc HB hw145_3), (qc HB hw145_4), (qc HB hw149_0), (qc HB hw149_1), (qc HB hw149_2), (qc HB hw149_3), (qc HB hw149_4)⟩ (fun hHeld => ?_)
     clear hK K
     refine norm_ (a' := ?_) ?_ ?_
     rotate_left
     · show Act.put _ (some 31) _ = _
       simp only [Act.put, sA_, sB_, sC_, i64_w, i32_w]
       rfl
     refine one_ (i := 9) (N := some 36) #[T_, T_, T_, T_, T_, T_, T_, T_, T_, T_, F_, T_, T_, T_, T_, F_, F_] rfl rfl (one_of HT_.out (by kernel_rfl)) (by decide) (fun K hK => ?_)
     refine goes_ Tryz.func118 (by kernel_rfl) rfl #[.agg #[.int .i64 ((rd_T120 l0_4 1).f0), .int .i64 ((rd_T120 l0_4 1).f1), .int .i64 ((rd_T120 l0_4 1).f2.f0), .int .i64 ((rd_T120 l0_4 1).f2.f1), .slice A149_4 ((rd_T120 l0_4 1).f3).length c149_4]] (by rfl) rfl rfl (by (try simp only [mA_, List.map_cons, List.map_nil]); first | done | rfl | (simp only [lD_, lT_]; rfl)) ?_
     with_reducible refine (ih k (by omega) ((rd_T120 l0_4 1).f0) ((rd_T120 l0_4 1).f1) ((rd_T120 l0_4 1).f2.f0) ((rd_T120 l0_4 1).f2.f1) _ _ ((rd_T120 l0_4 1).f3) t150 _ ?side1 ?side2 A26.out).mono ?_
     (case side1 => exact qC (Kd.C_below HR149_4.out HB.out))
     (case side2 => exact HC149_4.out)
     rintro e w35 ⟨v151, rfl, ho0, hb⟩
     refine ⟨_, rfl, ?_⟩
     have n0_ := aM_ (Kd.R_elder' (qR HO158) (Kd.R_base ho0) hb)
     have n1_ := aM_ (Kd.R_elder' (qR HO148) (Kd.R_base ho0) hb)
     have n2_ := aM_ (Kd.R_lower (Kd.R_new' (Kd.R_new' ho0 (Kd.R_lt (qR HO158))) (Kd.R_lt (qR HO148))) (bZ_ (qB HB)))
     have n3_ := aM_ (blk_below (g := gb128) (o := .cells #[.int .i64 a0_0, .int .i64 a0_1, .int .i64 a0_2, .int .i64 a0_3, .slice (some ad145) l0_4.length c0_4] 120 (0, 0)) qk hb)
     have n4_ := aM_ (bT_ (qB HB) hb)
     clear HO158 HO148 BK128 HB
     revert n0_ n1_ n2_ n3_ n4_
     intro HO158 HO148 HO152 BK128 HB
     (try clear hb)
     (try clear hb2)
     (try clear hk)
     (try clear hi)
     (try clear ho0)
     obtain ⟨Ao37, co37, eo37⟩ := Kd.R_slice HO152.out
     (first | subst eo37 | (injection eo37 with f1_ f2_ f3_; have f4_ := f1_.symm; have f5_ := f3_.symm; clear f1_ f2_ f3_; subst f4_; subst f5_))
     refine hK.out _ _ ⟨(kC_ BK128.out 0).trans rfl, (kC_ BK128.out 1).trans rfl, (kC_ BK128.out 2).trans rfl, (kC_ BK128.out 3).trans rfl, (kC_ BK128.out 4).trans rfl, (qc HB hw145_0), (qc HB hw145_1), (qc HB hw145_2), (qc HB hw145_3), (qc HB hw145_4), (qc HB hw149_0), (qc HB hw149_1), (qc HB hw149_2), (qc HB hw149_3), (qc HB hw149_4)⟩ (fun hHeld => ?_)
     clear hK K
     refine norm_ (a' := ?_) ?_ ?_
     rotate_left
     · show Act.put _ (some 36) _ = _
       simp only [Act.put, sA_, sB_, sC_, i64_w, i32_w]
       rfl
     refine one_ (i := 10) (N := some 37) #[T_, T_, T_, T_, T_, T_, T_, T_, T_, T_, T_, T_, T_, T_, T_, F_, F_] rfl rfl (one_of HT_.out (by kernel_rfl)) (by decide) (fun K hK => ?_)
     refine Kd.R_append_rows_step k30 (w0 := w) w.heap.size (by rfl) (.tmp 31) (.tmp 36) 23 30 (.agg #[(.int .i64 0), (.int .i64 0), (.int .i64 0), (.int .i64 0)]) 32 rfl Tryz.underlying23 info30 rfl (by decide) (by omega) v147 t146 t150 _ _ _ (fun k_ => some k_ ≠ (v157 : Value).ownBlock ∧ some k_ ≠ (.slice Ao37 t150.length co37 : Value).ownBlock) (fun _ => False) rfl rfl ?aO ?aR (fun _ _ h => h) (fun _ h => h.elim) ?aF ?aB ?aS ?aL ?_
     (case aR => exact qC ((Kd.R_reads' HO152.out).2.2))
     (case aB => exact (qB HB))
     (case aF => exact (fun k_ hk => ⟨Kd.fresh' (Kd.R_lt (qR HO158)) k_ hk, Kd.fresh' (Kd.R_lt (qR HO152)) k_ hk⟩))
     (case aO => exact (qr (Kd.R_mono HO148.out (fun _ hk => ⟨hk.1.2, hk.2⟩))))
     (case aS => exact (bZ_ (qB HB)))
     (case aL => have := LMc27.out; omega)
     intro v154 w36 ho hb hg hat
     rw [← Ny153.out] at ho
     have n0_ := aM_ (blk_grown (g := gb128) (o := .cells #[.int .i64 a0_0, .int .i64 a0_1, .int .i64 a0_2, .int .i64 a0_3, .slice (some ad145) l0_4.length c0_4] 120 (0, 0)) qk hg (Kd.R_ne HO148.out BK128.out (by decide)))
     have n1_ := aM_ (Kd.R_after (ok := (fun k_ => some k_ ≠ (.slice Ao37 t150.length co37 : Value).ownBlock)) (qr (Kd.R_mono HO158.out (fun _ hk => ⟨hk.2, hk.1.2⟩))) hg hat)
     have n2_ := aM_ (Kd.R_after (ok := (fun k_ => some k_ ≠ (v157 : Value).ownBlock)) (qr (Kd.R_mono HO152.out (fun _ hk => ⟨hk.1.2, hk.2⟩))) hg hat)
     have n3_ := aM_ (hb)
     have n4_ := aM_ (ho)
     clear BK128 HO158 HO152 HB HO148
     have BK128 := n0_
     have HO158 := n1_
     have HO152 := n2_
     have HB := n3_
     have HO155 := n4_
     clear n0_ n1_ n2_ n3_ n4_ ho hb hg hat
     refine hK.out _ _ ⟨(kC_ BK128.out 0).trans rfl, (kC_ BK128.out 1).trans rfl, (kC_ BK128.out 2).trans rfl, (kC_ BK128.out 3).trans rfl, (kC_ BK128.out 4).trans rfl, (qc HB hw145_0), (qc HB hw145_1), (qc HB hw145_2), (qc HB hw145_3), (qc HB hw145_4), (qc HB hw149_0), (qc HB hw149_1), (qc HB hw149_2), (qc HB hw149_3), (qc HB hw149_4)⟩ (fun hHeld => ?_)
     clear hK K
     refine norm_ (a' := ?_) ?_ ?_
     rotate_left
     · show Act.put _ (some 37) _ = _
       simp only [Act.put, sA_, sB_, sC_, i64_w, i32_w]
       rfl
     exact norm_ (by simp only [putAll, Act.put, sA_, sB_, sC_]) (hCont (v147, .slice Ao37 t150.length co37, v154, v157) _ ⟨hHeld, (qr (Kd.R_mono HO152.out (fun _ hk => ⟨hk.2, hk.1⟩))), (qr (Kd.R_mono HO155.out (fun _ hk => ⟨hk.2, hk.1⟩))), (qR HO158), qk, (qB HB)⟩)
 rintro ⟨v147, v151, v154, v157⟩ w38 ⟨hS_, h0_, h1_, h2_, h3_, h4_⟩
 have n0_ : Aside0 (Kd.R k30 30 w38 w.heap.size (fun k_ => some k_ ≠ (v154 : Value).ownBlock ∧ some k_ ≠ (v157 : Value).ownBlock) v151 t150) := ⟨h0_⟩
 have n1_ : Aside0 (Kd.R k30 30 w38 w.heap.size (fun k_ => some k_ ≠ (v151 : Value).ownBlock ∧ some k_ ≠ (v157 : Value).ownBlock) v154 y153) := ⟨h1_⟩
 have n2_ : Aside0 (Kd.R k30 30 w38 w.heap.size (fun k_ => some k_ ≠ (v151 : Value).ownBlock ∧ some k_ ≠ (v154 : Value).ownBlock) v157 y156) := ⟨h2_⟩
 have n3_ : Aside0 (w38.heap[gb128]? = some (.cells #[.int .i64 a0_0, .int .i64 a0_1, .int .i64 a0_2, .int .i64 a0_3, .slice (some ad145) l0_4.length c0_4] 120 (0, 0))) := ⟨h3_⟩
 have n4_ : Aside0 (Below w.heap.size w w38) := ⟨h4_⟩
 clear BK128 HB h0_ h1_ h2_ h3_ h4_
 revert n0_ n1_ n2_ n3_ n4_
 intro HO152 HO155 HO158 BK128 HB
 have hHeld : w38.cell? ⟨gb128, 0, none⟩ = some (.int .i64 a0_0) ∧ w38.cell? ⟨gb128, 1, none⟩ = some (.int .i64 a0_1) ∧ w38.cell? ⟨gb128, 2, none⟩ = some (.int .i64 a0_2) ∧ w38.cell? ⟨gb128, 3, none⟩ = some (.int .i64 a0_3) ∧ w38.cell? ⟨gb128, 4, none⟩ = some (.slice (some ad145) l0_4.length c0_4) ∧ w38.cell? ad145 = some (.int .i64 ((rd_T120 l0_4 0).f0)) ∧ w38.cell? ⟨ad145.block, ad145.off + 1, none⟩ = some (.int .i64 ((rd_T120 l0_4 0).f1)) ∧ w38.cell? ⟨ad145.block, ad145.off + 2, none⟩ = some (.int .i64 ((rd_T120 l0_4 0).f2.f0)) ∧ w38.cell? ⟨ad145.block, ad145.off + 3, none⟩ = some (.int .i64 ((rd_T120 l0_4 0).f2.f1)) ∧ w38.cell? ⟨ad145.block, ad145.off + 4, none⟩ = some (.slice A145_4 ((rd_T120 l0_4 0).f3).length c145_4) ∧ w38.cell? ⟨ad145.block, ad145.off + 5, none⟩ = some (.int .i64 ((rd_T120 l0_4 1).f0)) ∧ w38.cell? ⟨ad145.block, ad145.off + 5 + 1, none⟩ = some (.int .i64 ((rd_T120 l0_4 1).f1)) ∧ w38.cell? ⟨ad145.block, ad145.off + 5 + 2, none⟩ = some (.int .i64 ((rd_T120 l0_4 1).f2.f0)) ∧ w38.cell? ⟨ad145.block, ad145.off + 5 + 3, none⟩ = some (.int .i64 ((rd_T120 l0_4 1).f2.f1)) ∧ w38.cell? ⟨ad145.block, ad145.off + 5 + 4, none⟩ = some (.slice A149_4 ((rd_T120 l0_4 1).f3).length c149_4) := hS_
 obtain ⟨Ao40, co40, eo40⟩ := Kd.R_slice HO158.out
 (first | subst eo40 | (injection eo40 with f1_ f2_ f3_; have f4_ := f1_.symm; have f5_ := f3_.symm; clear f1_ f2_ f3_; subst f4_; subst f5_))
 refine norm_ (a' := ?_) ?_ ?_
 rotate_left
 · simp only [putAll, Act.put, sA_, sB_, sC_]
   rfl
 refine one_ (i := 15) (N := some 42) #[T_, T_, T_, T_, T_, T_, T_, T_, T_, T_, T_, T_, T_, T_, T_, T_, F_] rfl rfl (one_of HT_.out (by kernel_rfl)) (by decide) (fun K hK => ?_)
 refine Kd.R_append_rows_step k30 (w0 := w) w.heap.size (by rfl) (.tmp 37) (.tmp 41) 23 30 (.agg #[(.int .i64 0), (.int .i64 0), (.int .i64 0), (.int .i64 0)]) 32 rfl Tryz.underlying23 info30 rfl (by decide) (by omega) v154 y153 y156 _ _ _ (fun k_ => some k_ ≠ (v151 : Value).ownBlock ∧ some k_ ≠ (.slice Ao40 y156.length co40 : Value).ownBlock) (fun _ => False) rfl rfl ?aO ?aR (fun _ _ h => h) (fun _ h => h.elim) ?aF ?aB ?aS ?aL ?_
 (case aR => exact qC ((Kd.R_reads' HO158.out).2.2))
 (case aB => exact (qB HB))
 (case aF => exact (fun k_ hk => ⟨Kd.fresh' (Kd.R_lt (qR HO152)) k_ hk, Kd.fresh' (Kd.R_lt (qR HO158)) k_ hk⟩))
 (case aO => exact (qR HO155))
 (case aS => exact (bZ_ (qB HB)))
 (case aL => have := LMc28.out; omega)
 intro v160 w39 ho hb hg hat
 rw [← Ny159.out] at ho
 have n0_ := aM_ (blk_grown (g := gb128) (o := .cells #[.int .i64 a0_0, .int .i64 a0_1, .int .i64 a0_2, .int .i64 a0_3, .slice (some ad145) l0_4.length c0_4] 120 (0, 0)) qk hg (Kd.R_ne HO155.out BK128.out (by decide)))
 have n1_ := aM_ (Kd.R_after (ok := (fun k_ => some k_ ≠ (.slice Ao40 y156.length co40 : Value).ownBlock)) (qr (Kd.R_mono HO152.out (fun _ hk => ⟨hk.2, hk.1⟩))) hg hat)
 have n2_ := aM_ (Kd.R_after (ok := (fun k_ => some k_ ≠ (v151 : Value).ownBlock)) (qR HO158) hg hat)
 have n3_ := aM_ (hb)
 have n4_ := aM_ (ho)
 clear BK128 HO152 HO158 HB HO155
 have BK128 := n0_
 have HO152 := n1_
 have HO158 := n2_
 have HB := n3_
 have HO161 := n4_
 clear n0_ n1_ n2_ n3_ n4_ ho hb hg hat
 refine hK.out _ _ ⟨(kC_ BK128.out 0).trans rfl, (kC_ BK128.out 1).trans rfl, (kC_ BK128.out 2).trans rfl, (kC_ BK128.out 3).trans rfl, (kC_ BK128.out 4).trans rfl, (qc HB hw145_0), (qc HB hw145_1), (qc HB hw145_2), (qc HB hw145_3), (qc HB hw145_4), (qc HB hw149_0), (qc HB hw149_1), (qc HB hw149_2), (qc HB hw149_3), (qc HB hw149_4)⟩ (fun hHeld => ?_)
 clear hK K
 refine norm_ (a' := ?_) ?_ ?_
 rotate_left
 · show Act.put _ (some 42) _ = _
   simp only [Act.put, sA_, sB_, sC_, i64_w, i32_w]
   rfl
 refine pure_ (i := 16) (N := some 2) (v := ?_) (a' := ?_) #[T_, T_, T_, T_, T_, T_, T_, T_, T_, T_, T_, T_, T_, T_, T_, T_, T_] rfl rfl (any_of HT_.out (by kernel_rfl)) (fun _ _ _ h => h) (Or.inl ⟨by rfl, ?_⟩) ?_ ?_
 rotate_left
 · intro w'
   go_simp
   with_reducible rfl
 rotate_left
 · simp only [Act.put, sA_, sB_, sC_, i64_w, i32_w]
   rfl
 refine done_ (done_of HT_.out (by kernel_rfl)) ?_
 try go_wp2
 go_ret
 exact ⟨_, qE, by (with_reducible repeat (first | apply rA_ | apply rN_ | apply rD_)); exact Kd.R_mono HO161.out (fun _ hk => trivial), qB HB⟩
def spec_l5One.g (F : List S122 → Int → Option (List S30)) (a0_0 : Int) (a0_1 : Int) (a0_2 : Int) (a0_3 : Int) (a0_4 : Int) (a0_5 : Int) (a0_6 : Int) (l0_7 : List (S120)) (l0_8 : List (S122)) (l0_9 : List (S122)) (a1 : Int) : Option ((List (S30))) := (spec_l5Expr.f 1000 a0_3 a0_4 a0_5 a0_6 l0_7).bind fun t398 => (if a0_0 = 1 then (if t398.length < 4398046511104 then (some (t398 ++ [(⟨3, 0, (⟨a0_1, a0_2⟩ : S28)⟩ : S30)])) else (none)) else (if a0_0 = 3 then ((F l0_8 (wrap64 (a1 + (wrap64 ((t398.length : Int) + 1))))).bind fun t404 => (if t398.length < 4398046511104 then ((some (t398 ++ [(⟨6, wrap64 ((wrap64 ((wrap64 (a1 + (wrap64 ((t398.length : Int) + 1)))) + (t404.length : Int))) + 1), (⟨0, 0⟩ : S28)⟩ : S30)] : List (S30))).bind fun y407 => (if y407.length + t404.length < 4398046511104 then ((some (y407 ++ t404 : List (S30))).bind fun y410 => (if y410.length < 4398046511104 then (some (y410 ++ [(⟨8, a1, (⟨0, 0⟩ : S28)⟩ : S30)])) else (none))) else (none))) else (none))) else ((F l0_8 (wrap64 (a1 + (wrap64 ((t398.length : Int) + 1))))).bind fun t416 => ((F l0_9 (wrap64 ((wrap64 ((wrap64 (a1 + (wrap64 ((t398.length : Int) + 1)))) + (t416.length : Int))) + 1))).bind fun t419 => (if t398.length < 4398046511104 then ((some (t398 ++ [(⟨6, wrap64 ((wrap64 ((wrap64 (a1 + (wrap64 ((t398.length : Int) + 1)))) + (t416.length : Int))) + 1), (⟨0, 0⟩ : S28)⟩ : S30)] : List (S30))).bind fun y422 => (if y422.length + t416.length < 4398046511104 then ((some (y422 ++ t416 : List (S30))).bind fun y425 => (if y425.length < 4398046511104 then ((some (y425 ++ [(⟨7, wrap64 ((wrap64 ((wrap64 ((wrap64 (a1 + (wrap64 ((t398.length : Int) + 1)))) + (t416.length : Int))) + 1)) + (t419.length : Int)), (⟨0, 0⟩ : S28)⟩ : S30)] : List (S30))).bind fun y428 => (if y428.length + t419.length < 4398046511104 then (some (y428 ++ t419)) else (none))) else (none))) else (none))) else (none))))))
set_option maxHeartbeats 8000000 in
set_option maxRecDepth 100000 in
theorem spec_l5One.callsG (F : List S122 → Int → Option (List S30)) (hF : ∀ (A0 : Option Addr) (c0 : Nat) (l0 : List (S122)) (a1 : Int) (r : List (S30)) (w : World) (hr0 : Kd.C k122 w A0 l0.length l0) (hc0 : l0.length ≤ c0) (h : F l0 a1 = some r), Calls Tryz.prog 56 #[.slice A0 l0.length c0, .int .i64 a1] w fun e w' => ∃ v0_ : Value, e = .returned (v0_) ∧ Kd.R k30 30 w' w.heap.size (fun _ => True) v0_ r ∧ Below w.heap.size w w') (a0_0 : Int) (a0_1 : Int) (a0_2 : Int) (a0_3 : Int) (a0_4 : Int) (a0_5 : Int) (a0_6 : Int) (A0_7 : Option Addr) (c0_7 : Nat) (l0_7 : List (S120)) (A0_8 : Option Addr) (c0_8 : Nat) (l0_8 : List (S122)) (A0_9 : Option Addr) (c0_9 : Nat) (l0_9 : List (S122)) (a1 : Int) (r : List (S30)) (w : World) (hr0_7 : Kd.C k120 w A0_7 l0_7.length l0_7) (hc0_7 : l0_7.length ≤ c0_7) (hr0_8 : Kd.C k122 w A0_8 l0_8.length l0_8) (hc0_8 : l0_8.length ≤ c0_8) (hr0_9 : Kd.C k122 w A0_9 l0_9.length l0_9) (hc0_9 : l0_9.length ≤ c0_9) (h : spec_l5One.g F a0_0 a0_1 a0_2 a0_3 a0_4 a0_5 a0_6 l0_7 l0_8 l0_9 a1 = some r) :
    Calls Tryz.prog 83 #[.agg #[.int .i64 a0_0, .int .i64 a0_1, .int .i64 a0_2, .int .i64 a0_3, .int .i64 a0_4, .int .i64 a0_5, .int .i64 a0_6, .slice A0_7 l0_7.length c0_7, .slice A0_8 l0_8.length c0_8, .slice A0_9 l0_9.length c0_9], .int .i64 a1] w fun e w' => ∃ v0_ : Value, e = .returned (v0_) ∧ Kd.R k30 30 w' w.heap.size (fun _ => True) v0_ r ∧ Below w.heap.size w w' := by
  have hu122 := Tryz.underlying122
  have hu120 := Tryz.underlying120
  have hu28 := Tryz.underlying28
  have hu30 := Tryz.underlying30
  have HR0_7 := aM_ hr0_7
  have HC0_7 := aM_ hc0_7
  clear hr0_7 hc0_7
  have HR0_8 := aM_ hr0_8
  have HC0_8 := aM_ hc0_8
  clear hr0_8 hc0_8
  have HR0_9 := aM_ hr0_9
  have HC0_9 := aM_ hc0_9
  clear hr0_9 hc0_9
  have HB := aM_ (Below.refl w.heap.size w)
  have H : ((spec_l5Expr.f 1000 a0_3 a0_4 a0_5 a0_6 l0_7).bind fun t398 => (if a0_0 = 1 then (if t398.length < 4398046511104 then (some (t398 ++ [(⟨3, 0, (⟨a0_1, a0_2⟩ : S28)⟩ : S30)])) else (none)) else (if a0_0 = 3 then ((F l0_8 (wrap64 (a1 + (wrap64 ((t398.length : Int) + 1))))).bind fun t404 => (if t398.length < 4398046511104 then ((some (t398 ++ [(⟨6, wrap64 ((wrap64 ((wrap64 (a1 + (wrap64 ((t398.length : Int) + 1)))) + (t404.length : Int))) + 1), (⟨0, 0⟩ : S28)⟩ : S30)] : List (S30))).bind fun y407 => (if y407.length + t404.length < 4398046511104 then ((some (y407 ++ t404 : List (S30))).bind fun y410 => (if y410.length < 4398046511104 then (some (y410 ++ [(⟨8, a1, (⟨0, 0⟩ : S28)⟩ : S30)])) else (none))) else (none))) else (none))) else ((F l0_8 (wrap64 (a1 + (wrap64 ((t398.length : Int) + 1))))).bind fun t416 => ((F l0_9 (wrap64 ((wrap64 ((wrap64 (a1 + (wrap64 ((t398.length : Int) + 1)))) + (t416.length : Int))) + 1))).bind fun t419 => (if t398.length < 4398046511104 then ((some (t398 ++ [(⟨6, wrap64 ((wrap64 ((wrap64 (a1 + (wrap64 ((t398.length : Int) + 1)))) + (t416.length : Int))) + 1), (⟨0, 0⟩ : S28)⟩ : S30)] : List (S30))).bind fun y422 => (if y422.length + t416.length < 4398046511104 then ((some (y422 ++ t416 : List (S30))).bind fun y425 => (if y425.length < 4398046511104 then ((some (y425 ++ [(⟨7, wrap64 ((wrap64 ((wrap64 ((wrap64 (a1 + (wrap64 ((t398.length : Int) + 1)))) + (t416.length : Int))) + 1)) + (t419.length : Int)), (⟨0, 0⟩ : S28)⟩ : S30)] : List (S30))).bind fun y428 => (if y428.length + t419.length < 4398046511104 then (some (y428 ++ t419)) else (none))) else (none))) else (none))) else (none))))))) = some r := h
  clear h
  replace H := oB_ H
  obtain ⟨t398, A30, H⟩ := H
  replace H : (if a0_0 = 1 then (if t398.length < 4398046511104 then (some (t398 ++ [(⟨3, 0, (⟨a0_1, a0_2⟩ : S28)⟩ : S30)])) else (none)) else (if a0_0 = 3 then ((F l0_8 (wrap64 (a1 + (wrap64 ((t398.length : Int) + 1))))).bind fun t404 => (if t398.length < 4398046511104 then ((some (t398 ++ [(⟨6, wrap64 ((wrap64 ((wrap64 (a1 + (wrap64 ((t398.length : Int) + 1)))) + (t404.length : Int))) + 1), (⟨0, 0⟩ : S28)⟩ : S30)] : List (S30))).bind fun y407 => (if y407.length + t404.length < 4398046511104 then ((some (y407 ++ t404 : List (S30))).bind fun y410 => (if y410.length < 4398046511104 then (some (y410 ++ [(⟨8, a1, (⟨0, 0⟩ : S28)⟩ : S30)])) else (none))) else (none))) else (none))) else ((F l0_8 (wrap64 (a1 + (wrap64 ((t398.length : Int) + 1))))).bind fun t416 => ((F l0_9 (wrap64 ((wrap64 ((wrap64 (a1 + (wrap64 ((t398.length : Int) + 1)))) + (t416.length : Int))) + 1))).bind fun t419 => (if t398.length < 4398046511104 then ((some (t398 ++ [(⟨6, wrap64 ((wrap64 ((wrap64 (a1 + (wrap64 ((t398.length : Int) + 1)))) + (t416.length : Int))) + 1), (⟨0, 0⟩ : S28)⟩ : S30)] : List (S30))).bind fun y422 => (if y422.length + t416.length < 4398046511104 then ((some (y422 ++ t416 : List (S30))).bind fun y425 => (if y425.length < 4398046511104 then ((some (y425 ++ [(⟨7, wrap64 ((wrap64 ((wrap64 ((wrap64 (a1 + (wrap64 ((t398.length : Int) + 1)))) + (t416.length : Int))) + 1)) + (t419.length : Int)), (⟨0, 0⟩ : S28)⟩ : S30)] : List (S30))).bind fun y428 => (if y428.length + t419.length < 4398046511104 then (some (y428 ++ t419)) else (none))) else (none))) else (none))) else (none)))))) = some r := H
  have A3 := aM_ A30
  clear A30
  by_cases c4 : a0_0 = 1
  · rw [if_pos c4] at H
    have c4b0 : (a0_0 == 1) = true := beq_iff_eq.mpr c4
    have c4b1 : (a0_0 != 1) = false := bne_eq_false_iff_eq.mpr c4
    clear c4
    by_cases c5 : t398.length < 4398046511104
    · rw [if_pos c5] at H
      have LMc5 := aM_ c5
      clear c5
      obtain ⟨y401, hy401⟩ : ∃ y_ : List (S30), y_ = (t398 ++ [(⟨3, 0, (⟨a0_1, a0_2⟩ : S28)⟩ : S30)]) := ⟨_, rfl⟩
      replace H : (some y401) = some r := by first | (rw [hy401]; with_reducible exact H) | (have H2_ := (Option.bind_some _ _).symm.trans H; rw [hy401]; with_reducible exact H2_) | (have H2_ := (Option.bind_some _ _).symm.trans H; with_reducible exact H2_) | with_reducible exact H | (rw [hy401]; exact H) | exact H
      have Ny401 := aM_ hy401
      clear hy401
      obtain rfl := oI_ H
      go_enter Tryz.func83, Tryz.ntmps83
      go_wp2_with (first | ((with_reducible refine gate_dst (N := 2) rfl ?_); refine box_event ?hg (N := 2) ?hd (cs := #[.int .i64 a0_0, .int .i64 a0_1, .int .i64 a0_2, .int .i64 a0_3, .int .i64 a0_4, .int .i64 a0_5, .int .i64 a0_6, .slice A0_7 l0_7.length c0_7, .slice A0_8 l0_8.length c0_8, .slice A0_9 l0_9.length c0_9]) (t := 122) ?hr ?_; (case hd => rfl); (case hg => rfl); (case hr => first | (go_simp; done) | (go_simp; rfl)); intro gb397 hg w6 hbox hb; have n0_ := aM_ (bT_ (qB HB) hb); have n1_ := aM_ (hbox); have n2_ := aM_ ((by rw [hg]; exact (bZ_ (qB HB)) : w.heap.size ≤ gb397)); have n3_ := aM_ ((by rw [hg]; exact (bZ_ (qB HB)) : w.heap.size ≤ gb397)); clear HB; have HB := n0_; have BK397 := n1_; have GW397 := n2_; have GE397 := n3_; clear n0_ n1_ n2_ n3_ hb hbox hg; (obtain ⟨hcz7_0, hcz7_1, hcz7_2, hcz7_3, hcz7_4, hcz7_5, hcz7_6, hcz7_7, hcz7_8, hcz7_9⟩ := cells10 BK397.out); (obtain ⟨hfz7_0, hfz7_1, hfz7_2, hfz7_3, hfz7_4, hfz7_5, hfz7_6, hfz7_7, hfz7_8, hfz7_9⟩ := frozen10 BK397.out)) | ((with_reducible refine gate_callee (f := 118) rfl ?_); refine goesL_ (some 12) rfl rfl Tryz.func118 (by kernel_rfl) rfl #[.agg #[.int .i64 a0_3, .int .i64 a0_4, .int .i64 a0_5, .int .i64 a0_6, .slice A0_7 l0_7.length c0_7]] rfl (by (try simp only [mA_, List.map_cons, List.map_nil]); first | done | rfl | (simp only [lD_, lT_]; rfl)) ?_; (with_reducible refine (spec_l5Expr.calls 1000 a0_3 a0_4 a0_5 a0_6 _ _ l0_7 t398 _ ?side1 ?side2 A3.out).mono ?_); (case side1 => exact qC (Kd.C_below HR0_7.out HB.out)); (case side2 => exact HC0_7.out); rintro e w8 ⟨v399, rfl, ho0, hb⟩; refine ⟨_, rfl, ?_⟩; have n0_ := aM_ (Kd.R_lower ho0 (bZ_ (qB HB))); have n1_ := aM_ (blk_below (g := gb397) (o := .cells #[.int .i64 a0_0, .int .i64 a0_1, .int .i64 a0_2, .int .i64 a0_3, .int .i64 a0_4, .int .i64 a0_5, .int .i64 a0_6, .slice A0_7 l0_7.length c0_7, .slice A0_8 l0_8.length c0_8, .slice A0_9 l0_9.length c0_9] 122 (0, 0)) qk hb); have n2_ := aM_ (bT_ (qB HB) hb); clear BK397 HB; revert n0_ n1_ n2_; intro HO400 BK397 HB; (try clear hb); (try clear hb2); (try clear hk); (try clear hi); (try clear ho0); (obtain ⟨hcz9_0, hcz9_1, hcz9_2, hcz9_3, hcz9_4, hcz9_5, hcz9_6, hcz9_7, hcz9_8, hcz9_9⟩ := cells10 BK397.out); (obtain ⟨hfz9_0, hfz9_1, hfz9_2, hfz9_3, hfz9_4, hfz9_5, hfz9_6, hfz9_7, hfz9_8, hfz9_9⟩ := frozen10 BK397.out)) | ((with_reducible refine gate_builtin (b := .append) (xs := #[.tmp 16, .tmp 20]) rfl ?_); at_builtin; refine Kd.R_append k30 (w0 := w) w.heap.size rfl (.tmp 16) (.tmp 20) 23 30 (.agg #[(.int .i64 0), (.int .i64 0), (.int .i64 0), (.int .i64 0)]) 32 rfl Tryz.underlying23 info30 rfl (by decide) (by omega) v399 t398 (⟨3, 0, (⟨a0_1, a0_2⟩ : S28)⟩ : S30) [.int .i64 3, .int .i64 0, .int .i64 a0_1, .int .i64 a0_2] (fun _ => True) (fun _ => False) rfl rfl ?aP (fun _ hk => hk.elim) ?aF ?aO ?aB ?aS ?aL ?_; (case aP => exact k30_mkM _ _ _ (⟨3, 0, (⟨a0_1, a0_2⟩ : S28)⟩ : S30)); (case aB => exact (qB HB)); (case aF => exact (fun _ _ => trivial)); (case aO => exact (qR HO400)); (case aS => exact (bZ_ (qB HB))); (case aL => have := LMc5.out; omega); intro v402 w10 ho hb hg hat; rw [← Ny401.out] at ho; have n0_ := aM_ (blk_grown (g := gb397) (o := .cells #[.int .i64 a0_0, .int .i64 a0_1, .int .i64 a0_2, .int .i64 a0_3, .int .i64 a0_4, .int .i64 a0_5, .int .i64 a0_6, .slice A0_7 l0_7.length c0_7, .slice A0_8 l0_8.length c0_8, .slice A0_9 l0_9.length c0_9] 122 (0, 0)) qk hg (Kd.R_ne HO400.out BK397.out (by decide))); have n1_ := aM_ (hb); have n2_ := aM_ (ho); clear BK397 HB HO400; have BK397 := n0_; have HB := n1_; have HO403 := n2_; clear n0_ n1_ n2_ ho hb hg hat))
      go_ret
      exact ⟨_, qE, by (with_reducible repeat (first | apply rA_ | apply rN_ | apply rD_)); exact HO403.out, qB HB⟩
    · rw [if_neg c5] at H
      exact absurd H (by simp)
  · rw [if_neg c4] at H
    have c4b0 : (a0_0 == 1) = false := beq_eq_false_iff_ne.mpr c4
    have c4b1 : (a0_0 != 1) = true := bne_iff_ne.mpr c4
    by_cases c11 : a0_0 = 3
    · rw [if_pos c11] at H
      have c11b0 : (a0_0 == 3) = true := beq_iff_eq.mpr c11
      have c11b1 : (a0_0 != 3) = false := bne_eq_false_iff_eq.mpr c11
      clear c11
      replace H := oB_ H
      obtain ⟨t404, A120, H⟩ := H
      replace H : (if t398.length < 4398046511104 then ((some (t398 ++ [(⟨6, wrap64 ((wrap64 ((wrap64 (a1 + (wrap64 ((t398.length : Int) + 1)))) + (t404.length : Int))) + 1), (⟨0, 0⟩ : S28)⟩ : S30)] : List (S30))).bind fun y407 => (if y407.length + t404.length < 4398046511104 then ((some (y407 ++ t404 : List (S30))).bind fun y410 => (if y410.length < 4398046511104 then (some (y410 ++ [(⟨8, a1, (⟨0, 0⟩ : S28)⟩ : S30)])) else (none))) else (none))) else (none)) = some r := H
      have A12 := aM_ A120
      clear A120
      by_cases c13 : t398.length < 4398046511104
      · rw [if_pos c13] at H
        have LMc13 := aM_ c13
        clear c13
        obtain ⟨y407, hy407⟩ : ∃ y_ : List (S30), y_ = (t398 ++ [(⟨6, wrap64 ((wrap64 ((wrap64 (a1 + (wrap64 ((t398.length : Int) + 1)))) + (t404.length : Int))) + 1), (⟨0, 0⟩ : S28)⟩ : S30)]) := ⟨_, rfl⟩
        replace H : (if y407.length + t404.length < 4398046511104 then ((some (y407 ++ t404 : List (S30))).bind fun y410 => (if y410.length < 4398046511104 then (some (y410 ++ [(⟨8, a1, (⟨0, 0⟩ : S28)⟩ : S30)])) else (none))) else (none)) = some r := by first | (rw [hy407]; with_reducible exact H) | (have H2_ := (Option.bind_some _ _).symm.trans H; rw [hy407]; with_reducible exact H2_) | (have H2_ := (Option.bind_some _ _).symm.trans H; with_reducible exact H2_) | with_reducible exact H | (rw [hy407]; exact H) | exact H
        have Ny407 := aM_ hy407
        clear hy407
        by_cases c14 : y407.length + t404.length < 4398046511104
        · rw [if_pos c14] at H
          have LMc14 := aM_ c14
          clear c14
          obtain ⟨y410, hy410⟩ : ∃ y_ : List (S30), y_ = (y407 ++ t404) := ⟨_, rfl⟩
          replace H : (if y410.length < 4398046511104 then (some (y410 ++ [(⟨8, a1, (⟨0, 0⟩ : S28)⟩ : S30)])) else (none)) = some r := by first | (rw [hy410]; with_reducible exact H) | (have H2_ := (Option.bind_some _ _).symm.trans H; rw [hy410]; with_reducible exact H2_) | (have H2_ := (Option.bind_some _ _).symm.trans H; with_reducible exact H2_) | with_reducible exact H | (rw [hy410]; exact H) | exact H
          have Ny410 := aM_ hy410
          clear hy410
          by_cases c15 : y410.length < 4398046511104
          · rw [if_pos c15] at H
            have LMc15 := aM_ c15
            clear c15
            obtain ⟨y413, hy413⟩ : ∃ y_ : List (S30), y_ = (y410 ++ [(⟨8, a1, (⟨0, 0⟩ : S28)⟩ : S30)]) := ⟨_, rfl⟩
            replace H : (some y413) = some r := by first | (rw [hy413]; with_reducible exact H) | (have H2_ := (Option.bind_some _ _).symm.trans H; rw [hy413]; with_reducible exact H2_) | (have H2_ := (Option.bind_some _ _).symm.trans H; with_reducible exact H2_) | with_reducible exact H | (rw [hy413]; exact H) | exact H
            have Ny413 := aM_ hy413
            clear hy413
            obtain rfl := oI_ H
            go_enter Tryz.func83, Tryz.ntmps83
            go_wp2_with (first | ((with_reducible refine gate_dst (N := 2) rfl ?_); refine box_event ?hg (N := 2) ?hd (cs := #[.int .i64 a0_0, .int .i64 a0_1, .int .i64 a0_2, .int .i64 a0_3, .int .i64 a0_4, .int .i64 a0_5, .int .i64 a0_6, .slice A0_7 l0_7.length c0_7, .slice A0_8 l0_8.length c0_8, .slice A0_9 l0_9.length c0_9]) (t := 122) ?hr ?_; (case hd => rfl); (case hg => rfl); (case hr => first | (go_simp; done) | (go_simp; rfl)); intro gb397 hg w16 hbox hb; have n0_ := aM_ (bT_ (qB HB) hb); have n1_ := aM_ (hbox); have n2_ := aM_ ((by rw [hg]; exact (bZ_ (qB HB)) : w.heap.size ≤ gb397)); have n3_ := aM_ ((by rw [hg]; exact (bZ_ (qB HB)) : w.heap.size ≤ gb397)); clear HB; have HB := n0_; have BK397 := n1_; have GW397 := n2_; have GE397 := n3_; clear n0_ n1_ n2_ n3_ hb hbox hg; (obtain ⟨hcz17_0, hcz17_1, hcz17_2, hcz17_3, hcz17_4, hcz17_5, hcz17_6, hcz17_7, hcz17_8, hcz17_9⟩ := cells10 BK397.out); (obtain ⟨hfz17_0, hfz17_1, hfz17_2, hfz17_3, hfz17_4, hfz17_5, hfz17_6, hfz17_7, hfz17_8, hfz17_9⟩ := frozen10 BK397.out)) | ((with_reducible refine gate_callee (f := 118) rfl ?_); refine goesL_ (some 12) rfl rfl Tryz.func118 (by kernel_rfl) rfl #[.agg #[.int .i64 a0_3, .int .i64 a0_4, .int .i64 a0_5, .int .i64 a0_6, .slice A0_7 l0_7.length c0_7]] rfl (by (try simp only [mA_, List.map_cons, List.map_nil]); first | done | rfl | (simp only [lD_, lT_]; rfl)) ?_; (with_reducible refine (spec_l5Expr.calls 1000 a0_3 a0_4 a0_5 a0_6 _ _ l0_7 t398 _ ?side1 ?side2 A3.out).mono ?_); (case side1 => exact qC (Kd.C_below HR0_7.out HB.out)); (case side2 => exact HC0_7.out); rintro e w18 ⟨v399, rfl, ho0, hb⟩; refine ⟨_, rfl, ?_⟩; have n0_ := aM_ (Kd.R_lower ho0 (bZ_ (qB HB))); have n1_ := aM_ (blk_below (g := gb397) (o := .cells #[.int .i64 a0_0, .int .i64 a0_1, .int .i64 a0_2, .int .i64 a0_3, .int .i64 a0_4, .int .i64 a0_5, .int .i64 a0_6, .slice A0_7 l0_7.length c0_7, .slice A0_8 l0_8.length c0_8, .slice A0_9 l0_9.length c0_9] 122 (0, 0)) qk hb); have n2_ := aM_ (bT_ (qB HB) hb); clear BK397 HB; revert n0_ n1_ n2_; intro HO400 BK397 HB; (try clear hb); (try clear hb2); (try clear hk); (try clear hi); (try clear ho0); (obtain ⟨hcz19_0, hcz19_1, hcz19_2, hcz19_3, hcz19_4, hcz19_5, hcz19_6, hcz19_7, hcz19_8, hcz19_9⟩ := cells10 BK397.out); (obtain ⟨hfz19_0, hfz19_1, hfz19_2, hfz19_3, hfz19_4, hfz19_5, hfz19_6, hfz19_7, hfz19_8, hfz19_9⟩ := frozen10 BK397.out); obtain ⟨Ao20, co20, eo20⟩ := Kd.R_slice HO400.out; subst eo20) | ((with_reducible refine gate_callee (f := 56) rfl ?_); refine goesL_ (some 33) rfl rfl Tryz.func56 (by kernel_rfl) rfl #[.slice A0_8 l0_8.length c0_8, .int .i64 (wrap64 (a1 + (wrap64 ((t398.length : Int) + 1))))] rfl (by (try simp only [mA_, List.map_cons, List.map_nil]); first | done | rfl | (simp only [lD_, lT_]; rfl)) ?_; (with_reducible refine (hF _ _ l0_8 (wrap64 (a1 + (wrap64 ((t398.length : Int) + 1)))) t404 _ ?side1 ?side2 A12.out).mono ?_); (case side1 => exact qC (Kd.C_below HR0_8.out HB.out)); (case side2 => exact HC0_8.out); rintro e w21 ⟨v405, rfl, ho0, hb⟩; refine ⟨_, rfl, ?_⟩; have n0_ := aM_ (Kd.R_elder' (qR HO400) (Kd.R_base ho0) hb); have n1_ := aM_ (Kd.R_lower (Kd.R_new' ho0 (Kd.R_lt (qR HO400))) (bZ_ (qB HB))); have n2_ := aM_ (blk_below (g := gb397) (o := .cells #[.int .i64 a0_0, .int .i64 a0_1, .int .i64 a0_2, .int .i64 a0_3, .int .i64 a0_4, .int .i64 a0_5, .int .i64 a0_6, .slice A0_7 l0_7.length c0_7, .slice A0_8 l0_8.length c0_8, .slice A0_9 l0_9.length c0_9] 122 (0, 0)) qk hb); have n3_ := aM_ (bT_ (qB HB) hb); clear HO400 BK397 HB; revert n0_ n1_ n2_ n3_; intro HO400 HO406 BK397 HB; (try clear hb); (try clear hb2); (try clear hk); (try clear hi); (try clear ho0); obtain ⟨Ao22, co22, eo22⟩ := Kd.R_slice HO406.out; subst eo22) | ((with_reducible refine gate_builtin (b := .append) (xs := #[.tmp 34, .tmp 43]) rfl ?_); at_builtin; refine Kd.R_append k30 (w0 := w) w.heap.size rfl (.tmp 34) (.tmp 43) 23 30 (.agg #[(.int .i64 0), (.int .i64 0), (.int .i64 0), (.int .i64 0)]) 32 rfl Tryz.underlying23 info30 rfl (by decide) (by omega) (.slice Ao20 t398.length co20) t398 (⟨6, wrap64 ((wrap64 ((wrap64 (a1 + (wrap64 ((t398.length : Int) + 1)))) + (t404.length : Int))) + 1), (⟨0, 0⟩ : S28)⟩ : S30) [.int .i64 6, .int .i64 (wrap64 ((wrap64 ((wrap64 (a1 + (wrap64 ((t398.length : Int) + 1)))) + (t404.length : Int))) + 1)), .int .i64 0, .int .i64 0] (fun k_ => some k_ ≠ (.slice Ao22 t404.length co22 : Value).ownBlock) (fun _ => False) rfl rfl ?aP (fun _ hk => hk.elim) ?aF ?aO ?aB ?aS ?aL ?_; (case aP => exact k30_mkM _ _ _ (⟨6, wrap64 ((wrap64 ((wrap64 (a1 + (wrap64 ((t398.length : Int) + 1)))) + (t404.length : Int))) + 1), (⟨0, 0⟩ : S28)⟩ : S30)); (case aB => exact (qB HB)); (case aF => exact (fun k_ hk => Kd.fresh' (Kd.R_lt (qR HO406)) k_ hk)); (case aO => exact (qr (Kd.R_mono HO400.out (fun _ hk => hk.2)))); (case aS => exact (bZ_ (qB HB))); (case aL => have := LMc13.out; omega); intro v408 w23 ho hb hg hat; rw [← Ny407.out] at ho; have n0_ := aM_ (blk_grown (g := gb397) (o := .cells #[.int .i64 a0_0, .int .i64 a0_1, .int .i64 a0_2, .int .i64 a0_3, .int .i64 a0_4, .int .i64 a0_5, .int .i64 a0_6, .slice A0_7 l0_7.length c0_7, .slice A0_8 l0_8.length c0_8, .slice A0_9 l0_9.length c0_9] 122 (0, 0)) qk hg (Kd.R_ne HO400.out BK397.out (by decide))); have n1_ := aM_ (Kd.R_after (ok := (fun _ => True)) (qR HO406) hg hat); have n2_ := aM_ (hb); have n3_ := aM_ (ho); clear BK397 HO406 HB HO400; have BK397 := n0_; have HO406 := n1_; have HB := n2_; have HO409 := n3_; clear n0_ n1_ n2_ n3_ ho hb hg hat) | ((with_reducible refine gate_builtin (b := .append) (xs := #[.tmp 45, .tmp 46]) rfl ?_); at_builtin; refine Kd.R_append_rows k30 (w0 := w) w.heap.size rfl (.tmp 45) (.tmp 46) 23 30 (.agg #[(.int .i64 0), (.int .i64 0), (.int .i64 0), (.int .i64 0)]) 32 rfl Tryz.underlying23 info30 rfl (by decide) (by omega) v408 y407 t404 _ _ _ (fun k_ => some k_ ≠ (.slice Ao22 t404.length co22 : Value).ownBlock) (fun _ => False) rfl rfl ?aO ?aR (fun _ _ h => h) (fun _ h => h.elim) ?aF ?aB ?aS ?aL ?_; (case aR => exact qC ((Kd.R_reads' HO406.out).2.2)); (case aB => exact (qB HB)); (case aF => exact (fun k_ hk => Kd.fresh' (Kd.R_lt (qR HO406)) k_ hk)); (case aO => exact (qR HO409)); (case aS => exact (bZ_ (qB HB))); (case aL => have := LMc14.out; omega); intro v411 w24 ho hb hg hat; rw [← Ny410.out] at ho; have n0_ := aM_ (blk_grown (g := gb397) (o := .cells #[.int .i64 a0_0, .int .i64 a0_1, .int .i64 a0_2, .int .i64 a0_3, .int .i64 a0_4, .int .i64 a0_5, .int .i64 a0_6, .slice A0_7 l0_7.length c0_7, .slice A0_8 l0_8.length c0_8, .slice A0_9 l0_9.length c0_9] 122 (0, 0)) qk hg (Kd.R_ne HO409.out BK397.out (by decide))); have n1_ := aM_ (Kd.R_after (ok := (fun _ => True)) (qR HO406) hg hat); have n2_ := aM_ (hb); have n3_ := aM_ (ho); clear BK397 HO406 HB HO409; have BK397 := n0_; have HO406 := n1_; have HB := n2_; have HO412 := n3_; clear n0_ n1_ n2_ n3_ ho hb hg hat) | ((with_reducible refine gate_builtin (b := .append) (xs := #[.tmp 47, .tmp 50]) rfl ?_); at_builtin; refine Kd.R_append k30 (w0 := w) w.heap.size rfl (.tmp 47) (.tmp 50) 23 30 (.agg #[(.int .i64 0), (.int .i64 0), (.int .i64 0), (.int .i64 0)]) 32 rfl Tryz.underlying23 info30 rfl (by decide) (by omega) v411 y410 (⟨8, a1, (⟨0, 0⟩ : S28)⟩ : S30) [.int .i64 8, .int .i64 a1, .int .i64 0, .int .i64 0] (fun k_ => some k_ ≠ (.slice Ao22 t404.length co22 : Value).ownBlock) (fun _ => False) rfl rfl ?aP (fun _ hk => hk.elim) ?aF ?aO ?aB ?aS ?aL ?_; (case aP => exact k30_mkM _ _ _ (⟨8, a1, (⟨0, 0⟩ : S28)⟩ : S30)); (case aB => exact (qB HB)); (case aF => exact (fun k_ hk => Kd.fresh' (Kd.R_lt (qR HO406)) k_ hk)); (case aO => exact (qR HO412)); (case aS => exact (bZ_ (qB HB))); (case aL => have := LMc15.out; omega); intro v414 w25 ho hb hg hat; rw [← Ny413.out] at ho; have n0_ := aM_ (blk_grown (g := gb397) (o := .cells #[.int .i64 a0_0, .int .i64 a0_1, .int .i64 a0_2, .int .i64 a0_3, .int .i64 a0_4, .int .i64 a0_5, .int .i64 a0_6, .slice A0_7 l0_7.length c0_7, .slice A0_8 l0_8.length c0_8, .slice A0_9 l0_9.length c0_9] 122 (0, 0)) qk hg (Kd.R_ne HO412.out BK397.out (by decide))); have n1_ := aM_ (Kd.R_after (ok := (fun _ => True)) (qR HO406) hg hat); have n2_ := aM_ (hb); have n3_ := aM_ (ho); clear BK397 HO406 HB HO412; have BK397 := n0_; have HO406 := n1_; have HB := n2_; have HO415 := n3_; clear n0_ n1_ n2_ n3_ ho hb hg hat))
            go_ret
            exact ⟨_, qE, by (with_reducible repeat (first | apply rA_ | apply rN_ | apply rD_)); exact Kd.R_mono HO415.out (fun _ hk => trivial), qB HB⟩
          · rw [if_neg c15] at H
            exact absurd H (by simp)
        · rw [if_neg c14] at H
          exact absurd H (by simp)
      · rw [if_neg c13] at H
        exact absurd H (by simp)
    · rw [if_neg c11] at H
      have c11b0 : (a0_0 == 3) = false := beq_eq_false_iff_ne.mpr c11
      have c11b1 : (a0_0 != 3) = true := bne_iff_ne.mpr c11
      replace H := oB_ H
      obtain ⟨t416, A260, H⟩ := H
      replace H : ((F l0_9 (wrap64 ((wrap64 ((wrap64 (a1 + (wrap64 ((t398.length : Int) + 1)))) + (t416.length : Int))) + 1))).bind fun t419 => (if t398.length < 4398046511104 then ((some (t398 ++ [(⟨6, wrap64 ((wrap64 ((wrap64 (a1 + (wrap64 ((t398.length : Int) + 1)))) + (t416.length : Int))) + 1), (⟨0, 0⟩ : S28)⟩ : S30)] : List (S30))).bind fun y422 => (if y422.length + t416.length < 4398046511104 then ((some (y422 ++ t416 : List (S30))).bind fun y425 => (if y425.length < 4398046511104 then ((some (y425 ++ [(⟨7, wrap64 ((wrap64 ((wrap64 ((wrap64 (a1 + (wrap64 ((t398.length : Int) + 1)))) + (t416.length : Int))) + 1)) + (t419.length : Int)), (⟨0, 0⟩ : S28)⟩ : S30)] : List (S30))).bind fun y428 => (if y428.length + t419.length < 4398046511104 then (some (y428 ++ t419)) else (none))) else (none))) else (none))) else (none))) = some r := H
      have A26 := aM_ A260
      clear A260
      replace H := oB_ H
      obtain ⟨t419, A270, H⟩ := H
      replace H : (if t398.length < 4398046511104 then ((some (t398 ++ [(⟨6, wrap64 ((wrap64 ((wrap64 (a1 + (wrap64 ((t398.length : Int) + 1)))) + (t416.length : Int))) + 1), (⟨0, 0⟩ : S28)⟩ : S30)] : List (S30))).bind fun y422 => (if y422.length + t416.length < 4398046511104 then ((some (y422 ++ t416 : List (S30))).bind fun y425 => (if y425.length < 4398046511104 then ((some (y425 ++ [(⟨7, wrap64 ((wrap64 ((wrap64 ((wrap64 (a1 + (wrap64 ((t398.length : Int) + 1)))) + (t416.length : Int))) + 1)) + (t419.length : Int)), (⟨0, 0⟩ : S28)⟩ : S30)] : List (S30))).bind fun y428 => (if y428.length + t419.length < 4398046511104 then (some (y428 ++ t419)) else (none))) else (none))) else (none))) else (none)) = some r := H
      have A27 := aM_ A270
      clear A270
      by_cases c28 : t398.length < 4398046511104
      · rw [if_pos c28] at H
        have LMc28 := aM_ c28
        clear c28
        obtain ⟨y422, hy422⟩ : ∃ y_ : List (S30), y_ = (t398 ++ [(⟨6, wrap64 ((wrap64 ((wrap64 (a1 + (wrap64 ((t398.length : Int) + 1)))) + (t416.length : Int))) + 1), (⟨0, 0⟩ : S28)⟩ : S30)]) := ⟨_, rfl⟩
        replace H : (if y422.length + t416.length < 4398046511104 then ((some (y422 ++ t416 : List (S30))).bind fun y425 => (if y425.length < 4398046511104 then ((some (y425 ++ [(⟨7, wrap64 ((wrap64 ((wrap64 ((wrap64 (a1 + (wrap64 ((t398.length : Int) + 1)))) + (t416.length : Int))) + 1)) + (t419.length : Int)), (⟨0, 0⟩ : S28)⟩ : S30)] : List (S30))).bind fun y428 => (if y428.length + t419.length < 4398046511104 then (some (y428 ++ t419)) else (none))) else (none))) else (none)) = some r := by first | (rw [hy422]; with_reducible exact H) | (have H2_ := (Option.bind_some _ _).symm.trans H; rw [hy422]; with_reducible exact H2_) | (have H2_ := (Option.bind_some _ _).symm.trans H; with_reducible exact H2_) | with_reducible exact H | (rw [hy422]; exact H) | exact H
        have Ny422 := aM_ hy422
        clear hy422
        by_cases c29 : y422.length + t416.length < 4398046511104
        · rw [if_pos c29] at H
          have LMc29 := aM_ c29
          clear c29
          obtain ⟨y425, hy425⟩ : ∃ y_ : List (S30), y_ = (y422 ++ t416) := ⟨_, rfl⟩
          replace H : (if y425.length < 4398046511104 then ((some (y425 ++ [(⟨7, wrap64 ((wrap64 ((wrap64 ((wrap64 (a1 + (wrap64 ((t398.length : Int) + 1)))) + (t416.length : Int))) + 1)) + (t419.length : Int)), (⟨0, 0⟩ : S28)⟩ : S30)] : List (S30))).bind fun y428 => (if y428.length + t419.length < 4398046511104 then (some (y428 ++ t419)) else (none))) else (none)) = some r := by first | (rw [hy425]; with_reducible exact H) | (have H2_ := (Option.bind_some _ _).symm.trans H; rw [hy425]; with_reducible exact H2_) | (have H2_ := (Option.bind_some _ _).symm.trans H; with_reducible exact H2_) | with_reducible exact H | (rw [hy425]; exact H) | exact H
          have Ny425 := aM_ hy425
          clear hy425
          by_cases c30 : y425.length < 4398046511104
          · rw [if_pos c30] at H
            have LMc30 := aM_ c30
            clear c30
            obtain ⟨y428, hy428⟩ : ∃ y_ : List (S30), y_ = (y425 ++ [(⟨7, wrap64 ((wrap64 ((wrap64 ((wrap64 (a1 + (wrap64 ((t398.length : Int) + 1)))) + (t416.length : Int))) + 1)) + (t419.length : Int)), (⟨0, 0⟩ : S28)⟩ : S30)]) := ⟨_, rfl⟩
            replace H : (if y428.length + t419.length < 4398046511104 then (some (y428 ++ t419)) else (none)) = some r := by first | (rw [hy428]; with_reducible exact H) | (have H2_ := (Option.bind_some _ _).symm.trans H; rw [hy428]; with_reducible exact H2_) | (have H2_ := (Option.bind_some _ _).symm.trans H; with_reducible exact H2_) | with_reducible exact H | (rw [hy428]; exact H) | exact H
            have Ny428 := aM_ hy428
            clear hy428
            by_cases c31 : y428.length + t419.length < 4398046511104
            · rw [if_pos c31] at H
              have LMc31 := aM_ c31
              clear c31
              obtain ⟨y431, hy431⟩ : ∃ y_ : List (S30), y_ = (y428 ++ t419) := ⟨_, rfl⟩
              replace H : (some y431) = some r := by first | (rw [hy431]; with_reducible exact H) | (have H2_ := (Option.bind_some _ _).symm.trans H; rw [hy431]; with_reducible exact H2_) | (have H2_ := (Option.bind_some _ _).symm.trans H; with_reducible exact H2_) | with_reducible exact H | (rw [hy431]; exact H) | exact H
              have Ny431 := aM_ hy431
              clear hy431
              obtain rfl := oI_ H
              go_enter Tryz.func83, Tryz.ntmps83
              go_wp2_with (first | ((with_reducible refine gate_dst (N := 2) rfl ?_); refine box_event ?hg (N := 2) ?hd (cs := #[.int .i64 a0_0, .int .i64 a0_1, .int .i64 a0_2, .int .i64 a0_3, .int .i64 a0_4, .int .i64 a0_5, .int .i64 a0_6, .slice A0_7 l0_7.length c0_7, .slice A0_8 l0_8.length c0_8, .slice A0_9 l0_9.length c0_9]) (t := 122) ?hr ?_; (case hd => rfl); (case hg => rfl); (case hr => first | (go_simp; done) | (go_simp; rfl)); intro gb397 hg w32 hbox hb; have n0_ := aM_ (bT_ (qB HB) hb); have n1_ := aM_ (hbox); have n2_ := aM_ ((by rw [hg]; exact (bZ_ (qB HB)) : w.heap.size ≤ gb397)); have n3_ := aM_ ((by rw [hg]; exact (bZ_ (qB HB)) : w.heap.size ≤ gb397)); clear HB; have HB := n0_; have BK397 := n1_; have GW397 := n2_; have GE397 := n3_; clear n0_ n1_ n2_ n3_ hb hbox hg; (obtain ⟨hcz33_0, hcz33_1, hcz33_2, hcz33_3, hcz33_4, hcz33_5, hcz33_6, hcz33_7, hcz33_8, hcz33_9⟩ := cells10 BK397.out); (obtain ⟨hfz33_0, hfz33_1, hfz33_2, hfz33_3, hfz33_4, hfz33_5, hfz33_6, hfz33_7, hfz33_8, hfz33_9⟩ := frozen10 BK397.out)) | ((with_reducible refine gate_callee (f := 118) rfl ?_); refine goesL_ (some 12) rfl rfl Tryz.func118 (by kernel_rfl) rfl #[.agg #[.int .i64 a0_3, .int .i64 a0_4, .int .i64 a0_5, .int .i64 a0_6, .slice A0_7 l0_7.length c0_7]] rfl (by (try simp only [mA_, List.map_cons, List.map_nil]); first | done | rfl | (simp only [lD_, lT_]; rfl)) ?_; (with_reducible refine (spec_l5Expr.calls 1000 a0_3 a0_4 a0_5 a0_6 _ _ l0_7 t398 _ ?side1 ?side2 A3.out).mono ?_); (case side1 => exact qC (Kd.C_below HR0_7.out HB.out)); (case side2 => exact HC0_7.out); rintro e w34 ⟨v399, rfl, ho0, hb⟩; refine ⟨_, rfl, ?_⟩; have n0_ := aM_ (Kd.R_lower ho0 (bZ_ (qB HB))); have n1_ := aM_ (blk_below (g := gb397) (o := .cells #[.int .i64 a0_0, .int .i64 a0_1, .int .i64 a0_2, .int .i64 a0_3, .int .i64 a0_4, .int .i64 a0_5, .int .i64 a0_6, .slice A0_7 l0_7.length c0_7, .slice A0_8 l0_8.length c0_8, .slice A0_9 l0_9.length c0_9] 122 (0, 0)) qk hb); have n2_ := aM_ (bT_ (qB HB) hb); clear BK397 HB; revert n0_ n1_ n2_; intro HO400 BK397 HB; (try clear hb); (try clear hb2); (try clear hk); (try clear hi); (try clear ho0); (obtain ⟨hcz35_0, hcz35_1, hcz35_2, hcz35_3, hcz35_4, hcz35_5, hcz35_6, hcz35_7, hcz35_8, hcz35_9⟩ := cells10 BK397.out); (obtain ⟨hfz35_0, hfz35_1, hfz35_2, hfz35_3, hfz35_4, hfz35_5, hfz35_6, hfz35_7, hfz35_8, hfz35_9⟩ := frozen10 BK397.out); obtain ⟨Ao36, co36, eo36⟩ := Kd.R_slice HO400.out; subst eo36) | ((with_reducible refine gate_callee (f := 56) rfl ?_); refine goesL_ (some 57) rfl rfl Tryz.func56 (by kernel_rfl) rfl #[.slice A0_8 l0_8.length c0_8, .int .i64 (wrap64 (a1 + (wrap64 ((t398.length : Int) + 1))))] rfl (by (try simp only [mA_, List.map_cons, List.map_nil]); first | done | rfl | (simp only [lD_, lT_]; rfl)) ?_; (with_reducible refine (hF _ _ l0_8 (wrap64 (a1 + (wrap64 ((t398.length : Int) + 1)))) t416 _ ?side1 ?side2 A26.out).mono ?_); (case side1 => exact qC (Kd.C_below HR0_8.out HB.out)); (case side2 => exact HC0_8.out); rintro e w37 ⟨v417, rfl, ho0, hb⟩; refine ⟨_, rfl, ?_⟩; have n0_ := aM_ (Kd.R_elder' (qR HO400) (Kd.R_base ho0) hb); have n1_ := aM_ (Kd.R_lower (Kd.R_new' ho0 (Kd.R_lt (qR HO400))) (bZ_ (qB HB))); have n2_ := aM_ (blk_below (g := gb397) (o := .cells #[.int .i64 a0_0, .int .i64 a0_1, .int .i64 a0_2, .int .i64 a0_3, .int .i64 a0_4, .int .i64 a0_5, .int .i64 a0_6, .slice A0_7 l0_7.length c0_7, .slice A0_8 l0_8.length c0_8, .slice A0_9 l0_9.length c0_9] 122 (0, 0)) qk hb); have n3_ := aM_ (bT_ (qB HB) hb); clear HO400 BK397 HB; revert n0_ n1_ n2_ n3_; intro HO400 HO418 BK397 HB; (try clear hb); (try clear hb2); (try clear hk); (try clear hi); (try clear ho0); (obtain ⟨hcz38_0, hcz38_1, hcz38_2, hcz38_3, hcz38_4, hcz38_5, hcz38_6, hcz38_7, hcz38_8, hcz38_9⟩ := cells10 BK397.out); (obtain ⟨hfz38_0, hfz38_1, hfz38_2, hfz38_3, hfz38_4, hfz38_5, hfz38_6, hfz38_7, hfz38_8, hfz38_9⟩ := frozen10 BK397.out); obtain ⟨Ao39, co39, eo39⟩ := Kd.R_slice HO418.out; subst eo39) | ((with_reducible refine gate_callee (f := 56) rfl ?_); refine goesL_ (some 67) rfl rfl Tryz.func56 (by kernel_rfl) rfl #[.slice A0_9 l0_9.length c0_9, .int .i64 (wrap64 ((wrap64 ((wrap64 (a1 + (wrap64 ((t398.length : Int) + 1)))) + (t416.length : Int))) + 1))] rfl (by (try simp only [mA_, List.map_cons, List.map_nil]); first | done | rfl | (simp only [lD_, lT_]; rfl)) ?_; (with_reducible refine (hF _ _ l0_9 (wrap64 ((wrap64 ((wrap64 (a1 + (wrap64 ((t398.length : Int) + 1)))) + (t416.length : Int))) + 1)) t419 _ ?side1 ?side2 A27.out).mono ?_); (case side1 => exact qC (Kd.C_below HR0_9.out HB.out)); (case side2 => exact HC0_9.out); rintro e w40 ⟨v420, rfl, ho0, hb⟩; refine ⟨_, rfl, ?_⟩; have n0_ := aM_ (Kd.R_elder' (qR HO400) (Kd.R_base ho0) hb); have n1_ := aM_ (Kd.R_elder' (qR HO418) (Kd.R_base ho0) hb); have n2_ := aM_ (Kd.R_lower (Kd.R_new' (Kd.R_new' ho0 (Kd.R_lt (qR HO400))) (Kd.R_lt (qR HO418))) (bZ_ (qB HB))); have n3_ := aM_ (blk_below (g := gb397) (o := .cells #[.int .i64 a0_0, .int .i64 a0_1, .int .i64 a0_2, .int .i64 a0_3, .int .i64 a0_4, .int .i64 a0_5, .int .i64 a0_6, .slice A0_7 l0_7.length c0_7, .slice A0_8 l0_8.length c0_8, .slice A0_9 l0_9.length c0_9] 122 (0, 0)) qk hb); have n4_ := aM_ (bT_ (qB HB) hb); clear HO400 HO418 BK397 HB; revert n0_ n1_ n2_ n3_ n4_; intro HO400 HO418 HO421 BK397 HB; (try clear hb); (try clear hb2); (try clear hk); (try clear hi); (try clear ho0)) | ((with_reducible refine gate_builtin (b := .append) (xs := #[.tmp 68, .tmp 77]) rfl ?_); at_builtin; refine Kd.R_append k30 (w0 := w) w.heap.size rfl (.tmp 68) (.tmp 77) 23 30 (.agg #[(.int .i64 0), (.int .i64 0), (.int .i64 0), (.int .i64 0)]) 32 rfl Tryz.underlying23 info30 rfl (by decide) (by omega) (.slice Ao36 t398.length co36) t398 (⟨6, wrap64 ((wrap64 ((wrap64 (a1 + (wrap64 ((t398.length : Int) + 1)))) + (t416.length : Int))) + 1), (⟨0, 0⟩ : S28)⟩ : S30) [.int .i64 6, .int .i64 (wrap64 ((wrap64 ((wrap64 (a1 + (wrap64 ((t398.length : Int) + 1)))) + (t416.length : Int))) + 1)), .int .i64 0, .int .i64 0] (fun k_ => some k_ ≠ (.slice Ao39 t416.length co39 : Value).ownBlock ∧ some k_ ≠ (v420 : Value).ownBlock) (fun _ => False) rfl rfl ?aP (fun _ hk => hk.elim) ?aF ?aO ?aB ?aS ?aL ?_; (case aP => exact k30_mkM _ _ _ (⟨6, wrap64 ((wrap64 ((wrap64 (a1 + (wrap64 ((t398.length : Int) + 1)))) + (t416.length : Int))) + 1), (⟨0, 0⟩ : S28)⟩ : S30)); (case aB => exact (qB HB)); (case aF => exact (fun k_ hk => ⟨Kd.fresh' (Kd.R_lt (qR HO418)) k_ hk, Kd.fresh' (Kd.R_lt (qR HO421)) k_ hk⟩)); (case aO => exact (qr (Kd.R_mono HO400.out (fun _ hk => ⟨hk.1.2, hk.2⟩)))); (case aS => exact (bZ_ (qB HB))); (case aL => have := LMc28.out; omega); intro v423 w41 ho hb hg hat; rw [← Ny422.out] at ho; have n0_ := aM_ (blk_grown (g := gb397) (o := .cells #[.int .i64 a0_0, .int .i64 a0_1, .int .i64 a0_2, .int .i64 a0_3, .int .i64 a0_4, .int .i64 a0_5, .int .i64 a0_6, .slice A0_7 l0_7.length c0_7, .slice A0_8 l0_8.length c0_8, .slice A0_9 l0_9.length c0_9] 122 (0, 0)) qk hg (Kd.R_ne HO400.out BK397.out (by decide))); have n1_ := aM_ (Kd.R_after (ok := (fun k_ => some k_ ≠ (v420 : Value).ownBlock)) (qr (Kd.R_mono HO418.out (fun _ hk => ⟨hk.2, hk.1.2⟩))) hg hat); have n2_ := aM_ (Kd.R_after (ok := (fun k_ => some k_ ≠ (.slice Ao39 t416.length co39 : Value).ownBlock)) (qr (Kd.R_mono HO421.out (fun _ hk => ⟨hk.2, hk.1.2⟩))) hg hat); have n3_ := aM_ (hb); have n4_ := aM_ (ho); clear BK397 HO418 HO421 HB HO400; have BK397 := n0_; have HO418 := n1_; have HO421 := n2_; have HB := n3_; have HO424 := n4_; clear n0_ n1_ n2_ n3_ n4_ ho hb hg hat) | ((with_reducible refine gate_builtin (b := .append) (xs := #[.tmp 79, .tmp 80]) rfl ?_); at_builtin; refine Kd.R_append_rows k30 (w0 := w) w.heap.size rfl (.tmp 79) (.tmp 80) 23 30 (.agg #[(.int .i64 0), (.int .i64 0), (.int .i64 0), (.int .i64 0)]) 32 rfl Tryz.underlying23 info30 rfl (by decide) (by omega) v423 y422 t416 _ _ _ (fun k_ => some k_ ≠ (.slice Ao39 t416.length co39 : Value).ownBlock ∧ some k_ ≠ (v420 : Value).ownBlock) (fun _ => False) rfl rfl ?aO ?aR (fun _ _ h => h) (fun _ h => h.elim) ?aF ?aB ?aS ?aL ?_; (case aR => exact qC ((Kd.R_reads' HO418.out).2.2)); (case aB => exact (qB HB)); (case aF => exact (fun k_ hk => ⟨Kd.fresh' (Kd.R_lt (qR HO418)) k_ hk, Kd.fresh' (Kd.R_lt (qR HO421)) k_ hk⟩)); (case aO => exact (qR HO424)); (case aS => exact (bZ_ (qB HB))); (case aL => have := LMc29.out; omega); intro v426 w42 ho hb hg hat; rw [← Ny425.out] at ho; have n0_ := aM_ (blk_grown (g := gb397) (o := .cells #[.int .i64 a0_0, .int .i64 a0_1, .int .i64 a0_2, .int .i64 a0_3, .int .i64 a0_4, .int .i64 a0_5, .int .i64 a0_6, .slice A0_7 l0_7.length c0_7, .slice A0_8 l0_8.length c0_8, .slice A0_9 l0_9.length c0_9] 122 (0, 0)) qk hg (Kd.R_ne HO424.out BK397.out (by decide))); have n1_ := aM_ (Kd.R_after (ok := (fun k_ => some k_ ≠ (v420 : Value).ownBlock)) (qR HO418) hg hat); have n2_ := aM_ (Kd.R_after (ok := (fun k_ => some k_ ≠ (.slice Ao39 t416.length co39 : Value).ownBlock)) (qR HO421) hg hat); have n3_ := aM_ (hb); have n4_ := aM_ (ho); clear BK397 HO418 HO421 HB HO424; have BK397 := n0_; have HO418 := n1_; have HO421 := n2_; have HB := n3_; have HO427 := n4_; clear n0_ n1_ n2_ n3_ n4_ ho hb hg hat; obtain ⟨Ao43, co43, eo43⟩ := Kd.R_slice HO421.out; subst eo43) | ((with_reducible refine gate_builtin (b := .append) (xs := #[.tmp 81, .tmp 93]) rfl ?_); at_builtin; refine Kd.R_append k30 (w0 := w) w.heap.size rfl (.tmp 81) (.tmp 93) 23 30 (.agg #[(.int .i64 0), (.int .i64 0), (.int .i64 0), (.int .i64 0)]) 32 rfl Tryz.underlying23 info30 rfl (by decide) (by omega) v426 y425 (⟨7, wrap64 ((wrap64 ((wrap64 ((wrap64 (a1 + (wrap64 ((t398.length : Int) + 1)))) + (t416.length : Int))) + 1)) + (t419.length : Int)), (⟨0, 0⟩ : S28)⟩ : S30) [.int .i64 7, .int .i64 (wrap64 ((wrap64 ((wrap64 ((wrap64 (a1 + (wrap64 ((t398.length : Int) + 1)))) + (t416.length : Int))) + 1)) + (t419.length : Int))), .int .i64 0, .int .i64 0] (fun k_ => some k_ ≠ (.slice Ao39 t416.length co39 : Value).ownBlock ∧ some k_ ≠ (.slice Ao43 t419.length co43 : Value).ownBlock) (fun _ => False) rfl rfl ?aP (fun _ hk => hk.elim) ?aF ?aO ?aB ?aS ?aL ?_; (case aP => exact k30_mkM _ _ _ (⟨7, wrap64 ((wrap64 ((wrap64 ((wrap64 (a1 + (wrap64 ((t398.length : Int) + 1)))) + (t416.length : Int))) + 1)) + (t419.length : Int)), (⟨0, 0⟩ : S28)⟩ : S30)); (case aB => exact (qB HB)); (case aF => exact (fun k_ hk => ⟨Kd.fresh' (Kd.R_lt (qR HO418)) k_ hk, Kd.fresh' (Kd.R_lt (qR HO421)) k_ hk⟩)); (case aO => exact (qR HO427)); (case aS => exact (bZ_ (qB HB))); (case aL => have := LMc30.out; omega); intro v429 w44 ho hb hg hat; rw [← Ny428.out] at ho; have n0_ := aM_ (blk_grown (g := gb397) (o := .cells #[.int .i64 a0_0, .int .i64 a0_1, .int .i64 a0_2, .int .i64 a0_3, .int .i64 a0_4, .int .i64 a0_5, .int .i64 a0_6, .slice A0_7 l0_7.length c0_7, .slice A0_8 l0_8.length c0_8, .slice A0_9 l0_9.length c0_9] 122 (0, 0)) qk hg (Kd.R_ne HO427.out BK397.out (by decide))); have n1_ := aM_ (Kd.R_after (ok := (fun k_ => some k_ ≠ (.slice Ao43 t419.length co43 : Value).ownBlock)) (qR HO418) hg hat); have n2_ := aM_ (Kd.R_after (ok := (fun k_ => some k_ ≠ (.slice Ao39 t416.length co39 : Value).ownBlock)) (qR HO421) hg hat); have n3_ := aM_ (hb); have n4_ := aM_ (ho); clear BK397 HO418 HO421 HB HO427; have BK397 := n0_; have HO418 := n1_; have HO421 := n2_; have HB := n3_; have HO430 := n4_; clear n0_ n1_ n2_ n3_ n4_ ho hb hg hat) | ((with_reducible refine gate_builtin (b := .append) (xs := #[.tmp 95, .tmp 96]) rfl ?_); at_builtin; refine Kd.R_append_rows k30 (w0 := w) w.heap.size rfl (.tmp 95) (.tmp 96) 23 30 (.agg #[(.int .i64 0), (.int .i64 0), (.int .i64 0), (.int .i64 0)]) 32 rfl Tryz.underlying23 info30 rfl (by decide) (by omega) v429 y428 t419 _ _ _ (fun k_ => some k_ ≠ (.slice Ao39 t416.length co39 : Value).ownBlock ∧ some k_ ≠ (.slice Ao43 t419.length co43 : Value).ownBlock) (fun _ => False) rfl rfl ?aO ?aR (fun _ _ h => h) (fun _ h => h.elim) ?aF ?aB ?aS ?aL ?_; (case aR => exact qC ((Kd.R_reads' HO421.out).2.2)); (case aB => exact (qB HB)); (case aF => exact (fun k_ hk => ⟨Kd.fresh' (Kd.R_lt (qR HO418)) k_ hk, Kd.fresh' (Kd.R_lt (qR HO421)) k_ hk⟩)); (case aO => exact (qR HO430)); (case aS => exact (bZ_ (qB HB))); (case aL => have := LMc31.out; omega); intro v432 w45 ho hb hg hat; rw [← Ny431.out] at ho; have n0_ := aM_ (blk_grown (g := gb397) (o := .cells #[.int .i64 a0_0, .int .i64 a0_1, .int .i64 a0_2, .int .i64 a0_3, .int .i64 a0_4, .int .i64 a0_5, .int .i64 a0_6, .slice A0_7 l0_7.length c0_7, .slice A0_8 l0_8.length c0_8, .slice A0_9 l0_9.length c0_9] 122 (0, 0)) qk hg (Kd.R_ne HO430.out BK397.out (by decide))); have n1_ := aM_ (Kd.R_after (ok := (fun k_ => some k_ ≠ (.slice Ao43 t419.length co43 : Value).ownBlock)) (qR HO418) hg hat); have n2_ := aM_ (Kd.R_after (ok := (fun k_ => some k_ ≠ (.slice Ao39 t416.length co39 : Value).ownBlock)) (qR HO421) hg hat); have n3_ := aM_ (hb); have n4_ := aM_ (ho); clear BK397 HO418 HO421 HB HO430; have BK397 := n0_; have HO418 := n1_; have HO421 := n2_; have HB := n3_; have HO433 := n4_; clear n0_ n1_ n2_ n3_ n4_ ho hb hg hat))
              go_ret
              exact ⟨_, qE, by (with_reducible repeat (first | apply rA_ | apply rN_ | apply rD_)); exact Kd.R_mono HO433.out (fun _ hk => trivial), qB HB⟩
            · rw [if_neg c31] at H
              exact absurd H (by simp)
          · rw [if_neg c30] at H
            exact absurd H (by simp)
        · rw [if_neg c29] at H
          exact absurd H (by simp)
      · rw [if_neg c28] at H
        exact absurd H (by simp)
def spec_l5Loop.l0 (G : Int → Int → Int → Int → Int → Int → Int → List (S120) → List (S122) → List (S122) → Int → Option ((List (S30)))) : Nat → List (S122) → Int → List (S30) → Int → Option ((List (S30)))
  | 0, _, _, _, _ => none
  | k + 1, x0, x1, x5, x6 => if x6 < (x0.length : Int) then (if 0 ≤ x6 then ((G ((rd_T122 x0 x6).f0) ((rd_T122 x0 x6).f1.f0) ((rd_T122 x0 x6).f1.f1) ((rd_T122 x0 x6).f2.f0) ((rd_T122 x0 x6).f2.f1) ((rd_T122 x0 x6).f2.f2.f0) ((rd_T122 x0 x6).f2.f2.f1) ((rd_T122 x0 x6).f2.f3) ((rd_T122 x0 x6).f3) ((rd_T122 x0 x6).f4) (wrap64 (x1 + (x5.length : Int)))).bind fun t166 => (if x5.length + t166.length < 4398046511104 then (spec_l5Loop.l0 G k x0 x1 (x5 ++ t166) (wrap64 (x6 + 1))) else (none))) else (none)) else (some x5)
def spec_l5Loop.f (G : Int → Int → Int → Int → Int → Int → Int → List (S120) → List (S122) → List (S122) → Int → Option ((List (S30)))) (k : Nat) (l0 : List (S122)) (a1 : Int) : Option ((List (S30))) := spec_l5Loop.l0 G k l0 a1 (([] : List (S30))) 0
set_option maxHeartbeats 8000000 in
set_option maxRecDepth 100000 in
theorem spec_l5Loop.calls (G : Int → Int → Int → Int → Int → Int → Int → List (S120) → List (S122) → List (S122) → Int → Option ((List (S30)))) (hG : ∀ (a0_0 : Int) (a0_1 : Int) (a0_2 : Int) (a0_3 : Int) (a0_4 : Int) (a0_5 : Int) (a0_6 : Int) (A0_7 : Option Addr) (c0_7 : Nat) (l0_7 : List (S120)) (A0_8 : Option Addr) (c0_8 : Nat) (l0_8 : List (S122)) (A0_9 : Option Addr) (c0_9 : Nat) (l0_9 : List (S122)) (a1 : Int) (r : List (S30)) (w : World) (hr0_7 : Kd.C k120 w A0_7 l0_7.length l0_7) (hc0_7 : l0_7.length ≤ c0_7) (hr0_8 : Kd.C k122 w A0_8 l0_8.length l0_8) (hc0_8 : l0_8.length ≤ c0_8) (hr0_9 : Kd.C k122 w A0_9 l0_9.length l0_9) (hc0_9 : l0_9.length ≤ c0_9) (h : G a0_0 a0_1 a0_2 a0_3 a0_4 a0_5 a0_6 l0_7 l0_8 l0_9 a1 = some r), Calls Tryz.prog 83 #[.agg #[.int .i64 a0_0, .int .i64 a0_1, .int .i64 a0_2, .int .i64 a0_3, .int .i64 a0_4, .int .i64 a0_5, .int .i64 a0_6, .slice A0_7 l0_7.length c0_7, .slice A0_8 l0_8.length c0_8, .slice A0_9 l0_9.length c0_9], .int .i64 a1] w fun e w' => ∃ v0_ : Value, e = .returned (v0_) ∧ Kd.R k30 30 w' w.heap.size (fun _ => True) v0_ r ∧ Below w.heap.size w w') (k : Nat) (A0 : Option Addr) (c0 : Nat) (l0 : List (S122)) (a1 : Int) (r : List (S30)) (w : World) (hr0 : Kd.C k122 w A0 l0.length l0) (hc0 : l0.length ≤ c0) (h : spec_l5Loop.f G k l0 a1 = some r) :
    Calls Tryz.prog 56 #[.slice A0 l0.length c0, .int .i64 a1] w fun e w' => ∃ v0_ : Value, e = .returned (v0_) ∧ Kd.R k30 30 w' w.heap.size (fun _ => True) v0_ r ∧ Below w.heap.size w w' := by
 have hu122 := Tryz.underlying122
 have HR0 := aM_ hr0
 have HC0 := aM_ hc0
 clear hr0 hc0
 have HB := aM_ (Below.refl w.heap.size w)
 have H : (spec_l5Loop.l0 G k l0 a1 (([] : List (S30))) 0) = some r := h
 clear h
 obtain ⟨y162, hy162⟩ : ∃ y_ : List (S30), y_ = (([] : List (S30))) := ⟨_, rfl⟩
 replace H : (spec_l5Loop.l0 G k l0 a1 y162 0) = some r := by first | (rw [hy162]; with_reducible exact H) | (have H2_ := (Option.bind_some _ _).symm.trans H; rw [hy162]; with_reducible exact H2_) | (have H2_ := (Option.bind_some _ _).symm.trans H; with_reducible exact H2_) | with_reducible exact H | (rw [hy162]; exact H) | exact H
 have Ny162 := aM_ hy162
 clear hy162
 have H' := aM_ H
 clear H
 go_enter Tryz.func56, Tryz.ntmps56
 go_wp2_with (first | ((with_reducible refine gate_dst (N := 7) rfl ?_); refine Kd.R_lit k30 _ 30 ?hg (N := 7) ?hd (xs := ([] : List (S30))) (inner := []) (ok := fun _ => True) (okp := fun _ => True) ?hr ?hp (fun _ hk => hk) trivial (Below.refl _ _) (Nat.le_refl _) (by simp) ?_; (case hd => rfl); (case hg => rfl); (case hr => first | (go_simp; done) | (go_simp; rfl)); (case hp => exact (Reps.none _ _)); intro v163 w3 ho4 hb hg_ hnew_; clear hg_ hnew_; (first | rw [← Ny162.out] at ho4 | (simp only [Int.reduceToNat] at ho4; rw [← Ny162.out] at ho4)); have n0_ := aM_ (Kd.R_lower ho4 (bZ_ (qB HB))); have n1_ := aM_ (bT_ (qB HB) hb); clear HB; have HO164 := n0_; have HB := n1_; clear n0_ n1_ hb ho4))
 go_loopg [5, 6] k (fun kq v5 v6 w' => ∃ (x5_1 : List (S30)) (x6_1 : Int), v6 = .int .i64 x6_1 ∧ Aside0 (spec_l5Loop.l0 G kq l0 a1 x5_1 x6_1 = some r) ∧ Aside0 (kq ≤ k) ∧ Aside0 (Kd.R k30 30 w' w.heap.size (fun _ => True) v5 x5_1) ∧ Aside0 (Below w.heap.size w w'))
 case atStart => exact ⟨(y162), (0), qF, H', ⟨Nat.le_refl _⟩, ⟨by (with_reducible repeat (first | apply rA_ | apply rN_ | apply rD_)); exact HO164.out⟩, ⟨qB HB⟩⟩
 case round =>
  clear H'
  try clear p2
  obtain ⟨x5_1, x6_1, rfl, HA, HK1, HO_5, HB⟩ := hrel
  cases gk with
  | zero => exact absurd HA.out (by simp [spec_l5Loop.l0])
  | succ k1 =>
   have H := HA.out
   clear HA
   simp only [spec_l5Loop.l0] at H
   by_cases c5 : x6_1 < (l0.length : Int)
   rotate_left
   · rw [if_neg c5] at H
     have c5b0 : decide (x6_1 < (l0.length : Int)) = false := dF_ c5
     clear c5
     obtain rfl := oI_ H
     go_wp2
     go_ret
     exact ⟨_, qE, by (with_reducible repeat (first | apply rA_ | apply rN_ | apply rD_)); exact HO_5.out, qB HB⟩
   rw [if_pos c5] at H
   have c5b0 : decide (x6_1 < (l0.length : Int)) = true := dT_ c5
   clear c5
   by_cases c6 : 0 ≤ x6_1
   rotate_left
   · rw [if_neg c6] at H
     exact absurd H (by simp)
   rw [if_pos c6] at H
   have c6b0 : decide (0 ≤ x6_1) = true := dT_ c6
   clear c6
   replace H := oB_ H
   obtain ⟨t166, A70, H⟩ := H
   replace H : (if x5_1.length + t166.length < 4398046511104 then (spec_l5Loop.l0 G k1 l0 a1 (x5_1 ++ t166) (wrap64 (x6_1 + 1))) else (none)) = some r := H
   have A7 := aM_ A70
   clear A70
   by_cases c8 : x5_1.length + t166.length < 4398046511104
   rotate_left
   · rw [if_neg c8] at H
     exact absurd H (by simp)
   rw [if_pos c8] at H
   have LMc8 := aM_ c8
   clear c8
   obtain ⟨y169, hy169⟩ : ∃ y_ : List (S30), y_ = (x5_1 ++ t166) := ⟨_, rfl⟩
   replace H : (spec_l5Loop.l0 G k1 l0 a1 y169 (wrap64 (x6_1 + 1))) = some r := by first | (rw [hy169]; with_reducible exact H) | (have H2_ := (Option.bind_some _ _).symm.trans H; rw [hy169]; with_reducible exact H2_) | (have H2_ := (Option.bind_some _ _).symm.trans H; with_reducible exact H2_) | with_reducible exact H | (rw [hy169]; exact H) | exact H
   have Ny169 := aM_ hy169
   clear hy169
   have H' := aM_ H
   clear H
   have p165 : 0 ≤ (x6_1 : Int) := oD_ (by first | (with_reducible assumption) | assumption)
   have q165 : x6_1 < (l0.length : Int) := oD_ (by first | (with_reducible assumption) | assumption)
   obtain ⟨ad165, A165_7, c165_7, A165_8, c165_8, A165_9, c165_9, e165, hx165_0, hx165_1, hx165_2, hx165_3, hx165_4, hx165_5, hx165_6, hx165_7, hx165_8, hx165_9, hl165_7, hi165_7, hl165_8, hi165_8, hl165_9, hi165_9⟩ := at_T122 HR0.out x6_1 p165 q165
   cases e165
   replace hx165_0 := qc HB hx165_0
   replace hx165_1 := qc HB hx165_1
   replace hx165_2 := qc HB hx165_2
   replace hx165_3 := qc HB hx165_3
   replace hx165_4 := qc HB hx165_4
   replace hx165_5 := qc HB hx165_5
   replace hx165_6 := qc HB hx165_6
   replace hx165_7 := qc HB hx165_7
   replace hx165_8 := qc HB hx165_8
   replace hx165_9 := qc HB hx165_9
   have HR165_7 := aM_ hi165_7
   have HC165_7 := aM_ hl165_7
   clear hi165_7 hl165_7
   have HR165_8 := aM_ hi165_8
   have HC165_8 := aM_ hl165_8
   clear hi165_8 hl165_8
   have HR165_9 := aM_ hi165_9
   have HC165_9 := aM_ hl165_9
   clear hi165_9 hl165_9
   replace p165 := eq_true p165
   replace q165 := eq_true q165
   obtain ⟨Ao9, co9, eo9⟩ := Kd.R_slice HO_5.out
   subst eo9
   go_wp2_with (first | ((with_reducible refine gate_callee (f := 83) rfl ?_); refine goesL_ (some 23) rfl rfl Tryz.func83 (by kernel_rfl) rfl #[.agg #[.int .i64 ((rd_T122 l0 x6_1).f0), .int .i64 ((rd_T122 l0 x6_1).f1.f0), .int .i64 ((rd_T122 l0 x6_1).f1.f1), .int .i64 ((rd_T122 l0 x6_1).f2.f0), .int .i64 ((rd_T122 l0 x6_1).f2.f1), .int .i64 ((rd_T122 l0 x6_1).f2.f2.f0), .int .i64 ((rd_T122 l0 x6_1).f2.f2.f1), .slice A165_7 ((rd_T122 l0 x6_1).f2.f3).length c165_7, .slice A165_8 ((rd_T122 l0 x6_1).f3).length c165_8, .slice A165_9 ((rd_T122 l0 x6_1).f4).length c165_9], .int .i64 (wrap64 (a1 + (x5_1.length : Int)))] rfl (by (try simp only [mA_, List.map_cons, List.map_nil]); first | done | rfl | (simp only [lD_, lT_]; rfl)) ?_; (with_reducible refine (hG ((rd_T122 l0 x6_1).f0) ((rd_T122 l0 x6_1).f1.f0) ((rd_T122 l0 x6_1).f1.f1) ((rd_T122 l0 x6_1).f2.f0) ((rd_T122 l0 x6_1).f2.f1) ((rd_T122 l0 x6_1).f2.f2.f0) ((rd_T122 l0 x6_1).f2.f2.f1) _ _ ((rd_T122 l0 x6_1).f2.f3) _ _ ((rd_T122 l0 x6_1).f3) _ _ ((rd_T122 l0 x6_1).f4) (wrap64 (a1 + (x5_1.length : Int))) t166 _ ?side1 ?side2 ?side3 ?side4 ?side5 ?side6 A7.out).mono ?_); (case side1 => exact qC (Kd.C_below HR165_7.out HB.out)); (case side2 => exact HC165_7.out); (case side3 => exact qC (Kd.C_below HR165_8.out HB.out)); (case side4 => exact HC165_8.out); (case side5 => exact qC (Kd.C_below HR165_9.out HB.out)); (case side6 => exact HC165_9.out); rintro e w10 ⟨v167, rfl, ho0, hb⟩; refine ⟨_, rfl, ?_⟩; have n0_ := aM_ (Kd.R_elder' (qR HO_5) (Kd.R_base ho0) hb); have n1_ := aM_ (Kd.R_lower (Kd.R_new' ho0 (Kd.R_lt (qR HO_5))) (bZ_ (qB HB))); have n2_ := aM_ (bT_ (qB HB) hb); clear HO_5 HB; revert n0_ n1_ n2_; intro HO_5 HO168 HB; (try clear hb); (try clear hb2); (try clear hk); (try clear hi); (try clear ho0); obtain ⟨Ao12, co12, eo12⟩ := Kd.R_slice HO168.out; subst eo12) | ((with_reducible refine gate_builtin (b := .append) (xs := #[.tmp 14, .tmp 23]) rfl ?_); at_builtin; refine Kd.R_append_rows k30 (w0 := w) w.heap.size rfl (.tmp 14) (.tmp 23) 23 30 (.agg #[(.int .i64 0), (.int .i64 0), (.int .i64 0), (.int .i64 0)]) 32 rfl Tryz.underlying23 info30 rfl (by decide) (by omega) (.slice Ao9 x5_1.length co9) x5_1 t166 _ _ _ (fun k_ => some k_ ≠ (.slice Ao12 t166.length co12 : Value).ownBlock) (fun _ => False) rfl rfl ?aO ?aR (fun _ _ h => h) (fun _ h => h.elim) ?aF ?aB ?aS ?aL ?_; (case aR => exact qC ((Kd.R_reads' HO168.out).2.2)); (case aB => exact (qB HB)); (case aF => exact (fun k_ hk => Kd.fresh' (Kd.R_lt (qR HO168)) k_ hk)); (case aO => exact (qr (Kd.R_mono HO_5.out (fun _ hk => hk.2)))); (case aS => exact (bZ_ (qB HB))); (case aL => have := LMc8.out; omega); intro v170 w11 ho hb hg hat; rw [← Ny169.out] at ho; have n0_ := aM_ (Kd.R_after (ok := (fun _ => True)) (qR HO168) hg hat); have n1_ := aM_ (hb); have n2_ := aM_ (ho); clear HO168 HB HO_5; have HO168 := n0_; have HB := n1_; have HO171 := n2_; clear n0_ n1_ n2_ ho hb hg hat))
   go_roundg k1
   case measure => have := HK1.out; omega
   case rel => exact ⟨(y169), (wrap64 (x6_1 + 1)), qF, H', ⟨by have := HK1.out; omega⟩, ⟨by (with_reducible repeat (first | apply rA_ | apply rN_ | apply rD_)); exact Kd.R_mono HO171.out (fun _ hk => trivial)⟩, ⟨qB HB⟩⟩
def spec_l5Of.deep : Nat → List S122 → Int → Option (List S30)
  | 0 => fun _ _ => none
  | n + 1 => fun l a => spec_l5Loop.f (spec_l5One.g (spec_l5Of.deep n)) 1000 l a
theorem spec_l5Of.deep_calls : ∀ (n : Nat) (A0 : Option Addr) (c0 : Nat) (l0 : List (S122)) (a1 : Int) (r : List (S30)) (w : World) (hr0 : Kd.C k122 w A0 l0.length l0) (hc0 : l0.length ≤ c0) (h : spec_l5Of.deep n l0 a1 = some r), Calls Tryz.prog 56 #[.slice A0 l0.length c0, .int .i64 a1] w fun e w' => ∃ v0_ : Value, e = .returned (v0_) ∧ Kd.R k30 30 w' w.heap.size (fun _ => True) v0_ r ∧ Below w.heap.size w w'
  | 0 => fun _ _ _ _ _ _ _ _ h => by simp [spec_l5Of.deep] at h
  | n + 1 => fun A0 c0 l0 a1 r w hr0 hc0 h => spec_l5Loop.calls _ (spec_l5One.callsG _ (spec_l5Of.deep_calls n)) 1000 A0 c0 l0 a1 r w hr0 hc0 h
def spec_l5Of.f (l0 : List (S122)) (a1 : Int) : Option ((List (S30))) := spec_l5Of.deep 10 l0 a1
set_option maxHeartbeats 8000000 in
set_option maxRecDepth 100000 in
theorem spec_l5Of.calls (A0 : Option Addr) (c0 : Nat) (l0 : List (S122)) (a1 : Int) (r : List (S30)) (w : World) (hr0 : Kd.C k122 w A0 l0.length l0) (hc0 : l0.length ≤ c0) (h : spec_l5Of.f l0 a1 = some r) :
    Calls Tryz.prog 56 #[.slice A0 l0.length c0, .int .i64 a1] w fun e w' => ∃ v0_ : Value, e = .returned (v0_) ∧ Kd.R k30 30 w' w.heap.size (fun _ => True) v0_ r ∧ Below w.heap.size w w' := by
 exact spec_l5Of.deep_calls 10 A0 c0 l0 a1 r w hr0 hc0 h
end Go.Proofs.YtjamfddhcigchaaGreatDoor.HFnCodeBent
