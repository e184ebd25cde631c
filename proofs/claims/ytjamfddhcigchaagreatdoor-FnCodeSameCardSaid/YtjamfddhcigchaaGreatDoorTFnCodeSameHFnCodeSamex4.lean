-- Made by a program of this session (hp.py) over the kit's print: functions told by hand stand beside printed ones. Lean checks it.
import Derived.Test.YtjamfddhcigchaaGreatDoorTFnCodeSameHFnCodeSamex3
namespace Go.Proofs.YtjamfddhcigchaaGreatDoor.HFnCodeSame
open Go.RowKit Go.Proofs.YtjamfddhcigchaaGreatDoorW.PrintWords Go.Proofs.YtjamfddhcigchaaGreatDoorW.PrintLast Go.Proofs.YtjamfddhcigchaaGreatDoorW.PrintMore
attribute [local go_sem] max2_int min2_int max_two min_two max_three min_three max_four min_four
set_option linter.unusedVariables false
set_option linter.unusedSimpArgs false
def spec_l5Expr.f : Nat → Int → Int → Int → Int → List (S120) → Option ((List (S30)))
  | 0, _, _, _, _, _ => none
  | k + 1, a0_0, a0_1, a0_2, a0_3, l0_4 => if a0_0 = 1 then (some (([(⟨1, a0_1, (⟨0, 0⟩ : S28)⟩ : S30)] : List (S30)))) else (if a0_0 = 2 then (some (([(⟨2, 0, (⟨a0_2, a0_3⟩ : S28)⟩ : S30)] : List (S30)))) else (if a0_0 = 10 then (if 0 < (l0_4.length : Int) then ((spec_l5Expr.f k ((rd_T120 l0_4 0).f0) ((rd_T120 l0_4 0).f1) ((rd_T120 l0_4 0).f2.f0) ((rd_T120 l0_4 0).f2.f1) ((rd_T120 l0_4 0).f3)).bind fun t115 => ((some (([(⟨5, 0, (⟨0, 0⟩ : S28)⟩ : S30)] : List (S30)) : List (S30))).bind fun y118 => (if t115.length + y118.length < 4398046511104 then (some (t115 ++ y118)) else (none)))) else (none)) else (if 0 < (l0_4.length : Int) then ((spec_l5Expr.f k ((rd_T120 l0_4 0).f0) ((rd_T120 l0_4 0).f1) ((rd_T120 l0_4 0).f2.f0) ((rd_T120 l0_4 0).f2.f1) ((rd_T120 l0_4 0).f3)).bind fun t125 => (if 1 < (l0_4.length : Int) then ((spec_l5Expr.f k ((rd_T120 l0_4 1).f0) ((rd_T120 l0_4 1).f1) ((rd_T120 l0_4 1).f2.f0) ((rd_T120 l0_4 1).f2.f1) ((rd_T120 l0_4 1).f3)).bind fun t129 => (if t125.length + t129.length < 4398046511104 then ((some (t125 ++ t129 : List (S30))).bind fun y132 => ((some (([(⟨4, a0_0, (⟨0, 0⟩ : S28)⟩ : S30)] : List (S30)) : List (S30))).bind fun y135 => (if y132.length + y135.length < 4398046511104 then (some (y132 ++ y135)) else (none)))) else (none))) else (none))) else (none))))
def spec_l5Expr.T8 : Bool × List (List Nat × List Nat) := (true, [([], []), ([0], [0]), ([1], [1]), ([2], [2]), ([3], [3]), ([], []), ([5], [5]), ([6], [6]), ([7], [7]), ([8, 4], [8]), ([4, 9, 9], [4, 9]), ([], []), ([11], [11]), ([12], [12]), ([13], [13]), ([10, 14, 10], [10, 14]), ([15, 15, 0, 1, 2, 3, 4, 5, 6, 7, 8, 9, 10, 11, 12, 13, 14, 15], [15])])
def spec_l5Expr.B8 : List Nat := [0, 1, 3, 7, 15, 0, 32, 96, 224, 511, 1023, 0, 2048, 6144, 14336, 32767, 65535]
theorem spec_l5Expr.tab8 : rtab .any (opsOf Tryz.f118 8) = spec_l5Expr.T8 := by kernel_rfl
theorem spec_l5Expr.bits8 : waitsOk spec_l5Expr.T8.2 spec_l5Expr.B8 = true := by kernel_rfl
set_option maxHeartbeats 8000000 in
set_option maxRecDepth 100000 in
theorem spec_l5Expr.calls (k : Nat) : ∀ (a0_0 : Int) (a0_1 : Int) (a0_2 : Int) (a0_3 : Int) (A0_4 : Option Addr) (c0_4 : Nat) (l0_4 : List (S120)) (r : List (S30)) (w : World) (hr0_4 : Kd.C k120 w A0_4 l0_4.length l0_4) (hc0_4 : l0_4.length ≤ c0_4) (h : spec_l5Expr.f k a0_0 a0_1 a0_2 a0_3 l0_4 = some r),
    Calls Tryz.prog 118 #[.agg #[.int .i64 a0_0, .int .i64 a0_1, .int .i64 a0_2, .int .i64 a0_3, .slice A0_4 l0_4.length c0_4]] w fun e w' => ∃ v0_ : Value, e = .returned (v0_) ∧ Kd.R k30 30 w' w.heap.size (fun _ => True) v0_ r ∧ Below w.heap.size w w' := by
 induction k using Nat.strongRecOn with
 | _ k ih =>
 intro a0_0 a0_1 a0_2 a0_3 A0_4 c0_4 l0_4 r w hr0_4 hc0_4 h
 cases k with
 | zero => exact absurd h (by simp [spec_l5Expr.f])
 | succ k =>
 simp only [spec_l5Expr.f] at h
 have hu120 := Tryz.underlying120
 have hu30 := Tryz.underlying30
 have hu28 := Tryz.underlying28
 have HR0_4 := aM_ hr0_4
 have HC0_4 := aM_ hc0_4
 clear hr0_4 hc0_4
 have HB := aM_ (Below.refl w.heap.size w)
 have H : (if a0_0 = 1 then (some (([(⟨1, a0_1, (⟨0, 0⟩ : S28)⟩ : S30)] : List (S30)))) else (if a0_0 = 2 then (some (([(⟨2, 0, (⟨a0_2, a0_3⟩ : S28)⟩ : S30)] : List (S30)))) else (if a0_0 = 10 then (if 0 < (l0_4.length : Int) then ((spec_l5Expr.f k ((rd_T120 l0_4 0).f0) ((rd_T120 l0_4 0).f1) ((rd_T120 l0_4 0).f2.f0) ((rd_T120 l0_4 0).f2.f1) ((rd_T120 l0_4 0).f3)).bind fun t115 => ((some (([(⟨5, 0, (⟨0, 0⟩ : S28)⟩ : S30)] : List (S30)) : List (S30))).bind fun y118 => (if t115.length + y118.length < 4398046511104 then (some (t115 ++ y118)) else (none)))) else (none)) else (if 0 < (l0_4.length : Int) then ((spec_l5Expr.f k ((rd_T120 l0_4 0).f0) ((rd_T120 l0_4 0).f1) ((rd_T120 l0_4 0).f2.f0) ((rd_T120 l0_4 0).f2.f1) ((rd_T120 l0_4 0).f3)).bind fun t125 => (if 1 < (l0_4.length : Int) then ((spec_l5Expr.f k ((rd_T120 l0_4 1).f0) ((rd_T120 l0_4 1).f1) ((rd_T120 l0_4 1).f2.f0) ((rd_T120 l0_4 1).f2.f1) ((rd_T120 l0_4 1).f3)).bind fun t129 => (if t125.length + t129.length < 4398046511104 then ((some (t125 ++ t129 : List (S30))).bind fun y132 => ((some (([(⟨4, a0_0, (⟨0, 0⟩ : S28)⟩ : S30)] : List (S30)) : List (S30))).bind fun y135 => (if y132.length + y135.length < 4398046511104 then (some (y132 ++ y135)) else (none)))) else (none))) else (none))) else (none))))) = some r := h
 clear h
 by_cases c2 : a0_0 = 1
 · rw [if_pos c2] at H
   have c2b0 : (a0_0 == 1) = true := beq_iff_eq.mpr c2
   have c2b1 : (a0_0 != 1) = false := bne_eq_false_iff_eq.mpr c2
   clear c2
   obtain ⟨y108, hy108⟩ : ∃ y_ : List (S30), y_ = (([(⟨1, a0_1, (⟨0, 0⟩ : S28)⟩ : S30)] : List (S30))) := ⟨_, rfl⟩
   replace H : (some y108) = some r := by subst hy108; exact H
   have Ny108 := aM_ hy108
   clear hy108
   obtain rfl := oI_ H
   go_enter Tryz.func118, Tryz.ntmps118
   go_wp2_with (first | ((with_reducible refine gate_dst (N := 1) rfl ?_); refine box_event ?hg (N := 1) ?hd (cs := #[.int .i64 a0_0, .int .i64 a0_1, .int .i64 a0_2, .int .i64 a0_3, .slice A0_4 l0_4.length c0_4]) (t := 120) ?hr ?_; (case hd => rfl); (case hg => rfl); (case hr => first | (go_simp; done) | (go_simp; rfl)); intro gb107 hg w3 hbox hb; have n0_ := aM_ (bT_ (qB HB) hb); have n1_ := aM_ (hbox); have n2_ := aM_ ((by rw [hg]; exact (bZ_ (qB HB)) : w.heap.size ≤ gb107)); have n3_ := aM_ ((by rw [hg]; exact (bZ_ (qB HB)) : w.heap.size ≤ gb107)); clear HB; have HB := n0_; have BK107 := n1_; have GW107 := n2_; have GE107 := n3_; clear n0_ n1_ n2_ n3_ hb hbox hg; (obtain ⟨hcz4_0, hcz4_1, hcz4_2, hcz4_3, hcz4_4⟩ := cells5 BK107.out); (obtain ⟨hfz4_0, hfz4_1, hfz4_2, hfz4_3, hfz4_4⟩ := frozen5 BK107.out)) | ((with_reducible refine gate_dst (N := 10) rfl ?_); refine Kd.R_lit k30 _ 30 ?hg (N := 10) ?hd (xs := ([(⟨1, a0_1, (⟨0, 0⟩ : S28)⟩ : S30)] : List (S30))) (inner := [.int .i64 1, .int .i64 a0_1, .int .i64 0, .int .i64 0]) (ok := fun _ => True) (okp := fun _ => True) ?hr ?hp (fun _ hk => hk) trivial (Below.refl _ _) (Nat.le_refl _) (by simp) ?_; (case hd => rfl); (case hg => rfl); (case hr => first | (go_simp; done) | (go_simp; rfl)); (case hp => exact (Reps.c4 (show Kd.M k30 _ _ _ (⟨1, a0_1, (⟨0, 0⟩ : S28)⟩ : S30) [.int .i64 1, .int .i64 a0_1, .int .i64 0, .int .i64 0] from (k30_mkM _ _ _ (⟨1, a0_1, (⟨0, 0⟩ : S28)⟩ : S30) )) (Reps.none _ _))); intro v109 w5 ho6 hb hg_ hnew_; clear hg_ hnew_; (first | rw [← Ny108.out] at ho6 | (simp only [Int.reduceToNat] at ho6; rw [← Ny108.out] at ho6)); have n0_ := aM_ (Kd.R_lower ho6 (bZ_ (qB HB))); have n1_ := aM_ (blk_below (g := gb107) (o := .cells #[.int .i64 a0_0, .int .i64 a0_1, .int .i64 a0_2, .int .i64 a0_3, .slice A0_4 l0_4.length c0_4] 120 (0, 0)) qk hb); have n2_ := aM_ (bT_ (qB HB) hb); clear BK107 HB; have HO110 := n0_; have BK107 := n1_; have HB := n2_; clear n0_ n1_ n2_ hb ho6))
   go_ret
   exact ⟨_, qE, by (with_reducible repeat (first | apply rA_ | apply rN_ | apply rD_)); exact HO110.out, qB HB⟩
 rw [if_neg c2] at H
 have c2b0 : (a0_0 == 1) = false := beq_eq_false_iff_ne.mpr c2
 have c2b1 : (a0_0 != 1) = true := bne_iff_ne.mpr c2
 by_cases c7 : a0_0 = 2
 · rw [if_pos c7] at H
   have c7b0 : (a0_0 == 2) = true := beq_iff_eq.mpr c7
   have c7b1 : (a0_0 != 2) = false := bne_eq_false_iff_eq.mpr c7
   clear c7
   obtain ⟨y111, hy111⟩ : ∃ y_ : List (S30), y_ = (([(⟨2, 0, (⟨a0_2, a0_3⟩ : S28)⟩ : S30)] : List (S30))) := ⟨_, rfl⟩
   replace H : (some y111) = some r := by subst hy111; exact H
   have Ny111 := aM_ hy111
   clear hy111
   obtain rfl := oI_ H
   go_enter Tryz.func118, Tryz.ntmps118
   go_wp2_with (first | ((with_reducible refine gate_dst (N := 1) rfl ?_); refine box_event ?hg (N := 1) ?hd (cs := #[.int .i64 a0_0, .int .i64 a0_1, .int .i64 a0_2, .int .i64 a0_3, .slice A0_4 l0_4.length c0_4]) (t := 120) ?hr ?_; (case hd => rfl); (case hg => rfl); (case hr => first | (go_simp; done) | (go_simp; rfl)); intro gb107 hg w8 hbox hb; have n0_ := aM_ (bT_ (qB HB) hb); have n1_ := aM_ (hbox); have n2_ := aM_ ((by rw [hg]; exact (bZ_ (qB HB)) : w.heap.size ≤ gb107)); have n3_ := aM_ ((by rw [hg]; exact (bZ_ (qB HB)) : w.heap.size ≤ gb107)); clear HB; have HB := n0_; have BK107 := n1_; have GW107 := n2_; have GE107 := n3_; clear n0_ n1_ n2_ n3_ hb hbox hg; (obtain ⟨hcz9_0, hcz9_1, hcz9_2, hcz9_3, hcz9_4⟩ := cells5 BK107.out); (obtain ⟨hfz9_0, hfz9_1, hfz9_2, hfz9_3, hfz9_4⟩ := frozen5 BK107.out)) | ((with_reducible refine gate_dst (N := 16) rfl ?_); refine Kd.R_lit k30 _ 30 ?hg (N := 16) ?hd (xs := ([(⟨2, 0, (⟨a0_2, a0_3⟩ : S28)⟩ : S30)] : List (S30))) (inner := [.int .i64 2, .int .i64 0, .int .i64 a0_2, .int .i64 a0_3]) (ok := fun _ => True) (okp := fun _ => True) ?hr ?hp (fun _ hk => hk) trivial (Below.refl _ _) (Nat.le_refl _) (by simp) ?_; (case hd => rfl); (case hg => rfl); (case hr => first | (go_simp; done) | (go_simp; rfl)); (case hp => exact (Reps.c4 (show Kd.M k30 _ _ _ (⟨2, 0, (⟨a0_2, a0_3⟩ : S28)⟩ : S30) [.int .i64 2, .int .i64 0, .int .i64 a0_2, .int .i64 a0_3] from (k30_mkM _ _ _ (⟨2, 0, (⟨a0_2, a0_3⟩ : S28)⟩ : S30) )) (Reps.none _ _))); intro v112 w10 ho11 hb hg_ hnew_; clear hg_ hnew_; (first | rw [← Ny111.out] at ho11 | (simp only [Int.reduceToNat] at ho11; rw [← Ny111.out] at ho11)); have n0_ := aM_ (Kd.R_lower ho11 (bZ_ (qB HB))); have n1_ := aM_ (blk_below (g := gb107) (o := .cells #[.int .i64 a0_0, .int .i64 a0_1, .int .i64 a0_2, .int .i64 a0_3, .slice A0_4 l0_4.length c0_4] 120 (0, 0)) qk hb); have n2_ := aM_ (bT_ (qB HB) hb); clear BK107 HB; have HO113 := n0_; have BK107 := n1_; have HB := n2_; clear n0_ n1_ n2_ hb ho11))
   go_ret
   exact ⟨_, qE, by (with_reducible repeat (first | apply rA_ | apply rN_ | apply rD_)); exact HO113.out, qB HB⟩
 rw [if_neg c7] at H
 have c7b0 : (a0_0 == 2) = false := beq_eq_false_iff_ne.mpr c7
 have c7b1 : (a0_0 != 2) = true := bne_iff_ne.mpr c7
 by_cases c12 : a0_0 = 10
 · rw [if_pos c12] at H
   have c12b0 : (a0_0 == 10) = true := beq_iff_eq.mpr c12
   have c12b1 : (a0_0 != 10) = false := bne_eq_false_iff_eq.mpr c12
   clear c12
   by_cases c13 : 0 < (l0_4.length : Int)
   rotate_left
   · rw [if_neg c13] at H
     exact absurd H (by simp)
   rw [if_pos c13] at H
   have c13b0 : decide (0 < (l0_4.length : Int)) = true := dT_ c13
   have c13b1 : decide (0 < l0_4.length) = true := dT_ (by omega)
   clear c13
   replace H := oB_ H
   obtain ⟨t115, A140, H⟩ := H
   have A14 := aM_ A140
   clear A140
   obtain ⟨y118, hy118⟩ : ∃ y_ : List (S30), y_ = (([(⟨5, 0, (⟨0, 0⟩ : S28)⟩ : S30)] : List (S30))) := ⟨_, rfl⟩
   replace H : (if t115.length + y118.length < 4398046511104 then (some (t115 ++ y118)) else (none)) = some r := by subst hy118; exact H
   have Ny118 := aM_ hy118
   clear hy118
   by_cases c15 : t115.length + y118.length < 4398046511104
   rotate_left
   · rw [if_neg c15] at H
     exact absurd H (by simp)
   rw [if_pos c15] at H
   have LMc15 := aM_ c15
   clear c15
   obtain ⟨y121, hy121⟩ : ∃ y_ : List (S30), y_ = (t115 ++ y118) := ⟨_, rfl⟩
   replace H : (some y121) = some r := by subst hy121; exact H
   have Ny121 := aM_ hy121
   clear hy121
   obtain rfl := oI_ H
   go_enter Tryz.func118, Tryz.ntmps118
   go_wp2_with (first | ((with_reducible refine gate_dst (N := 1) rfl ?_); refine box_event ?hg (N := 1) ?hd (cs := #[.int .i64 a0_0, .int .i64 a0_1, .int .i64 a0_2, .int .i64 a0_3, .slice A0_4 l0_4.length c0_4]) (t := 120) ?hr ?_; (case hd => rfl); (case hg => rfl); (case hr => first | (go_simp; done) | (go_simp; rfl)); intro gb107 hg w16 hbox hb; have n0_ := aM_ (bT_ (qB HB) hb); have n1_ := aM_ (hbox); have n2_ := aM_ ((by rw [hg]; exact (bZ_ (qB HB)) : w.heap.size ≤ gb107)); have n3_ := aM_ ((by rw [hg]; exact (bZ_ (qB HB)) : w.heap.size ≤ gb107)); clear HB; have HB := n0_; have BK107 := n1_; have GW107 := n2_; have GE107 := n3_; clear n0_ n1_ n2_ n3_ hb hbox hg; (obtain ⟨hcz17_0, hcz17_1, hcz17_2, hcz17_3, hcz17_4⟩ := cells5 BK107.out); (obtain ⟨hfz17_0, hfz17_1, hfz17_2, hfz17_3, hfz17_4⟩ := frozen5 BK107.out); have p114 : 0 ≤ (0 : Int) := (by omega); have q114 : 0 < (l0_4.length : Int) := oD_ (by first | (with_reducible assumption) | assumption); obtain ⟨ad114, A114_4, c114_4, e114, hx114_0, hx114_1, hx114_2, hx114_3, hx114_4, hl114_4, hi114_4⟩ := at_T120 HR0_4.out 0 p114 q114; cases e114; have qi114 : (0 < l0_4.length) = True := eq_true (by omega); (try rw [show ((0 : Int)).toNat = 0 from rfl] at hx114_0); (try rw [show 0 * 5 = 0 from rfl] at hx114_0); (try rw [Addr.add_zero'] at hx114_0); (try rw [show ((0 : Int)).toNat = 0 from rfl] at hx114_1); (try rw [show 0 * 5 = 0 from rfl] at hx114_1); (try rw [Addr.add_zero'] at hx114_1); (try rw [show ((0 : Int)).toNat = 0 from rfl] at hx114_2); (try rw [show 0 * 5 = 0 from rfl] at hx114_2); (try rw [Addr.add_zero'] at hx114_2); (try rw [show ((0 : Int)).toNat = 0 from rfl] at hx114_3); (try rw [show 0 * 5 = 0 from rfl] at hx114_3); (try rw [Addr.add_zero'] at hx114_3); (try rw [show ((0 : Int)).toNat = 0 from rfl] at hx114_4); (try rw [show 0 * 5 = 0 from rfl] at hx114_4); (try rw [Addr.add_zero'] at hx114_4); replace hx114_0 := qc HB hx114_0; replace hx114_1 := qc HB hx114_1; replace hx114_2 := qc HB hx114_2; replace hx114_3 := qc HB hx114_3; replace hx114_4 := qc HB hx114_4; have HR114_4 := aM_ hi114_4; have HC114_4 := aM_ hl114_4; clear hi114_4 hl114_4; replace p114 := eq_true p114; replace q114 := eq_true q114) | ((with_reducible refine gc_ 118 ?_); refine gL_ (some 23) Tryz.func118 #[.agg #[.int .i64 ((rd_T120 l0_4 0).f0), .int .i64 ((rd_T120 l0_4 0).f1), .int .i64 ((rd_T120 l0_4 0).f2.f0), .int .i64 ((rd_T120 l0_4 0).f2.f1), .slice A114_4 ((rd_T120 l0_4 0).f3).length c114_4]] ?_; (with_reducible refine (ih k (by omega) ((rd_T120 l0_4 0).f0) ((rd_T120 l0_4 0).f1) ((rd_T120 l0_4 0).f2.f0) ((rd_T120 l0_4 0).f2.f1) _ _ ((rd_T120 l0_4 0).f3) t115 _ ?side1 ?side2 A14.out).mono ?_); (case side1 => exact qC (Kd.C_below HR114_4.out HB.out)); (case side2 => exact HC114_4.out); rintro e w18 ⟨v116, rfl, ho0, hb⟩; refine ⟨_, rfl, ?_⟩; have n_ := aN3_ (Kd.R_lower ho0 (bZ_ (qB HB))) (blk_below (g := gb107) (o := .cells #[.int .i64 a0_0, .int .i64 a0_1, .int .i64 a0_2, .int .i64 a0_3, .slice (some ad114) l0_4.length c0_4] 120 (0, 0)) qk hb) (bT_ (qB HB) hb); clear BK107 HB; obtain ⟨HO117, BK107, HB⟩ := n_) | ((with_reducible refine gate_dst (N := 25) rfl ?_); refine Kd.R_lit k30 _ 30 ?hg (N := 25) ?hd (xs := ([(⟨5, 0, (⟨0, 0⟩ : S28)⟩ : S30)] : List (S30))) (inner := [.int .i64 5, .int .i64 0, .int .i64 0, .int .i64 0]) (ok := fun _ => True) (okp := fun _ => True) ?hr ?hp (fun _ hk => hk) trivial (Below.refl _ _) (Nat.le_refl _) (by simp) ?_; (case hd => rfl); (case hg => rfl); (case hr => first | (go_simp; done) | (go_simp; rfl)); (case hp => exact (Reps.c4 (show Kd.M k30 _ _ _ (⟨5, 0, (⟨0, 0⟩ : S28)⟩ : S30) [.int .i64 5, .int .i64 0, .int .i64 0, .int .i64 0] from (k30_mkM _ _ _ (⟨5, 0, (⟨0, 0⟩ : S28)⟩ : S30) )) (Reps.none _ _))); intro v119 w19 ho20 hb hg_ hnew_; clear hg_ hnew_; (first | rw [← Ny118.out] at ho20 | (simp only [Int.reduceToNat] at ho20; rw [← Ny118.out] at ho20)); have n0_ := aM_ (Kd.R_elder' (qR HO117) (Kd.R_base ho20) hb); have n1_ := aM_ (Kd.R_lower (Kd.R_new' ho20 (Kd.R_lt (qR HO117))) (bZ_ (qB HB))); have n2_ := aM_ (blk_below (g := gb107) (o := .cells #[.int .i64 a0_0, .int .i64 a0_1, .int .i64 a0_2, .int .i64 a0_3, .slice (some ad114) l0_4.length c0_4] 120 (0, 0)) qk hb); have n3_ := aM_ (bT_ (qB HB) hb); clear HO117 BK107 HB; have HO117 := n0_; have HO120 := n1_; have BK107 := n2_; have HB := n3_; clear n0_ n1_ n2_ n3_ hb ho20; obtain ⟨Ao22, co22, eo22⟩ := Kd.R_slice HO120.out; subst eo22) | ((with_reducible refine gate_builtin (b := .append) (xs := #[.tmp 23, .tmp 25]) rfl ?_); at_builtin; refine Kd.R_append_rows k30 (w0 := w) w.heap.size rfl (.tmp 23) (.tmp 25) 23 30 (.agg #[(.int .i64 0), (.int .i64 0), (.int .i64 0), (.int .i64 0)]) 32 rfl Tryz.underlying23 info30 rfl (by decide) (by omega) v116 t115 y118 _ _ _ (fun k_ => some k_ ≠ (.slice Ao22 y118.length co22 : Value).ownBlock) (fun _ => False) rfl rfl ?aO ?aR (fun _ _ h => h) (fun _ h => h.elim) ?aF ?aB ?aS ?aL ?_; (case aR => exact qC ((Kd.R_reads' HO120.out).2.2)); (case aB => exact (qB HB)); (case aF => exact (fun k_ hk => Kd.fresh' (Kd.R_lt (qR HO120)) k_ hk)); (case aO => exact (qr (Kd.R_mono HO117.out (fun _ hk => hk.2)))); (case aS => exact (bZ_ (qB HB))); (case aL => have := LMc15.out; omega); intro v122 w21 ho hb hg hat; rw [← Ny121.out] at ho; have n0_ := aM_ (blk_grown (g := gb107) (o := .cells #[.int .i64 a0_0, .int .i64 a0_1, .int .i64 a0_2, .int .i64 a0_3, .slice (some ad114) l0_4.length c0_4] 120 (0, 0)) qk hg (Kd.R_ne HO117.out BK107.out (by decide))); have n1_ := aM_ (Kd.R_after (ok := (fun _ => True)) (qR HO120) hg hat); have n2_ := aM_ (hb); have n3_ := aM_ (ho); clear BK107 HO120 HB HO117; have BK107 := n0_; have HO120 := n1_; have HB := n2_; have HO123 := n3_; clear n0_ n1_ n2_ n3_ ho hb hg hat))
   go_ret
   exact ⟨_, qE, by (with_reducible repeat (first | apply rA_ | apply rN_ | apply rD_)); exact Kd.R_mono HO123.out (fun _ hk => trivial), qB HB⟩
 rw [if_neg c12] at H
 have c12b0 : (a0_0 == 10) = false := beq_eq_false_iff_ne.mpr c12
 have c12b1 : (a0_0 != 10) = true := bne_iff_ne.mpr c12
 by_cases c23 : 0 < (l0_4.length : Int)
 rotate_left
 · rw [if_neg c23] at H
   exact absurd H (by simp)
 rw [if_pos c23] at H
 have c23b0 : decide (0 < (l0_4.length : Int)) = true := dT_ c23
 have c23b1 : decide (0 < l0_4.length) = true := dT_ (by omega)
 clear c23
 replace H := oB_ H
 obtain ⟨t125, A240, H⟩ := H
 have A24 := aM_ A240
 clear A240
 by_cases c25 : 1 < (l0_4.length : Int)
 rotate_left
 · rw [if_neg c25] at H
   exact absurd H (by simp)
 rw [if_pos c25] at H
 have c25b0 : decide (1 < (l0_4.length : Int)) = true := dT_ c25
 have c25b1 : decide (1 < l0_4.length) = true := dT_ (by omega)
 clear c25
 replace H := oB_ H
 obtain ⟨t129, A260, H⟩ := H
 have A26 := aM_ A260
 clear A260
 by_cases c27 : t125.length + t129.length < 4398046511104
 rotate_left
 · rw [if_neg c27] at H
   exact absurd H (by simp)
 rw [if_pos c27] at H
 have LMc27 := aM_ c27
 clear c27
 obtain ⟨y132, hy132⟩ : ∃ y_ : List (S30), y_ = (t125 ++ t129) := ⟨_, rfl⟩
 replace H : ((some (([(⟨4, a0_0, (⟨0, 0⟩ : S28)⟩ : S30)] : List (S30)) : List (S30))).bind fun y135 => (if y132.length + y135.length < 4398046511104 then (some (y132 ++ y135)) else (none))) = some r := by subst hy132; exact H
 have Ny132 := aM_ hy132
 clear hy132
 obtain ⟨y135, hy135⟩ : ∃ y_ : List (S30), y_ = (([(⟨4, a0_0, (⟨0, 0⟩ : S28)⟩ : S30)] : List (S30))) := ⟨_, rfl⟩
 replace H : (if y132.length + y135.length < 4398046511104 then (some (y132 ++ y135)) else (none)) = some r := by subst hy135; exact H
 have Ny135 := aM_ hy135
 clear hy135
 by_cases c28 : y132.length + y135.length < 4398046511104
 rotate_left
 · rw [if_neg c28] at H
   exact absurd H (by simp)
 rw [if_pos c28] at H
 have LMc28 := aM_ c28
 clear c28
 obtain ⟨y138, hy138⟩ : ∃ y_ : List (S30), y_ = (y132 ++ y135) := ⟨_, rfl⟩
 replace H : (some y138) = some r := by subst hy138; exact H
 have Ny138 := aM_ hy138
 clear hy138
 obtain rfl := oI_ H
 go_enter Tryz.func118, Tryz.ntmps118
 try go_wp2_with (first | ((with_reducible refine gate_dst (N := 1) rfl ?_); refine box_event ?hg (N := 1) ?hd (cs := #[.int .i64 a0_0, .int .i64 a0_1, .int .i64 a0_2, .int .i64 a0_3, .slice A0_4 l0_4.length c0_4]) (t := 120) ?hr ?_; (case hd => rfl); (case hg => rfl); (case hr => first | (go_simp; done) | (go_simp; rfl)); intro gb107 hg w29 hbox hb; have n0_ := aM_ (bT_ (qB HB) hb); have n1_ := aM_ (hbox); have n2_ := aM_ ((by rw [hg]; exact (bZ_ (qB HB)) : w.heap.size ≤ gb107)); have n3_ := aM_ ((by rw [hg]; exact (bZ_ (qB HB)) : w.heap.size ≤ gb107)); clear HB; have HB := n0_; have BK107 := n1_; have GW107 := n2_; have GE107 := n3_; clear n0_ n1_ n2_ n3_ hb hbox hg; (obtain ⟨hcz30_0, hcz30_1, hcz30_2, hcz30_3, hcz30_4⟩ := cells5 BK107.out); (obtain ⟨hfz30_0, hfz30_1, hfz30_2, hfz30_3, hfz30_4⟩ := frozen5 BK107.out)))
 have n0_ := aM_ (kD_ BK107.out)
 have n1_ := aM_ (b1_ HB.out)
 clear BK107 HB
 revert n0_ n1_
 intro BK107 HB
 have p124 : 0 ≤ (0 : Int) := (by omega)
 have q124 : 0 < (l0_4.length : Int) := oD_ (by first | (with_reducible assumption) | assumption)
 obtain ⟨ad124, A124_4, c124_4, e124, hx124_0, hx124_1, hx124_2, hx124_3, hx124_4, hl124_4, hi124_4⟩ := at_T120 HR0_4.out 0 p124 q124
 have hw124_4 := hx124_4
 (try rw [show ((0 : Int)).toNat = 0 from rfl] at hw124_4)
 (try rw [show 0 * 5 = 0 from rfl] at hw124_4)
 (try rw [Addr.add_zero'] at hw124_4)
 have hw124_3 := hx124_3
 (try rw [show ((0 : Int)).toNat = 0 from rfl] at hw124_3)
 (try rw [show 0 * 5 = 0 from rfl] at hw124_3)
 (try rw [Addr.add_zero'] at hw124_3)
 have hw124_2 := hx124_2
 (try rw [show ((0 : Int)).toNat = 0 from rfl] at hw124_2)
 (try rw [show 0 * 5 = 0 from rfl] at hw124_2)
 (try rw [Addr.add_zero'] at hw124_2)
 have hw124_1 := hx124_1
 (try rw [show ((0 : Int)).toNat = 0 from rfl] at hw124_1)
 (try rw [show 0 * 5 = 0 from rfl] at hw124_1)
 (try rw [Addr.add_zero'] at hw124_1)
 have hw124_0 := hx124_0
 (try rw [show ((0 : Int)).toNat = 0 from rfl] at hw124_0)
 (try rw [show 0 * 5 = 0 from rfl] at hw124_0)
 (try rw [Addr.add_zero'] at hw124_0)
 cases e124
 have qi124 : (0 < l0_4.length) = True := eq_true (by omega)
 (try rw [show ((0 : Int)).toNat = 0 from rfl] at hx124_0)
 (try rw [show 0 * 5 = 0 from rfl] at hx124_0)
 (try rw [Addr.add_zero'] at hx124_0)
 (try rw [show ((0 : Int)).toNat = 0 from rfl] at hx124_1)
 (try rw [show 0 * 5 = 0 from rfl] at hx124_1)
 (try rw [Addr.add_zero'] at hx124_1)
 (try rw [show ((0 : Int)).toNat = 0 from rfl] at hx124_2)
 (try rw [show 0 * 5 = 0 from rfl] at hx124_2)
 (try rw [Addr.add_zero'] at hx124_2)
 (try rw [show ((0 : Int)).toNat = 0 from rfl] at hx124_3)
 (try rw [show 0 * 5 = 0 from rfl] at hx124_3)
 (try rw [Addr.add_zero'] at hx124_3)
 (try rw [show ((0 : Int)).toNat = 0 from rfl] at hx124_4)
 (try rw [show 0 * 5 = 0 from rfl] at hx124_4)
 (try rw [Addr.add_zero'] at hx124_4)
 replace hx124_0 := qc HB hx124_0
 replace hx124_1 := qc HB hx124_1
 replace hx124_2 := qc HB hx124_2
 replace hx124_3 := qc HB hx124_3
 replace hx124_4 := qc HB hx124_4
 have HR124_4 := aM_ hi124_4
 have HC124_4 := aM_ hl124_4
 clear hi124_4 hl124_4
 replace p124 := eq_true p124
 replace q124 := eq_true q124
 have p128 : 0 ≤ (1 : Int) := (by omega)
 have q128 : 1 < (l0_4.length : Int) := oD_ (by first | (with_reducible assumption) | assumption)
 obtain ⟨ad128, A128_4, c128_4, e128, hx128_0, hx128_1, hx128_2, hx128_3, hx128_4, hl128_4, hi128_4⟩ := at_T120 HR0_4.out 1 p128 q128
 have hw128_4 := hx128_4
 (try rw [show ((1 : Int)).toNat = 1 from rfl] at hw128_4)
 (try rw [show 1 * 5 = 5 from rfl] at hw128_4)
 (try simp only [Nat.reduceMul, Nat.reduceEqDiff, Go.Addr.add, ↓reduceIte] at hw128_4)
 have hw128_3 := hx128_3
 (try rw [show ((1 : Int)).toNat = 1 from rfl] at hw128_3)
 (try rw [show 1 * 5 = 5 from rfl] at hw128_3)
 (try simp only [Nat.reduceMul, Nat.reduceEqDiff, Go.Addr.add, ↓reduceIte] at hw128_3)
 have hw128_2 := hx128_2
 (try rw [show ((1 : Int)).toNat = 1 from rfl] at hw128_2)
 (try rw [show 1 * 5 = 5 from rfl] at hw128_2)
 (try simp only [Nat.reduceMul, Nat.reduceEqDiff, Go.Addr.add, ↓reduceIte] at hw128_2)
 have hw128_1 := hx128_1
 (try rw [show ((1 : Int)).toNat = 1 from rfl] at hw128_1)
 (try rw [show 1 * 5 = 5 from rfl] at hw128_1)
 (try simp only [Nat.reduceMul, Nat.reduceEqDiff, Go.Addr.add, ↓reduceIte] at hw128_1)
 have hw128_0 := hx128_0
 (try rw [show ((1 : Int)).toNat = 1 from rfl] at hw128_0)
 (try rw [show 1 * 5 = 5 from rfl] at hw128_0)
 (try simp only [Nat.reduceMul, Nat.reduceEqDiff, Go.Addr.add, ↓reduceIte] at hw128_0)
 obtain rfl : ad124 = ad128 := (by injection e128)
 (try simp only [show (1 : Int).toNat = 1 from rfl, Nat.reduceMul, Nat.reduceEqDiff, Go.Addr.add, ↓reduceIte] at hx128_0)
 (try simp only [show (1 : Int).toNat = 1 from rfl, Nat.reduceMul, Nat.reduceEqDiff, Go.Addr.add, ↓reduceIte] at hx128_1)
 (try simp only [show (1 : Int).toNat = 1 from rfl, Nat.reduceMul, Nat.reduceEqDiff, Go.Addr.add, ↓reduceIte] at hx128_2)
 (try simp only [show (1 : Int).toNat = 1 from rfl, Nat.reduceMul, Nat.reduceEqDiff, Go.Addr.add, ↓reduceIte] at hx128_3)
 (try simp only [show (1 : Int).toNat = 1 from rfl, Nat.reduceMul, Nat.reduceEqDiff, Go.Addr.add, ↓reduceIte] at hx128_4)
 have qi128 : (1 < l0_4.length) = True := eq_true (by omega)
 (try rw [show ((1 : Int)).toNat = 1 from rfl] at hx128_0)
 (try rw [show 1 * 5 = 5 from rfl] at hx128_0)
 (try rw [show ((1 : Int)).toNat = 1 from rfl] at hx128_1)
 (try rw [show 1 * 5 = 5 from rfl] at hx128_1)
 (try rw [show ((1 : Int)).toNat = 1 from rfl] at hx128_2)
 (try rw [show 1 * 5 = 5 from rfl] at hx128_2)
 (try rw [show ((1 : Int)).toNat = 1 from rfl] at hx128_3)
 (try rw [show 1 * 5 = 5 from rfl] at hx128_3)
 (try rw [show ((1 : Int)).toNat = 1 from rfl] at hx128_4)
 (try rw [show 1 * 5 = 5 from rfl] at hx128_4)
 replace hx128_0 := qc HB hx128_0
 replace hx128_1 := qc HB hx128_1
 replace hx128_2 := qc HB hx128_2
 replace hx128_3 := qc HB hx128_3
 replace hx128_4 := qc HB hx128_4
 have HR128_4 := aM_ hi128_4
 have HC128_4 := aM_ hl128_4
 clear hi128_4 hl128_4
 replace p128 := eq_true p128
 replace q128 := eq_true q128
 refine start_ (n := 17) (S := fun w' => w'.cell? ⟨gb107, 0, none⟩ = some (.int .i64 a0_0) ∧ w'.cell? ⟨gb107, 1, none⟩ = some (.int .i64 a0_1) ∧ w'.cell? ⟨gb107, 2, none⟩ = some (.int .i64 a0_2) ∧ w'.cell? ⟨gb107, 3, none⟩ = some (.int .i64 a0_3) ∧ w'.cell? ⟨gb107, 4, none⟩ = some (.slice (some ad124) l0_4.length c0_4) ∧ w'.cell? ad124 = some (.int .i64 ((rd_T120 l0_4 0).f0)) ∧ w'.cell? ⟨ad124.block, ad124.off + 1, none⟩ = some (.int .i64 ((rd_T120 l0_4 0).f1)) ∧ w'.cell? ⟨ad124.block, ad124.off + 2, none⟩ = some (.int .i64 ((rd_T120 l0_4 0).f2.f0)) ∧ w'.cell? ⟨ad124.block, ad124.off + 3, none⟩ = some (.int .i64 ((rd_T120 l0_4 0).f2.f1)) ∧ w'.cell? ⟨ad124.block, ad124.off + 4, none⟩ = some (.slice A124_4 ((rd_T120 l0_4 0).f3).length c124_4) ∧ w'.cell? ⟨ad124.block, ad124.off + 5, none⟩ = some (.int .i64 ((rd_T120 l0_4 1).f0)) ∧ w'.cell? ⟨ad124.block, ad124.off + 5 + 1, none⟩ = some (.int .i64 ((rd_T120 l0_4 1).f1)) ∧ w'.cell? ⟨ad124.block, ad124.off + 5 + 2, none⟩ = some (.int .i64 ((rd_T120 l0_4 1).f2.f0)) ∧ w'.cell? ⟨ad124.block, ad124.off + 5 + 3, none⟩ = some (.int .i64 ((rd_T120 l0_4 1).f2.f1)) ∧ w'.cell? ⟨ad124.block, ad124.off + 5 + 4, none⟩ = some (.slice A128_4 ((rd_T120 l0_4 1).f3).length c128_4)) (ds := []) #[F_, F_, F_, F_, F_, F_, F_, F_, F_, F_, F_, F_, F_, F_, F_, F_, F_] (by kernel_rfl) rfl rfl ⟨(kC_ BK107.out 0).trans rfl, (kC_ BK107.out 1).trans rfl, (kC_ BK107.out 2).trans rfl, (kC_ BK107.out 3).trans rfl, (kC_ BK107.out 4).trans rfl, (qc HB hw124_0), (qc HB hw124_1), (qc HB hw124_2), (qc HB hw124_3), (qc HB hw124_4), (qc HB hw128_0), (qc HB hw128_1), (qc HB hw128_2), (qc HB hw128_3), (qc HB hw128_4)⟩ (fun hHeld => ?_); refine with_tabW spec_l5Expr.tab8 spec_l5Expr.bits8 (fun HT_ HW_ => ?_)
 generalize w29.drew = w31 at BK107 HB HR124_4 HR128_4 hx124_0 hx124_1 hx124_2 hx124_3 hx124_4 hx128_0 hx128_1 hx128_2 hx128_3 hx128_4 hHeld ⊢
 refine pure_ (i := 0) (N := some 27) (v := ?_) (a' := ?_) #[T_, F_, F_, F_, F_, F_, F_, F_, F_, F_, F_, F_, F_, F_, F_, F_, F_] rfl rfl (any_of HT_.out (by kernel_rfl)) (fun _ _ _ h => h) (Or.inl ⟨by rfl, ?_⟩) ?_ ?_
 rotate_left
 · intro w'
   go_simp
   with_reducible rfl
 rotate_left
 · simp only [Act.put, sA_, sB_, sC_, i64_w, i32_w]
   rfl
 refine pure_ (i := 5) (N := some 32) (v := ?_) (a' := ?_) #[T_, F_, F_, F_, F_, T_, F_, F_, F_, F_, F_, F_, F_, F_, F_, F_, F_] rfl rfl (any_of HT_.out (by kernel_rfl)) (fun _ _ _ h => h) (Or.inl ⟨by rfl, ?_⟩) ?_ ?_
 rotate_left
 · intro w'
   go_simp
   with_reducible rfl
 rotate_left
 · simp only [Act.put, sA_, sB_, sC_, i64_w, i32_w]
   rfl
 refine pure_ (i := 11) (N := some 38) (v := ?_) (a' := ?_) #[T_, F_, F_, F_, F_, T_, F_, F_, F_, F_, F_, T_, F_, F_, F_, F_, F_] rfl rfl (any_of HT_.out (by kernel_rfl)) (fun _ _ _ h => h) (Or.inl ⟨by rfl, ?_⟩) ?_ ?_
 rotate_left
 · intro w'
   go_simp
   with_reducible rfl
 rotate_left
 · simp only [Act.put, sA_, sB_, sC_, i64_w, i32_w]
   rfl
 refine take_ (i := 1) (N := some 28) (v := ?_) (a' := ?_) #[T_, T_, F_, F_, F_, T_, F_, F_, F_, F_, F_, T_, F_, F_, F_, F_, F_] rfl rfl (take_ofW HT_.out HW_.out (by kernel_rfl)) (fun _ _ _ h => h) (Or.inl ⟨by rfl, ?_⟩) hHeld ?_ ?_
 rotate_left
 · rintro w' ⟨s0, s1, s2, s3, s4, s5, s6, s7, s8, s9, s10, s11, s12, s13, s14⟩
   go_simp
   with_reducible rfl
 rotate_left
 · simp only [Act.put, sA_, sB_, sC_, i64_w, i32_w]
   rfl
 refine pure_ (i := 2) (N := some 29) (v := ?_) (a' := ?_) #[T_, T_, T_, F_, F_, T_, F_, F_, F_, F_, F_, T_, F_, F_, F_, F_, F_] rfl rfl (any_of HT_.out (by kernel_rfl)) (fun _ _ _ h => h) (Or.inl ⟨by rfl, ?_⟩) ?_ ?_
 rotate_left
 · intro w'
   go_simp
   with_reducible rfl
 rotate_left
 · simp only [Act.put, sA_, sB_, sC_, i64_w, i32_w]
   rfl
 refine take_ (i := 3) (N := some 30) (v := ?_) (a' := ?_) #[T_, T_, T_, T_, F_, T_, F_, F_, F_, F_, F_, T_, F_, F_, F_, F_, F_] rfl rfl (take_ofW HT_.out HW_.out (by kernel_rfl)) (fun _ _ _ h => h) (Or.inl ⟨by rfl, ?_⟩) hHeld ?_ ?_
 rotate_left
 · rintro w' ⟨s0, s1, s2, s3, s4, s5, s6, s7, s8, s9, s10, s11, s12, s13, s14⟩
   go_simp
   with_reducible rfl
 rotate_left
 · simp only [Act.put, sA_, sB_, sC_, i64_w, i32_w]
   rfl
 refine take_ (i := 6) (N := some 33) (v := ?_) (a' := ?_) #[T_, T_, T_, T_, F_, T_, T_, F_, F_, F_, F_, T_, F_, F_, F_, F_, F_] rfl rfl (take_ofW HT_.out HW_.out (by kernel_rfl)) (fun _ _ _ h => h) (Or.inl ⟨by rfl, ?_⟩) hHeld ?_ ?_
 rotate_left
 · rintro w' ⟨s0, s1, s2, s3, s4, s5, s6, s7, s8, s9, s10, s11, s12, s13, s14⟩
   go_simp
   with_reducible rfl
 rotate_left
 · simp only [Act.put, sA_, sB_, sC_, i64_w, i32_w]
   rfl
 refine pure_ (i := 7) (N := some 34) (v := ?_) (a' := ?_) #[T_, T_, T_, T_, F_, T_, T_, T_, F_, F_, F_, T_, F_, F_, F_, F_, F_] rfl rfl (any_of HT_.out (by kernel_rfl)) (fun _ _ _ h => h) (Or.inl ⟨by rfl, ?_⟩) ?_ ?_
 rotate_left
 · intro w'
   go_simp
   with_reducible rfl
 rotate_left
 · simp only [Act.put, sA_, sB_, sC_, i64_w, i32_w]
   rfl
 refine take_ (i := 8) (N := some 35) (v := ?_) (a' := ?_) #[T_, T_, T_, T_, F_, T_, T_, T_, T_, F_, F_, T_, F_, F_, F_, F_, F_] rfl rfl (take_ofW HT_.out HW_.out (by kernel_rfl)) (fun _ _ _ h => h) (Or.inl ⟨by rfl, ?_⟩) hHeld ?_ ?_
 rotate_left
 · rintro w' ⟨s0, s1, s2, s3, s4, s5, s6, s7, s8, s9, s10, s11, s12, s13, s14⟩
   go_simp
   with_reducible rfl
 rotate_left
 · simp only [Act.put, sA_, sB_, sC_, i64_w, i32_w]
   rfl
 refine take_ (i := 12) (N := some 39) (v := ?_) (a' := ?_) #[T_, T_, T_, T_, F_, T_, T_, T_, T_, F_, F_, T_, T_, F_, F_, F_, F_] rfl rfl (take_ofW HT_.out HW_.out (by kernel_rfl)) (fun _ _ _ h => h) (Or.inl ⟨by rfl, ?_⟩) hHeld ?_ ?_
 rotate_left
 · rintro w' ⟨s0, s1, s2, s3, s4, s5, s6, s7, s8, s9, s10, s11, s12, s13, s14⟩
   go_simp
   with_reducible rfl
 rotate_left
 · simp only [Act.put, sA_, sB_, sC_, i64_w, i32_w]
   rfl
 refine pure_ (i := 13) (N := some 40) (v := ?_) (a' := ?_) #[T_, T_, T_, T_, F_, T_, T_, T_, T_, F_, F_, T_, T_, T_, F_, F_, F_] rfl rfl (any_of HT_.out (by kernel_rfl)) (fun _ _ _ h => h) (Or.inl ⟨by rfl, ?_⟩) ?_ ?_
 rotate_left
 · intro w'
   go_simp
   with_reducible rfl
 rotate_left
 · simp only [Act.put, sA_, sB_, sC_, i64_w, i32_w]
   rfl
 refine join_ (σ := Value × Value × Value × Value) 2 #[T_, T_, T_, T_, T_, T_, T_, T_, T_, T_, T_, T_, T_, T_, T_, F_, F_] (fun s_ => [(31, s_.1), (36, s_.2.1), (37, s_.2.2.1), (41, s_.2.2.2)]) (fun s_ w' => (w'.cell? ⟨gb107, 0, none⟩ = some (.int .i64 a0_0) ∧ w'.cell? ⟨gb107, 1, none⟩ = some (.int .i64 a0_1) ∧ w'.cell? ⟨gb107, 2, none⟩ = some (.int .i64 a0_2) ∧ w'.cell? ⟨gb107, 3, none⟩ = some (.int .i64 a0_3) ∧ w'.cell? ⟨gb107, 4, none⟩ = some (.slice (some ad124) l0_4.length c0_4) ∧ w'.cell? ad124 = some (.int .i64 ((rd_T120 l0_4 0).f0)) ∧ w'.cell? ⟨ad124.block, ad124.off + 1, none⟩ = some (.int .i64 ((rd_T120 l0_4 0).f1)) ∧ w'.cell? ⟨ad124.block, ad124.off + 2, none⟩ = some (.int .i64 ((rd_T120 l0_4 0).f2.f0)) ∧ w'.cell? ⟨ad124.block, ad124.off + 3, none⟩ = some (.int .i64 ((rd_T120 l0_4 0).f2.f1)) ∧ w'.cell? ⟨ad124.block, ad124.off + 4, none⟩ = some (.slice A124_4 ((rd_T120 l0_4 0).f3).length c124_4) ∧ w'.cell? ⟨ad124.block, ad124.off + 5, none⟩ = some (.int .i64 ((rd_T120 l0_4 1).f0)) ∧ w'.cell? ⟨ad124.block, ad124.off + 5 + 1, none⟩ = some (.int .i64 ((rd_T120 l0_4 1).f1)) ∧ w'.cell? ⟨ad124.block, ad124.off + 5 + 2, none⟩ = some (.int .i64 ((rd_T120 l0_4 1).f2.f0)) ∧ w'.cell? ⟨ad124.block, ad124.off + 5 + 3, none⟩ = some (.int .i64 ((rd_T120 l0_4 1).f2.f1)) ∧ w'.cell? ⟨ad124.block, ad124.off + 5 + 4, none⟩ = some (.slice A128_4 ((rd_T120 l0_4 1).f3).length c128_4)) ∧ (Kd.R k30 30 w' w.heap.size (fun k_ => some k_ ≠ (s_.2.2.1 : Value).ownBlock ∧ some k_ ≠ (s_.2.2.2 : Value).ownBlock) s_.2.1 t129) ∧ (Kd.R k30 30 w' w.heap.size (fun k_ => some k_ ≠ (s_.2.1 : Value).ownBlock ∧ some k_ ≠ (s_.2.2.2 : Value).ownBlock) s_.2.2.1 y132) ∧ (Kd.R k30 30 w' w.heap.size (fun k_ => some k_ ≠ (s_.2.1 : Value).ownBlock ∧ some k_ ≠ (s_.2.2.1 : Value).ownBlock) s_.2.2.2 y135) ∧ (w'.heap[gb107]? = some (.cells #[.int .i64 a0_0, .int .i64 a0_1, .int .i64 a0_2, .int .i64 a0_3, .slice (some ad124) l0_4.length c0_4] 120 (0, 0))) ∧ (Below w.heap.size w w')) ?_ ?_
 rotate_left
 · intro hCont
   refine two_ (i := 4) (j := 14) (Ni := some 31) (Nj := some 41) #[T_, T_, T_, T_, T_, T_, T_, T_, T_, F_, F_, T_, T_, T_, F_, F_, F_] #[T_, T_, T_, T_, F_, T_, T_, T_, T_, F_, F_, T_, T_, T_, T_, F_, F_] rfl rfl rfl rfl (two_of HT_.out (by kernel_rfl)) (by decide) (by decide) (fun K hK => ?_) (fun K hK => ?_)
   · skip
     refine goes_ Tryz.func118 (by kernel_rfl) rfl #[.agg #[.int .i64 ((rd_T120 l0_4 0).f0), .int .i64 ((rd_T120 l0_4 0).f1), .int .i64 ((rd_T120 l0_4 0).f2.f0), .int .i64 ((rd_T120 l0_4 0).f2.f1), .slice A124_4 ((rd_T120 l0_4 0).f3).length c124_4]] (by rfl) rfl rfl (by (try simp only [mA_, List.map_cons, List.map_nil]); first | done | rfl | (simp only [lD_, lT_]; rfl)) ?_
     with_reducible refine (ih k (by omega) ((rd_T120 l0_4 0).f0) ((rd_T120 l0_4 0).f1) ((rd_T120 l0_4 0).f2.f0) ((rd_T120 l0_4 0).f2.f1) _ _ ((rd_T120 l0_4 0).f3) t125 _ ?side1 ?side2 A24.out).mono ?_
     (case side1 => exact qC (Kd.C_below HR124_4.out HB.out))
     (case side2 => exact HC124_4.out)
     rintro e w32 ⟨v126, rfl, ho0, hb⟩
     refine ⟨_, rfl, ?_⟩
     have n0_ := aM_ (Kd.R_lower ho0 (bZ_ (qB HB)))
     have n1_ := aM_ (blk_below (g := gb107) (o := .cells #[.int .i64 a0_0, .int .i64 a0_1, .int .i64 a0_2, .int .i64 a0_3, .slice (some ad124) l0_4.length c0_4] 120 (0, 0)) qk hb)
     have n2_ := aM_ (bT_ (qB HB) hb)
     clear BK107 HB
     revert n0_ n1_ n2_
     intro HO127 BK107 HB
     (try clear hb)
     (try clear hb2)
     (try clear hk)
     (try clear hi)
     (try clear ho0)
     refine hK.out _ _ ⟨(kC_ BK107.out 0).trans rfl, (kC_ BK107.out 1).trans rfl, (kC_ BK107.out 2).trans rfl, (kC_ BK107.out 3).trans rfl, (kC_ BK107.out 4).trans rfl, (qc HB hw124_0), (qc HB hw124_1), (qc HB hw124_2), (qc HB hw124_3), (qc HB hw124_4), (qc HB hw128_0), (qc HB hw128_1), (qc HB hw128_2), (qc HB hw128_3), (qc HB hw128_4)⟩ (fun hHeld => ?_)
     clear hK K
     refine norm_ (a' := ?_) ?_ ?_
     rotate_left
     · show Act.put _ (some 31) _ = _
       simp only [Act.put, sA_, sB_, sC_, i64_w, i32_w]
       rfl
     refine two_ (i := 9) (j := 14) (Ni := some 36) (Nj := some 41) #[T_, T_, T_, T_, T_, T_, T_, T_, T_, T_, F_, T_, T_, T_, F_, F_, F_] #[T_, T_, T_, T_, T_, T_, T_, T_, T_, F_, F_, T_, T_, T_, T_, F_, F_] rfl rfl rfl rfl (two_of HT_.out (by kernel_rfl)) (by decide) (by decide) (fun K hK => ?_) (fun K hK => ?_)
     · skip
       refine goes_ Tryz.func118 (by kernel_rfl) rfl #[.agg #[.int .i64 ((rd_T120 l0_4 1).f0), .int .i64 ((rd_T120 l0_4 1).f1), .int .i64 ((rd_T120 l0_4 1).f2.f0), .int .i64 ((rd_T120 l0_4 1).f2.f1), .slice A128_4 ((rd_T120 l0_4 1).f3).length c128_4]] (by rfl) rfl rfl (by (try simp only [mA_, List.map_cons, List.map_nil]); first | done | rfl | (simp only [lD_, lT_]; rfl)) ?_
       with_reducible refine (ih k (by omega) ((rd_T120 l0_4 1).f0) ((rd_T120 l0_4 1).f1) ((rd_T120 l0_4 1).f2.f0) ((rd_T120 l0_4 1).f2.f1) _ _ ((rd_T120 l0_4 1).f3) t129 _ ?side1 ?side2 A26.out).mono ?_
       (case side1 => exact qC (Kd.C_below HR128_4.out HB.out))
       (case side2 => exact HC128_4.out)
       rintro e w33 ⟨v130, rfl, ho0, hb⟩
       refine ⟨_, rfl, ?_⟩
       have n0_ := aM_ (Kd.R_elder' (qR HO127) (Kd.R_base ho0) hb)
       have n1_ := aM_ (Kd.R_lower (Kd.R_new' ho0 (Kd.R_lt (qR HO127))) (bZ_ (qB HB)))
       have n2_ := aM_ (blk_below (g := gb107) (o := .cells #[.int .i64 a0_0, .int .i64 a0_1, .int .i64 a0_2, .int .i64 a0_3, .slice (some ad124) l0_4.length c0_4] 120 (0, 0)) qk hb)
       have n3_ := aM_ (bT_ (qB HB) hb)
       clear HO127 BK107 HB
       revert n0_ n1_ n2_ n3_
       intro HO127 HO131 BK107 HB
       (try clear hb)
       (try clear hb2)
       (try clear hk)
       (try clear hi)
       (try clear ho0)
       obtain ⟨Ao35, co35, eo35⟩ := Kd.R_slice HO131.out
       (first | subst eo35 | (injection eo35 with f1_ f2_ f3_; have f4_ := f1_.symm; have f5_ := f3_.symm; clear f1_ f2_ f3_; subst f4_; subst f5_))
       refine hK.out _ _ ⟨(kC_ BK107.out 0).trans rfl, (kC_ BK107.out 1).trans rfl, (kC_ BK107.out 2).trans rfl, (kC_ BK107.out 3).trans rfl, (kC_ BK107.out 4).trans rfl, (qc HB hw124_0), (qc HB hw124_1), (qc HB hw124_2), (qc HB hw124_3), (qc HB hw124_4), (qc HB hw128_0), (qc HB hw128_1), (qc HB hw128_2), (qc HB hw128_3), (qc HB hw128_4)⟩ (fun hHeld => ?_)
       clear hK K
       refine norm_ (a' := ?_) ?_ ?_
       rotate_left
       · show Act.put _ (some 36) _ = _
         simp only [Act.put, sA_, sB_, sC_, i64_w, i32_w]
         rfl
       refine two_ (i := 10) (j := 14) (Ni := some 37) (Nj := some 41) #[T_, T_, T_, T_, T_, T_, T_, T_, T_, T_, T_, T_, T_, T_, F_, F_, F_] #[T_, T_, T_, T_, T_, T_, T_, T_, T_, T_, F_, T_, T_, T_, T_, F_, F_] rfl rfl rfl rfl (two_of HT_.out (by kernel_rfl)) (by decide) (by decide) (fun K hK => ?_) (fun K hK => ?_)
       · skip
         refine Kd.R_append_rows_step k30 (w0 := w) w.heap.size (by rfl) (.tmp 31) (.tmp 36) 23 30 (.agg #[(.int .i64 0), (.int .i64 0), (.int .i64 0), (.int .i64 0)]) 32 rfl Tryz.underlying23 info30 rfl (by decide) (by omega) v126 t125 t129 _ _ _ (fun k_ => some k_ ≠ (.slice Ao35 t129.length co35 : Value).ownBlock) (fun _ => False) rfl rfl ?aO ?aR (fun _ _ h => h) (fun _ h => h.elim) ?aF ?aB ?aS ?aL ?_
         (case aR => exact qC ((Kd.R_reads' HO131.out).2.2))
         (case aB => exact (qB HB))
         (case aF => exact (fun k_ hk => Kd.fresh' (Kd.R_lt (qR HO131)) k_ hk))
         (case aO => exact (qr (Kd.R_mono HO127.out (fun _ hk => hk.2))))
         (case aS => exact (bZ_ (qB HB)))
         (case aL => have := LMc27.out; omega)
         intro v133 w34 ho hb hg hat
         rw [← Ny132.out] at ho
         have n0_ := aM_ (blk_grown (g := gb107) (o := .cells #[.int .i64 a0_0, .int .i64 a0_1, .int .i64 a0_2, .int .i64 a0_3, .slice (some ad124) l0_4.length c0_4] 120 (0, 0)) qk hg (Kd.R_ne HO127.out BK107.out (by decide)))
         have n1_ := aM_ (Kd.R_after (ok := (fun _ => True)) (qR HO131) hg hat)
         have n2_ := aM_ (hb)
         have n3_ := aM_ (ho)
         clear BK107 HO131 HB HO127
         have BK107 := n0_
         have HO131 := n1_
         have HB := n2_
         have HO134 := n3_
         clear n0_ n1_ n2_ n3_ ho hb hg hat
         refine hK.out _ _ ⟨(kC_ BK107.out 0).trans rfl, (kC_ BK107.out 1).trans rfl, (kC_ BK107.out 2).trans rfl, (kC_ BK107.out 3).trans rfl, (kC_ BK107.out 4).trans rfl, (qc HB hw124_0), (qc HB hw124_1), (qc HB hw124_2), (qc HB hw124_3), (qc HB hw124_4), (qc HB hw128_0), (qc HB hw128_1), (qc HB hw128_2), (qc HB hw128_3), (qc HB hw128_4)⟩ (fun hHeld => ?_)
         clear hK K
         refine norm_ (a' := ?_) ?_ ?_
         rotate_left
         · show Act.put _ (some 37) _ = _
           simp only [Act.put, sA_, sB_, sC_, i64_w, i32_w]
           rfl
         refine one_ (i := 14) (N := some 41) #[T_, T_, T_, T_, T_, T_, T_, T_, T_, T_, T_, T_, T_, T_, T_, F_, F_] rfl rfl (one_of HT_.out (by kernel_rfl)) (by decide) (fun K hK => ?_)
         refine Kd.R_lit_step k30 _ 30 ?hg (N := 41) ?hd (xs := ([(⟨4, a0_0, (⟨0, 0⟩ : S28)⟩ : S30)] : List (S30))) (inner := [.int .i64 4, .int .i64 a0_0, .int .i64 0, .int .i64 0]) (ok := fun _ => True) (okp := fun _ => True) ?hr ?hp (fun _ hk => hk) trivial (Below.refl _ _) (Nat.le_refl _) (by simp) ?_; (case hd => rfl); (case hg => rfl); (case hr => first | (go_simp; done) | (go_simp; rfl)); (case hp => exact (Reps.c4 (show Kd.M k30 _ _ _ (⟨4, a0_0, (⟨0, 0⟩ : S28)⟩ : S30) [.int .i64 4, .int .i64 a0_0, .int .i64 0, .int .i64 0] from (k30_mkM _ _ _ (⟨4, a0_0, (⟨0, 0⟩ : S28)⟩ : S30) )) (Reps.none _ _)))
         intro v136 w36 ho37 hb hg_ hnew_
         clear hg_ hnew_
         (first | rw [← Ny135.out] at ho37 | (simp only [Int.reduceToNat] at ho37; rw [← Ny135.out] at ho37))
         have n0_ := aM_ (Kd.R_elder' (qR HO131) (Kd.R_base ho37) hb)
         have n1_ := aM_ (Kd.R_elder' (qR HO134) (Kd.R_base ho37) hb)
         have n2_ := aM_ (Kd.R_lower (Kd.R_new' (Kd.R_new' ho37 (Kd.R_lt (qR HO131))) (Kd.R_lt (qR HO134))) (bZ_ (qB HB)))
         have n3_ := aM_ (blk_below (g := gb107) (o := .cells #[.int .i64 a0_0, .int .i64 a0_1, .int .i64 a0_2, .int .i64 a0_3, .slice (some ad124) l0_4.length c0_4] 120 (0, 0)) qk hb)
         have n4_ := aM_ (bT_ (qB HB) hb)
         clear HO131 HO134 BK107 HB
         have HO131 := n0_
         have HO134 := n1_
         have HO137 := n2_
         have BK107 := n3_
         have HB := n4_
         clear n0_ n1_ n2_ n3_ n4_ hb ho37
         refine hK.out _ _ ⟨(kC_ BK107.out 0).trans rfl, (kC_ BK107.out 1).trans rfl, (kC_ BK107.out 2).trans rfl, (kC_ BK107.out 3).trans rfl, (kC_ BK107.out 4).trans rfl, (qc HB hw124_0), (qc HB hw124_1), (qc HB hw124_2), (qc HB hw124_3), (qc HB hw124_4), (qc HB hw128_0), (qc HB hw128_1), (qc HB hw128_2), (qc HB hw128_3), (qc HB hw128_4)⟩ (fun hHeld => ?_)
         clear hK K
         refine norm_ (a' := ?_) ?_ ?_
         rotate_left
         · show Act.put _ (some 41) _ = _
           simp only [Act.put, sA_, sB_, sC_, i64_w, i32_w]
           rfl
         exact norm_ (by simp only [putAll, Act.put, sA_, sB_, sC_]) (hCont (v126, .slice Ao35 t129.length co35, v133, v136) _ ⟨hHeld, (qr (Kd.R_mono HO131.out (fun _ hk => ⟨hk.1.2, hk.2⟩))), (qR HO134), (qr (Kd.R_mono HO137.out (fun _ hk => ⟨hk.1.2, hk.2⟩))), qk, (qB HB)⟩)
       · skip
         refine Kd.R_lit_step k30 _ 30 ?hg (N := 41) ?hd (xs := ([(⟨4, a0_0, (⟨0, 0⟩ : S28)⟩ : S30)] : List (S30))) (inner := [.int .i64 4, .int .i64 a0_0, .int .i64 0, .int .i64 0]) (ok := fun _ => True) (okp := fun _ => True) ?hr ?hp (fun _ hk => hk) trivial (Below.refl _ _) (Nat.le_refl _) (by simp) ?_; (case hd => rfl); (case hg => rfl); (case hr => first | (go_simp; done) | (go_simp; rfl)); (case hp => exact (Reps.c4 (show Kd.M k30 _ _ _ (⟨4, a0_0, (⟨0, 0⟩ : S28)⟩ : S30) [.int .i64 4, .int .i64 a0_0, .int .i64 0, .int .i64 0] from (k30_mkM _ _ _ (⟨4, a0_0, (⟨0, 0⟩ : S28)⟩ : S30) )) (Reps.none _ _)))
         intro v136 w34 ho35 hb hg_ hnew_
         clear hg_ hnew_
         (first | rw [← Ny135.out] at ho35 | (simp only [Int.reduceToNat] at ho35; rw [← Ny135.out] at ho35))
         have n0_ := aM_ (Kd.R_elder' (qR HO127) (Kd.R_base ho35) hb)
         have n1_ := aM_ (Kd.R_elder' (qR HO131) (Kd.R_base ho35) hb)
         have n2_ := aM_ (Kd.R_lower (Kd.R_new' (Kd.R_new' ho35 (Kd.R_lt (qR HO127))) (Kd.R_lt (qR HO131))) (bZ_ (qB HB)))
         have n3_ := aM_ (blk_below (g := gb107) (o := .cells #[.int .i64 a0_0, .int .i64 a0_1, .int .i64 a0_2, .int .i64 a0_3, .slice (some ad124) l0_4.length c0_4] 120 (0, 0)) qk hb)
         have n4_ := aM_ (bT_ (qB HB) hb)
         clear HO127 HO131 BK107 HB
         have HO127 := n0_
         have HO131 := n1_
         have HO137 := n2_
         have BK107 := n3_
         have HB := n4_
         clear n0_ n1_ n2_ n3_ n4_ hb ho35
         obtain ⟨Ao37, co37, eo37⟩ := Kd.R_slice HO131.out
         (first | subst eo37 | (injection eo37 with f1_ f2_ f3_; have f4_ := f1_.symm; have f5_ := f3_.symm; clear f1_ f2_ f3_; subst f4_; subst f5_))
         refine hK.out _ _ ⟨(kC_ BK107.out 0).trans rfl, (kC_ BK107.out 1).trans rfl, (kC_ BK107.out 2).trans rfl, (kC_ BK107.out 3).trans rfl, (kC_ BK107.out 4).trans rfl, (qc HB hw124_0), (qc HB hw124_1), (qc HB hw124_2), (qc HB hw124_3), (qc HB hw124_4), (qc HB hw128_0), (qc HB hw128_1), (qc HB hw128_2), (qc HB hw128_3), (qc HB hw128_4)⟩ (fun hHeld => ?_)
         clear hK K
         refine norm_ (a' := ?_) ?_ ?_
         rotate_left
         · show Act.put _ (some 41) _ = _
           simp only [Act.put, sA_, sB_, sC_, i64_w, i32_w]
           rfl
         refine one_ (i := 10) (N := some 37) #[T_, T_, T_, T_, T_, T_, T_, T_, T_, T_, T_, T_, T_, T_, T_, F_, F_] rfl rfl (one_of HT_.out (by kernel_rfl)) (by decide) (fun K hK => ?_)
         refine Kd.R_append_rows_step k30 (w0 := w) w.heap.size (by rfl) (.tmp 31) (.tmp 36) 23 30 (.agg #[(.int .i64 0), (.int .i64 0), (.int .i64 0), (.int .i64 0)]) 32 rfl Tryz.underlying23 info30 rfl (by decide) (by omega) v126 t125 t129 _ _ _ (fun k_ => some k_ ≠ (.slice Ao37 t129.length co37 : Value).ownBlock ∧ some k_ ≠ (v136 : Value).ownBlock) (fun _ => False) rfl rfl ?aO ?aR (fun _ _ h => h) (fun _ h => h.elim) ?aF ?aB ?aS ?aL ?_
         (case aR => exact qC ((Kd.R_reads' HO131.out).2.2))
         (case aB => exact (qB HB))
         (case aF => exact (fun k_ hk => ⟨Kd.fresh' (Kd.R_lt (qR HO131)) k_ hk, Kd.fresh' (Kd.R_lt (qR HO137)) k_ hk⟩))
         (case aO => exact (qr (Kd.R_mono HO127.out (fun _ hk => ⟨hk.1.2, hk.2⟩))))
         (case aS => exact (bZ_ (qB HB)))
         (case aL => have := LMc27.out; omega)
         intro v133 w36 ho hb hg hat
         rw [← Ny132.out] at ho
         have n0_ := aM_ (blk_grown (g := gb107) (o := .cells #[.int .i64 a0_0, .int .i64 a0_1, .int .i64 a0_2, .int .i64 a0_3, .slice (some ad124) l0_4.length c0_4] 120 (0, 0)) qk hg (Kd.R_ne HO127.out BK107.out (by decide)))
         have n1_ := aM_ (Kd.R_after (ok := (fun k_ => some k_ ≠ (v136 : Value).ownBlock)) (qr (Kd.R_mono HO131.out (fun _ hk => ⟨hk.2, hk.1.2⟩))) hg hat)
         have n2_ := aM_ (Kd.R_after (ok := (fun k_ => some k_ ≠ (.slice Ao37 t129.length co37 : Value).ownBlock)) (qr (Kd.R_mono HO137.out (fun _ hk => ⟨hk.2, hk.1.2⟩))) hg hat)
         have n3_ := aM_ (hb)
         have n4_ := aM_ (ho)
         clear BK107 HO131 HO137 HB HO127
         have BK107 := n0_
         have HO131 := n1_
         have HO137 := n2_
         have HB := n3_
         have HO134 := n4_
         clear n0_ n1_ n2_ n3_ n4_ ho hb hg hat
         refine hK.out _ _ ⟨(kC_ BK107.out 0).trans rfl, (kC_ BK107.out 1).trans rfl, (kC_ BK107.out 2).trans rfl, (kC_ BK107.out 3).trans rfl, (kC_ BK107.out 4).trans rfl, (qc HB hw124_0), (qc HB hw124_1), (qc HB hw124_2), (qc HB hw124_3), (qc HB hw124_4), (qc HB hw128_0), (qc HB hw128_1), (qc HB hw128_2), (qc HB hw128_3), (qc HB hw128_4)⟩ (fun hHeld => ?_)
         clear hK K
         refine norm_ (a' := ?_) ?_ ?_
         rotate_left
         · show Act.put _ (some 37) _ = _
           simp only [Act.put, sA_, sB_, sC_, i64_w, i32_w]
           rfl
         exact norm_ (by simp only [putAll, Act.put, sA_, sB_, sC_]) (hCont (v126, .slice Ao37 t129.length co37, v133, v136) _ ⟨hHeld, (qr (Kd.R_mono HO131.out (fun _ hk => ⟨hk.2, hk.1⟩))), (qR HO134), (qR HO137), qk, (qB HB)⟩)
     · skip
       refine Kd.R_lit_step k30 _ 30 ?hg (N := 41) ?hd (xs := ([(⟨4, a0_0, (⟨0, 0⟩ : S28)⟩ : S30)] : List (S30))) (inner := [.int .i64 4, .int .i64 a0_0, .int .i64 0, .int .i64 0]) (ok := fun _ => True) (okp := fun _ => True) ?hr ?hp (fun _ hk => hk) trivial (Below.refl _ _) (Nat.le_refl _) (by simp) ?_; (case hd => rfl); (case hg => rfl); (case hr => first | (go_simp; done) | (go_simp; rfl)); (case hp => exact (Reps.c4 (show Kd.M k30 _ _ _ (⟨4, a0_0, (⟨0, 0⟩ : S28)⟩ : S30) [.int .i64 4, .int .i64 a0_0, .int .i64 0, .int .i64 0] from (k30_mkM _ _ _ (⟨4, a0_0, (⟨0, 0⟩ : S28)⟩ : S30) )) (Reps.none _ _)))
       intro v136 w33 ho34 hb hg_ hnew_
       clear hg_ hnew_
       (first | rw [← Ny135.out] at ho34 | (simp only [Int.reduceToNat] at ho34; rw [← Ny135.out] at ho34))
       have n0_ := aM_ (Kd.R_elder' (qR HO127) (Kd.R_base ho34) hb)
       have n1_ := aM_ (Kd.R_lower (Kd.R_new' ho34 (Kd.R_lt (qR HO127))) (bZ_ (qB HB)))
       have n2_ := aM_ (blk_below (g := gb107) (o := .cells #[.int .i64 a0_0, .int .i64 a0_1, .int .i64 a0_2, .int .i64 a0_3, .slice (some ad124) l0_4.length c0_4] 120 (0, 0)) qk hb)
       have n3_ := aM_ (bT_ (qB HB) hb)
       clear HO127 BK107 HB
       have HO127 := n0_
       have HO137 := n1_
       have BK107 := n2_
       have HB := n3_
       clear n0_ n1_ n2_ n3_ hb ho34
       refine hK.out _ _ ⟨(kC_ BK107.out 0).trans rfl, (kC_ BK107.out 1).trans rfl, (kC_ BK107.out 2).trans rfl, (kC_ BK107.out 3).trans rfl, (kC_ BK107.out 4).trans rfl, (qc HB hw124_0), (qc HB hw124_1), (qc HB hw124_2), (qc HB hw124_3), (qc HB hw124_4), (qc HB hw128_0), (qc HB hw128_1), (qc HB hw128_2), (qc HB hw128_3), (qc HB hw128_4)⟩ (fun hHeld => ?_)
       clear hK K
       refine norm_ (a' := ?_) ?_ ?_
       rotate_left
       · show Act.put _ (some 41) _ = _
         simp only [Act.put, sA_, sB_, sC_, i64_w, i32_w]
         rfl
       refine one_ (i := 9) (N := some 36) #[T_, T_, T_, T_, T_, T_, T_, T_, T_, T_, F_, T_, T_, T_, T_, F_, F_] rfl rfl (one_of HT_.out (by kernel_rfl)) (by decide) (fun K hK => ?_)
       refine goes_ Tryz.func118 (by kernel_rfl) rfl #[.agg #[.int .i64 ((rd_T120 l0_4 1).f0), .int .i64 ((rd_T120 l0_4 1).f1), .int .i64 ((rd_T120 l0_4 1).f2.f0), .int .i64 ((rd_T120 l0_4 1).f2.f1), .slice A128_4 ((rd_T120 l0_4 1).f3).length c128_4]] (by rfl) rfl rfl (by (try simp only [mA_, List.map_cons, List.map_nil]); first | done | rfl | (simp only [lD_, lT_]; rfl)) ?_
       with_reducible refine (ih k (by omega) ((rd_T120 l0_4 1).f0) ((rd_T120 l0_4 1).f1) ((rd_T120 l0_4 1).f2.f0) ((rd_T120 l0_4 1).f2.f1) _ _ ((rd_T120 l0_4 1).f3) t129 _ ?side1 ?side2 A26.out).mono ?_
       (case side1 => exact qC (Kd.C_below HR128_4.out HB.out))
       (case side2 => exact HC128_4.out)
       rintro e w35 ⟨v130, rfl, ho0, hb⟩
       refine ⟨_, rfl, ?_⟩
       have n0_ := aM_ (Kd.R_elder' (qR HO127) (Kd.R_base ho0) hb)
       have n1_ := aM_ (Kd.R_elder' (qR HO137) (Kd.R_base ho0) hb)
       have n2_ := aM_ (Kd.R_lower (Kd.R_new' (Kd.R_new' ho0 (Kd.R_lt (qR HO127))) (Kd.R_lt (qR HO137))) (bZ_ (qB HB)))
       have n3_ := aM_ (blk_below (g := gb107) (o := .cells #[.int .i64 a0_0, .int .i64 a0_1, .int .i64 a0_2, .int .i64 a0_3, .slice (some ad124) l0_4.length c0_4] 120 (0, 0)) qk hb)
       have n4_ := aM_ (bT_ (qB HB) hb)
       clear HO127 HO137 BK107 HB
       revert n0_ n1_ n2_ n3_ n4_
       intro HO127 HO137 HO131 BK107 HB
       (try clear hb)
       (try clear hb2)
       (try clear hk)
       (try clear hi)
       (try clear ho0)
       obtain ⟨Ao37, co37, eo37⟩ := Kd.R_slice HO131.out
       (first | subst eo37 | (injection eo37 with f1_ f2_ f3_; have f4_ := f1_.symm; have f5_ := f3_.symm; clear f1_ f2_ f3_; subst f4_; subst f5_))
       refine hK.out _ _ ⟨(kC_ BK107.out 0).trans rfl, (kC_ BK107.out 1).trans rfl, (kC_ BK107.out 2).trans rfl, (kC_ BK107.out 3).trans rfl, (kC_ BK107.out 4).trans rfl, (qc HB hw124_0), (qc HB hw124_1), (qc HB hw124_2), (qc HB hw124_3), (qc HB hw124_4), (qc HB hw128_0), (qc HB hw128_1), (qc HB hw128_2), (qc HB hw128_3), (qc HB hw128_4)⟩ (fun hHeld => ?_)
       clear hK K
       refine norm_ (a' := ?_) ?_ ?_
       rotate_left
       · show Act.put _ (some 36) _ = _
         simp only [Act.put, sA_, sB_, sC_, i64_w, i32_w]
         rfl
       refine one_ (i := 10) (N := some 37) #[T_, T_, T_, T_, T_, T_, T_, T_, T_, T_, T_, T_, T_, T_, T_, F_, F_] rfl rfl (one_of HT_.out (by kernel_rfl)) (by decide) (fun K hK => ?_)
       refine Kd.R_append_rows_step k30 (w0 := w) w.heap.size (by rfl) (.tmp 31) (.tmp 36) 23 30 (.agg #[(.int .i64 0), (.int .i64 0), (.int .i64 0), (.int .i64 0)]) 32 rfl Tryz.underlying23 info30 rfl (by decide) (by omega) v126 t125 t129 _ _ _ (fun k_ => some k_ ≠ (v136 : Value).ownBlock ∧ some k_ ≠ (.slice Ao37 t129.length co37 : Value).ownBlock) (fun _ => False) rfl rfl ?aO ?aR (fun _ _ h => h) (fun _ h => h.elim) ?aF ?aB ?aS ?aL ?_
       (case aR => exact qC ((Kd.R_reads' HO131.out).2.2))
       (case aB => exact (qB HB))
       (case aF => exact (fun k_ hk => ⟨Kd.fresh' (Kd.R_lt (qR HO137)) k_ hk, Kd.fresh' (Kd.R_lt (qR HO131)) k_ hk⟩))
       (case aO => exact (qr (Kd.R_mono HO127.out (fun _ hk => ⟨hk.1.2, hk.2⟩))))
       (case aS => exact (bZ_ (qB HB)))
       (case aL => have := LMc27.out; omega)
       intro v133 w36 ho hb hg hat
       rw [← Ny132.out] at ho
       have n0_ := aM_ (blk_grown (g := gb107) (o := .cells #[.int .i64 a0_0, .int .i64 a0_1, .int .i64 a0_2, .int .i64 a0_3, .slice (some ad124) l0_4.length c0_4] 120 (0, 0)) qk hg (Kd.R_ne HO127.out BK107.out (by decide)))
       have n1_ := aM_ (Kd.R_after (ok := (fun k_ => some k_ ≠ (.slice Ao37 t129.length co37 : Value).ownBlock)) (qr (Kd.R_mono HO137.out (fun _ hk => ⟨hk.2, hk.1.2⟩))) hg hat)
       have n2_ := aM_ (Kd.R_after (ok := (fun k_ => some k_ ≠ (v136 : Value).ownBlock)) (qr (Kd.R_mono HO131.out (fun _ hk => ⟨hk.2, hk.1.2⟩))) hg hat)
       have n3_ := aM_ (hb)
       have n4_ := aM_ (ho)
       clear BK107 HO137 HO131 HB HO127
       have BK107 := n0_
       have HO137 := n1_
       have HO131 := n2_
       have HB := n3_
       have HO134 := n4_
       clear n0_ n1_ n2_ n3_ n4_ ho hb hg hat
       refine hK.out _ _ ⟨(kC_ BK107.out 0).trans rfl, (kC_ BK107.out 1).trans rfl, (kC_ BK107.out 2).trans rfl, (kC_ BK107.out 3).trans rfl, (kC_ BK107.out 4).trans rfl, (qc HB hw124_0), (qc HB hw124_1), (qc HB hw124_2), (qc HB hw124_3), (qc HB hw124_4), (qc HB hw128_0), (qc HB hw128_1), (qc HB hw128_2), (qc HB hw128_3), (qc HB hw128_4)⟩ (fun hHeld => ?_)
       clear hK K
       refine norm_ (a' := ?_) ?_ ?_
       rotate_left
       · show Act.put _ (some 37) _ = _
         simp only [Act.put, sA_, sB_, sC_, i64_w, i32_w]
         rfl
       exact norm_ (by simp only [putAll, Act.put, sA_, sB_, sC_]) (hCont (v126, .slice Ao37 t129.length co37, v133, v136) _ ⟨hHeld, (qr (Kd.R_mono HO131.out (fun _ hk => ⟨hk.2, hk.1⟩))), (qr (Kd.R_mono HO134.out (fun _ hk => ⟨hk.2, hk.1⟩))), (qR HO137), qk, (qB HB)⟩)
   · skip
     refine Kd.R_lit_step k30 _ 30 ?hg (N := 41) ?hd (xs := ([(⟨4, a0_0, (⟨0, 0⟩ : S28)⟩ : S30)] : List (S30))) (inner := [.int .i64 4, .int .i64 a0_0, .int .i64 0, .int .i64 0]) (ok := fun _ => True) (okp := fun _ => True) ?hr ?hp (fun _ hk => hk) trivial (Below.refl _ _) (Nat.le_refl _) (by simp) ?_; (case hd => rfl); (case hg => rfl); (case hr => first | (go_simp; done) | (go_simp; rfl)); (case hp => exact (Reps.c4 (show Kd.M k30 _ _ _ (⟨4, a0_0, (⟨0, 0⟩ : S28)⟩ : S30) [.int .i64 4, .int .i64 a0_0, .int .i64 0, .int .i64 0] from (k30_mkM _ _ _ (⟨4, a0_0, (⟨0, 0⟩ : S28)⟩ : S30) )) (Reps.none _ _)))
     intro v136 w32 ho33 hb hg_ hnew_
     clear hg_ hnew_
     (first | rw [← Ny135.out] at ho33 | (simp only [Int.reduceToNat] at ho33; rw [← Ny135.out] at ho33))
     have n0_ := aM_ (Kd.R_lower ho33 (bZ_ (qB HB)))
     have n1_ := aM_ (blk_below (g := gb107) (o := .cells #[.int .i64 a0_0, .int .i64 a0_1, .int .i64 a0_2, .int .i64 a0_3, .slice (some ad124) l0_4.length c0_4] 120 (0, 0)) qk hb)
     have n2_ := aM_ (bT_ (qB HB) hb)
     clear BK107 HB
     have HO137 := n0_
     have BK107 := n1_
     have HB := n2_
     clear n0_ n1_ n2_ hb ho33
     refine hK.out _ _ ⟨(kC_ BK107.out 0).trans rfl, (kC_ BK107.out 1).trans rfl, (kC_ BK107.out 2).trans rfl, (kC_ BK107.out 3).trans rfl, (kC_ BK107.out 4).trans rfl, (qc HB hw124_0), (qc HB hw124_1), (qc HB hw124_2), (qc HB hw124_3), (qc HB hw124_4), (qc HB hw128_0), (qc HB hw128_1), (qc HB hw128_2), (qc HB hw128_3), (qc HB hw128_4)⟩ (fun hHeld => ?_)
     clear hK K
     refine norm_ (a' := ?_) ?_ ?_
     rotate_left
     · show Act.put _ (some 41) _ = _
       simp only [Act.put, sA_, sB_, sC_, i64_w, i32_w]
       rfl
     refine one_ (i := 4) (N := some 31) #[T_, T_, T_, T_, T_, T_, T_, T_, T_, F_, F_, T_, T_, T_, T_, F_, F_] rfl rfl (one_of HT_.out (by kernel_rfl)) (by decide) (fun K hK => ?_)
     refine goes_ Tryz.func118 (by kernel_rfl) rfl #[.agg #[.int .i64 ((rd_T120 l0_4 0).f0), .int .i64 ((rd_T120 l0_4 0).f1), .int .i64 ((rd_T120 l0_4 0).f2.f0), .int .i64 ((rd_T120 l0_4 0).f2.f1), .slice A124_4 ((rd_T120 l0_4 0).f3).length c124_4]] (by rfl) rfl rfl (by (try simp only [mA_, List.map_cons, List.map_nil]); first | done | rfl | (simp only [lD_, lT_]; rfl)) ?_
     with_reducible refine (ih k (by omega) ((rd_T120 l0_4 0).f0) ((rd_T120 l0_4 0).f1) ((rd_T120 l0_4 0).f2.f0) ((rd_T120 l0_4 0).f2.f1) _ _ ((rd_T120 l0_4 0).f3) t125 _ ?side1 ?side2 A24.out).mono ?_
     (case side1 => exact qC (Kd.C_below HR124_4.out HB.out))
     (case side2 => exact HC124_4.out)
     rintro e w34 ⟨v126, rfl, ho0, hb⟩
     refine ⟨_, rfl, ?_⟩
     have n0_ := aM_ (Kd.R_elder' (qR HO137) (Kd.R_base ho0) hb)
     have n1_ := aM_ (Kd.R_lower (Kd.R_new' ho0 (Kd.R_lt (qR HO137))) (bZ_ (qB HB)))
     have n2_ := aM_ (blk_below (g := gb107) (o := .cells #[.int .i64 a0_0, .int .i64 a0_1, .int .i64 a0_2, .int .i64 a0_3, .slice (some ad124) l0_4.length c0_4] 120 (0, 0)) qk hb)
     have n3_ := aM_ (bT_ (qB HB) hb)
     clear HO137 BK107 HB
     revert n0_ n1_ n2_ n3_
     intro HO137 HO127 BK107 HB
     (try clear hb)
     (try clear hb2)
     (try clear hk)
     (try clear hi)
     (try clear ho0)
     refine hK.out _ _ ⟨(kC_ BK107.out 0).trans rfl, (kC_ BK107.out 1).trans rfl, (kC_ BK107.out 2).trans rfl, (kC_ BK107.out 3).trans rfl, (kC_ BK107.out 4).trans rfl, (qc HB hw124_0), (qc HB hw124_1), (qc HB hw124_2), (qc HB hw124_3), (qc HB hw124_4), (qc HB hw128_0), (qc HB hw128_1), (qc HB hw128_2), (qc HB hw128_3), (qc HB hw128_4)⟩ (fun hHeld => ?_)
     clear hK K
     refine norm_ (a' := ?_) ?_ ?_
     rotate_left
     · show Act.put _ (some 31) _ = _
       simp only [Act.put, sA_, sB_, sC_, i64_w, i32_w]
       rfl
     refine one_ (i := 9) (N := some 36) #[T_, T_, T_, T_, T_, T_, T_, T_, T_, T_, F_, T_, T_, T_, T_, F_, F_] rfl rfl (one_of HT_.out (by kernel_rfl)) (by decide) (fun K hK => ?_)
     refine goes_ Tryz.func118 (by kernel_rfl) rfl #[.agg #[.int .i64 ((rd_T120 l0_4 1).f0), .int .i64 ((rd_T120 l0_4 1).f1), .int .i64 ((rd_T120 l0_4 1).f2.f0), .int .i64 ((rd_T120 l0_4 1).f2.f1), .slice A128_4 ((rd_T120 l0_4 1).f3).length c128_4]] (by rfl) rfl rfl (by (try simp only [mA_, List.map_cons, List.map_nil]); first | done | rfl | (simp only [lD_, lT_]; rfl)) ?_
     with_reducible refine (ih k (by omega) ((rd_T120 l0_4 1).f0) ((rd_T120 l0_4 1).f1) ((rd_T120 l0_4 1).f2.f0) ((rd_T120 l0_4 1).f2.f1) _ _ ((rd_T120 l0_4 1).f3) t129 _ ?side1 ?side2 A26.out).mono ?_
     (case side1 => exact qC (Kd.C_below HR128_4.out HB.out))
     (case side2 => exact HC128_4.out)
     rintro e w35 ⟨v130, rfl, ho0, hb⟩
     refine ⟨_, rfl, ?_⟩
     have n0_ := aM_ (Kd.R_elder' (qR HO137) (Kd.R_base ho0) hb)
     have n1_ := aM_ (Kd.R_elder' (qR HO127) (Kd.R_base ho0) hb)
     have n2_ := aM_ (Kd.R_lower (Kd.R_new' (Kd.R_new' ho0 (Kd.R_lt (qR HO137))) (Kd.R_lt (qR HO127))) (bZ_ (qB HB)))
     have n3_ := aM_ (blk_below (g := gb107) (o := .cells #[.int .i64 a0_0, .int .i64 a0_1, .int .i64 a0_2, .int .i64 a0_3, .slice (some ad124) l0_4.length c0_4] 120 (0, 0)) qk hb)
     have n4_ := aM_ (bT_ (qB HB) hb)
     clear HO137 HO127 BK107 HB
     revert n0_ n1_ n2_ n3_ n4_
     intro HO137 HO127 HO131 BK107 HB
     (try clear hb)
     (try clear hb2)
     (try clear hk)
     (try clear hi)
     (try clear ho0)
     obtain ⟨Ao37, co37, eo37⟩ := Kd.R_slice HO131.out
     (first | subst eo37 | (injection eo37 with f1_ f2_ f3_; have f4_ := f1_.symm; have f5_ := f3_.symm; clear f1_ f2_ f3_; subst f4_; subst f5_))
     refine hK.out _ _ ⟨(kC_ BK107.out 0).trans rfl, (kC_ BK107.out 1).trans rfl, (kC_ BK107.out 2).trans rfl, (kC_ BK107.out 3).trans rfl, (kC_ BK107.out 4).trans rfl, (qc HB hw124_0), (qc HB hw124_1), (qc HB hw124_2), (qc HB hw124_3), (qc HB hw124_4), (qc HB hw128_0), (qc HB hw128_1), (qc HB hw128_2), (qc HB hw128_3), (qc HB hw128_4)⟩ (fun hHeld => ?_)
     clear hK K
     refine norm_ (a' := ?_) ?_ ?_
     rotate_left
     · show Act.put _ (some 36) _ = _
       simp only [Act.put, sA_, sB_, sC_, i64_w, i32_w]
       rfl
     refine one_ (i := 10) (N := some 37) #[T_, T_, T_, T_, T_, T_, T_, T_, T_, T_, T_, T_, T_, T_, T_, F_, F_] rfl rfl (one_of HT_.out (by kernel_rfl)) (by decide) (fun K hK => ?_)
     refine Kd.R_append_rows_step k30 (w0 := w) w.heap.size (by rfl) (.tmp 31) (.tmp 36) 23 30 (.agg #[(.int .i64 0), (.int .i64 0), (.int .i64 0), (.int .i64 0)]) 32 rfl Tryz.underlying23 info30 rfl (by decide) (by omega) v126 t125 t129 _ _ _ (fun k_ => some k_ ≠ (v136 : Value).ownBlock ∧ some k_ ≠ (.slice Ao37 t129.length co37 : Value).ownBlock) (fun _ => False) rfl rfl ?aO ?aR (fun _ _ h => h) (fun _ h => h.elim) ?aF ?aB ?aS ?aL ?_
     (case aR => exact qC ((Kd.R_reads' HO131.out).2.2))
     (case aB => exact (qB HB))
     (case aF => exact (fun k_ hk => ⟨Kd.fresh' (Kd.R_lt (qR HO137)) k_ hk, Kd.fresh' (Kd.R_lt (qR HO131)) k_ hk⟩))
     (case aO => exact (qr (Kd.R_mono HO127.out (fun _ hk => ⟨hk.1.2, hk.2⟩))))
     (case aS => exact (bZ_ (qB HB)))
     (case aL => have := LMc27.out; omega)
     intro v133 w36 ho hb hg hat
     rw [← Ny132.out] at ho
     have n0_ := aM_ (blk_grown (g := gb107) (o := .cells #[.int .i64 a0_0, .int .i64 a0_1, .int .i64 a0_2, .int .i64 a0_3, .slice (some ad124) l0_4.length c0_4] 120 (0, 0)) qk hg (Kd.R_ne HO127.out BK107.out (by decide)))
     have n1_ := aM_ (Kd.R_after (ok := (fun k_ => some k_ ≠ (.slice Ao37 t129.length co37 : Value).ownBlock)) (qr (Kd.R_mono HO137.out (fun _ hk => ⟨hk.2, hk.1.2⟩))) hg hat)
     have n2_ := aM_ (Kd.R_after (ok := (fun k_ => some k_ ≠ (v136 : Value).ownBlock)) (qr (Kd.R_mono HO131.out (fun _ hk => ⟨hk.1.2, hk.2⟩))) hg hat)
     have n3_ := aM_ (hb)
     have n4_ := aM_ (ho)
     clear BK107 HO137 HO131 HB HO127
     have BK107 := n0_
     have HO137 := n1_
     have HO131 := n2_
     have HB := n3_
     have HO134 := n4_
     clear n0_ n1_ n2_ n3_ n4_ ho hb hg hat
     refine hK.out _ _ ⟨(kC_ BK107.out 0).trans rfl, (kC_ BK107.out 1).trans rfl, (kC_ BK107.out 2).trans rfl, (kC_ BK107.out 3).trans rfl, (kC_ BK107.out 4).trans rfl, (qc HB hw124_0), (qc HB hw124_1), (qc HB hw124_2), (qc HB hw124_3), (qc HB hw124_4), (qc HB hw128_0), (qc HB hw128_1), (qc HB hw128_2), (qc HB hw128_3), (qc HB hw128_4)⟩ (fun hHeld => ?_)
     clear hK K
     refine norm_ (a' := ?_) ?_ ?_
     rotate_left
     · show Act.put _ (some 37) _ = _
       simp only [Act.put, sA_, sB_, sC_, i64_w, i32_w]
       rfl
     exact norm_ (by simp only [putAll, Act.put, sA_, sB_, sC_]) (hCont (v126, .slice Ao37 t129.length co37, v133, v136) _ ⟨hHeld, (qr (Kd.R_mono HO131.out (fun _ hk => ⟨hk.2, hk.1⟩))), (qr (Kd.R_mono HO134.out (fun _ hk => ⟨hk.2, hk.1⟩))), (qR HO137), qk, (qB HB)⟩)
 rintro ⟨v126, v130, v133, v136⟩ w38 ⟨hS_, h0_, h1_, h2_, h3_, h4_⟩
 have n0_ : Aside0 (Kd.R k30 30 w38 w.heap.size (fun k_ => some k_ ≠ (v133 : Value).ownBlock ∧ some k_ ≠ (v136 : Value).ownBlock) v130 t129) := ⟨h0_⟩
 have n1_ : Aside0 (Kd.R k30 30 w38 w.heap.size (fun k_ => some k_ ≠ (v130 : Value).ownBlock ∧ some k_ ≠ (v136 : Value).ownBlock) v133 y132) := ⟨h1_⟩
 have n2_ : Aside0 (Kd.R k30 30 w38 w.heap.size (fun k_ => some k_ ≠ (v130 : Value).ownBlock ∧ some k_ ≠ (v133 : Value).ownBlock) v136 y135) := ⟨h2_⟩
 have n3_ : Aside0 (w38.heap[gb107]? = some (.cells #[.int .i64 a0_0, .int .i64 a0_1, .int .i64 a0_2, .int .i64 a0_3, .slice (some ad124) l0_4.length c0_4] 120 (0, 0))) := ⟨h3_⟩
 have n4_ : Aside0 (Below w.heap.size w w38) := ⟨h4_⟩
 clear BK107 HB h0_ h1_ h2_ h3_ h4_
 revert n0_ n1_ n2_ n3_ n4_
 intro HO131 HO134 HO137 BK107 HB
 have hHeld : w38.cell? ⟨gb107, 0, none⟩ = some (.int .i64 a0_0) ∧ w38.cell? ⟨gb107, 1, none⟩ = some (.int .i64 a0_1) ∧ w38.cell? ⟨gb107, 2, none⟩ = some (.int .i64 a0_2) ∧ w38.cell? ⟨gb107, 3, none⟩ = some (.int .i64 a0_3) ∧ w38.cell? ⟨gb107, 4, none⟩ = some (.slice (some ad124) l0_4.length c0_4) ∧ w38.cell? ad124 = some (.int .i64 ((rd_T120 l0_4 0).f0)) ∧ w38.cell? ⟨ad124.block, ad124.off + 1, none⟩ = some (.int .i64 ((rd_T120 l0_4 0).f1)) ∧ w38.cell? ⟨ad124.block, ad124.off + 2, none⟩ = some (.int .i64 ((rd_T120 l0_4 0).f2.f0)) ∧ w38.cell? ⟨ad124.block, ad124.off + 3, none⟩ = some (.int .i64 ((rd_T120 l0_4 0).f2.f1)) ∧ w38.cell? ⟨ad124.block, ad124.off + 4, none⟩ = some (.slice A124_4 ((rd_T120 l0_4 0).f3).length c124_4) ∧ w38.cell? ⟨ad124.block, ad124.off + 5, none⟩ = some (.int .i64 ((rd_T120 l0_4 1).f0)) ∧ w38.cell? ⟨ad124.block, ad124.off + 5 + 1, none⟩ = some (.int .i64 ((rd_T120 l0_4 1).f1)) ∧ w38.cell? ⟨ad124.block, ad124.off + 5 + 2, none⟩ = some (.int .i64 ((rd_T120 l0_4 1).f2.f0)) ∧ w38.cell? ⟨ad124.block, ad124.off + 5 + 3, none⟩ = some (.int .i64 ((rd_T120 l0_4 1).f2.f1)) ∧ w38.cell? ⟨ad124.block, ad124.off + 5 + 4, none⟩ = some (.slice A128_4 ((rd_T120 l0_4 1).f3).length c128_4) := hS_
 obtain ⟨Ao40, co40, eo40⟩ := Kd.R_slice HO137.out
 (first | subst eo40 | (injection eo40 with f1_ f2_ f3_; have f4_ := f1_.symm; have f5_ := f3_.symm; clear f1_ f2_ f3_; subst f4_; subst f5_))
 refine norm_ (a' := ?_) ?_ ?_
 rotate_left
 · simp only [putAll, Act.put, sA_, sB_, sC_]
   rfl
 refine one_ (i := 15) (N := some 42) #[T_, T_, T_, T_, T_, T_, T_, T_, T_, T_, T_, T_, T_, T_, T_, T_, F_] rfl rfl (one_of HT_.out (by kernel_rfl)) (by decide) (fun K hK => ?_)
 refine Kd.R_append_rows_step k30 (w0 := w) w.heap.size (by rfl) (.tmp 37) (.tmp 41) 23 30 (.agg #[(.int .i64 0), (.int .i64 0), (.int .i64 0), (.int .i64 0)]) 32 rfl Tryz.underlying23 info30 rfl (by decide) (by omega) v133 y132 y135 _ _ _ (fun k_ => some k_ ≠ (v130 : Value).ownBlock ∧ some k_ ≠ (.slice Ao40 y135.length co40 : Value).ownBlock) (fun _ => False) rfl rfl ?aO ?aR (fun _ _ h => h) (fun _ h => h.elim) ?aF ?aB ?aS ?aL ?_
 (case aR => exact qC ((Kd.R_reads' HO137.out).2.2))
 (case aB => exact (qB HB))
 (case aF => exact (fun k_ hk => ⟨Kd.fresh' (Kd.R_lt (qR HO131)) k_ hk, Kd.fresh' (Kd.R_lt (qR HO137)) k_ hk⟩))
 (case aO => exact (qR HO134))
 (case aS => exact (bZ_ (qB HB)))
 (case aL => have := LMc28.out; omega)
 intro v139 w39 ho hb hg hat
 rw [← Ny138.out] at ho
 have n0_ := aM_ (blk_grown (g := gb107) (o := .cells #[.int .i64 a0_0, .int .i64 a0_1, .int .i64 a0_2, .int .i64 a0_3, .slice (some ad124) l0_4.length c0_4] 120 (0, 0)) qk hg (Kd.R_ne HO134.out BK107.out (by decide)))
 have n1_ := aM_ (Kd.R_after (ok := (fun k_ => some k_ ≠ (.slice Ao40 y135.length co40 : Value).ownBlock)) (qr (Kd.R_mono HO131.out (fun _ hk => ⟨hk.2, hk.1⟩))) hg hat)
 have n2_ := aM_ (Kd.R_after (ok := (fun k_ => some k_ ≠ (v130 : Value).ownBlock)) (qR HO137) hg hat)
 have n3_ := aM_ (hb)
 have n4_ := aM_ (ho)
 clear BK107 HO131 HO137 HB HO134
 have BK107 := n0_
 have HO131 := n1_
 have HO137 := n2_
 have HB := n3_
 have HO140 := n4_
 clear n0_ n1_ n2_ n3_ n4_ ho hb hg hat
 refine hK.out _ _ ⟨(kC_ BK107.out 0).trans rfl, (kC_ BK107.out 1).trans rfl, (kC_ BK107.out 2).trans rfl, (kC_ BK107.out 3).trans rfl, (kC_ BK107.out 4).trans rfl, (qc HB hw124_0), (qc HB hw124_1), (qc HB hw124_2), (qc HB hw124_3), (qc HB hw124_4), (qc HB hw128_0), (qc HB hw128_1), (qc HB hw128_2), (qc HB hw128_3), (qc HB hw128_4)⟩ (fun hHeld => ?_)
 clear hK K
 refine norm_ (a' := ?_) ?_ ?_
 rotate_left
 · show Act.put _ (some 42) _ = _
   simp only [Act.put, sA_, sB_, sC_, i64_w, i32_w]
   rfl
 refine pure_ (i := 16) (N := some 2) (v := ?_) (a' := ?_) #[T_, T_, T_, T_, T_, T_, T_, T_, T_, T_, T_, T_, T_, T_, T_, T_, T_] rfl rfl (any_of HT_.out (by kernel_rfl)) (fun _ _ _ h => h) (Or.inl ⟨by rfl, ?_⟩) ?_ ?_
 rotate_left
 · intro w'
   go_simp
   with_reducible rfl
 rotate_left
 · simp only [Act.put, sA_, sB_, sC_, i64_w, i32_w]
   rfl
 refine done_ (done_of HT_.out (by kernel_rfl)) ?_
 try go_wp2
 go_ret
 exact ⟨_, qE, by (with_reducible repeat (first | apply rA_ | apply rN_ | apply rD_)); exact Kd.R_mono HO140.out (fun _ hk => trivial), qB HB⟩
def spec_l5One.g (F : List S122 → Int → Option (List S30)) (a0_0 : Int) (a0_1 : Int) (a0_2 : Int) (a0_3 : Int) (a0_4 : Int) (a0_5 : Int) (a0_6 : Int) (l0_7 : List (S120)) (l0_8 : List (S122)) (l0_9 : List (S122)) (a1 : Int) : Option ((List (S30))) := (spec_l5Expr.f 1000 a0_3 a0_4 a0_5 a0_6 l0_7).bind fun t377 => (if a0_0 = 1 then (if t377.length < 4398046511104 then (some (t377 ++ [(⟨3, 0, (⟨a0_1, a0_2⟩ : S28)⟩ : S30)])) else (none)) else (if a0_0 = 3 then ((F l0_8 (wrap64 (a1 + (wrap64 ((t377.length : Int) + 1))))).bind fun t383 => (if t377.length < 4398046511104 then ((some (t377 ++ [(⟨6, wrap64 ((wrap64 ((wrap64 (a1 + (wrap64 ((t377.length : Int) + 1)))) + (t383.length : Int))) + 1), (⟨0, 0⟩ : S28)⟩ : S30)] : List (S30))).bind fun y386 => (if y386.length + t383.length < 4398046511104 then ((some (y386 ++ t383 : List (S30))).bind fun y389 => (if y389.length < 4398046511104 then (some (y389 ++ [(⟨8, a1, (⟨0, 0⟩ : S28)⟩ : S30)])) else (none))) else (none))) else (none))) else ((F l0_8 (wrap64 (a1 + (wrap64 ((t377.length : Int) + 1))))).bind fun t395 => ((F l0_9 (wrap64 ((wrap64 ((wrap64 (a1 + (wrap64 ((t377.length : Int) + 1)))) + (t395.length : Int))) + 1))).bind fun t398 => (if t377.length < 4398046511104 then ((some (t377 ++ [(⟨6, wrap64 ((wrap64 ((wrap64 (a1 + (wrap64 ((t377.length : Int) + 1)))) + (t395.length : Int))) + 1), (⟨0, 0⟩ : S28)⟩ : S30)] : List (S30))).bind fun y401 => (if y401.length + t395.length < 4398046511104 then ((some (y401 ++ t395 : List (S30))).bind fun y404 => (if y404.length < 4398046511104 then ((some (y404 ++ [(⟨7, wrap64 ((wrap64 ((wrap64 ((wrap64 (a1 + (wrap64 ((t377.length : Int) + 1)))) + (t395.length : Int))) + 1)) + (t398.length : Int)), (⟨0, 0⟩ : S28)⟩ : S30)] : List (S30))).bind fun y407 => (if y407.length + t398.length < 4398046511104 then (some (y407 ++ t398)) else (none))) else (none))) else (none))) else (none))))))
set_option maxHeartbeats 8000000 in
set_option maxRecDepth 100000 in
theorem spec_l5One.callsG (F : List S122 → Int → Option (List S30)) (hF : ∀ (A0 : Option Addr) (c0 : Nat) (l0 : List (S122)) (a1 : Int) (r : List (S30)) (w : World) (hr0 : Kd.C k122 w A0 l0.length l0) (hc0 : l0.length ≤ c0) (h : F l0 a1 = some r), Calls Tryz.prog 56 #[.slice A0 l0.length c0, .int .i64 a1] w fun e w' => ∃ v0_ : Value, e = .returned (v0_) ∧ Kd.R k30 30 w' w.heap.size (fun _ => True) v0_ r ∧ Below w.heap.size w w') (a0_0 : Int) (a0_1 : Int) (a0_2 : Int) (a0_3 : Int) (a0_4 : Int) (a0_5 : Int) (a0_6 : Int) (A0_7 : Option Addr) (c0_7 : Nat) (l0_7 : List (S120)) (A0_8 : Option Addr) (c0_8 : Nat) (l0_8 : List (S122)) (A0_9 : Option Addr) (c0_9 : Nat) (l0_9 : List (S122)) (a1 : Int) (r : List (S30)) (w : World) (hr0_7 : Kd.C k120 w A0_7 l0_7.length l0_7) (hc0_7 : l0_7.length ≤ c0_7) (hr0_8 : Kd.C k122 w A0_8 l0_8.length l0_8) (hc0_8 : l0_8.length ≤ c0_8) (hr0_9 : Kd.C k122 w A0_9 l0_9.length l0_9) (hc0_9 : l0_9.length ≤ c0_9) (h : spec_l5One.g F a0_0 a0_1 a0_2 a0_3 a0_4 a0_5 a0_6 l0_7 l0_8 l0_9 a1 = some r) :
    Calls Tryz.prog 83 #[.agg #[.int .i64 a0_0, .int .i64 a0_1, .int .i64 a0_2, .int .i64 a0_3, .int .i64 a0_4, .int .i64 a0_5, .int .i64 a0_6, .slice A0_7 l0_7.length c0_7, .slice A0_8 l0_8.length c0_8, .slice A0_9 l0_9.length c0_9], .int .i64 a1] w fun e w' => ∃ v0_ : Value, e = .returned (v0_) ∧ Kd.R k30 30 w' w.heap.size (fun _ => True) v0_ r ∧ Below w.heap.size w w' := by
  have hu122 := Tryz.underlying122
  have hu120 := Tryz.underlying120
  have hu28 := Tryz.underlying28
  have hu30 := Tryz.underlying30
  have HR0_7 := aM_ hr0_7
  have HC0_7 := aM_ hc0_7
  clear hr0_7 hc0_7
  have HR0_8 := aM_ hr0_8
  have HC0_8 := aM_ hc0_8
  clear hr0_8 hc0_8
  have HR0_9 := aM_ hr0_9
  have HC0_9 := aM_ hc0_9
  clear hr0_9 hc0_9
  have HB := aM_ (Below.refl w.heap.size w)
  have H : ((spec_l5Expr.f 1000 a0_3 a0_4 a0_5 a0_6 l0_7).bind fun t377 => (if a0_0 = 1 then (if t377.length < 4398046511104 then (some (t377 ++ [(⟨3, 0, (⟨a0_1, a0_2⟩ : S28)⟩ : S30)])) else (none)) else (if a0_0 = 3 then ((F l0_8 (wrap64 (a1 + (wrap64 ((t377.length : Int) + 1))))).bind fun t383 => (if t377.length < 4398046511104 then ((some (t377 ++ [(⟨6, wrap64 ((wrap64 ((wrap64 (a1 + (wrap64 ((t377.length : Int) + 1)))) + (t383.length : Int))) + 1), (⟨0, 0⟩ : S28)⟩ : S30)] : List (S30))).bind fun y386 => (if y386.length + t383.length < 4398046511104 then ((some (y386 ++ t383 : List (S30))).bind fun y389 => (if y389.length < 4398046511104 then (some (y389 ++ [(⟨8, a1, (⟨0, 0⟩ : S28)⟩ : S30)])) else (none))) else (none))) else (none))) else ((F l0_8 (wrap64 (a1 + (wrap64 ((t377.length : Int) + 1))))).bind fun t395 => ((F l0_9 (wrap64 ((wrap64 ((wrap64 (a1 + (wrap64 ((t377.length : Int) + 1)))) + (t395.length : Int))) + 1))).bind fun t398 => (if t377.length < 4398046511104 then ((some (t377 ++ [(⟨6, wrap64 ((wrap64 ((wrap64 (a1 + (wrap64 ((t377.length : Int) + 1)))) + (t395.length : Int))) + 1), (⟨0, 0⟩ : S28)⟩ : S30)] : List (S30))).bind fun y401 => (if y401.length + t395.length < 4398046511104 then ((some (y401 ++ t395 : List (S30))).bind fun y404 => (if y404.length < 4398046511104 then ((some (y404 ++ [(⟨7, wrap64 ((wrap64 ((wrap64 ((wrap64 (a1 + (wrap64 ((t377.length : Int) + 1)))) + (t395.length : Int))) + 1)) + (t398.length : Int)), (⟨0, 0⟩ : S28)⟩ : S30)] : List (S30))).bind fun y407 => (if y407.length + t398.length < 4398046511104 then (some (y407 ++ t398)) else (none))) else (none))) else (none))) else (none))))))) = some r := h
  clear h
  replace H := oB_ H
  obtain ⟨t377, A30, H⟩ := H
  have A3 := aM_ A30
  clear A30
  by_cases c4 : a0_0 = 1
  · rw [if_pos c4] at H
    have c4b0 : (a0_0 == 1) = true := beq_iff_eq.mpr c4
    have c4b1 : (a0_0 != 1) = false := bne_eq_false_iff_eq.mpr c4
    clear c4
    by_cases c5 : t377.length < 4398046511104
    · rw [if_pos c5] at H
      have LMc5 := aM_ c5
      clear c5
      obtain ⟨y380, hy380⟩ : ∃ y_ : List (S30), y_ = (t377 ++ [(⟨3, 0, (⟨a0_1, a0_2⟩ : S28)⟩ : S30)]) := ⟨_, rfl⟩
      replace H : (some y380) = some r := by subst hy380; exact H
      have Ny380 := aM_ hy380
      clear hy380
      obtain rfl := oI_ H
      go_enter Tryz.func83, Tryz.ntmps83
      go_wp2_with (first | ((with_reducible refine gate_dst (N := 2) rfl ?_); refine box_event ?hg (N := 2) ?hd (cs := #[.int .i64 a0_0, .int .i64 a0_1, .int .i64 a0_2, .int .i64 a0_3, .int .i64 a0_4, .int .i64 a0_5, .int .i64 a0_6, .slice A0_7 l0_7.length c0_7, .slice A0_8 l0_8.length c0_8, .slice A0_9 l0_9.length c0_9]) (t := 122) ?hr ?_; (case hd => rfl); (case hg => rfl); (case hr => first | (go_simp; done) | (go_simp; rfl)); intro gb376 hg w6 hbox hb; have n0_ := aM_ (bT_ (qB HB) hb); have n1_ := aM_ (hbox); have n2_ := aM_ ((by rw [hg]; exact (bZ_ (qB HB)) : w.heap.size ≤ gb376)); have n3_ := aM_ ((by rw [hg]; exact (bZ_ (qB HB)) : w.heap.size ≤ gb376)); clear HB; have HB := n0_; have BK376 := n1_; have GW376 := n2_; have GE376 := n3_; clear n0_ n1_ n2_ n3_ hb hbox hg; (obtain ⟨hcz7_0, hcz7_1, hcz7_2, hcz7_3, hcz7_4, hcz7_5, hcz7_6, hcz7_7, hcz7_8, hcz7_9⟩ := cells10 BK376.out); (obtain ⟨hfz7_0, hfz7_1, hfz7_2, hfz7_3, hfz7_4, hfz7_5, hfz7_6, hfz7_7, hfz7_8, hfz7_9⟩ := frozen10 BK376.out)) | ((with_reducible refine gc_ 118 ?_); refine gL_ (some 12) Tryz.func118 #[.agg #[.int .i64 a0_3, .int .i64 a0_4, .int .i64 a0_5, .int .i64 a0_6, .slice A0_7 l0_7.length c0_7]] ?_; (with_reducible refine (spec_l5Expr.calls 1000 a0_3 a0_4 a0_5 a0_6 _ _ l0_7 t377 _ ?side1 ?side2 A3.out).mono ?_); (case side1 => exact qC (Kd.C_below HR0_7.out HB.out)); (case side2 => exact HC0_7.out); rintro e w8 ⟨v378, rfl, ho0, hb⟩; refine ⟨_, rfl, ?_⟩; have n_ := aN3_ (Kd.R_lower ho0 (bZ_ (qB HB))) (blk_below (g := gb376) (o := .cells #[.int .i64 a0_0, .int .i64 a0_1, .int .i64 a0_2, .int .i64 a0_3, .int .i64 a0_4, .int .i64 a0_5, .int .i64 a0_6, .slice A0_7 l0_7.length c0_7, .slice A0_8 l0_8.length c0_8, .slice A0_9 l0_9.length c0_9] 122 (0, 0)) qk hb) (bT_ (qB HB) hb); clear BK376 HB; obtain ⟨HO379, BK376, HB⟩ := n_; (obtain ⟨hcz9_0, hcz9_1, hcz9_2, hcz9_3, hcz9_4, hcz9_5, hcz9_6, hcz9_7, hcz9_8, hcz9_9⟩ := cells10 BK376.out); (obtain ⟨hfz9_0, hfz9_1, hfz9_2, hfz9_3, hfz9_4, hfz9_5, hfz9_6, hfz9_7, hfz9_8, hfz9_9⟩ := frozen10 BK376.out)) | ((with_reducible refine gate_builtin (b := .append) (xs := #[.tmp 16, .tmp 20]) rfl ?_); at_builtin; refine Kd.R_append k30 (w0 := w) w.heap.size rfl (.tmp 16) (.tmp 20) 23 30 (.agg #[(.int .i64 0), (.int .i64 0), (.int .i64 0), (.int .i64 0)]) 32 rfl Tryz.underlying23 info30 rfl (by decide) (by omega) v378 t377 (⟨3, 0, (⟨a0_1, a0_2⟩ : S28)⟩ : S30) [.int .i64 3, .int .i64 0, .int .i64 a0_1, .int .i64 a0_2] (fun _ => True) (fun _ => False) rfl rfl ?aP (fun _ hk => hk.elim) ?aF ?aO ?aB ?aS ?aL ?_; (case aP => exact k30_mkM _ _ _ (⟨3, 0, (⟨a0_1, a0_2⟩ : S28)⟩ : S30)); (case aB => exact (qB HB)); (case aF => exact (fun _ _ => trivial)); (case aO => exact (qR HO379)); (case aS => exact (bZ_ (qB HB))); (case aL => have := LMc5.out; omega); intro v381 w10 ho hb hg hat; rw [← Ny380.out] at ho; have n0_ := aM_ (blk_grown (g := gb376) (o := .cells #[.int .i64 a0_0, .int .i64 a0_1, .int .i64 a0_2, .int .i64 a0_3, .int .i64 a0_4, .int .i64 a0_5, .int .i64 a0_6, .slice A0_7 l0_7.length c0_7, .slice A0_8 l0_8.length c0_8, .slice A0_9 l0_9.length c0_9] 122 (0, 0)) qk hg (Kd.R_ne HO379.out BK376.out (by decide))); have n1_ := aM_ (hb); have n2_ := aM_ (ho); clear BK376 HB HO379; have BK376 := n0_; have HB := n1_; have HO382 := n2_; clear n0_ n1_ n2_ ho hb hg hat))
      go_ret
      exact ⟨_, qE, by (with_reducible repeat (first | apply rA_ | apply rN_ | apply rD_)); exact HO382.out, qB HB⟩
    · rw [if_neg c5] at H
      exact absurd H (by simp)
  · rw [if_neg c4] at H
    have c4b0 : (a0_0 == 1) = false := beq_eq_false_iff_ne.mpr c4
    have c4b1 : (a0_0 != 1) = true := bne_iff_ne.mpr c4
    by_cases c11 : a0_0 = 3
    · rw [if_pos c11] at H
      have c11b0 : (a0_0 == 3) = true := beq_iff_eq.mpr c11
      have c11b1 : (a0_0 != 3) = false := bne_eq_false_iff_eq.mpr c11
      clear c11
      replace H := oB_ H
      obtain ⟨t383, A120, H⟩ := H
      have A12 := aM_ A120
      clear A120
      by_cases c13 : t377.length < 4398046511104
      · rw [if_pos c13] at H
        have LMc13 := aM_ c13
        clear c13
        obtain ⟨y386, hy386⟩ : ∃ y_ : List (S30), y_ = (t377 ++ [(⟨6, wrap64 ((wrap64 ((wrap64 (a1 + (wrap64 ((t377.length : Int) + 1)))) + (t383.length : Int))) + 1), (⟨0, 0⟩ : S28)⟩ : S30)]) := ⟨_, rfl⟩
        replace H : (if y386.length + t383.length < 4398046511104 then ((some (y386 ++ t383 : List (S30))).bind fun y389 => (if y389.length < 4398046511104 then (some (y389 ++ [(⟨8, a1, (⟨0, 0⟩ : S28)⟩ : S30)])) else (none))) else (none)) = some r := by subst hy386; exact H
        have Ny386 := aM_ hy386
        clear hy386
        by_cases c14 : y386.length + t383.length < 4398046511104
        · rw [if_pos c14] at H
          have LMc14 := aM_ c14
          clear c14
          obtain ⟨y389, hy389⟩ : ∃ y_ : List (S30), y_ = (y386 ++ t383) := ⟨_, rfl⟩
          replace H : (if y389.length < 4398046511104 then (some (y389 ++ [(⟨8, a1, (⟨0, 0⟩ : S28)⟩ : S30)])) else (none)) = some r := by subst hy389; exact H
          have Ny389 := aM_ hy389
          clear hy389
          by_cases c15 : y389.length < 4398046511104
          · rw [if_pos c15] at H
            have LMc15 := aM_ c15
            clear c15
            obtain ⟨y392, hy392⟩ : ∃ y_ : List (S30), y_ = (y389 ++ [(⟨8, a1, (⟨0, 0⟩ : S28)⟩ : S30)]) := ⟨_, rfl⟩
            replace H : (some y392) = some r := by subst hy392; exact H
            have Ny392 := aM_ hy392
            clear hy392
            obtain rfl := oI_ H
            go_enter Tryz.func83, Tryz.ntmps83
            go_wp2_with (first | ((with_reducible refine gate_dst (N := 2) rfl ?_); refine box_event ?hg (N := 2) ?hd (cs := #[.int .i64 a0_0, .int .i64 a0_1, .int .i64 a0_2, .int .i64 a0_3, .int .i64 a0_4, .int .i64 a0_5, .int .i64 a0_6, .slice A0_7 l0_7.length c0_7, .slice A0_8 l0_8.length c0_8, .slice A0_9 l0_9.length c0_9]) (t := 122) ?hr ?_; (case hd => rfl); (case hg => rfl); (case hr => first | (go_simp; done) | (go_simp; rfl)); intro gb376 hg w16 hbox hb; have n0_ := aM_ (bT_ (qB HB) hb); have n1_ := aM_ (hbox); have n2_ := aM_ ((by rw [hg]; exact (bZ_ (qB HB)) : w.heap.size ≤ gb376)); have n3_ := aM_ ((by rw [hg]; exact (bZ_ (qB HB)) : w.heap.size ≤ gb376)); clear HB; have HB := n0_; have BK376 := n1_; have GW376 := n2_; have GE376 := n3_; clear n0_ n1_ n2_ n3_ hb hbox hg; (obtain ⟨hcz17_0, hcz17_1, hcz17_2, hcz17_3, hcz17_4, hcz17_5, hcz17_6, hcz17_7, hcz17_8, hcz17_9⟩ := cells10 BK376.out); (obtain ⟨hfz17_0, hfz17_1, hfz17_2, hfz17_3, hfz17_4, hfz17_5, hfz17_6, hfz17_7, hfz17_8, hfz17_9⟩ := frozen10 BK376.out)) | ((with_reducible refine gc_ 118 ?_); refine gL_ (some 12) Tryz.func118 #[.agg #[.int .i64 a0_3, .int .i64 a0_4, .int .i64 a0_5, .int .i64 a0_6, .slice A0_7 l0_7.length c0_7]] ?_; (with_reducible refine (spec_l5Expr.calls 1000 a0_3 a0_4 a0_5 a0_6 _ _ l0_7 t377 _ ?side1 ?side2 A3.out).mono ?_); (case side1 => exact qC (Kd.C_below HR0_7.out HB.out)); (case side2 => exact HC0_7.out); rintro e w18 ⟨v378, rfl, ho0, hb⟩; refine ⟨_, rfl, ?_⟩; have n_ := aN3_ (Kd.R_lower ho0 (bZ_ (qB HB))) (blk_below (g := gb376) (o := .cells #[.int .i64 a0_0, .int .i64 a0_1, .int .i64 a0_2, .int .i64 a0_3, .int .i64 a0_4, .int .i64 a0_5, .int .i64 a0_6, .slice A0_7 l0_7.length c0_7, .slice A0_8 l0_8.length c0_8, .slice A0_9 l0_9.length c0_9] 122 (0, 0)) qk hb) (bT_ (qB HB) hb); clear BK376 HB; obtain ⟨HO379, BK376, HB⟩ := n_; (obtain ⟨hcz19_0, hcz19_1, hcz19_2, hcz19_3, hcz19_4, hcz19_5, hcz19_6, hcz19_7, hcz19_8, hcz19_9⟩ := cells10 BK376.out); (obtain ⟨hfz19_0, hfz19_1, hfz19_2, hfz19_3, hfz19_4, hfz19_5, hfz19_6, hfz19_7, hfz19_8, hfz19_9⟩ := frozen10 BK376.out); obtain ⟨Ao20, co20, eo20⟩ := Kd.R_slice HO379.out; subst eo20) | ((with_reducible refine gc_ 56 ?_); refine gL_ (some 33) Tryz.func56 #[.slice A0_8 l0_8.length c0_8, .int .i64 (wrap64 (a1 + (wrap64 ((t377.length : Int) + 1))))] ?_; (with_reducible refine (hF _ _ l0_8 (wrap64 (a1 + (wrap64 ((t377.length : Int) + 1)))) t383 _ ?side1 ?side2 A12.out).mono ?_); (case side1 => exact qC (Kd.C_below HR0_8.out HB.out)); (case side2 => exact HC0_8.out); rintro e w21 ⟨v384, rfl, ho0, hb⟩; refine ⟨_, rfl, ?_⟩; have n_ := aN4_ (Kd.R_elder' (qR HO379) (Kd.R_base ho0) hb) (Kd.R_lower (Kd.R_new' ho0 (Kd.R_lt (qR HO379))) (bZ_ (qB HB))) (blk_below (g := gb376) (o := .cells #[.int .i64 a0_0, .int .i64 a0_1, .int .i64 a0_2, .int .i64 a0_3, .int .i64 a0_4, .int .i64 a0_5, .int .i64 a0_6, .slice A0_7 l0_7.length c0_7, .slice A0_8 l0_8.length c0_8, .slice A0_9 l0_9.length c0_9] 122 (0, 0)) qk hb) (bT_ (qB HB) hb); clear HO379 BK376 HB; obtain ⟨HO379, HO385, BK376, HB⟩ := n_; obtain ⟨Ao22, co22, eo22⟩ := Kd.R_slice HO385.out; subst eo22) | ((with_reducible refine gate_builtin (b := .append) (xs := #[.tmp 34, .tmp 43]) rfl ?_); at_builtin; refine Kd.R_append k30 (w0 := w) w.heap.size rfl (.tmp 34) (.tmp 43) 23 30 (.agg #[(.int .i64 0), (.int .i64 0), (.int .i64 0), (.int .i64 0)]) 32 rfl Tryz.underlying23 info30 rfl (by decide) (by omega) (.slice Ao20 t377.length co20) t377 (⟨6, wrap64 ((wrap64 ((wrap64 (a1 + (wrap64 ((t377.length : Int) + 1)))) + (t383.length : Int))) + 1), (⟨0, 0⟩ : S28)⟩ : S30) [.int .i64 6, .int .i64 (wrap64 ((wrap64 ((wrap64 (a1 + (wrap64 ((t377.length : Int) + 1)))) + (t383.length : Int))) + 1)), .int .i64 0, .int .i64 0] (fun k_ => some k_ ≠ (.slice Ao22 t383.length co22 : Value).ownBlock) (fun _ => False) rfl rfl ?aP (fun _ hk => hk.elim) ?aF ?aO ?aB ?aS ?aL ?_; (case aP => exact k30_mkM _ _ _ (⟨6, wrap64 ((wrap64 ((wrap64 (a1 + (wrap64 ((t377.length : Int) + 1)))) + (t383.length : Int))) + 1), (⟨0, 0⟩ : S28)⟩ : S30)); (case aB => exact (qB HB)); (case aF => exact (fun k_ hk => Kd.fresh' (Kd.R_lt (qR HO385)) k_ hk)); (case aO => exact (qr (Kd.R_mono HO379.out (fun _ hk => hk.2)))); (case aS => exact (bZ_ (qB HB))); (case aL => have := LMc13.out; omega); intro v387 w23 ho hb hg hat; rw [← Ny386.out] at ho; have n0_ := aM_ (blk_grown (g := gb376) (o := .cells #[.int .i64 a0_0, .int .i64 a0_1, .int .i64 a0_2, .int .i64 a0_3, .int .i64 a0_4, .int .i64 a0_5, .int .i64 a0_6, .slice A0_7 l0_7.length c0_7, .slice A0_8 l0_8.length c0_8, .slice A0_9 l0_9.length c0_9] 122 (0, 0)) qk hg (Kd.R_ne HO379.out BK376.out (by decide))); have n1_ := aM_ (Kd.R_after (ok := (fun _ => True)) (qR HO385) hg hat); have n2_ := aM_ (hb); have n3_ := aM_ (ho); clear BK376 HO385 HB HO379; have BK376 := n0_; have HO385 := n1_; have HB := n2_; have HO388 := n3_; clear n0_ n1_ n2_ n3_ ho hb hg hat) | ((with_reducible refine gate_builtin (b := .append) (xs := #[.tmp 45, .tmp 46]) rfl ?_); at_builtin; refine Kd.R_append_rows k30 (w0 := w) w.heap.size rfl (.tmp 45) (.tmp 46) 23 30 (.agg #[(.int .i64 0), (.int .i64 0), (.int .i64 0), (.int .i64 0)]) 32 rfl Tryz.underlying23 info30 rfl (by decide) (by omega) v387 y386 t383 _ _ _ (fun k_ => some k_ ≠ (.slice Ao22 t383.length co22 : Value).ownBlock) (fun _ => False) rfl rfl ?aO ?aR (fun _ _ h => h) (fun _ h => h.elim) ?aF ?aB ?aS ?aL ?_; (case aR => exact qC ((Kd.R_reads' HO385.out).2.2)); (case aB => exact (qB HB)); (case aF => exact (fun k_ hk => Kd.fresh' (Kd.R_lt (qR HO385)) k_ hk)); (case aO => exact (qR HO388)); (case aS => exact (bZ_ (qB HB))); (case aL => have := LMc14.out; omega); intro v390 w24 ho hb hg hat; rw [← Ny389.out] at ho; have n0_ := aM_ (blk_grown (g := gb376) (o := .cells #[.int .i64 a0_0, .int .i64 a0_1, .int .i64 a0_2, .int .i64 a0_3, .int .i64 a0_4, .int .i64 a0_5, .int .i64 a0_6, .slice A0_7 l0_7.length c0_7, .slice A0_8 l0_8.length c0_8, .slice A0_9 l0_9.length c0_9] 122 (0, 0)) qk hg (Kd.R_ne HO388.out BK376.out (by decide))); have n1_ := aM_ (Kd.R_after (ok := (fun _ => True)) (qR HO385) hg hat); have n2_ := aM_ (hb); have n3_ := aM_ (ho); clear BK376 HO385 HB HO388; have BK376 := n0_; have HO385 := n1_; have HB := n2_; have HO391 := n3_; clear n0_ n1_ n2_ n3_ ho hb hg hat) | ((with_reducible refine gate_builtin (b := .append) (xs := #[.tmp 47, .tmp 50]) rfl ?_); at_builtin; refine Kd.R_append k30 (w0 := w) w.heap.size rfl (.tmp 47) (.tmp 50) 23 30 (.agg #[(.int .i64 0), (.int .i64 0), (.int .i64 0), (.int .i64 0)]) 32 rfl Tryz.underlying23 info30 rfl (by decide) (by omega) v390 y389 (⟨8, a1, (⟨0, 0⟩ : S28)⟩ : S30) [.int .i64 8, .int .i64 a1, .int .i64 0, .int .i64 0] (fun k_ => some k_ ≠ (.slice Ao22 t383.length co22 : Value).ownBlock) (fun _ => False) rfl rfl ?aP (fun _ hk => hk.elim) ?aF ?aO ?aB ?aS ?aL ?_; (case aP => exact k30_mkM _ _ _ (⟨8, a1, (⟨0, 0⟩ : S28)⟩ : S30)); (case aB => exact (qB HB)); (case aF => exact (fun k_ hk => Kd.fresh' (Kd.R_lt (qR HO385)) k_ hk)); (case aO => exact (qR HO391)); (case aS => exact (bZ_ (qB HB))); (case aL => have := LMc15.out; omega); intro v393 w25 ho hb hg hat; rw [← Ny392.out] at ho; have n0_ := aM_ (blk_grown (g := gb376) (o := .cells #[.int .i64 a0_0, .int .i64 a0_1, .int .i64 a0_2, .int .i64 a0_3, .int .i64 a0_4, .int .i64 a0_5, .int .i64 a0_6, .slice A0_7 l0_7.length c0_7, .slice A0_8 l0_8.length c0_8, .slice A0_9 l0_9.length c0_9] 122 (0, 0)) qk hg (Kd.R_ne HO391.out BK376.out (by decide))); have n1_ := aM_ (Kd.R_after (ok := (fun _ => True)) (qR HO385) hg hat); have n2_ := aM_ (hb); have n3_ := aM_ (ho); clear BK376 HO385 HB HO391; have BK376 := n0_; have HO385 := n1_; have HB := n2_; have HO394 := n3_; clear n0_ n1_ n2_ n3_ ho hb hg hat))
            go_ret
            exact ⟨_, qE, by (with_reducible repeat (first | apply rA_ | apply rN_ | apply rD_)); exact Kd.R_mono HO394.out (fun _ hk => trivial), qB HB⟩
          · rw [if_neg c15] at H
            exact absurd H (by simp)
        · rw [if_neg c14] at H
          exact absurd H (by simp)
      · rw [if_neg c13] at H
        exact absurd H (by simp)
    · rw [if_neg c11] at H
      have c11b0 : (a0_0 == 3) = false := beq_eq_false_iff_ne.mpr c11
      have c11b1 : (a0_0 != 3) = true := bne_iff_ne.mpr c11
      replace H := oB_ H
      obtain ⟨t395, A260, H⟩ := H
      have A26 := aM_ A260
      clear A260
      replace H := oB_ H
      obtain ⟨t398, A270, H⟩ := H
      have A27 := aM_ A270
      clear A270
      by_cases c28 : t377.length < 4398046511104
      · rw [if_pos c28] at H
        have LMc28 := aM_ c28
        clear c28
        obtain ⟨y401, hy401⟩ : ∃ y_ : List (S30), y_ = (t377 ++ [(⟨6, wrap64 ((wrap64 ((wrap64 (a1 + (wrap64 ((t377.length : Int) + 1)))) + (t395.length : Int))) + 1), (⟨0, 0⟩ : S28)⟩ : S30)]) := ⟨_, rfl⟩
        replace H : (if y401.length + t395.length < 4398046511104 then ((some (y401 ++ t395 : List (S30))).bind fun y404 => (if y404.length < 4398046511104 then ((some (y404 ++ [(⟨7, wrap64 ((wrap64 ((wrap64 ((wrap64 (a1 + (wrap64 ((t377.length : Int) + 1)))) + (t395.length : Int))) + 1)) + (t398.length : Int)), (⟨0, 0⟩ : S28)⟩ : S30)] : List (S30))).bind fun y407 => (if y407.length + t398.length < 4398046511104 then (some (y407 ++ t398)) else (none))) else (none))) else (none)) = some r := by subst hy401; exact H
        have Ny401 := aM_ hy401
        clear hy401
        by_cases c29 : y401.length + t395.length < 4398046511104
        · rw [if_pos c29] at H
          have LMc29 := aM_ c29
          clear c29
          obtain ⟨y404, hy404⟩ : ∃ y_ : List (S30), y_ = (y401 ++ t395) := ⟨_, rfl⟩
          replace H : (if y404.length < 4398046511104 then ((some (y404 ++ [(⟨7, wrap64 ((wrap64 ((wrap64 ((wrap64 (a1 + (wrap64 ((t377.length : Int) + 1)))) + (t395.length : Int))) + 1)) + (t398.length : Int)), (⟨0, 0⟩ : S28)⟩ : S30)] : List (S30))).bind fun y407 => (if y407.length + t398.length < 4398046511104 then (some (y407 ++ t398)) else (none))) else (none)) = some r := by subst hy404; exact H
          have Ny404 := aM_ hy404
          clear hy404
          by_cases c30 : y404.length < 4398046511104
          · rw [if_pos c30] at H
            have LMc30 := aM_ c30
            clear c30
            obtain ⟨y407, hy407⟩ : ∃ y_ : List (S30), y_ = (y404 ++ [(⟨7, wrap64 ((wrap64 ((wrap64 ((wrap64 (a1 + (wrap64 ((t377.length : Int) + 1)))) + (t395.length : Int))) + 1)) + (t398.length : Int)), (⟨0, 0⟩ : S28)⟩ : S30)]) := ⟨_, rfl⟩
            replace H : (if y407.length + t398.length < 4398046511104 then (some (y407 ++ t398)) else (none)) = some r := by subst hy407; exact H
            have Ny407 := aM_ hy407
            clear hy407
            by_cases c31 : y407.length + t398.length < 4398046511104
            · rw [if_pos c31] at H
              have LMc31 := aM_ c31
              clear c31
              obtain ⟨y410, hy410⟩ : ∃ y_ : List (S30), y_ = (y407 ++ t398) := ⟨_, rfl⟩
              replace H : (some y410) = some r := by subst hy410; exact H
              have Ny410 := aM_ hy410
              clear hy410
              obtain rfl := oI_ H
              go_enter Tryz.func83, Tryz.ntmps83
              go_wp2_with (first | ((with_reducible refine gate_dst (N := 2) rfl ?_); refine box_event ?hg (N := 2) ?hd (cs := #[.int .i64 a0_0, .int .i64 a0_1, .int .i64 a0_2, .int .i64 a0_3, .int .i64 a0_4, .int .i64 a0_5, .int .i64 a0_6, .slice A0_7 l0_7.length c0_7, .slice A0_8 l0_8.length c0_8, .slice A0_9 l0_9.length c0_9]) (t := 122) ?hr ?_; (case hd => rfl); (case hg => rfl); (case hr => first | (go_simp; done) | (go_simp; rfl)); intro gb376 hg w32 hbox hb; have n0_ := aM_ (bT_ (qB HB) hb); have n1_ := aM_ (hbox); have n2_ := aM_ ((by rw [hg]; exact (bZ_ (qB HB)) : w.heap.size ≤ gb376)); have n3_ := aM_ ((by rw [hg]; exact (bZ_ (qB HB)) : w.heap.size ≤ gb376)); clear HB; have HB := n0_; have BK376 := n1_; have GW376 := n2_; have GE376 := n3_; clear n0_ n1_ n2_ n3_ hb hbox hg; (obtain ⟨hcz33_0, hcz33_1, hcz33_2, hcz33_3, hcz33_4, hcz33_5, hcz33_6, hcz33_7, hcz33_8, hcz33_9⟩ := cells10 BK376.out); (obtain ⟨hfz33_0, hfz33_1, hfz33_2, hfz33_3, hfz33_4, hfz33_5, hfz33_6, hfz33_7, hfz33_8, hfz33_9⟩ := frozen10 BK376.out)) | ((with_reducible refine gc_ 118 ?_); refine gL_ (some 12) Tryz.func118 #[.agg #[.int .i64 a0_3, .int .i64 a0_4, .int .i64 a0_5, .int .i64 a0_6, .slice A0_7 l0_7.length c0_7]] ?_; (with_reducible refine (spec_l5Expr.calls 1000 a0_3 a0_4 a0_5 a0_6 _ _ l0_7 t377 _ ?side1 ?side2 A3.out).mono ?_); (case side1 => exact qC (Kd.C_below HR0_7.out HB.out)); (case side2 => exact HC0_7.out); rintro e w34 ⟨v378, rfl, ho0, hb⟩; refine ⟨_, rfl, ?_⟩; have n_ := aN3_ (Kd.R_lower ho0 (bZ_ (qB HB))) (blk_below (g := gb376) (o := .cells #[.int .i64 a0_0, .int .i64 a0_1, .int .i64 a0_2, .int .i64 a0_3, .int .i64 a0_4, .int .i64 a0_5, .int .i64 a0_6, .slice A0_7 l0_7.length c0_7, .slice A0_8 l0_8.length c0_8, .slice A0_9 l0_9.length c0_9] 122 (0, 0)) qk hb) (bT_ (qB HB) hb); clear BK376 HB; obtain ⟨HO379, BK376, HB⟩ := n_; (obtain ⟨hcz35_0, hcz35_1, hcz35_2, hcz35_3, hcz35_4, hcz35_5, hcz35_6, hcz35_7, hcz35_8, hcz35_9⟩ := cells10 BK376.out); (obtain ⟨hfz35_0, hfz35_1, hfz35_2, hfz35_3, hfz35_4, hfz35_5, hfz35_6, hfz35_7, hfz35_8, hfz35_9⟩ := frozen10 BK376.out); obtain ⟨Ao36, co36, eo36⟩ := Kd.R_slice HO379.out; subst eo36) | ((with_reducible refine gc_ 56 ?_); refine gL_ (some 57) Tryz.func56 #[.slice A0_8 l0_8.length c0_8, .int .i64 (wrap64 (a1 + (wrap64 ((t377.length : Int) + 1))))] ?_; (with_reducible refine (hF _ _ l0_8 (wrap64 (a1 + (wrap64 ((t377.length : Int) + 1)))) t395 _ ?side1 ?side2 A26.out).mono ?_); (case side1 => exact qC (Kd.C_below HR0_8.out HB.out)); (case side2 => exact HC0_8.out); rintro e w37 ⟨v396, rfl, ho0, hb⟩; refine ⟨_, rfl, ?_⟩; have n_ := aN4_ (Kd.R_elder' (qR HO379) (Kd.R_base ho0) hb) (Kd.R_lower (Kd.R_new' ho0 (Kd.R_lt (qR HO379))) (bZ_ (qB HB))) (blk_below (g := gb376) (o := .cells #[.int .i64 a0_0, .int .i64 a0_1, .int .i64 a0_2, .int .i64 a0_3, .int .i64 a0_4, .int .i64 a0_5, .int .i64 a0_6, .slice A0_7 l0_7.length c0_7, .slice A0_8 l0_8.length c0_8, .slice A0_9 l0_9.length c0_9] 122 (0, 0)) qk hb) (bT_ (qB HB) hb); clear HO379 BK376 HB; obtain ⟨HO379, HO397, BK376, HB⟩ := n_; (obtain ⟨hcz38_0, hcz38_1, hcz38_2, hcz38_3, hcz38_4, hcz38_5, hcz38_6, hcz38_7, hcz38_8, hcz38_9⟩ := cells10 BK376.out); (obtain ⟨hfz38_0, hfz38_1, hfz38_2, hfz38_3, hfz38_4, hfz38_5, hfz38_6, hfz38_7, hfz38_8, hfz38_9⟩ := frozen10 BK376.out); obtain ⟨Ao39, co39, eo39⟩ := Kd.R_slice HO397.out; subst eo39) | ((with_reducible refine gc_ 56 ?_); refine gL_ (some 67) Tryz.func56 #[.slice A0_9 l0_9.length c0_9, .int .i64 (wrap64 ((wrap64 ((wrap64 (a1 + (wrap64 ((t377.length : Int) + 1)))) + (t395.length : Int))) + 1))] ?_; (with_reducible refine (hF _ _ l0_9 (wrap64 ((wrap64 ((wrap64 (a1 + (wrap64 ((t377.length : Int) + 1)))) + (t395.length : Int))) + 1)) t398 _ ?side1 ?side2 A27.out).mono ?_); (case side1 => exact qC (Kd.C_below HR0_9.out HB.out)); (case side2 => exact HC0_9.out); rintro e w40 ⟨v399, rfl, ho0, hb⟩; refine ⟨_, rfl, ?_⟩; have n_ := aN5_ (Kd.R_elder' (qR HO379) (Kd.R_base ho0) hb) (Kd.R_elder' (qR HO397) (Kd.R_base ho0) hb) (Kd.R_lower (Kd.R_new' (Kd.R_new' ho0 (Kd.R_lt (qR HO379))) (Kd.R_lt (qR HO397))) (bZ_ (qB HB))) (blk_below (g := gb376) (o := .cells #[.int .i64 a0_0, .int .i64 a0_1, .int .i64 a0_2, .int .i64 a0_3, .int .i64 a0_4, .int .i64 a0_5, .int .i64 a0_6, .slice A0_7 l0_7.length c0_7, .slice A0_8 l0_8.length c0_8, .slice A0_9 l0_9.length c0_9] 122 (0, 0)) qk hb) (bT_ (qB HB) hb); clear HO379 HO397 BK376 HB; obtain ⟨HO379, HO397, HO400, BK376, HB⟩ := n_) | ((with_reducible refine gate_builtin (b := .append) (xs := #[.tmp 68, .tmp 77]) rfl ?_); at_builtin; refine Kd.R_append k30 (w0 := w) w.heap.size rfl (.tmp 68) (.tmp 77) 23 30 (.agg #[(.int .i64 0), (.int .i64 0), (.int .i64 0), (.int .i64 0)]) 32 rfl Tryz.underlying23 info30 rfl (by decide) (by omega) (.slice Ao36 t377.length co36) t377 (⟨6, wrap64 ((wrap64 ((wrap64 (a1 + (wrap64 ((t377.length : Int) + 1)))) + (t395.length : Int))) + 1), (⟨0, 0⟩ : S28)⟩ : S30) [.int .i64 6, .int .i64 (wrap64 ((wrap64 ((wrap64 (a1 + (wrap64 ((t377.length : Int) + 1)))) + (t395.length : Int))) + 1)), .int .i64 0, .int .i64 0] (fun k_ => some k_ ≠ (.slice Ao39 t395.length co39 : Value).ownBlock ∧ some k_ ≠ (v399 : Value).ownBlock) (fun _ => False) rfl rfl ?aP (fun _ hk => hk.elim) ?aF ?aO ?aB ?aS ?aL ?_; (case aP => exact k30_mkM _ _ _ (⟨6, wrap64 ((wrap64 ((wrap64 (a1 + (wrap64 ((t377.length : Int) + 1)))) + (t395.length : Int))) + 1), (⟨0, 0⟩ : S28)⟩ : S30)); (case aB => exact (qB HB)); (case aF => exact (fun k_ hk => ⟨Kd.fresh' (Kd.R_lt (qR HO397)) k_ hk, Kd.fresh' (Kd.R_lt (qR HO400)) k_ hk⟩)); (case aO => exact (qr (Kd.R_mono HO379.out (fun _ hk => ⟨hk.1.2, hk.2⟩)))); (case aS => exact (bZ_ (qB HB))); (case aL => have := LMc28.out; omega); intro v402 w41 ho hb hg hat; rw [← Ny401.out] at ho; have n0_ := aM_ (blk_grown (g := gb376) (o := .cells #[.int .i64 a0_0, .int .i64 a0_1, .int .i64 a0_2, .int .i64 a0_3, .int .i64 a0_4, .int .i64 a0_5, .int .i64 a0_6, .slice A0_7 l0_7.length c0_7, .slice A0_8 l0_8.length c0_8, .slice A0_9 l0_9.length c0_9] 122 (0, 0)) qk hg (Kd.R_ne HO379.out BK376.out (by decide))); have n1_ := aM_ (Kd.R_after (ok := (fun k_ => some k_ ≠ (v399 : Value).ownBlock)) (qr (Kd.R_mono HO397.out (fun _ hk => ⟨hk.2, hk.1.2⟩))) hg hat); have n2_ := aM_ (Kd.R_after (ok := (fun k_ => some k_ ≠ (.slice Ao39 t395.length co39 : Value).ownBlock)) (qr (Kd.R_mono HO400.out (fun _ hk => ⟨hk.2, hk.1.2⟩))) hg hat); have n3_ := aM_ (hb); have n4_ := aM_ (ho); clear BK376 HO397 HO400 HB HO379; have BK376 := n0_; have HO397 := n1_; have HO400 := n2_; have HB := n3_; have HO403 := n4_; clear n0_ n1_ n2_ n3_ n4_ ho hb hg hat) | ((with_reducible refine gate_builtin (b := .append) (xs := #[.tmp 79, .tmp 80]) rfl ?_); at_builtin; refine Kd.R_append_rows k30 (w0 := w) w.heap.size rfl (.tmp 79) (.tmp 80) 23 30 (.agg #[(.int .i64 0), (.int .i64 0), (.int .i64 0), (.int .i64 0)]) 32 rfl Tryz.underlying23 info30 rfl (by decide) (by omega) v402 y401 t395 _ _ _ (fun k_ => some k_ ≠ (.slice Ao39 t395.length co39 : Value).ownBlock ∧ some k_ ≠ (v399 : Value).ownBlock) (fun _ => False) rfl rfl ?aO ?aR (fun _ _ h => h) (fun _ h => h.elim) ?aF ?aB ?aS ?aL ?_; (case aR => exact qC ((Kd.R_reads' HO397.out).2.2)); (case aB => exact (qB HB)); (case aF => exact (fun k_ hk => ⟨Kd.fresh' (Kd.R_lt (qR HO397)) k_ hk, Kd.fresh' (Kd.R_lt (qR HO400)) k_ hk⟩)); (case aO => exact (qR HO403)); (case aS => exact (bZ_ (qB HB))); (case aL => have := LMc29.out; omega); intro v405 w42 ho hb hg hat; rw [← Ny404.out] at ho; have n0_ := aM_ (blk_grown (g := gb376) (o := .cells #[.int .i64 a0_0, .int .i64 a0_1, .int .i64 a0_2, .int .i64 a0_3, .int .i64 a0_4, .int .i64 a0_5, .int .i64 a0_6, .slice A0_7 l0_7.length c0_7, .slice A0_8 l0_8.length c0_8, .slice A0_9 l0_9.length c0_9] 122 (0, 0)) qk hg (Kd.R_ne HO403.out BK376.out (by decide))); have n1_ := aM_ (Kd.R_after (ok := (fun k_ => some k_ ≠ (v399 : Value).ownBlock)) (qR HO397) hg hat); have n2_ := aM_ (Kd.R_after (ok := (fun k_ => some k_ ≠ (.slice Ao39 t395.length co39 : Value).ownBlock)) (qR HO400) hg hat); have n3_ := aM_ (hb); have n4_ := aM_ (ho); clear BK376 HO397 HO400 HB HO403; have BK376 := n0_; have HO397 := n1_; have HO400 := n2_; have HB := n3_; have HO406 := n4_; clear n0_ n1_ n2_ n3_ n4_ ho hb hg hat; obtain ⟨Ao43, co43, eo43⟩ := Kd.R_slice HO400.out; subst eo43) | ((with_reducible refine gate_builtin (b := .append) (xs := #[.tmp 81, .tmp 93]) rfl ?_); at_builtin; refine Kd.R_append k30 (w0 := w) w.heap.size rfl (.tmp 81) (.tmp 93) 23 30 (.agg #[(.int .i64 0), (.int .i64 0), (.int .i64 0), (.int .i64 0)]) 32 rfl Tryz.underlying23 info30 rfl (by decide) (by omega) v405 y404 (⟨7, wrap64 ((wrap64 ((wrap64 ((wrap64 (a1 + (wrap64 ((t377.length : Int) + 1)))) + (t395.length : Int))) + 1)) + (t398.length : Int)), (⟨0, 0⟩ : S28)⟩ : S30) [.int .i64 7, .int .i64 (wrap64 ((wrap64 ((wrap64 ((wrap64 (a1 + (wrap64 ((t377.length : Int) + 1)))) + (t395.length : Int))) + 1)) + (t398.length : Int))), .int .i64 0, .int .i64 0] (fun k_ => some k_ ≠ (.slice Ao39 t395.length co39 : Value).ownBlock ∧ some k_ ≠ (.slice Ao43 t398.length co43 : Value).ownBlock) (fun _ => False) rfl rfl ?aP (fun _ hk => hk.elim) ?aF ?aO ?aB ?aS ?aL ?_; (case aP => exact k30_mkM _ _ _ (⟨7, wrap64 ((wrap64 ((wrap64 ((wrap64 (a1 + (wrap64 ((t377.length : Int) + 1)))) + (t395.length : Int))) + 1)) + (t398.length : Int)), (⟨0, 0⟩ : S28)⟩ : S30)); (case aB => exact (qB HB)); (case aF => exact (fun k_ hk => ⟨Kd.fresh' (Kd.R_lt (qR HO397)) k_ hk, Kd.fresh' (Kd.R_lt (qR HO400)) k_ hk⟩)); (case aO => exact (qR HO406)); (case aS => exact (bZ_ (qB HB))); (case aL => have := LMc30.out; omega); intro v408 w44 ho hb hg hat; rw [← Ny407.out] at ho; have n0_ := aM_ (blk_grown (g := gb376) (o := .cells #[.int .i64 a0_0, .int .i64 a0_1, .int .i64 a0_2, .int .i64 a0_3, .int .i64 a0_4, .int .i64 a0_5, .int .i64 a0_6, .slice A0_7 l0_7.length c0_7, .slice A0_8 l0_8.length c0_8, .slice A0_9 l0_9.length c0_9] 122 (0, 0)) qk hg (Kd.R_ne HO406.out BK376.out (by decide))); have n1_ := aM_ (Kd.R_after (ok := (fun k_ => some k_ ≠ (.slice Ao43 t398.length co43 : Value).ownBlock)) (qR HO397) hg hat); have n2_ := aM_ (Kd.R_after (ok := (fun k_ => some k_ ≠ (.slice Ao39 t395.length co39 : Value).ownBlock)) (qR HO400) hg hat); have n3_ := aM_ (hb); have n4_ := aM_ (ho); clear BK376 HO397 HO400 HB HO406; have BK376 := n0_; have HO397 := n1_; have HO400 := n2_; have HB := n3_; have HO409 := n4_; clear n0_ n1_ n2_ n3_ n4_ ho hb hg hat) | ((with_reducible refine gate_builtin (b := .append) (xs := #[.tmp 95, .tmp 96]) rfl ?_); at_builtin; refine Kd.R_append_rows k30 (w0 := w) w.heap.size rfl (.tmp 95) (.tmp 96) 23 30 (.agg #[(.int .i64 0), (.int .i64 0), (.int .i64 0), (.int .i64 0)]) 32 rfl Tryz.underlying23 info30 rfl (by decide) (by omega) v408 y407 t398 _ _ _ (fun k_ => some k_ ≠ (.slice Ao39 t395.length co39 : Value).ownBlock ∧ some k_ ≠ (.slice Ao43 t398.length co43 : Value).ownBlock) (fun _ => False) rfl rfl ?aO ?aR (fun _ _ h => h) (fun _ h => h.elim) ?aF ?aB ?aS ?aL ?_; (case aR => exact qC ((Kd.R_reads' HO400.out).2.2)); (case aB => exact (qB HB)); (case aF => exact (fun k_ hk => ⟨Kd.fresh' (Kd.R_lt (qR HO397)) k_ hk, Kd.fresh' (Kd.R_lt (qR HO400)) k_ hk⟩)); (case aO => exact (qR HO409)); (case aS => exact (bZ_ (qB HB))); (case aL => have := LMc31.out; omega); intro v411 w45 ho hb hg hat; rw [← Ny410.out] at ho; have n0_ := aM_ (blk_grown (g := gb376) (o := .cells #[.int .i64 a0_0, .int .i64 a0_1, .int .i64 a0_2, .int .i64 a0_3, .int .i64 a0_4, .int .i64 a0_5, .int .i64 a0_6, .slice A0_7 l0_7.length c0_7, .slice A0_8 l0_8.length c0_8, .slice A0_9 l0_9.length c0_9] 122 (0, 0)) qk hg (Kd.R_ne HO409.out BK376.out (by decide))); have n1_ := aM_ (Kd.R_after (ok := (fun k_ => some k_ ≠ (.slice Ao43 t398.length co43 : Value).ownBlock)) (qR HO397) hg hat); have n2_ := aM_ (Kd.R_after (ok := (fun k_ => some k_ ≠ (.slice Ao39 t395.length co39 : Value).ownBlock)) (qR HO400) hg hat); have n3_ := aM_ (hb); have n4_ := aM_ (ho); clear BK376 HO397 HO400 HB HO409; have BK376 := n0_; have HO397 := n1_; have HO400 := n2_; have HB := n3_; have HO412 := n4_; clear n0_ n1_ n2_ n3_ n4_ ho hb hg hat))
              go_ret
              exact ⟨_, qE, by (with_reducible repeat (first | apply rA_ | apply rN_ | apply rD_)); exact Kd.R_mono HO412.out (fun _ hk => trivial), qB HB⟩
            · rw [if_neg c31] at H
              exact absurd H (by simp)
          · rw [if_neg c30] at H
            exact absurd H (by simp)
        · rw [if_neg c29] at H
          exact absurd H (by simp)
      · rw [if_neg c28] at H
        exact absurd H (by simp)
def spec_l5Loop.l0 (G : Int → Int → Int → Int → Int → Int → Int → List (S120) → List (S122) → List (S122) → Int → Option ((List (S30)))) : Nat → List (S122) → Int → List (S30) → Int → Option ((List (S30)))
  | 0, _, _, _, _ => none
  | k + 1, x0, x1, x5, x6 => if x6 < (x0.length : Int) then (if 0 ≤ x6 then ((G ((rd_T122 x0 x6).f0) ((rd_T122 x0 x6).f1.f0) ((rd_T122 x0 x6).f1.f1) ((rd_T122 x0 x6).f2.f0) ((rd_T122 x0 x6).f2.f1) ((rd_T122 x0 x6).f2.f2.f0) ((rd_T122 x0 x6).f2.f2.f1) ((rd_T122 x0 x6).f2.f3) ((rd_T122 x0 x6).f3) ((rd_T122 x0 x6).f4) (wrap64 (x1 + (x5.length : Int)))).bind fun t145 => (if x5.length + t145.length < 4398046511104 then (spec_l5Loop.l0 G k x0 x1 (x5 ++ t145) (wrap64 (x6 + 1))) else (none))) else (none)) else (some x5)
def spec_l5Loop.f (G : Int → Int → Int → Int → Int → Int → Int → List (S120) → List (S122) → List (S122) → Int → Option ((List (S30)))) (k : Nat) (l0 : List (S122)) (a1 : Int) : Option ((List (S30))) := spec_l5Loop.l0 G k l0 a1 (([] : List (S30))) 0
set_option maxHeartbeats 8000000 in
set_option maxRecDepth 100000 in
theorem spec_l5Loop.calls (G : Int → Int → Int → Int → Int → Int → Int → List (S120) → List (S122) → List (S122) → Int → Option ((List (S30)))) (hG : ∀ (a0_0 : Int) (a0_1 : Int) (a0_2 : Int) (a0_3 : Int) (a0_4 : Int) (a0_5 : Int) (a0_6 : Int) (A0_7 : Option Addr) (c0_7 : Nat) (l0_7 : List (S120)) (A0_8 : Option Addr) (c0_8 : Nat) (l0_8 : List (S122)) (A0_9 : Option Addr) (c0_9 : Nat) (l0_9 : List (S122)) (a1 : Int) (r : List (S30)) (w : World) (hr0_7 : Kd.C k120 w A0_7 l0_7.length l0_7) (hc0_7 : l0_7.length ≤ c0_7) (hr0_8 : Kd.C k122 w A0_8 l0_8.length l0_8) (hc0_8 : l0_8.length ≤ c0_8) (hr0_9 : Kd.C k122 w A0_9 l0_9.length l0_9) (hc0_9 : l0_9.length ≤ c0_9) (h : G a0_0 a0_1 a0_2 a0_3 a0_4 a0_5 a0_6 l0_7 l0_8 l0_9 a1 = some r), Calls Tryz.prog 83 #[.agg #[.int .i64 a0_0, .int .i64 a0_1, .int .i64 a0_2, .int .i64 a0_3, .int .i64 a0_4, .int .i64 a0_5, .int .i64 a0_6, .slice A0_7 l0_7.length c0_7, .slice A0_8 l0_8.length c0_8, .slice A0_9 l0_9.length c0_9], .int .i64 a1] w fun e w' => ∃ v0_ : Value, e = .returned (v0_) ∧ Kd.R k30 30 w' w.heap.size (fun _ => True) v0_ r ∧ Below w.heap.size w w') (k : Nat) (A0 : Option Addr) (c0 : Nat) (l0 : List (S122)) (a1 : Int) (r : List (S30)) (w : World) (hr0 : Kd.C k122 w A0 l0.length l0) (hc0 : l0.length ≤ c0) (h : spec_l5Loop.f G k l0 a1 = some r) :
    Calls Tryz.prog 56 #[.slice A0 l0.length c0, .int .i64 a1] w fun e w' => ∃ v0_ : Value, e = .returned (v0_) ∧ Kd.R k30 30 w' w.heap.size (fun _ => True) v0_ r ∧ Below w.heap.size w w' := by
 have hu122 := Tryz.underlying122
 have HR0 := aM_ hr0
 have HC0 := aM_ hc0
 clear hr0 hc0
 have HB := aM_ (Below.refl w.heap.size w)
 have H : (spec_l5Loop.l0 G k l0 a1 (([] : List (S30))) 0) = some r := h
 clear h
 obtain ⟨y141, hy141⟩ : ∃ y_ : List (S30), y_ = (([] : List (S30))) := ⟨_, rfl⟩
 replace H : (spec_l5Loop.l0 G k l0 a1 y141 0) = some r := by subst hy141; exact H
 have Ny141 := aM_ hy141
 clear hy141
 have H' := aM_ H
 clear H
 go_enter Tryz.func56, Tryz.ntmps56
 go_wp2_with (first | ((with_reducible refine gate_dst (N := 7) rfl ?_); refine Kd.R_lit k30 _ 30 ?hg (N := 7) ?hd (xs := ([] : List (S30))) (inner := []) (ok := fun _ => True) (okp := fun _ => True) ?hr ?hp (fun _ hk => hk) trivial (Below.refl _ _) (Nat.le_refl _) (by simp) ?_; (case hd => rfl); (case hg => rfl); (case hr => first | (go_simp; done) | (go_simp; rfl)); (case hp => exact (Reps.none _ _)); intro v142 w3 ho4 hb hg_ hnew_; clear hg_ hnew_; (first | rw [← Ny141.out] at ho4 | (simp only [Int.reduceToNat] at ho4; rw [← Ny141.out] at ho4)); have n0_ := aM_ (Kd.R_lower ho4 (bZ_ (qB HB))); have n1_ := aM_ (bT_ (qB HB) hb); clear HB; have HO143 := n0_; have HB := n1_; clear n0_ n1_ hb ho4))
 go_loopg [5, 6] k (fun kq v5 v6 w' => ∃ (x5_1 : List (S30)) (x6_1 : Int), v6 = .int .i64 x6_1 ∧ Aside0 (spec_l5Loop.l0 G kq l0 a1 x5_1 x6_1 = some r) ∧ Aside0 (kq ≤ k) ∧ Aside0 (Kd.R k30 30 w' w.heap.size (fun _ => True) v5 x5_1) ∧ Aside0 (Below w.heap.size w w'))
 case atStart => exact ⟨(y141), (0), qF, H', ⟨Nat.le_refl _⟩, ⟨by (with_reducible repeat (first | apply rA_ | apply rN_ | apply rD_)); exact HO143.out⟩, ⟨qB HB⟩⟩
 case round =>
  clear H'
  try clear p2
  obtain ⟨x5_1, x6_1, rfl, HA, HK1, HO_5, HB⟩ := hrel
  cases gk with
  | zero => exact absurd HA.out (by simp [spec_l5Loop.l0])
  | succ k1 =>
   have H := HA.out
   clear HA
   simp only [spec_l5Loop.l0] at H
   by_cases c5 : x6_1 < (l0.length : Int)
   rotate_left
   · rw [if_neg c5] at H
     have c5b0 : decide (x6_1 < (l0.length : Int)) = false := dF_ c5
     clear c5
     obtain rfl := oI_ H
     go_wp2
     go_ret
     exact ⟨_, qE, by (with_reducible repeat (first | apply rA_ | apply rN_ | apply rD_)); exact HO_5.out, qB HB⟩
   rw [if_pos c5] at H
   have c5b0 : decide (x6_1 < (l0.length : Int)) = true := dT_ c5
   clear c5
   by_cases c6 : 0 ≤ x6_1
   rotate_left
   · rw [if_neg c6] at H
     exact absurd H (by simp)
   rw [if_pos c6] at H
   have c6b0 : decide (0 ≤ x6_1) = true := dT_ c6
   clear c6
   replace H := oB_ H
   obtain ⟨t145, A70, H⟩ := H
   have A7 := aM_ A70
   clear A70
   by_cases c8 : x5_1.length + t145.length < 4398046511104
   rotate_left
   · rw [if_neg c8] at H
     exact absurd H (by simp)
   rw [if_pos c8] at H
   have LMc8 := aM_ c8
   clear c8
   obtain ⟨y148, hy148⟩ : ∃ y_ : List (S30), y_ = (x5_1 ++ t145) := ⟨_, rfl⟩
   replace H : (spec_l5Loop.l0 G k1 l0 a1 y148 (wrap64 (x6_1 + 1))) = some r := by subst hy148; exact H
   have Ny148 := aM_ hy148
   clear hy148
   have H' := aM_ H
   clear H
   have p144 : 0 ≤ (x6_1 : Int) := oD_ (by first | (with_reducible assumption) | assumption)
   have q144 : x6_1 < (l0.length : Int) := oD_ (by first | (with_reducible assumption) | assumption)
   obtain ⟨ad144, A144_7, c144_7, A144_8, c144_8, A144_9, c144_9, e144, hx144_0, hx144_1, hx144_2, hx144_3, hx144_4, hx144_5, hx144_6, hx144_7, hx144_8, hx144_9, hl144_7, hi144_7, hl144_8, hi144_8, hl144_9, hi144_9⟩ := at_T122 HR0.out x6_1 p144 q144
   cases e144
   replace hx144_0 := qc HB hx144_0
   replace hx144_1 := qc HB hx144_1
   replace hx144_2 := qc HB hx144_2
   replace hx144_3 := qc HB hx144_3
   replace hx144_4 := qc HB hx144_4
   replace hx144_5 := qc HB hx144_5
   replace hx144_6 := qc HB hx144_6
   replace hx144_7 := qc HB hx144_7
   replace hx144_8 := qc HB hx144_8
   replace hx144_9 := qc HB hx144_9
   have HR144_7 := aM_ hi144_7
   have HC144_7 := aM_ hl144_7
   clear hi144_7 hl144_7
   have HR144_8 := aM_ hi144_8
   have HC144_8 := aM_ hl144_8
   clear hi144_8 hl144_8
   have HR144_9 := aM_ hi144_9
   have HC144_9 := aM_ hl144_9
   clear hi144_9 hl144_9
   replace p144 := eq_true p144
   replace q144 := eq_true q144
   obtain ⟨Ao9, co9, eo9⟩ := Kd.R_slice HO_5.out
   subst eo9
   go_wp2_with (first | ((with_reducible refine gc_ 83 ?_); refine gL_ (some 23) Tryz.func83 #[.agg #[.int .i64 ((rd_T122 l0 x6_1).f0), .int .i64 ((rd_T122 l0 x6_1).f1.f0), .int .i64 ((rd_T122 l0 x6_1).f1.f1), .int .i64 ((rd_T122 l0 x6_1).f2.f0), .int .i64 ((rd_T122 l0 x6_1).f2.f1), .int .i64 ((rd_T122 l0 x6_1).f2.f2.f0), .int .i64 ((rd_T122 l0 x6_1).f2.f2.f1), .slice A144_7 ((rd_T122 l0 x6_1).f2.f3).length c144_7, .slice A144_8 ((rd_T122 l0 x6_1).f3).length c144_8, .slice A144_9 ((rd_T122 l0 x6_1).f4).length c144_9], .int .i64 (wrap64 (a1 + (x5_1.length : Int)))] ?_; (with_reducible refine (hG ((rd_T122 l0 x6_1).f0) ((rd_T122 l0 x6_1).f1.f0) ((rd_T122 l0 x6_1).f1.f1) ((rd_T122 l0 x6_1).f2.f0) ((rd_T122 l0 x6_1).f2.f1) ((rd_T122 l0 x6_1).f2.f2.f0) ((rd_T122 l0 x6_1).f2.f2.f1) _ _ ((rd_T122 l0 x6_1).f2.f3) _ _ ((rd_T122 l0 x6_1).f3) _ _ ((rd_T122 l0 x6_1).f4) (wrap64 (a1 + (x5_1.length : Int))) t145 _ ?side1 ?side2 ?side3 ?side4 ?side5 ?side6 A7.out).mono ?_); (case side1 => exact qC (Kd.C_below HR144_7.out HB.out)); (case side2 => exact HC144_7.out); (case side3 => exact qC (Kd.C_below HR144_8.out HB.out)); (case side4 => exact HC144_8.out); (case side5 => exact qC (Kd.C_below HR144_9.out HB.out)); (case side6 => exact HC144_9.out); rintro e w10 ⟨v146, rfl, ho0, hb⟩; refine ⟨_, rfl, ?_⟩; have n_ := aN3_ (Kd.R_elder' (qR HO_5) (Kd.R_base ho0) hb) (Kd.R_lower (Kd.R_new' ho0 (Kd.R_lt (qR HO_5))) (bZ_ (qB HB))) (bT_ (qB HB) hb); clear HO_5 HB; obtain ⟨HO_5, HO147, HB⟩ := n_; obtain ⟨Ao12, co12, eo12⟩ := Kd.R_slice HO147.out; subst eo12) | ((with_reducible refine gate_builtin (b := .append) (xs := #[.tmp 14, .tmp 23]) rfl ?_); at_builtin; refine Kd.R_append_rows k30 (w0 := w) w.heap.size rfl (.tmp 14) (.tmp 23) 23 30 (.agg #[(.int .i64 0), (.int .i64 0), (.int .i64 0), (.int .i64 0)]) 32 rfl Tryz.underlying23 info30 rfl (by decide) (by omega) (.slice Ao9 x5_1.length co9) x5_1 t145 _ _ _ (fun k_ => some k_ ≠ (.slice Ao12 t145.length co12 : Value).ownBlock) (fun _ => False) rfl rfl ?aO ?aR (fun _ _ h => h) (fun _ h => h.elim) ?aF ?aB ?aS ?aL ?_; (case aR => exact qC ((Kd.R_reads' HO147.out).2.2)); (case aB => exact (qB HB)); (case aF => exact (fun k_ hk => Kd.fresh' (Kd.R_lt (qR HO147)) k_ hk)); (case aO => exact (qr (Kd.R_mono HO_5.out (fun _ hk => hk.2)))); (case aS => exact (bZ_ (qB HB))); (case aL => have := LMc8.out; omega); intro v149 w11 ho hb hg hat; rw [← Ny148.out] at ho; have n0_ := aM_ (Kd.R_after (ok := (fun _ => True)) (qR HO147) hg hat); have n1_ := aM_ (hb); have n2_ := aM_ (ho); clear HO147 HB HO_5; have HO147 := n0_; have HB := n1_; have HO150 := n2_; clear n0_ n1_ n2_ ho hb hg hat))
   go_roundg k1
   case measure => have := HK1.out; omega
   case rel => exact ⟨(y148), (wrap64 (x6_1 + 1)), qF, H', ⟨by have := HK1.out; omega⟩, ⟨by (with_reducible repeat (first | apply rA_ | apply rN_ | apply rD_)); exact Kd.R_mono HO150.out (fun _ hk => trivial)⟩, ⟨qB HB⟩⟩
def spec_l5Of.deep : Nat → List S122 → Int → Option (List S30)
  | 0 => fun _ _ => none
  | n + 1 => fun l a => spec_l5Loop.f (spec_l5One.g (spec_l5Of.deep n)) 1000 l a
theorem spec_l5Of.deep_calls : ∀ (n : Nat) (A0 : Option Addr) (c0 : Nat) (l0 : List (S122)) (a1 : Int) (r : List (S30)) (w : World) (hr0 : Kd.C k122 w A0 l0.length l0) (hc0 : l0.length ≤ c0) (h : spec_l5Of.deep n l0 a1 = some r), Calls Tryz.prog 56 #[.slice A0 l0.length c0, .int .i64 a1] w fun e w' => ∃ v0_ : Value, e = .returned (v0_) ∧ Kd.R k30 30 w' w.heap.size (fun _ => True) v0_ r ∧ Below w.heap.size w w'
  | 0 => fun _ _ _ _ _ _ _ _ h => by simp [spec_l5Of.deep] at h
  | n + 1 => fun A0 c0 l0 a1 r w hr0 hc0 h => spec_l5Loop.calls _ (spec_l5One.callsG _ (spec_l5Of.deep_calls n)) 1000 A0 c0 l0 a1 r w hr0 hc0 h
def spec_l5Of.f (l0 : List (S122)) (a1 : Int) : Option ((List (S30))) := spec_l5Of.deep 10 l0 a1
set_option maxHeartbeats 8000000 in
set_option maxRecDepth 100000 in
theorem spec_l5Of.calls (A0 : Option Addr) (c0 : Nat) (l0 : List (S122)) (a1 : Int) (r : List (S30)) (w : World) (hr0 : Kd.C k122 w A0 l0.length l0) (hc0 : l0.length ≤ c0) (h : spec_l5Of.f l0 a1 = some r) :
    Calls Tryz.prog 56 #[.slice A0 l0.length c0, .int .i64 a1] w fun e w' => ∃ v0_ : Value, e = .returned (v0_) ∧ Kd.R k30 30 w' w.heap.size (fun _ => True) v0_ r ∧ Below w.heap.size w w' := by
 exact spec_l5Of.deep_calls 10 A0 c0 l0 a1 r w hr0 hc0 h
end Go.Proofs.YtjamfddhcigchaaGreatDoor.HFnCodeSame
