-- Made by a program of this session (hp.py) over the kit's print: functions told by hand stand beside printed ones. Lean checks it.
import Derived.Test.YtjamfddhcigchaaGreatDoorTFnCodeRunHFnCodeRunx3
namespace Go.Proofs.YtjamfddhcigchaaGreatDoor.HFnCodeRun
open Go.RowKit Go.Proofs.YtjamfddhcigchaaGreatDoorW.PrintWords Go.Proofs.YtjamfddhcigchaaGreatDoorW.PrintLast Go.Proofs.YtjamfddhcigchaaGreatDoorW.PrintMore
attribute [local go_sem] max2_int min2_int max_two min_two max_three min_three max_four min_four
set_option linter.unusedVariables false
set_option linter.unusedSimpArgs false
def spec_l5Expr.f : Nat → Int → Int → Int → Int → List (S120) → Option ((List (S30)))
  | 0, _, _, _, _, _ => none
  | k + 1, a0_0, a0_1, a0_2, a0_3, l0_4 => if a0_0 = 1 then (some (([(⟨1, a0_1, (⟨0, 0⟩ : S28)⟩ : S30)] : List (S30)))) else (if a0_0 = 2 then (some (([(⟨2, 0, (⟨a0_2, a0_3⟩ : S28)⟩ : S30)] : List (S30)))) else (if a0_0 = 10 then (if 0 < (l0_4.length : Int) then ((spec_l5Expr.f k ((rd_T120 l0_4 0).f0) ((rd_T120 l0_4 0).f1) ((rd_T120 l0_4 0).f2.f0) ((rd_T120 l0_4 0).f2.f1) ((rd_T120 l0_4 0).f3)).bind fun t115 => ((some (([(⟨5, 0, (⟨0, 0⟩ : S28)⟩ : S30)] : List (S30)) : List (S30))).bind fun y118 => (if t115.length + y118.length < 4398046511104 then (some (t115 ++ y118)) else (none)))) else (none)) else (if 0 < (l0_4.length : Int) then ((spec_l5Expr.f k ((rd_T120 l0_4 0).f0) ((rd_T120 l0_4 0).f1) ((rd_T120 l0_4 0).f2.f0) ((rd_T120 l0_4 0).f2.f1) ((rd_T120 l0_4 0).f3)).bind fun t125 => (if 1 < (l0_4.length : Int) then ((spec_l5Expr.f k ((rd_T120 l0_4 1).f0) ((rd_T120 l0_4 1).f1) ((rd_T120 l0_4 1).f2.f0) ((rd_T120 l0_4 1).f2.f1) ((rd_T120 l0_4 1).f3)).bind fun t129 => (if t125.length + t129.length < 4398046511104 then ((some (t125 ++ t129 : List (S30))).bind fun y132 => ((some (([(⟨4, a0_0, (⟨0, 0⟩ : S28)⟩ : S30)] : List (S30)) : List (S30))).bind fun y135 => (if y132.length + y135.length < 4398046511104 then (some (y132 ++ y135)) else (none)))) else (none))) else (none))) else (none))))
def spec_l5Expr.T8 : Bool × List (List Nat × List Nat) := (true, [([], []), ([0], [0]), ([1], [1]), ([2], [2]), ([3], [3]), ([], []), ([5], [5]), ([6], [6]), ([7], [7]), ([8, 4], [8]), ([4, 9, 9], [4, 9]), ([], []), ([11], [11]), ([12], [12]), ([13], [13]), ([10, 14, 10], [10, 14]), ([15, 15, 0, 1, 2, 3, 4, 5, 6, 7, 8, 9, 10, 11, 12, 13, 14, 15], [15])])
def spec_l5Expr.B8 : List Nat := [0, 1, 3, 7, 15, 0, 32, 96, 224, 511, 1023, 0, 2048, 6144, 14336, 32767, 65535]
theorem spec_l5Expr.tab8 : rtab .any (opsOf Tryz.f118 8) = spec_l5Expr.T8 := by kernel_rfl
theorem spec_l5Expr.bits8 : waitsOk spec_l5Expr.T8.2 spec_l5Expr.B8 = true := by kernel_rfl
set_option maxHeartbeats 8000000 in
set_option maxRecDepth 100000 in
theorem spec_l5Expr.calls (k : Nat) : ∀ (a0_0 : Int) (a0_1 : Int) (a0_2 : Int) (a0_3 : Int) (A0_4 : Option Addr) (c0_4 : Nat) (l0_4 : List (S120)) (r : List (S30)) (w : World) (hr0_4 : Kd.C k120 w A0_4 l0_4.length l0_4) (hc0_4 : l0_4.length ≤ c0_4) (h : spec_l5Expr.f k a0_0 a0_1 a0_2 a0_3 l0_4 = some r),
    Calls Tryz.prog 118 #[.agg #[.int .i64 a0_0, .int .i64 a0_1, .int .i64 a0_2, .int .i64 a0_3, .slice A0_4 l0_4.length c0_4]] w fun e w' => ∃ v0_ : Value, e = .returned (v0_) ∧ Kd.R k30 30 w' w.heap.size (fun _ => True) v0_ r ∧ Below w.heap.size w w' := by
 induction k using Nat.strongRecOn with
 | _ k ih =>
 intro a0_0 a0_1 a0_2 a0_3 A0_4 c0_4 l0_4 r w hr0_4 hc0_4 h
 cases k with
 | zero => exact absurd h (by simp [spec_l5Expr.f])
 | succ k =>
 simp only [spec_l5Expr.f] at h
 have hu120 := Tryz.underlying120
 have hu30 := Tryz.underlying30
 have hu28 := Tryz.underlying28
 have HR0_4 := aM_ hr0_4
 have HC0_4 := aM_ hc0_4
 clear hr0_4 hc0_4
 have HB := aM_ (Below.refl w.heap.size w)
 have H : (if a0_0 = 1 then (some (([(⟨1, a0_1, (⟨0, 0⟩ : S28)⟩ : S30)] : List (S30)))) else (if a0_0 = 2 then (some (([(⟨2, 0, (⟨a0_2, a0_3⟩ : S28)⟩ : S30)] : List (S30)))) else (if a0_0 = 10 then (if 0 < (l0_4.length : Int) then ((spec_l5Expr.f k ((rd_T120 l0_4 0).f0) ((rd_T120 l0_4 0).f1) ((rd_T120 l0_4 0).f2.f0) ((rd_T120 l0_4 0).f2.f1) ((rd_T120 l0_4 0).f3)).bind fun t115 => ((some (([(⟨5, 0, (⟨0, 0⟩ : S28)⟩ : S30)] : List (S30)) : List (S30))).bind fun y118 => (if t115.length + y118.length < 4398046511104 then (some (t115 ++ y118)) else (none)))) else (none)) else (if 0 < (l0_4.length : Int) then ((spec_l5Expr.f k ((rd_T120 l0_4 0).f0) ((rd_T120 l0_4 0).f1) ((rd_T120 l0_4 0).f2.f0) ((rd_T120 l0_4 0).f2.f1) ((rd_T120 l0_4 0).f3)).bind fun t125 => (if 1 < (l0_4.length : Int) then ((spec_l5Expr.f k ((rd_T120 l0_4 1).f0) ((rd_T120 l0_4 1).f1) ((rd_T120 l0_4 1).f2.f0) ((rd_T120 l0_4 1).f2.f1) ((rd_T120 l0_4 1).f3)).bind fun t129 => (if t125.length + t129.length < 4398046511104 then ((some (t125 ++ t129 : List (S30))).bind fun y132 => ((some (([(⟨4, a0_0, (⟨0, 0⟩ : S28)⟩ : S30)] : List (S30)) : List (S30))).bind fun y135 => (if y132.length + y135.length < 4398046511104 then (some (y132 ++ y135)) else (none)))) else (none))) else (none))) else (none))))) = some r := h
 clear h
 by_cases c2 : a0_0 = 1
 · rw [if_pos c2] at H
   have c2b0 : (a0_0 == 1) = true := beq_iff_eq.mpr c2
   have c2b1 : (a0_0 != 1) = false := bne_eq_false_iff_eq.mpr c2
   clear c2
   obtain ⟨y108, hy108⟩ : ∃ y_ : List (S30), y_ = (([(⟨1, a0_1, (⟨0, 0⟩ : S28)⟩ : S30)] : List (S30))) := ⟨_, rfl⟩
   replace H : (some y108) = some r := by subst hy108; exact H
   have Ny108 := aM_ hy108
   clear hy108
   obtain rfl := oI_ H
   go_enter Tryz.func118, Tryz.ntmps118
   go_wp2_with (first | ((with_reducible refine gD_ 1 ?_); refine bxB 1 120 #[.int .i64 a0_0, .int .i64 a0_1, .int .i64 a0_2, .int .i64 a0_3, .slice A0_4 l0_4.length c0_4] (qB HB) ?_; clear HB; intro gb107 w3 HB BK107 GW107; have GE107 := GW107; have hC4 := cf5 BK107.out) | ((with_reducible refine gD_ 10 ?_); refine Kd.R_lit k30 _ 30 ?hg (N := 10) ?hd (xs := ([(⟨1, a0_1, (⟨0, 0⟩ : S28)⟩ : S30)] : List (S30))) (inner := [.int .i64 1, .int .i64 a0_1, .int .i64 0, .int .i64 0]) (ok := fun _ => True) (okp := fun _ => True) ?hr ?hp (fun _ hk => hk) trivial (Below.refl _ _) (Nat.le_refl _) (by simp) ?_; (case hd => rfl); (case hg => rfl); (case hr => first | (go_simp; done) | (go_simp; rfl)); (case hp => exact (Reps.c4 (show Kd.M k30 _ _ _ (⟨1, a0_1, (⟨0, 0⟩ : S28)⟩ : S30) [.int .i64 1, .int .i64 a0_1, .int .i64 0, .int .i64 0] from (k30_mkM _ _ _ (⟨1, a0_1, (⟨0, 0⟩ : S28)⟩ : S30) )) (Reps.none _ _))); intro v109 w5 ho6 hb hg_ hnew_; clear hg_ hnew_; (first | rw [← Ny108.out] at ho6 | (simp only [Int.reduceToNat] at ho6; rw [← Ny108.out] at ho6)); have n_ := aN3_ (Kd.R_lower ho6 (bZ_ (qB HB))) (blk_below (qg BK107) hb) (bT_ (qB HB) hb); clear BK107 HB hb ho6; obtain ⟨HO110, BK107, HB⟩ := n_))
   go_ret
   exact ⟨_, qE, qR HO110, qB HB⟩
 rw [if_neg c2] at H
 have c2b0 : (a0_0 == 1) = false := beq_eq_false_iff_ne.mpr c2
 have c2b1 : (a0_0 != 1) = true := bne_iff_ne.mpr c2
 by_cases c7 : a0_0 = 2
 · rw [if_pos c7] at H
   have c7b0 : (a0_0 == 2) = true := beq_iff_eq.mpr c7
   have c7b1 : (a0_0 != 2) = false := bne_eq_false_iff_eq.mpr c7
   clear c7
   obtain ⟨y111, hy111⟩ : ∃ y_ : List (S30), y_ = (([(⟨2, 0, (⟨a0_2, a0_3⟩ : S28)⟩ : S30)] : List (S30))) := ⟨_, rfl⟩
   replace H : (some y111) = some r := by subst hy111; exact H
   have Ny111 := aM_ hy111
   clear hy111
   obtain rfl := oI_ H
   go_enter Tryz.func118, Tryz.ntmps118
   go_wp2_with (first | ((with_reducible refine gD_ 1 ?_); refine bxB 1 120 #[.int .i64 a0_0, .int .i64 a0_1, .int .i64 a0_2, .int .i64 a0_3, .slice A0_4 l0_4.length c0_4] (qB HB) ?_; clear HB; intro gb107 w8 HB BK107 GW107; have GE107 := GW107; have hC9 := cf5 BK107.out) | ((with_reducible refine gD_ 16 ?_); refine Kd.R_lit k30 _ 30 ?hg (N := 16) ?hd (xs := ([(⟨2, 0, (⟨a0_2, a0_3⟩ : S28)⟩ : S30)] : List (S30))) (inner := [.int .i64 2, .int .i64 0, .int .i64 a0_2, .int .i64 a0_3]) (ok := fun _ => True) (okp := fun _ => True) ?hr ?hp (fun _ hk => hk) trivial (Below.refl _ _) (Nat.le_refl _) (by simp) ?_; (case hd => rfl); (case hg => rfl); (case hr => first | (go_simp; done) | (go_simp; rfl)); (case hp => exact (Reps.c4 (show Kd.M k30 _ _ _ (⟨2, 0, (⟨a0_2, a0_3⟩ : S28)⟩ : S30) [.int .i64 2, .int .i64 0, .int .i64 a0_2, .int .i64 a0_3] from (k30_mkM _ _ _ (⟨2, 0, (⟨a0_2, a0_3⟩ : S28)⟩ : S30) )) (Reps.none _ _))); intro v112 w10 ho11 hb hg_ hnew_; clear hg_ hnew_; (first | rw [← Ny111.out] at ho11 | (simp only [Int.reduceToNat] at ho11; rw [← Ny111.out] at ho11)); have n_ := aN3_ (Kd.R_lower ho11 (bZ_ (qB HB))) (blk_below (qg BK107) hb) (bT_ (qB HB) hb); clear BK107 HB hb ho11; obtain ⟨HO113, BK107, HB⟩ := n_))
   go_ret
   exact ⟨_, qE, qR HO113, qB HB⟩
 rw [if_neg c7] at H
 have c7b0 : (a0_0 == 2) = false := beq_eq_false_iff_ne.mpr c7
 have c7b1 : (a0_0 != 2) = true := bne_iff_ne.mpr c7
 by_cases c12 : a0_0 = 10
 · rw [if_pos c12] at H
   have c12b0 : (a0_0 == 10) = true := beq_iff_eq.mpr c12
   have c12b1 : (a0_0 != 10) = false := bne_eq_false_iff_eq.mpr c12
   clear c12
   obtain ⟨H, c13b0⟩ := nP_ H
   have c13b1 : decide (0 < l0_4.length) = true := dT_ (by have := of_decide_eq_true c13b0; omega)
   replace H := oB_ H
   obtain ⟨t115, A140, H⟩ := H
   have A14 := aM_ A140
   clear A140
   obtain ⟨y118, hy118⟩ : ∃ y_ : List (S30), y_ = (([(⟨5, 0, (⟨0, 0⟩ : S28)⟩ : S30)] : List (S30))) := ⟨_, rfl⟩
   replace H : (if t115.length + y118.length < 4398046511104 then (some (t115 ++ y118)) else (none)) = some r := by subst hy118; exact H
   have Ny118 := aM_ hy118
   clear hy118
   by_cases c15 : t115.length + y118.length < 4398046511104
   rotate_left
   · rw [if_neg c15] at H
     exact absurd H (by simp)
   rw [if_pos c15] at H
   have LMc15 := aM_ c15
   clear c15
   obtain ⟨y121, hy121⟩ : ∃ y_ : List (S30), y_ = (t115 ++ y118) := ⟨_, rfl⟩
   replace H : (some y121) = some r := by subst hy121; exact H
   have Ny121 := aM_ hy121
   clear hy121
   obtain rfl := oI_ H
   go_enter Tryz.func118, Tryz.ntmps118
   go_wp2_with (first | ((with_reducible refine gD_ 1 ?_); refine bxB 1 120 #[.int .i64 a0_0, .int .i64 a0_1, .int .i64 a0_2, .int .i64 a0_3, .slice A0_4 l0_4.length c0_4] (qB HB) ?_; clear HB; intro gb107 w16 HB BK107 GW107; have GE107 := GW107; have hC17 := cf5 BK107.out; have p114 : 0 ≤ (0 : Int) := (by omega); have q114 : 0 < (l0_4.length : Int) := oD_ (by first | (with_reducible assumption) | assumption); obtain ⟨ad114, A114_4, c114_4, e114, hx114_0, hx114_1, hx114_2, hx114_3, hx114_4, hl114_4, hi114_4⟩ := at_T120 HR0_4.out 0 p114 q114; cases e114; have qi114 : (0 < l0_4.length) = True := eq_true (by omega); (try rw [show ((0 : Int)).toNat = 0 from rfl] at hx114_0); (try rw [show 0 * 5 = 0 from rfl] at hx114_0); (try rw [Addr.add_zero'] at hx114_0); (try rw [show ((0 : Int)).toNat = 0 from rfl] at hx114_1); (try rw [show 0 * 5 = 0 from rfl] at hx114_1); (try rw [Addr.add_zero'] at hx114_1); (try rw [show ((0 : Int)).toNat = 0 from rfl] at hx114_2); (try rw [show 0 * 5 = 0 from rfl] at hx114_2); (try rw [Addr.add_zero'] at hx114_2); (try rw [show ((0 : Int)).toNat = 0 from rfl] at hx114_3); (try rw [show 0 * 5 = 0 from rfl] at hx114_3); (try rw [Addr.add_zero'] at hx114_3); (try rw [show ((0 : Int)).toNat = 0 from rfl] at hx114_4); (try rw [show 0 * 5 = 0 from rfl] at hx114_4); (try rw [Addr.add_zero'] at hx114_4); replace hx114_0 := qc HB hx114_0; replace hx114_1 := qc HB hx114_1; replace hx114_2 := qc HB hx114_2; replace hx114_3 := qc HB hx114_3; replace hx114_4 := qc HB hx114_4; have HR114_4 := aM_ hi114_4; have HC114_4 := aM_ hl114_4; clear hi114_4 hl114_4; replace p114 := eq_true p114; replace q114 := eq_true q114) | ((with_reducible refine gc_ 118 ?_); refine gL_ (some 23) Tryz.func118 #[.agg #[.int .i64 ((rd_T120 l0_4 0).f0), .int .i64 ((rd_T120 l0_4 0).f1), .int .i64 ((rd_T120 l0_4 0).f2.f0), .int .i64 ((rd_T120 l0_4 0).f2.f1), .slice A114_4 ((rd_T120 l0_4 0).f3).length c114_4]] ?_; (with_reducible refine (ih k (by omega) ((rd_T120 l0_4 0).f0) ((rd_T120 l0_4 0).f1) ((rd_T120 l0_4 0).f2.f0) ((rd_T120 l0_4 0).f2.f1) _ _ ((rd_T120 l0_4 0).f3) t115 _ ?side1 ?side2 A14.out).mono ?_); (case side1 => exact qC (Kd.C_below HR114_4.out HB.out)); (case side2 => exact HC114_4.out); rintro e w18 ⟨v116, rfl, ho0, hb⟩; refine ⟨_, rfl, ?_⟩; have n_ := aN3_ (Kd.R_lower ho0 (bZ_ (qB HB))) (blk_below (qg BK107) hb) (bT_ (qB HB) hb); clear BK107 HB; obtain ⟨HO117, BK107, HB⟩ := n_) | ((with_reducible refine gD_ 25 ?_); refine Kd.R_lit k30 _ 30 ?hg (N := 25) ?hd (xs := ([(⟨5, 0, (⟨0, 0⟩ : S28)⟩ : S30)] : List (S30))) (inner := [.int .i64 5, .int .i64 0, .int .i64 0, .int .i64 0]) (ok := fun _ => True) (okp := fun _ => True) ?hr ?hp (fun _ hk => hk) trivial (Below.refl _ _) (Nat.le_refl _) (by simp) ?_; (case hd => rfl); (case hg => rfl); (case hr => first | (go_simp; done) | (go_simp; rfl)); (case hp => exact (Reps.c4 (show Kd.M k30 _ _ _ (⟨5, 0, (⟨0, 0⟩ : S28)⟩ : S30) [.int .i64 5, .int .i64 0, .int .i64 0, .int .i64 0] from (k30_mkM _ _ _ (⟨5, 0, (⟨0, 0⟩ : S28)⟩ : S30) )) (Reps.none _ _))); intro v119 w19 ho20 hb hg_ hnew_; clear hg_ hnew_; (first | rw [← Ny118.out] at ho20 | (simp only [Int.reduceToNat] at ho20; rw [← Ny118.out] at ho20)); have n_ := aN4_ (Kd.R_elder' (qR HO117) (Kd.R_base ho20) hb) (Kd.R_lower (Kd.R_new' ho20 (Kd.R_lt (qR HO117))) (bZ_ (qB HB))) (blk_below (qg BK107) hb) (bT_ (qB HB) hb); clear HO117 BK107 HB hb ho20; obtain ⟨HO117, HO120, BK107, HB⟩ := n_; obtain ⟨Ao22, co22, eo22⟩ := Kd.R_slice HO120.out; subst eo22) | ((with_reducible refine gate_builtin (b := .append) (xs := #[.tmp 23, .tmp 25]) rfl ?_); at_builtin; refine Kd.R_append_rows k30 (w0 := w) w.heap.size rfl (.tmp 23) (.tmp 25) 23 30 (.agg #[(.int .i64 0), (.int .i64 0), (.int .i64 0), (.int .i64 0)]) 32 rfl Tryz.underlying23 info30 rfl (by decide) (by omega) v116 t115 y118 _ _ _ (fun k_ => some k_ ≠ (.slice Ao22 y118.length co22 : Value).ownBlock) (fun _ => False) rfl rfl ?aO ?aR (fun _ _ h => h) (fun _ h => h.elim) ?aF ?aB ?aS ?aL ?_; (case aR => exact qC ((Kd.R_reads' HO120.out).2.2)); (case aB => exact (qB HB)); (case aF => exact (fun k_ hk => Kd.fresh' (Kd.R_lt (qR HO120)) k_ hk)); (case aO => exact (qr (Kd.R_mono HO117.out (fun _ hk => hk.2)))); (case aS => exact (bZ_ (qB HB))); (case aL => have := LMc15.out; omega); intro v122 w21 ho hb hg hat; rw [← Ny121.out] at ho; have n_ := aN4_ (blk_grown (qg BK107) hg (Kd.R_ne HO117.out BK107.out (by decide))) (Kd.R_after (ok := (fun _ => True)) (qR HO120) hg hat) (hb) (ho); clear BK107 HO120 HB HO117 ho hb hg hat; obtain ⟨BK107, HO120, HB, HO123⟩ := n_))
   go_ret
   exact ⟨_, qE, by (with_reducible repeat (first | apply rA_ | apply rN_ | apply rD_)); exact Kd.R_mono HO123.out (fun _ hk => trivial), qB HB⟩
 rw [if_neg c12] at H
 have c12b0 : (a0_0 == 10) = false := beq_eq_false_iff_ne.mpr c12
 have c12b1 : (a0_0 != 10) = true := bne_iff_ne.mpr c12
 obtain ⟨H, c23b0⟩ := nP_ H
 have c23b1 : decide (0 < l0_4.length) = true := dT_ (by have := of_decide_eq_true c23b0; omega)
 replace H := oB_ H
 obtain ⟨t125, A240, H⟩ := H
 have A24 := aM_ A240
 clear A240
 obtain ⟨H, c25b0⟩ := nP_ H
 have c25b1 : decide (1 < l0_4.length) = true := dT_ (by have := of_decide_eq_true c25b0; omega)
 replace H := oB_ H
 obtain ⟨t129, A260, H⟩ := H
 have A26 := aM_ A260
 clear A260
 by_cases c27 : t125.length + t129.length < 4398046511104
 rotate_left
 · rw [if_neg c27] at H
   exact absurd H (by simp)
 rw [if_pos c27] at H
 have LMc27 := aM_ c27
 clear c27
 obtain ⟨y132, hy132⟩ : ∃ y_ : List (S30), y_ = (t125 ++ t129) := ⟨_, rfl⟩
 replace H : ((some (([(⟨4, a0_0, (⟨0, 0⟩ : S28)⟩ : S30)] : List (S30)) : List (S30))).bind fun y135 => (if y132.length + y135.length < 4398046511104 then (some (y132 ++ y135)) else (none))) = some r := by subst hy132; exact H
 have Ny132 := aM_ hy132
 clear hy132
 obtain ⟨y135, hy135⟩ : ∃ y_ : List (S30), y_ = (([(⟨4, a0_0, (⟨0, 0⟩ : S28)⟩ : S30)] : List (S30))) := ⟨_, rfl⟩
 replace H : (if y132.length + y135.length < 4398046511104 then (some (y132 ++ y135)) else (none)) = some r := by subst hy135; exact H
 have Ny135 := aM_ hy135
 clear hy135
 by_cases c28 : y132.length + y135.length < 4398046511104
 rotate_left
 · rw [if_neg c28] at H
   exact absurd H (by simp)
 rw [if_pos c28] at H
 have LMc28 := aM_ c28
 clear c28
 obtain ⟨y138, hy138⟩ : ∃ y_ : List (S30), y_ = (y132 ++ y135) := ⟨_, rfl⟩
 replace H : (some y138) = some r := by subst hy138; exact H
 have Ny138 := aM_ hy138
 clear hy138
 obtain rfl := oI_ H
 go_enter Tryz.func118, Tryz.ntmps118
 try go_wp2_with (first | ((with_reducible refine gD_ 1 ?_); refine bxB 1 120 #[.int .i64 a0_0, .int .i64 a0_1, .int .i64 a0_2, .int .i64 a0_3, .slice A0_4 l0_4.length c0_4] (qB HB) ?_; clear HB; intro gb107 w29 HB BK107 GW107; have GE107 := GW107; have hC30 := cf5 BK107.out))
 have n0_ := aM_ (kD_ BK107.out)
 have n1_ := aM_ (b1_ HB.out)
 clear BK107 HB
 revert n0_ n1_
 intro BK107 HB
 have p124 : 0 ≤ (0 : Int) := (by omega)
 have q124 : 0 < (l0_4.length : Int) := oD_ (by first | (with_reducible assumption) | assumption)
 obtain ⟨ad124, A124_4, c124_4, e124, hx124_0, hx124_1, hx124_2, hx124_3, hx124_4, hl124_4, hi124_4⟩ := at_T120 HR0_4.out 0 p124 q124
 have hw124_4 := hx124_4
 (try rw [show ((0 : Int)).toNat = 0 from rfl] at hw124_4)
 (try rw [show 0 * 5 = 0 from rfl] at hw124_4)
 (try rw [Addr.add_zero'] at hw124_4)
 have hw124_3 := hx124_3
 (try rw [show ((0 : Int)).toNat = 0 from rfl] at hw124_3)
 (try rw [show 0 * 5 = 0 from rfl] at hw124_3)
 (try rw [Addr.add_zero'] at hw124_3)
 have hw124_2 := hx124_2
 (try rw [show ((0 : Int)).toNat = 0 from rfl] at hw124_2)
 (try rw [show 0 * 5 = 0 from rfl] at hw124_2)
 (try rw [Addr.add_zero'] at hw124_2)
 have hw124_1 := hx124_1
 (try rw [show ((0 : Int)).toNat = 0 from rfl] at hw124_1)
 (try rw [show 0 * 5 = 0 from rfl] at hw124_1)
 (try rw [Addr.add_zero'] at hw124_1)
 have hw124_0 := hx124_0
 (try rw [show ((0 : Int)).toNat = 0 from rfl] at hw124_0)
 (try rw [show 0 * 5 = 0 from rfl] at hw124_0)
 (try rw [Addr.add_zero'] at hw124_0)
 cases e124
 have qi124 : (0 < l0_4.length) = True := eq_true (by omega)
 (try rw [show ((0 : Int)).toNat = 0 from rfl] at hx124_0)
 (try rw [show 0 * 5 = 0 from rfl] at hx124_0)
 (try rw [Addr.add_zero'] at hx124_0)
 (try rw [show ((0 : Int)).toNat = 0 from rfl] at hx124_1)
 (try rw [show 0 * 5 = 0 from rfl] at hx124_1)
 (try rw [Addr.add_zero'] at hx124_1)
 (try rw [show ((0 : Int)).toNat = 0 from rfl] at hx124_2)
 (try rw [show 0 * 5 = 0 from rfl] at hx124_2)
 (try rw [Addr.add_zero'] at hx124_2)
 (try rw [show ((0 : Int)).toNat = 0 from rfl] at hx124_3)
 (try rw [show 0 * 5 = 0 from rfl] at hx124_3)
 (try rw [Addr.add_zero'] at hx124_3)
 (try rw [show ((0 : Int)).toNat = 0 from rfl] at hx124_4)
 (try rw [show 0 * 5 = 0 from rfl] at hx124_4)
 (try rw [Addr.add_zero'] at hx124_4)
 replace hx124_0 := qc HB hx124_0
 replace hx124_1 := qc HB hx124_1
 replace hx124_2 := qc HB hx124_2
 replace hx124_3 := qc HB hx124_3
 replace hx124_4 := qc HB hx124_4
 have HR124_4 := aM_ hi124_4
 have HC124_4 := aM_ hl124_4
 clear hi124_4 hl124_4
 replace p124 := eq_true p124
 replace q124 := eq_true q124
 have p128 : 0 ≤ (1 : Int) := (by omega)
 have q128 : 1 < (l0_4.length : Int) := oD_ (by first | (with_reducible assumption) | assumption)
 obtain ⟨ad128, A128_4, c128_4, e128, hx128_0, hx128_1, hx128_2, hx128_3, hx128_4, hl128_4, hi128_4⟩ := at_T120 HR0_4.out 1 p128 q128
 have hw128_4 := hx128_4
 (try rw [show ((1 : Int)).toNat = 1 from rfl] at hw128_4)
 (try rw [show 1 * 5 = 5 from rfl] at hw128_4)
 (try simp only [Nat.reduceMul, Nat.reduceEqDiff, Go.Addr.add, ↓reduceIte] at hw128_4)
 have hw128_3 := hx128_3
 (try rw [show ((1 : Int)).toNat = 1 from rfl] at hw128_3)
 (try rw [show 1 * 5 = 5 from rfl] at hw128_3)
 (try simp only [Nat.reduceMul, Nat.reduceEqDiff, Go.Addr.add, ↓reduceIte] at hw128_3)
 have hw128_2 := hx128_2
 (try rw [show ((1 : Int)).toNat = 1 from rfl] at hw128_2)
 (try rw [show 1 * 5 = 5 from rfl] at hw128_2)
 (try simp only [Nat.reduceMul, Nat.reduceEqDiff, Go.Addr.add, ↓reduceIte] at hw128_2)
 have hw128_1 := hx128_1
 (try rw [show ((1 : Int)).toNat = 1 from rfl] at hw128_1)
 (try rw [show 1 * 5 = 5 from rfl] at hw128_1)
 (try simp only [Nat.reduceMul, Nat.reduceEqDiff, Go.Addr.add, ↓reduceIte] at hw128_1)
 have hw128_0 := hx128_0
 (try rw [show ((1 : Int)).toNat = 1 from rfl] at hw128_0)
 (try rw [show 1 * 5 = 5 from rfl] at hw128_0)
 (try simp only [Nat.reduceMul, Nat.reduceEqDiff, Go.Addr.add, ↓reduceIte] at hw128_0)
 obtain rfl : ad124 = ad128 := (by injection e128)
 (try simp only [show (1 : Int).toNat = 1 from rfl, Nat.reduceMul, Nat.reduceEqDiff, Go.Addr.add, ↓reduceIte] at hx128_0)
 (try simp only [show (1 : Int).toNat = 1 from rfl, Nat.reduceMul, Nat.reduceEqDiff, Go.Addr.add, ↓reduceIte] at hx128_1)
 (try simp only [show (1 : Int).toNat = 1 from rfl, Nat.reduceMul, Nat.reduceEqDiff, Go.Addr.add, ↓reduceIte] at hx128_2)
 (try simp only [show (1 : Int).toNat = 1 from rfl, Nat.reduceMul, Nat.reduceEqDiff, Go.Addr.add, ↓reduceIte] at hx128_3)
 (try simp only [show (1 : Int).toNat = 1 from rfl, Nat.reduceMul, Nat.reduceEqDiff, Go.Addr.add, ↓reduceIte] at hx128_4)
 have qi128 : (1 < l0_4.length) = True := eq_true (by omega)
 (try rw [show ((1 : Int)).toNat = 1 from rfl] at hx128_0)
 (try rw [show 1 * 5 = 5 from rfl] at hx128_0)
 (try rw [show ((1 : Int)).toNat = 1 from rfl] at hx128_1)
 (try rw [show 1 * 5 = 5 from rfl] at hx128_1)
 (try rw [show ((1 : Int)).toNat = 1 from rfl] at hx128_2)
 (try rw [show 1 * 5 = 5 from rfl] at hx128_2)
 (try rw [show ((1 : Int)).toNat = 1 from rfl] at hx128_3)
 (try rw [show 1 * 5 = 5 from rfl] at hx128_3)
 (try rw [show ((1 : Int)).toNat = 1 from rfl] at hx128_4)
 (try rw [show 1 * 5 = 5 from rfl] at hx128_4)
 replace hx128_0 := qc HB hx128_0
 replace hx128_1 := qc HB hx128_1
 replace hx128_2 := qc HB hx128_2
 replace hx128_3 := qc HB hx128_3
 replace hx128_4 := qc HB hx128_4
 have HR128_4 := aM_ hi128_4
 have HC128_4 := aM_ hl128_4
 clear hi128_4 hl128_4
 replace p128 := eq_true p128
 replace q128 := eq_true q128
 refine start_ (n := 17) (S := fun w' => w'.cell? ⟨gb107, 0, none⟩ = some (.int .i64 a0_0) ∧ w'.cell? ⟨gb107, 1, none⟩ = some (.int .i64 a0_1) ∧ w'.cell? ⟨gb107, 2, none⟩ = some (.int .i64 a0_2) ∧ w'.cell? ⟨gb107, 3, none⟩ = some (.int .i64 a0_3) ∧ w'.cell? ⟨gb107, 4, none⟩ = some (.slice (some ad124) l0_4.length c0_4) ∧ w'.cell? ad124 = some (.int .i64 ((rd_T120 l0_4 0).f0)) ∧ w'.cell? ⟨ad124.block, ad124.off + 1, none⟩ = some (.int .i64 ((rd_T120 l0_4 0).f1)) ∧ w'.cell? ⟨ad124.block, ad124.off + 2, none⟩ = some (.int .i64 ((rd_T120 l0_4 0).f2.f0)) ∧ w'.cell? ⟨ad124.block, ad124.off + 3, none⟩ = some (.int .i64 ((rd_T120 l0_4 0).f2.f1)) ∧ w'.cell? ⟨ad124.block, ad124.off + 4, none⟩ = some (.slice A124_4 ((rd_T120 l0_4 0).f3).length c124_4) ∧ w'.cell? ⟨ad124.block, ad124.off + 5, none⟩ = some (.int .i64 ((rd_T120 l0_4 1).f0)) ∧ w'.cell? ⟨ad124.block, ad124.off + 5 + 1, none⟩ = some (.int .i64 ((rd_T120 l0_4 1).f1)) ∧ w'.cell? ⟨ad124.block, ad124.off + 5 + 2, none⟩ = some (.int .i64 ((rd_T120 l0_4 1).f2.f0)) ∧ w'.cell? ⟨ad124.block, ad124.off + 5 + 3, none⟩ = some (.int .i64 ((rd_T120 l0_4 1).f2.f1)) ∧ w'.cell? ⟨ad124.block, ad124.off + 5 + 4, none⟩ = some (.slice A128_4 ((rd_T120 l0_4 1).f3).length c128_4)) (ds := []) #[F_, F_, F_, F_, F_, F_, F_, F_, F_, F_, F_, F_, F_, F_, F_, F_, F_] (by kernel_rfl) rfl rfl ⟨(kC_ BK107.out 0).trans rfl, (kC_ BK107.out 1).trans rfl, (kC_ BK107.out 2).trans rfl, (kC_ BK107.out 3).trans rfl, (kC_ BK107.out 4).trans rfl, (qc HB hw124_0), (qc HB hw124_1), (qc HB hw124_2), (qc HB hw124_3), (qc HB hw124_4), (qc HB hw128_0), (qc HB hw128_1), (qc HB hw128_2), (qc HB hw128_3), (qc HB hw128_4)⟩ (fun hHeld => ?_); refine with_tabW spec_l5Expr.tab8 spec_l5Expr.bits8 (fun HT_ HW_ => ?_)
 generalize w29.drew = w31 at BK107 HB HR124_4 HR128_4 hx124_0 hx124_1 hx124_2 hx124_3 hx124_4 hx128_0 hx128_1 hx128_2 hx128_3 hx128_4 hHeld ⊢
 refine pu_ 0 27 ?_
 refine pu_ 5 32 ?_
 refine pu_ 11 38 ?_
 refine tk_ 1 28 hHeld ?_
 refine pu_ 2 29 ?_
 refine tk_ 3 30 hHeld ?_
 refine tk_ 6 33 hHeld ?_
 refine pu_ 7 34 ?_
 refine tk_ 8 35 hHeld ?_
 refine tk_ 12 39 hHeld ?_
 refine pu_ 13 40 ?_
 refine join_ (σ := Value × Value × Value × Value) 2 #[T_, T_, T_, T_, T_, T_, T_, T_, T_, T_, T_, T_, T_, T_, T_, F_, F_] (fun s_ => [(31, s_.1), (36, s_.2.1), (37, s_.2.2.1), (41, s_.2.2.2)]) (fun s_ w' => (w'.cell? ⟨gb107, 0, none⟩ = some (.int .i64 a0_0) ∧ w'.cell? ⟨gb107, 1, none⟩ = some (.int .i64 a0_1) ∧ w'.cell? ⟨gb107, 2, none⟩ = some (.int .i64 a0_2) ∧ w'.cell? ⟨gb107, 3, none⟩ = some (.int .i64 a0_3) ∧ w'.cell? ⟨gb107, 4, none⟩ = some (.slice (some ad124) l0_4.length c0_4) ∧ w'.cell? ad124 = some (.int .i64 ((rd_T120 l0_4 0).f0)) ∧ w'.cell? ⟨ad124.block, ad124.off + 1, none⟩ = some (.int .i64 ((rd_T120 l0_4 0).f1)) ∧ w'.cell? ⟨ad124.block, ad124.off + 2, none⟩ = some (.int .i64 ((rd_T120 l0_4 0).f2.f0)) ∧ w'.cell? ⟨ad124.block, ad124.off + 3, none⟩ = some (.int .i64 ((rd_T120 l0_4 0).f2.f1)) ∧ w'.cell? ⟨ad124.block, ad124.off + 4, none⟩ = some (.slice A124_4 ((rd_T120 l0_4 0).f3).length c124_4) ∧ w'.cell? ⟨ad124.block, ad124.off + 5, none⟩ = some (.int .i64 ((rd_T120 l0_4 1).f0)) ∧ w'.cell? ⟨ad124.block, ad124.off + 5 + 1, none⟩ = some (.int .i64 ((rd_T120 l0_4 1).f1)) ∧ w'.cell? ⟨ad124.block, ad124.off + 5 + 2, none⟩ = some (.int .i64 ((rd_T120 l0_4 1).f2.f0)) ∧ w'.cell? ⟨ad124.block, ad124.off + 5 + 3, none⟩ = some (.int .i64 ((rd_T120 l0_4 1).f2.f1)) ∧ w'.cell? ⟨ad124.block, ad124.off + 5 + 4, none⟩ = some (.slice A128_4 ((rd_T120 l0_4 1).f3).length c128_4)) ∧ (Kd.R k30 30 w' w.heap.size (fun k_ => some k_ ≠ (s_.2.2.1 : Value).ownBlock ∧ some k_ ≠ (s_.2.2.2 : Value).ownBlock) s_.2.1 t129) ∧ (Kd.R k30 30 w' w.heap.size (fun k_ => some k_ ≠ (s_.2.1 : Value).ownBlock ∧ some k_ ≠ (s_.2.2.2 : Value).ownBlock) s_.2.2.1 y132) ∧ (Kd.R k30 30 w' w.heap.size (fun k_ => some k_ ≠ (s_.2.1 : Value).ownBlock ∧ some k_ ≠ (s_.2.2.1 : Value).ownBlock) s_.2.2.2 y135) ∧ (w'.heap[gb107]? = some (.cells #[.int .i64 a0_0, .int .i64 a0_1, .int .i64 a0_2, .int .i64 a0_3, .slice (some ad124) l0_4.length c0_4] 120 (0, 0))) ∧ (Below w.heap.size w w')) ?_ ?_
 rotate_left
 · intro hCont
   refine two_ (i := 4) (j := 14) (Ni := some 31) (Nj := some 41) #[T_, T_, T_, T_, T_, T_, T_, T_, T_, F_, F_, T_, T_, T_, F_, F_, F_] #[T_, T_, T_, T_, F_, T_, T_, T_, T_, F_, F_, T_, T_, T_, T_, F_, F_] rfl rfl rfl rfl (two_of HT_.out (by kernel_rfl)) (by decide) (by decide) (fun K hK => ?_) (fun K hK => ?_)
   · skip
     refine goes_ Tryz.func118 (by kernel_rfl) rfl #[.agg #[.int .i64 ((rd_T120 l0_4 0).f0), .int .i64 ((rd_T120 l0_4 0).f1), .int .i64 ((rd_T120 l0_4 0).f2.f0), .int .i64 ((rd_T120 l0_4 0).f2.f1), .slice A124_4 ((rd_T120 l0_4 0).f3).length c124_4]] (by rfl) rfl rfl (by (try simp only [mA_, List.map_cons, List.map_nil]); first | done | rfl | (simp only [lD_, lT_]; rfl)) ?_
     with_reducible refine (ih k (by omega) ((rd_T120 l0_4 0).f0) ((rd_T120 l0_4 0).f1) ((rd_T120 l0_4 0).f2.f0) ((rd_T120 l0_4 0).f2.f1) _ _ ((rd_T120 l0_4 0).f3) t125 _ ?side1 ?side2 A24.out).mono ?_
     (case side1 => exact qC (Kd.C_below HR124_4.out HB.out))
     (case side2 => exact HC124_4.out)
     rintro e w32 ⟨v126, rfl, ho0, hb⟩
     refine ⟨_, rfl, ?_⟩
     have n0_ := aM_ (Kd.R_lower ho0 (bZ_ (qB HB)))
     have n1_ := aM_ (blk_below (qg BK107) hb)
     have n2_ := aM_ (bT_ (qB HB) hb)
     clear BK107 HB
     revert n0_ n1_ n2_
     intro HO127 BK107 HB
     (try clear hb)
     (try clear hb2)
     (try clear hk)
     (try clear hi)
     (try clear ho0)
     refine hK.out _ _ ⟨(kC_ BK107.out 0).trans rfl, (kC_ BK107.out 1).trans rfl, (kC_ BK107.out 2).trans rfl, (kC_ BK107.out 3).trans rfl, (kC_ BK107.out 4).trans rfl, (qc HB hw124_0), (qc HB hw124_1), (qc HB hw124_2), (qc HB hw124_3), (qc HB hw124_4), (qc HB hw128_0), (qc HB hw128_1), (qc HB hw128_2), (qc HB hw128_3), (qc HB hw128_4)⟩ (fun hHeld => ?_)
     clear hK K
     refine norm_ (a' := ?_) ?_ ?_
     rotate_left
     · show Act.put _ (some 31) _ = _
       simp only [Act.put, sA_, sB_, sC_, i64_w, i32_w]
       rfl
     refine two_ (i := 9) (j := 14) (Ni := some 36) (Nj := some 41) #[T_, T_, T_, T_, T_, T_, T_, T_, T_, T_, F_, T_, T_, T_, F_, F_, F_] #[T_, T_, T_, T_, T_, T_, T_, T_, T_, F_, F_, T_, T_, T_, T_, F_, F_] rfl rfl rfl rfl (two_of HT_.out (by kernel_rfl)) (by decide) (by decide) (fun K hK => ?_) (fun K hK => ?_)
     · skip
       refine goes_ Tryz.func118 (by kernel_rfl) rfl #[.agg #[.int .i64 ((rd_T120 l0_4 1).f0), .int .i64 ((rd_T120 l0_4 1).f1), .int .i64 ((rd_T120 l0_4 1).f2.f0), .int .i64 ((rd_T120 l0_4 1).f2.f1), .slice A128_4 ((rd_T120 l0_4 1).f3).length c128_4]] (by rfl) rfl rfl (by (try simp only [mA_, List.map_cons, List.map_nil]); first | done | rfl | (simp only [lD_, lT_]; rfl)) ?_
       with_reducible refine (ih k (by omega) ((rd_T120 l0_4 1).f0) ((rd_T120 l0_4 1).f1) ((rd_T120 l0_4 1).f2.f0) ((rd_T120 l0_4 1).f2.f1) _ _ ((rd_T120 l0_4 1).f3) t129 _ ?side1 ?side2 A26.out).mono ?_
       (case side1 => exact qC (Kd.C_below HR128_4.out HB.out))
       (case side2 => exact HC128_4.out)
       rintro e w33 ⟨v130, rfl, ho0, hb⟩
       refine ⟨_, rfl, ?_⟩
       have n0_ := aM_ (Kd.R_elder' (qR HO127) (Kd.R_base ho0) hb)
       have n1_ := aM_ (Kd.R_lower (Kd.R_new' ho0 (Kd.R_lt (qR HO127))) (bZ_ (qB HB)))
       have n2_ := aM_ (blk_below (qg BK107) hb)
       have n3_ := aM_ (bT_ (qB HB) hb)
       clear HO127 BK107 HB
       revert n0_ n1_ n2_ n3_
       intro HO127 HO131 BK107 HB
       (try clear hb)
       (try clear hb2)
       (try clear hk)
       (try clear hi)
       (try clear ho0)
       obtain ⟨Ao35, co35, eo35⟩ := Kd.R_slice HO131.out
       (first | subst eo35 | (injection eo35 with f1_ f2_ f3_; have f4_ := f1_.symm; have f5_ := f3_.symm; clear f1_ f2_ f3_; subst f4_; subst f5_))
       refine hK.out _ _ ⟨(kC_ BK107.out 0).trans rfl, (kC_ BK107.out 1).trans rfl, (kC_ BK107.out 2).trans rfl, (kC_ BK107.out 3).trans rfl, (kC_ BK107.out 4).trans rfl, (qc HB hw124_0), (qc HB hw124_1), (qc HB hw124_2), (qc HB hw124_3), (qc HB hw124_4), (qc HB hw128_0), (qc HB hw128_1), (qc HB hw128_2), (qc HB hw128_3), (qc HB hw128_4)⟩ (fun hHeld => ?_)
       clear hK K
       refine norm_ (a' := ?_) ?_ ?_
       rotate_left
       · show Act.put _ (some 36) _ = _
         simp only [Act.put, sA_, sB_, sC_, i64_w, i32_w]
         rfl
       refine two_ (i := 10) (j := 14) (Ni := some 37) (Nj := some 41) #[T_, T_, T_, T_, T_, T_, T_, T_, T_, T_, T_, T_, T_, T_, F_, F_, F_] #[T_, T_, T_, T_, T_, T_, T_, T_, T_, T_, F_, T_, T_, T_, T_, F_, F_] rfl rfl rfl rfl (two_of HT_.out (by kernel_rfl)) (by decide) (by decide) (fun K hK => ?_) (fun K hK => ?_)
       · skip
         refine Kd.R_append_rows_step k30 (w0 := w) w.heap.size (by rfl) (.tmp 31) (.tmp 36) 23 30 (.agg #[(.int .i64 0), (.int .i64 0), (.int .i64 0), (.int .i64 0)]) 32 rfl Tryz.underlying23 info30 rfl (by decide) (by omega) v126 t125 t129 _ _ _ (fun k_ => some k_ ≠ (.slice Ao35 t129.length co35 : Value).ownBlock) (fun _ => False) rfl rfl ?aO ?aR (fun _ _ h => h) (fun _ h => h.elim) ?aF ?aB ?aS ?aL ?_
         (case aR => exact qC ((Kd.R_reads' HO131.out).2.2))
         (case aB => exact (qB HB))
         (case aF => exact (fun k_ hk => Kd.fresh' (Kd.R_lt (qR HO131)) k_ hk))
         (case aO => exact (qr (Kd.R_mono HO127.out (fun _ hk => hk.2))))
         (case aS => exact (bZ_ (qB HB)))
         (case aL => have := LMc27.out; omega)
         intro v133 w34 ho hb hg hat
         rw [← Ny132.out] at ho
         have n_ := aN4_ (blk_grown (qg BK107) hg (Kd.R_ne HO127.out BK107.out (by decide))) (Kd.R_after (ok := (fun _ => True)) (qR HO131) hg hat) (hb) (ho)
         clear BK107 HO131 HB HO127 ho hb hg hat
         obtain ⟨BK107, HO131, HB, HO134⟩ := n_
         refine hK.out _ _ ⟨(kC_ BK107.out 0).trans rfl, (kC_ BK107.out 1).trans rfl, (kC_ BK107.out 2).trans rfl, (kC_ BK107.out 3).trans rfl, (kC_ BK107.out 4).trans rfl, (qc HB hw124_0), (qc HB hw124_1), (qc HB hw124_2), (qc HB hw124_3), (qc HB hw124_4), (qc HB hw128_0), (qc HB hw128_1), (qc HB hw128_2), (qc HB hw128_3), (qc HB hw128_4)⟩ (fun hHeld => ?_)
         clear hK K
         refine norm_ (a' := ?_) ?_ ?_
         rotate_left
         · show Act.put _ (some 37) _ = _
           simp only [Act.put, sA_, sB_, sC_, i64_w, i32_w]
           rfl
         refine on_ 14 (some 41) fun K hK => ?_
         refine Kd.R_lit_step k30 _ 30 ?hg (N := 41) ?hd (xs := ([(⟨4, a0_0, (⟨0, 0⟩ : S28)⟩ : S30)] : List (S30))) (inner := [.int .i64 4, .int .i64 a0_0, .int .i64 0, .int .i64 0]) (ok := fun _ => True) (okp := fun _ => True) ?hr ?hp (fun _ hk => hk) trivial (Below.refl _ _) (Nat.le_refl _) (by simp) ?_; (case hd => rfl); (case hg => rfl); (case hr => first | (go_simp; done) | (go_simp; rfl)); (case hp => exact (Reps.c4 (show Kd.M k30 _ _ _ (⟨4, a0_0, (⟨0, 0⟩ : S28)⟩ : S30) [.int .i64 4, .int .i64 a0_0, .int .i64 0, .int .i64 0] from (k30_mkM _ _ _ (⟨4, a0_0, (⟨0, 0⟩ : S28)⟩ : S30) )) (Reps.none _ _)))
         intro v136 w36 ho37 hb hg_ hnew_
         clear hg_ hnew_
         (first | rw [← Ny135.out] at ho37 | (simp only [Int.reduceToNat] at ho37; rw [← Ny135.out] at ho37))
         have n_ := aN5_ (Kd.R_elder' (qR HO131) (Kd.R_base ho37) hb) (Kd.R_elder' (qR HO134) (Kd.R_base ho37) hb) (Kd.R_lower (Kd.R_new' (Kd.R_new' ho37 (Kd.R_lt (qR HO131))) (Kd.R_lt (qR HO134))) (bZ_ (qB HB))) (blk_below (qg BK107) hb) (bT_ (qB HB) hb)
         clear HO131 HO134 BK107 HB hb ho37
         obtain ⟨HO131, HO134, HO137, BK107, HB⟩ := n_
         refine hK.out _ _ ⟨(kC_ BK107.out 0).trans rfl, (kC_ BK107.out 1).trans rfl, (kC_ BK107.out 2).trans rfl, (kC_ BK107.out 3).trans rfl, (kC_ BK107.out 4).trans rfl, (qc HB hw124_0), (qc HB hw124_1), (qc HB hw124_2), (qc HB hw124_3), (qc HB hw124_4), (qc HB hw128_0), (qc HB hw128_1), (qc HB hw128_2), (qc HB hw128_3), (qc HB hw128_4)⟩ (fun hHeld => ?_)
         clear hK K
         refine norm_ (a' := ?_) ?_ ?_
         rotate_left
         · show Act.put _ (some 41) _ = _
           simp only [Act.put, sA_, sB_, sC_, i64_w, i32_w]
           rfl
         exact norm_ (by simp only [putAll, Act.put, sA_, sB_, sC_]) (hCont (v126, .slice Ao35 t129.length co35, v133, v136) _ ⟨hHeld, (qr (Kd.R_mono HO131.out (fun _ hk => ⟨hk.1.2, hk.2⟩))), (qR HO134), (qr (Kd.R_mono HO137.out (fun _ hk => ⟨hk.1.2, hk.2⟩))), qk, (qB HB)⟩)
       · skip
         refine Kd.R_lit_step k30 _ 30 ?hg (N := 41) ?hd (xs := ([(⟨4, a0_0, (⟨0, 0⟩ : S28)⟩ : S30)] : List (S30))) (inner := [.int .i64 4, .int .i64 a0_0, .int .i64 0, .int .i64 0]) (ok := fun _ => True) (okp := fun _ => True) ?hr ?hp (fun _ hk => hk) trivial (Below.refl _ _) (Nat.le_refl _) (by simp) ?_; (case hd => rfl); (case hg => rfl); (case hr => first | (go_simp; done) | (go_simp; rfl)); (case hp => exact (Reps.c4 (show Kd.M k30 _ _ _ (⟨4, a0_0, (⟨0, 0⟩ : S28)⟩ : S30) [.int .i64 4, .int .i64 a0_0, .int .i64 0, .int .i64 0] from (k30_mkM _ _ _ (⟨4, a0_0, (⟨0, 0⟩ : S28)⟩ : S30) )) (Reps.none _ _)))
         intro v136 w34 ho35 hb hg_ hnew_
         clear hg_ hnew_
         (first | rw [← Ny135.out] at ho35 | (simp only [Int.reduceToNat] at ho35; rw [← Ny135.out] at ho35))
         have n_ := aN5_ (Kd.R_elder' (qR HO127) (Kd.R_base ho35) hb) (Kd.R_elder' (qR HO131) (Kd.R_base ho35) hb) (Kd.R_lower (Kd.R_new' (Kd.R_new' ho35 (Kd.R_lt (qR HO127))) (Kd.R_lt (qR HO131))) (bZ_ (qB HB))) (blk_below (qg BK107) hb) (bT_ (qB HB) hb)
         clear HO127 HO131 BK107 HB hb ho35
         obtain ⟨HO127, HO131, HO137, BK107, HB⟩ := n_
         obtain ⟨Ao37, co37, eo37⟩ := Kd.R_slice HO131.out
         (first | subst eo37 | (injection eo37 with f1_ f2_ f3_; have f4_ := f1_.symm; have f5_ := f3_.symm; clear f1_ f2_ f3_; subst f4_; subst f5_))
         refine hK.out _ _ ⟨(kC_ BK107.out 0).trans rfl, (kC_ BK107.out 1).trans rfl, (kC_ BK107.out 2).trans rfl, (kC_ BK107.out 3).trans rfl, (kC_ BK107.out 4).trans rfl, (qc HB hw124_0), (qc HB hw124_1), (qc HB hw124_2), (qc HB hw124_3), (qc HB hw124_4), (qc HB hw128_0), (qc HB hw128_1), (qc HB hw128_2), (qc HB hw128_3), (qc HB hw128_4)⟩ (fun hHeld => ?_)
         clear hK K
         refine norm_ (a' := ?_) ?_ ?_
         rotate_left
         · show Act.put _ (some 41) _ = _
           simp only [Act.put, sA_, sB_, sC_, i64_w, i32_w]
           rfl
         refine on_ 10 (some 37) fun K hK => ?_
         refine Kd.R_append_rows_step k30 (w0 := w) w.heap.size (by rfl) (.tmp 31) (.tmp 36) 23 30 (.agg #[(.int .i64 0), (.int .i64 0), (.int .i64 0), (.int .i64 0)]) 32 rfl Tryz.underlying23 info30 rfl (by decide) (by omega) v126 t125 t129 _ _ _ (fun k_ => some k_ ≠ (.slice Ao37 t129.length co37 : Value).ownBlock ∧ some k_ ≠ (v136 : Value).ownBlock) (fun _ => False) rfl rfl ?aO ?aR (fun _ _ h => h) (fun _ h => h.elim) ?aF ?aB ?aS ?aL ?_
         (case aR => exact qC ((Kd.R_reads' HO131.out).2.2))
         (case aB => exact (qB HB))
         (case aF => exact (fun k_ hk => ⟨Kd.fresh' (Kd.R_lt (qR HO131)) k_ hk, Kd.fresh' (Kd.R_lt (qR HO137)) k_ hk⟩))
         (case aO => exact (qr (Kd.R_mono HO127.out (fun _ hk => ⟨hk.1.2, hk.2⟩))))
         (case aS => exact (bZ_ (qB HB)))
         (case aL => have := LMc27.out; omega)
         intro v133 w36 ho hb hg hat
         rw [← Ny132.out] at ho
         have n_ := aN5_ (blk_grown (qg BK107) hg (Kd.R_ne HO127.out BK107.out (by decide))) (Kd.R_after (ok := (fun k_ => some k_ ≠ (v136 : Value).ownBlock)) (qr (Kd.R_mono HO131.out (fun _ hk => ⟨hk.2, hk.1.2⟩))) hg hat) (Kd.R_after (ok := (fun k_ => some k_ ≠ (.slice Ao37 t129.length co37 : Value).ownBlock)) (qr (Kd.R_mono HO137.out (fun _ hk => ⟨hk.2, hk.1.2⟩))) hg hat) (hb) (ho)
         clear BK107 HO131 HO137 HB HO127 ho hb hg hat
         obtain ⟨BK107, HO131, HO137, HB, HO134⟩ := n_
         refine hK.out _ _ ⟨(kC_ BK107.out 0).trans rfl, (kC_ BK107.out 1).trans rfl, (kC_ BK107.out 2).trans rfl, (kC_ BK107.out 3).trans rfl, (kC_ BK107.out 4).trans rfl, (qc HB hw124_0), (qc HB hw124_1), (qc HB hw124_2), (qc HB hw124_3), (qc HB hw124_4), (qc HB hw128_0), (qc HB hw128_1), (qc HB hw128_2), (qc HB hw128_3), (qc HB hw128_4)⟩ (fun hHeld => ?_)
         clear hK K
         refine norm_ (a' := ?_) ?_ ?_
         rotate_left
         · show Act.put _ (some 37) _ = _
           simp only [Act.put, sA_, sB_, sC_, i64_w, i32_w]
           rfl
         exact norm_ (by simp only [putAll, Act.put, sA_, sB_, sC_]) (hCont (v126, .slice Ao37 t129.length co37, v133, v136) _ ⟨hHeld, (qr (Kd.R_mono HO131.out (fun _ hk => ⟨hk.2, hk.1⟩))), (qR HO134), (qR HO137), qk, (qB HB)⟩)
     · skip
       refine Kd.R_lit_step k30 _ 30 ?hg (N := 41) ?hd (xs := ([(⟨4, a0_0, (⟨0, 0⟩ : S28)⟩ : S30)] : List (S30))) (inner := [.int .i64 4, .int .i64 a0_0, .int .i64 0, .int .i64 0]) (ok := fun _ => True) (okp := fun _ => True) ?hr ?hp (fun _ hk => hk) trivial (Below.refl _ _) (Nat.le_refl _) (by simp) ?_; (case hd => rfl); (case hg => rfl); (case hr => first | (go_simp; done) | (go_simp; rfl)); (case hp => exact (Reps.c4 (show Kd.M k30 _ _ _ (⟨4, a0_0, (⟨0, 0⟩ : S28)⟩ : S30) [.int .i64 4, .int .i64 a0_0, .int .i64 0, .int .i64 0] from (k30_mkM _ _ _ (⟨4, a0_0, (⟨0, 0⟩ : S28)⟩ : S30) )) (Reps.none _ _)))
       intro v136 w33 ho34 hb hg_ hnew_
       clear hg_ hnew_
       (first | rw [← Ny135.out] at ho34 | (simp only [Int.reduceToNat] at ho34; rw [← Ny135.out] at ho34))
       have n_ := aN4_ (Kd.R_elder' (qR HO127) (Kd.R_base ho34) hb) (Kd.R_lower (Kd.R_new' ho34 (Kd.R_lt (qR HO127))) (bZ_ (qB HB))) (blk_below (qg BK107) hb) (bT_ (qB HB) hb)
       clear HO127 BK107 HB hb ho34
       obtain ⟨HO127, HO137, BK107, HB⟩ := n_
       refine hK.out _ _ ⟨(kC_ BK107.out 0).trans rfl, (kC_ BK107.out 1).trans rfl, (kC_ BK107.out 2).trans rfl, (kC_ BK107.out 3).trans rfl, (kC_ BK107.out 4).trans rfl, (qc HB hw124_0), (qc HB hw124_1), (qc HB hw124_2), (qc HB hw124_3), (qc HB hw124_4), (qc HB hw128_0), (qc HB hw128_1), (qc HB hw128_2), (qc HB hw128_3), (qc HB hw128_4)⟩ (fun hHeld => ?_)
       clear hK K
       refine norm_ (a' := ?_) ?_ ?_
       rotate_left
       · show Act.put _ (some 41) _ = _
         simp only [Act.put, sA_, sB_, sC_, i64_w, i32_w]
         rfl
       refine on_ 9 (some 36) fun K hK => ?_
       refine goes_ Tryz.func118 (by kernel_rfl) rfl #[.agg #[.int .i64 ((rd_T120 l0_4 1).f0), .int .i64 ((rd_T120 l0_4 1).f1), .int .i64 ((rd_T120 l0_4 1).f2.f0), .int .i64 ((rd_T120 l0_4 1).f2.f1), .slice A128_4 ((rd_T120 l0_4 1).f3).length c128_4]] (by rfl) rfl rfl (by (try simp only [mA_, List.map_cons, List.map_nil]); first | done | rfl | (simp only [lD_, lT_]; rfl)) ?_
       with_reducible refine (ih k (by omega) ((rd_T120 l0_4 1).f0) ((rd_T120 l0_4 1).f1) ((rd_T120 l0_4 1).f2.f0) ((rd_T120 l0_4 1).f2.f1) _ _ ((rd_T120 l0_4 1).f3) t129 _ ?side1 ?side2 A26.out).mono ?_
       (case side1 => exact qC (Kd.C_below HR128_4.out HB.out))
       (case side2 => exact HC128_4.out)
       rintro e w35 ⟨v130, rfl, ho0, hb⟩
       refine ⟨_, rfl, ?_⟩
       have n0_ := aM_ (Kd.R_elder' (qR HO127) (Kd.R_base ho0) hb)
       have n1_ := aM_ (Kd.R_elder' (qR HO137) (Kd.R_base ho0) hb)
       have n2_ := aM_ (Kd.R_lower (Kd.R_new' (Kd.R_new' ho0 (Kd.R_lt (qR HO127))) (Kd.R_lt (qR HO137))) (bZ_ (qB HB)))
       have n3_ := aM_ (blk_below (qg BK107) hb)
       have n4_ := aM_ (bT_ (qB HB) hb)
       clear HO127 HO137 BK107 HB
       revert n0_ n1_ n2_ n3_ n4_
       intro HO127 HO137 HO131 BK107 HB
       (try clear hb)
       (try clear hb2)
       (try clear hk)
       (try clear hi)
       (try clear ho0)
       obtain ⟨Ao37, co37, eo37⟩ := Kd.R_slice HO131.out
       (first | subst eo37 | (injection eo37 with f1_ f2_ f3_; have f4_ := f1_.symm; have f5_ := f3_.symm; clear f1_ f2_ f3_; subst f4_; subst f5_))
       refine hK.out _ _ ⟨(kC_ BK107.out 0).trans rfl, (kC_ BK107.out 1).trans rfl, (kC_ BK107.out 2).trans rfl, (kC_ BK107.out 3).trans rfl, (kC_ BK107.out 4).trans rfl, (qc HB hw124_0), (qc HB hw124_1), (qc HB hw124_2), (qc HB hw124_3), (qc HB hw124_4), (qc HB hw128_0), (qc HB hw128_1), (qc HB hw128_2), (qc HB hw128_3), (qc HB hw128_4)⟩ (fun hHeld => ?_)
       clear hK K
       refine norm_ (a' := ?_) ?_ ?_
       rotate_left
       · show Act.put _ (some 36) _ = _
         simp only [Act.put, sA_, sB_, sC_, i64_w, i32_w]
         rfl
       refine on_ 10 (some 37) fun K hK => ?_
       refine Kd.R_append_rows_step k30 (w0 := w) w.heap.size (by rfl) (.tmp 31) (.tmp 36) 23 30 (.agg #[(.int .i64 0), (.int .i64 0), (.int .i64 0), (.int .i64 0)]) 32 rfl Tryz.underlying23 info30 rfl (by decide) (by omega) v126 t125 t129 _ _ _ (fun k_ => some k_ ≠ (v136 : Value).ownBlock ∧ some k_ ≠ (.slice Ao37 t129.length co37 : Value).ownBlock) (fun _ => False) rfl rfl ?aO ?aR (fun _ _ h => h) (fun _ h => h.elim) ?aF ?aB ?aS ?aL ?_
       (case aR => exact qC ((Kd.R_reads' HO131.out).2.2))
       (case aB => exact (qB HB))
       (case aF => exact (fun k_ hk => ⟨Kd.fresh' (Kd.R_lt (qR HO137)) k_ hk, Kd.fresh' (Kd.R_lt (qR HO131)) k_ hk⟩))
       (case aO => exact (qr (Kd.R_mono HO127.out (fun _ hk => ⟨hk.1.2, hk.2⟩))))
       (case aS => exact (bZ_ (qB HB)))
       (case aL => have := LMc27.out; omega)
       intro v133 w36 ho hb hg hat
       rw [← Ny132.out] at ho
       have n_ := aN5_ (blk_grown (qg BK107) hg (Kd.R_ne HO127.out BK107.out (by decide))) (Kd.R_after (ok := (fun k_ => some k_ ≠ (.slice Ao37 t129.length co37 : Value).ownBlock)) (qr (Kd.R_mono HO137.out (fun _ hk => ⟨hk.2, hk.1.2⟩))) hg hat) (Kd.R_after (ok := (fun k_ => some k_ ≠ (v136 : Value).ownBlock)) (qr (Kd.R_mono HO131.out (fun _ hk => ⟨hk.2, hk.1.2⟩))) hg hat) (hb) (ho)
       clear BK107 HO137 HO131 HB HO127 ho hb hg hat
       obtain ⟨BK107, HO137, HO131, HB, HO134⟩ := n_
       refine hK.out _ _ ⟨(kC_ BK107.out 0).trans rfl, (kC_ BK107.out 1).trans rfl, (kC_ BK107.out 2).trans rfl, (kC_ BK107.out 3).trans rfl, (kC_ BK107.out 4).trans rfl, (qc HB hw124_0), (qc HB hw124_1), (qc HB hw124_2), (qc HB hw124_3), (qc HB hw124_4), (qc HB hw128_0), (qc HB hw128_1), (qc HB hw128_2), (qc HB hw128_3), (qc HB hw128_4)⟩ (fun hHeld => ?_)
       clear hK K
       refine norm_ (a' := ?_) ?_ ?_
       rotate_left
       · show Act.put _ (some 37) _ = _
         simp only [Act.put, sA_, sB_, sC_, i64_w, i32_w]
         rfl
       exact norm_ (by simp only [putAll, Act.put, sA_, sB_, sC_]) (hCont (v126, .slice Ao37 t129.length co37, v133, v136) _ ⟨hHeld, (qr (Kd.R_mono HO131.out (fun _ hk => ⟨hk.2, hk.1⟩))), (qr (Kd.R_mono HO134.out (fun _ hk => ⟨hk.2, hk.1⟩))), (qR HO137), qk, (qB HB)⟩)
   · skip
     refine Kd.R_lit_step k30 _ 30 ?hg (N := 41) ?hd (xs := ([(⟨4, a0_0, (⟨0, 0⟩ : S28)⟩ : S30)] : List (S30))) (inner := [.int .i64 4, .int .i64 a0_0, .int .i64 0, .int .i64 0]) (ok := fun _ => True) (okp := fun _ => True) ?hr ?hp (fun _ hk => hk) trivial (Below.refl _ _) (Nat.le_refl _) (by simp) ?_; (case hd => rfl); (case hg => rfl); (case hr => first | (go_simp; done) | (go_simp; rfl)); (case hp => exact (Reps.c4 (show Kd.M k30 _ _ _ (⟨4, a0_0, (⟨0, 0⟩ : S28)⟩ : S30) [.int .i64 4, .int .i64 a0_0, .int .i64 0, .int .i64 0] from (k30_mkM _ _ _ (⟨4, a0_0, (⟨0, 0⟩ : S28)⟩ : S30) )) (Reps.none _ _)))
     intro v136 w32 ho33 hb hg_ hnew_
     clear hg_ hnew_
     (first | rw [← Ny135.out] at ho33 | (simp only [Int.reduceToNat] at ho33; rw [← Ny135.out] at ho33))
     have n_ := aN3_ (Kd.R_lower ho33 (bZ_ (qB HB))) (blk_below (qg BK107) hb) (bT_ (qB HB) hb)
     clear BK107 HB hb ho33
     obtain ⟨HO137, BK107, HB⟩ := n_
     refine hK.out _ _ ⟨(kC_ BK107.out 0).trans rfl, (kC_ BK107.out 1).trans rfl, (kC_ BK107.out 2).trans rfl, (kC_ BK107.out 3).trans rfl, (kC_ BK107.out 4).trans rfl, (qc HB hw124_0), (qc HB hw124_1), (qc HB hw124_2), (qc HB hw124_3), (qc HB hw124_4), (qc HB hw128_0), (qc HB hw128_1), (qc HB hw128_2), (qc HB hw128_3), (qc HB hw128_4)⟩ (fun hHeld => ?_)
     clear hK K
     refine norm_ (a' := ?_) ?_ ?_
     rotate_left
     · show Act.put _ (some 41) _ = _
       simp only [Act.put, sA_, sB_, sC_, i64_w, i32_w]
       rfl
     refine on_ 4 (some 31) fun K hK => ?_
     refine goes_ Tryz.func118 (by kernel_rfl) rfl #[.agg #[.int .i64 ((rd_T120 l0_4 0).f0), .int .i64 ((rd_T120 l0_4 0).f1), .int .i64 ((rd_T120 l0_4 0).f2.f0), .int .i64 ((rd_T120 l0_4 0).f2.f1), .slice A124_4 ((rd_T120 l0_4 0).f3).length c124_4]] (by rfl) rfl rfl (by (try simp only [mA_, List.map_cons, List.map_nil]); first | done | rfl | (simp only [lD_, lT_]; rfl)) ?_
     with_reducible refine (ih k (by omega) ((rd_T120 l0_4 0).f0) ((rd_T120 l0_4 0).f1) ((rd_T120 l0_4 0).f2.f0) ((rd_T120 l0_4 0).f2.f1) _ _ ((rd_T120 l0_4 0).f3) t125 _ ?side1 ?side2 A24.out).mono ?_
     (case side1 => exact qC (Kd.C_below HR124_4.out HB.out))
     (case side2 => exact HC124_4.out)
     rintro e w34 ⟨v126, rfl, ho0, hb⟩
     refine ⟨_, rfl, ?_⟩
     have n0_ := aM_ (Kd.R_elder' (qR HO137) (Kd.R_base ho0) hb)
     have n1_ := aM_ (Kd.R_lower (Kd.R_new' ho0 (Kd.R_lt (qR HO137))) (bZ_ (qB HB)))
     have n2_ := aM_ (blk_below (qg BK107) hb)
     have n3_ := aM_ (bT_ (qB HB) hb)
     clear HO137 BK107 HB
     revert n0_ n1_ n2_ n3_
     intro HO137 HO127 BK107 HB
     (try clear hb)
     (try clear hb2)
     (try clear hk)
     (try clear hi)
     (try clear ho0)
     refine hK.out _ _ ⟨(kC_ BK107.out 0).trans rfl, (kC_ BK107.out 1).trans rfl, (kC_ BK107.out 2).trans rfl, (kC_ BK107.out 3).trans rfl, (kC_ BK107.out 4).trans rfl, (qc HB hw124_0), (qc HB hw124_1), (qc HB hw124_2), (qc HB hw124_3), (qc HB hw124_4), (qc HB hw128_0), (qc HB hw128_1), (qc HB hw128_2), (qc HB hw128_3), (qc HB hw128_4)⟩ (fun hHeld => ?_)
     clear hK K
     refine norm_ (a' := ?_) ?_ ?_
     rotate_left
     · show Act.put _ (some 31) _ = _
       simp only [Act.put, sA_, sB_, sC_, i64_w, i32_w]
       rfl
     refine on_ 9 (some 36) fun K hK => ?_
     refine goes_ Tryz.func118 (by kernel_rfl) rfl #[.agg #[.int .i64 ((rd_T120 l0_4 1).f0), .int .i64 ((rd_T120 l0_4 1).f1), .int .i64 ((rd_T120 l0_4 1).f2.f0), .int .i64 ((rd_T120 l0_4 1).f2.f1), .slice A128_4 ((rd_T120 l0_4 1).f3).length c128_4]] (by rfl) rfl rfl (by (try simp only [mA_, List.map_cons, List.map_nil]); first | done | rfl | (simp only [lD_, lT_]; rfl)) ?_
     with_reducible refine (ih k (by omega) ((rd_T120 l0_4 1).f0) ((rd_T120 l0_4 1).f1) ((rd_T120 l0_4 1).f2.f0) ((rd_T120 l0_4 1).f2.f1) _ _ ((rd_T120 l0_4 1).f3) t129 _ ?side1 ?side2 A26.out).mono ?_
     (case side1 => exact qC (Kd.C_below HR128_4.out HB.out))
     (case side2 => exact HC128_4.out)
     rintro e w35 ⟨v130, rfl, ho0, hb⟩
     refine ⟨_, rfl, ?_⟩
     have n0_ := aM_ (Kd.R_elder' (qR HO137) (Kd.R_base ho0) hb)
     have n1_ := aM_ (Kd.R_elder' (qR HO127) (Kd.R_base ho0) hb)
     have n2_ := aM_ (Kd.R_lower (Kd.R_new' (Kd.R_new' ho0 (Kd.R_lt (qR HO137))) (Kd.R_lt (qR HO127))) (bZ_ (qB HB)))
     have n3_ := aM_ (blk_below (qg BK107) hb)
     have n4_ := aM_ (bT_ (qB HB) hb)
     clear HO137 HO127 BK107 HB
     revert n0_ n1_ n2_ n3_ n4_
     intro HO137 HO127 HO131 BK107 HB
     (try clear hb)
     (try clear hb2)
     (try clear hk)
     (try clear hi)
     (try clear ho0)
     obtain ⟨Ao37, co37, eo37⟩ := Kd.R_slice HO131.out
     (first | subst eo37 | (injection eo37 with f1_ f2_ f3_; have f4_ := f1_.symm; have f5_ := f3_.symm; clear f1_ f2_ f3_; subst f4_; subst f5_))
     refine hK.out _ _ ⟨(kC_ BK107.out 0).trans rfl, (kC_ BK107.out 1).trans rfl, (kC_ BK107.out 2).trans rfl, (kC_ BK107.out 3).trans rfl, (kC_ BK107.out 4).trans rfl, (qc HB hw124_0), (qc HB hw124_1), (qc HB hw124_2), (qc HB hw124_3), (qc HB hw124_4), (qc HB hw128_0), (qc HB hw128_1), (qc HB hw128_2), (qc HB hw128_3), (qc HB hw128_4)⟩ (fun hHeld => ?_)
     clear hK K
     refine norm_ (a' := ?_) ?_ ?_
     rotate_left
     · show Act.put _ (some 36) _ = _
       simp only [Act.put, sA_, sB_, sC_, i64_w, i32_w]
       rfl
     refine on_ 10 (some 37) fun K hK => ?_
     refine Kd.R_append_rows_step k30 (w0 := w) w.heap.size (by rfl) (.tmp 31) (.tmp 36) 23 30 (.agg #[(.int .i64 0), (.int .i64 0), (.int .i64 0), (.int .i64 0)]) 32 rfl Tryz.underlying23 info30 rfl (by decide) (by omega) v126 t125 t129 _ _ _ (fun k_ => some k_ ≠ (v136 : Value).ownBlock ∧ some k_ ≠ (.slice Ao37 t129.length co37 : Value).ownBlock) (fun _ => False) rfl rfl ?aO ?aR (fun _ _ h => h) (fun _ h => h.elim) ?aF ?aB ?aS ?aL ?_
     (case aR => exact qC ((Kd.R_reads' HO131.out).2.2))
     (case aB => exact (qB HB))
     (case aF => exact (fun k_ hk => ⟨Kd.fresh' (Kd.R_lt (qR HO137)) k_ hk, Kd.fresh' (Kd.R_lt (qR HO131)) k_ hk⟩))
     (case aO => exact (qr (Kd.R_mono HO127.out (fun _ hk => ⟨hk.1.2, hk.2⟩))))
     (case aS => exact (bZ_ (qB HB)))
     (case aL => have := LMc27.out; omega)
     intro v133 w36 ho hb hg hat
     rw [← Ny132.out] at ho
     have n_ := aN5_ (blk_grown (qg BK107) hg (Kd.R_ne HO127.out BK107.out (by decide))) (Kd.R_after (ok := (fun k_ => some k_ ≠ (.slice Ao37 t129.length co37 : Value).ownBlock)) (qr (Kd.R_mono HO137.out (fun _ hk => ⟨hk.2, hk.1.2⟩))) hg hat) (Kd.R_after (ok := (fun k_ => some k_ ≠ (v136 : Value).ownBlock)) (qr (Kd.R_mono HO131.out (fun _ hk => ⟨hk.1.2, hk.2⟩))) hg hat) (hb) (ho)
     clear BK107 HO137 HO131 HB HO127 ho hb hg hat
     obtain ⟨BK107, HO137, HO131, HB, HO134⟩ := n_
     refine hK.out _ _ ⟨(kC_ BK107.out 0).trans rfl, (kC_ BK107.out 1).trans rfl, (kC_ BK107.out 2).trans rfl, (kC_ BK107.out 3).trans rfl, (kC_ BK107.out 4).trans rfl, (qc HB hw124_0), (qc HB hw124_1), (qc HB hw124_2), (qc HB hw124_3), (qc HB hw124_4), (qc HB hw128_0), (qc HB hw128_1), (qc HB hw128_2), (qc HB hw128_3), (qc HB hw128_4)⟩ (fun hHeld => ?_)
     clear hK K
     refine norm_ (a' := ?_) ?_ ?_
     rotate_left
     · show Act.put _ (some 37) _ = _
       simp only [Act.put, sA_, sB_, sC_, i64_w, i32_w]
       rfl
     exact norm_ (by simp only [putAll, Act.put, sA_, sB_, sC_]) (hCont (v126, .slice Ao37 t129.length co37, v133, v136) _ ⟨hHeld, (qr (Kd.R_mono HO131.out (fun _ hk => ⟨hk.2, hk.1⟩))), (qr (Kd.R_mono HO134.out (fun _ hk => ⟨hk.2, hk.1⟩))), (qR HO137), qk, (qB HB)⟩)
 rintro ⟨v126, v130, v133, v136⟩ w38 ⟨hS_, h0_, h1_, h2_, h3_, h4_⟩
 have n0_ : Aside0 (Kd.R k30 30 w38 w.heap.size (fun k_ => some k_ ≠ (v133 : Value).ownBlock ∧ some k_ ≠ (v136 : Value).ownBlock) v130 t129) := ⟨h0_⟩
 have n1_ : Aside0 (Kd.R k30 30 w38 w.heap.size (fun k_ => some k_ ≠ (v130 : Value).ownBlock ∧ some k_ ≠ (v136 : Value).ownBlock) v133 y132) := ⟨h1_⟩
 have n2_ : Aside0 (Kd.R k30 30 w38 w.heap.size (fun k_ => some k_ ≠ (v130 : Value).ownBlock ∧ some k_ ≠ (v133 : Value).ownBlock) v136 y135) := ⟨h2_⟩
 have n3_ : Aside0 (w38.heap[gb107]? = some (.cells #[.int .i64 a0_0, .int .i64 a0_1, .int .i64 a0_2, .int .i64 a0_3, .slice (some ad124) l0_4.length c0_4] 120 (0, 0))) := ⟨h3_⟩
 have n4_ : Aside0 (Below w.heap.size w w38) := ⟨h4_⟩
 clear BK107 HB h0_ h1_ h2_ h3_ h4_
 revert n0_ n1_ n2_ n3_ n4_
 intro HO131 HO134 HO137 BK107 HB
 have hHeld : w38.cell? ⟨gb107, 0, none⟩ = some (.int .i64 a0_0) ∧ w38.cell? ⟨gb107, 1, none⟩ = some (.int .i64 a0_1) ∧ w38.cell? ⟨gb107, 2, none⟩ = some (.int .i64 a0_2) ∧ w38.cell? ⟨gb107, 3, none⟩ = some (.int .i64 a0_3) ∧ w38.cell? ⟨gb107, 4, none⟩ = some (.slice (some ad124) l0_4.length c0_4) ∧ w38.cell? ad124 = some (.int .i64 ((rd_T120 l0_4 0).f0)) ∧ w38.cell? ⟨ad124.block, ad124.off + 1, none⟩ = some (.int .i64 ((rd_T120 l0_4 0).f1)) ∧ w38.cell? ⟨ad124.block, ad124.off + 2, none⟩ = some (.int .i64 ((rd_T120 l0_4 0).f2.f0)) ∧ w38.cell? ⟨ad124.block, ad124.off + 3, none⟩ = some (.int .i64 ((rd_T120 l0_4 0).f2.f1)) ∧ w38.cell? ⟨ad124.block, ad124.off + 4, none⟩ = some (.slice A124_4 ((rd_T120 l0_4 0).f3).length c124_4) ∧ w38.cell? ⟨ad124.block, ad124.off + 5, none⟩ = some (.int .i64 ((rd_T120 l0_4 1).f0)) ∧ w38.cell? ⟨ad124.block, ad124.off + 5 + 1, none⟩ = some (.int .i64 ((rd_T120 l0_4 1).f1)) ∧ w38.cell? ⟨ad124.block, ad124.off + 5 + 2, none⟩ = some (.int .i64 ((rd_T120 l0_4 1).f2.f0)) ∧ w38.cell? ⟨ad124.block, ad124.off + 5 + 3, none⟩ = some (.int .i64 ((rd_T120 l0_4 1).f2.f1)) ∧ w38.cell? ⟨ad124.block, ad124.off + 5 + 4, none⟩ = some (.slice A128_4 ((rd_T120 l0_4 1).f3).length c128_4) := hS_
 obtain ⟨Ao40, co40, eo40⟩ := Kd.R_slice HO137.out
 (first | subst eo40 | (injection eo40 with f1_ f2_ f3_; have f4_ := f1_.symm; have f5_ := f3_.symm; clear f1_ f2_ f3_; subst f4_; subst f5_))
 refine norm_ (a' := ?_) ?_ ?_
 rotate_left
 · simp only [putAll, Act.put, sA_, sB_, sC_]
   rfl
 refine on_ 15 (some 42) fun K hK => ?_
 refine Kd.R_append_rows_step k30 (w0 := w) w.heap.size (by rfl) (.tmp 37) (.tmp 41) 23 30 (.agg #[(.int .i64 0), (.int .i64 0), (.int .i64 0), (.int .i64 0)]) 32 rfl Tryz.underlying23 info30 rfl (by decide) (by omega) v133 y132 y135 _ _ _ (fun k_ => some k_ ≠ (v130 : Value).ownBlock ∧ some k_ ≠ (.slice Ao40 y135.length co40 : Value).ownBlock) (fun _ => False) rfl rfl ?aO ?aR (fun _ _ h => h) (fun _ h => h.elim) ?aF ?aB ?aS ?aL ?_
 (case aR => exact qC ((Kd.R_reads' HO137.out).2.2))
 (case aB => exact (qB HB))
 (case aF => exact (fun k_ hk => ⟨Kd.fresh' (Kd.R_lt (qR HO131)) k_ hk, Kd.fresh' (Kd.R_lt (qR HO137)) k_ hk⟩))
 (case aO => exact (qR HO134))
 (case aS => exact (bZ_ (qB HB)))
 (case aL => have := LMc28.out; omega)
 intro v139 w39 ho hb hg hat
 rw [← Ny138.out] at ho
 have n_ := aN5_ (blk_grown (qg BK107) hg (Kd.R_ne HO134.out BK107.out (by decide))) (Kd.R_after (ok := (fun k_ => some k_ ≠ (.slice Ao40 y135.length co40 : Value).ownBlock)) (qr (Kd.R_mono HO131.out (fun _ hk => ⟨hk.2, hk.1⟩))) hg hat) (Kd.R_after (ok := (fun k_ => some k_ ≠ (v130 : Value).ownBlock)) (qR HO137) hg hat) (hb) (ho)
 clear BK107 HO131 HO137 HB HO134 ho hb hg hat
 obtain ⟨BK107, HO131, HO137, HB, HO140⟩ := n_
 refine hK.out _ _ ⟨(kC_ BK107.out 0).trans rfl, (kC_ BK107.out 1).trans rfl, (kC_ BK107.out 2).trans rfl, (kC_ BK107.out 3).trans rfl, (kC_ BK107.out 4).trans rfl, (qc HB hw124_0), (qc HB hw124_1), (qc HB hw124_2), (qc HB hw124_3), (qc HB hw124_4), (qc HB hw128_0), (qc HB hw128_1), (qc HB hw128_2), (qc HB hw128_3), (qc HB hw128_4)⟩ (fun hHeld => ?_)
 clear hK K
 refine norm_ (a' := ?_) ?_ ?_
 rotate_left
 · show Act.put _ (some 42) _ = _
   simp only [Act.put, sA_, sB_, sC_, i64_w, i32_w]
   rfl
 refine pu_ 16 2 ?_
 refine done_ (done_of HT_.out (by kernel_rfl)) ?_
 try go_wp2
 go_ret
 exact ⟨_, qE, by (with_reducible repeat (first | apply rA_ | apply rN_ | apply rD_)); exact Kd.R_mono HO140.out (fun _ hk => trivial), qB HB⟩
def spec_l5One.g (F : List S122 → Int → Option (List S30)) (a0_0 : Int) (a0_1 : Int) (a0_2 : Int) (a0_3 : Int) (a0_4 : Int) (a0_5 : Int) (a0_6 : Int) (l0_7 : List (S120)) (l0_8 : List (S122)) (l0_9 : List (S122)) (a1 : Int) : Option ((List (S30))) := (spec_l5Expr.f 1000 a0_3 a0_4 a0_5 a0_6 l0_7).bind fun t437 => (if a0_0 = 1 then (if t437.length < 4398046511104 then (some (t437 ++ [(⟨3, 0, (⟨a0_1, a0_2⟩ : S28)⟩ : S30)])) else (none)) else (if a0_0 = 3 then ((F l0_8 (wrap64 (a1 + (wrap64 ((t437.length : Int) + 1))))).bind fun t443 => (if t437.length < 4398046511104 then ((some (t437 ++ [(⟨6, wrap64 ((wrap64 ((wrap64 (a1 + (wrap64 ((t437.length : Int) + 1)))) + (t443.length : Int))) + 1), (⟨0, 0⟩ : S28)⟩ : S30)] : List (S30))).bind fun y446 => (if y446.length + t443.length < 4398046511104 then ((some (y446 ++ t443 : List (S30))).bind fun y449 => (if y449.length < 4398046511104 then (some (y449 ++ [(⟨8, a1, (⟨0, 0⟩ : S28)⟩ : S30)])) else (none))) else (none))) else (none))) else ((F l0_8 (wrap64 (a1 + (wrap64 ((t437.length : Int) + 1))))).bind fun t455 => ((F l0_9 (wrap64 ((wrap64 ((wrap64 (a1 + (wrap64 ((t437.length : Int) + 1)))) + (t455.length : Int))) + 1))).bind fun t458 => (if t437.length < 4398046511104 then ((some (t437 ++ [(⟨6, wrap64 ((wrap64 ((wrap64 (a1 + (wrap64 ((t437.length : Int) + 1)))) + (t455.length : Int))) + 1), (⟨0, 0⟩ : S28)⟩ : S30)] : List (S30))).bind fun y461 => (if y461.length + t455.length < 4398046511104 then ((some (y461 ++ t455 : List (S30))).bind fun y464 => (if y464.length < 4398046511104 then ((some (y464 ++ [(⟨7, wrap64 ((wrap64 ((wrap64 ((wrap64 (a1 + (wrap64 ((t437.length : Int) + 1)))) + (t455.length : Int))) + 1)) + (t458.length : Int)), (⟨0, 0⟩ : S28)⟩ : S30)] : List (S30))).bind fun y467 => (if y467.length + t458.length < 4398046511104 then (some (y467 ++ t458)) else (none))) else (none))) else (none))) else (none))))))
set_option maxHeartbeats 8000000 in
set_option maxRecDepth 100000 in
theorem spec_l5One.callsG (F : List S122 → Int → Option (List S30)) (hF : ∀ (A0 : Option Addr) (c0 : Nat) (l0 : List (S122)) (a1 : Int) (r : List (S30)) (w : World) (hr0 : Kd.C k122 w A0 l0.length l0) (hc0 : l0.length ≤ c0) (h : F l0 a1 = some r), Calls Tryz.prog 56 #[.slice A0 l0.length c0, .int .i64 a1] w fun e w' => ∃ v0_ : Value, e = .returned (v0_) ∧ Kd.R k30 30 w' w.heap.size (fun _ => True) v0_ r ∧ Below w.heap.size w w') (a0_0 : Int) (a0_1 : Int) (a0_2 : Int) (a0_3 : Int) (a0_4 : Int) (a0_5 : Int) (a0_6 : Int) (A0_7 : Option Addr) (c0_7 : Nat) (l0_7 : List (S120)) (A0_8 : Option Addr) (c0_8 : Nat) (l0_8 : List (S122)) (A0_9 : Option Addr) (c0_9 : Nat) (l0_9 : List (S122)) (a1 : Int) (r : List (S30)) (w : World) (hr0_7 : Kd.C k120 w A0_7 l0_7.length l0_7) (hc0_7 : l0_7.length ≤ c0_7) (hr0_8 : Kd.C k122 w A0_8 l0_8.length l0_8) (hc0_8 : l0_8.length ≤ c0_8) (hr0_9 : Kd.C k122 w A0_9 l0_9.length l0_9) (hc0_9 : l0_9.length ≤ c0_9) (h : spec_l5One.g F a0_0 a0_1 a0_2 a0_3 a0_4 a0_5 a0_6 l0_7 l0_8 l0_9 a1 = some r) :
    Calls Tryz.prog 83 #[.agg #[.int .i64 a0_0, .int .i64 a0_1, .int .i64 a0_2, .int .i64 a0_3, .int .i64 a0_4, .int .i64 a0_5, .int .i64 a0_6, .slice A0_7 l0_7.length c0_7, .slice A0_8 l0_8.length c0_8, .slice A0_9 l0_9.length c0_9], .int .i64 a1] w fun e w' => ∃ v0_ : Value, e = .returned (v0_) ∧ Kd.R k30 30 w' w.heap.size (fun _ => True) v0_ r ∧ Below w.heap.size w w' := by
  have hu122 := Tryz.underlying122
  have hu120 := Tryz.underlying120
  have hu28 := Tryz.underlying28
  have hu30 := Tryz.underlying30
  have HR0_7 := aM_ hr0_7
  have HC0_7 := aM_ hc0_7
  clear hr0_7 hc0_7
  have HR0_8 := aM_ hr0_8
  have HC0_8 := aM_ hc0_8
  clear hr0_8 hc0_8
  have HR0_9 := aM_ hr0_9
  have HC0_9 := aM_ hc0_9
  clear hr0_9 hc0_9
  have HB := aM_ (Below.refl w.heap.size w)
  have H : ((spec_l5Expr.f 1000 a0_3 a0_4 a0_5 a0_6 l0_7).bind fun t437 => (if a0_0 = 1 then (if t437.length < 4398046511104 then (some (t437 ++ [(⟨3, 0, (⟨a0_1, a0_2⟩ : S28)⟩ : S30)])) else (none)) else (if a0_0 = 3 then ((F l0_8 (wrap64 (a1 + (wrap64 ((t437.length : Int) + 1))))).bind fun t443 => (if t437.length < 4398046511104 then ((some (t437 ++ [(⟨6, wrap64 ((wrap64 ((wrap64 (a1 + (wrap64 ((t437.length : Int) + 1)))) + (t443.length : Int))) + 1), (⟨0, 0⟩ : S28)⟩ : S30)] : List (S30))).bind fun y446 => (if y446.length + t443.length < 4398046511104 then ((some (y446 ++ t443 : List (S30))).bind fun y449 => (if y449.length < 4398046511104 then (some (y449 ++ [(⟨8, a1, (⟨0, 0⟩ : S28)⟩ : S30)])) else (none))) else (none))) else (none))) else ((F l0_8 (wrap64 (a1 + (wrap64 ((t437.length : Int) + 1))))).bind fun t455 => ((F l0_9 (wrap64 ((wrap64 ((wrap64 (a1 + (wrap64 ((t437.length : Int) + 1)))) + (t455.length : Int))) + 1))).bind fun t458 => (if t437.length < 4398046511104 then ((some (t437 ++ [(⟨6, wrap64 ((wrap64 ((wrap64 (a1 + (wrap64 ((t437.length : Int) + 1)))) + (t455.length : Int))) + 1), (⟨0, 0⟩ : S28)⟩ : S30)] : List (S30))).bind fun y461 => (if y461.length + t455.length < 4398046511104 then ((some (y461 ++ t455 : List (S30))).bind fun y464 => (if y464.length < 4398046511104 then ((some (y464 ++ [(⟨7, wrap64 ((wrap64 ((wrap64 ((wrap64 (a1 + (wrap64 ((t437.length : Int) + 1)))) + (t455.length : Int))) + 1)) + (t458.length : Int)), (⟨0, 0⟩ : S28)⟩ : S30)] : List (S30))).bind fun y467 => (if y467.length + t458.length < 4398046511104 then (some (y467 ++ t458)) else (none))) else (none))) else (none))) else (none))))))) = some r := h
  clear h
  replace H := oB_ H
  obtain ⟨t437, A30, H⟩ := H
  have A3 := aM_ A30
  clear A30
  by_cases c4 : a0_0 = 1
  · rw [if_pos c4] at H
    have c4b0 : (a0_0 == 1) = true := beq_iff_eq.mpr c4
    have c4b1 : (a0_0 != 1) = false := bne_eq_false_iff_eq.mpr c4
    clear c4
    by_cases c5 : t437.length < 4398046511104
    · rw [if_pos c5] at H
      have LMc5 := aM_ c5
      clear c5
      obtain ⟨y440, hy440⟩ : ∃ y_ : List (S30), y_ = (t437 ++ [(⟨3, 0, (⟨a0_1, a0_2⟩ : S28)⟩ : S30)]) := ⟨_, rfl⟩
      replace H : (some y440) = some r := by subst hy440; exact H
      have Ny440 := aM_ hy440
      clear hy440
      obtain rfl := oI_ H
      go_enter Tryz.func83, Tryz.ntmps83
      go_wp2_with (first | ((with_reducible refine gD_ 2 ?_); refine bxB 2 122 #[.int .i64 a0_0, .int .i64 a0_1, .int .i64 a0_2, .int .i64 a0_3, .int .i64 a0_4, .int .i64 a0_5, .int .i64 a0_6, .slice A0_7 l0_7.length c0_7, .slice A0_8 l0_8.length c0_8, .slice A0_9 l0_9.length c0_9] (qB HB) ?_; clear HB; intro gb436 w6 HB BK436 GW436; have GE436 := GW436; have hC7 := cf10 BK436.out) | ((with_reducible refine gc_ 118 ?_); refine gL_ (some 12) Tryz.func118 #[.agg #[.int .i64 a0_3, .int .i64 a0_4, .int .i64 a0_5, .int .i64 a0_6, .slice A0_7 l0_7.length c0_7]] ?_; (with_reducible refine (spec_l5Expr.calls 1000 a0_3 a0_4 a0_5 a0_6 _ _ l0_7 t437 _ ?side1 ?side2 A3.out).mono ?_); (case side1 => exact qC (Kd.C_below HR0_7.out HB.out)); (case side2 => exact HC0_7.out); rintro e w8 ⟨v438, rfl, ho0, hb⟩; refine ⟨_, rfl, ?_⟩; have n_ := aN3_ (Kd.R_lower ho0 (bZ_ (qB HB))) (blk_below (qg BK436) hb) (bT_ (qB HB) hb); clear BK436 HB; obtain ⟨HO439, BK436, HB⟩ := n_; have hC9 := cf10 BK436.out) | ((with_reducible refine gate_builtin (b := .append) (xs := #[.tmp 16, .tmp 20]) rfl ?_); at_builtin; refine Kd.R_append k30 (w0 := w) w.heap.size rfl (.tmp 16) (.tmp 20) 23 30 (.agg #[(.int .i64 0), (.int .i64 0), (.int .i64 0), (.int .i64 0)]) 32 rfl Tryz.underlying23 info30 rfl (by decide) (by omega) v438 t437 (⟨3, 0, (⟨a0_1, a0_2⟩ : S28)⟩ : S30) [.int .i64 3, .int .i64 0, .int .i64 a0_1, .int .i64 a0_2] (fun _ => True) (fun _ => False) rfl rfl ?aP (fun _ hk => hk.elim) ?aF ?aO ?aB ?aS ?aL ?_; (case aP => exact k30_mkM _ _ _ (⟨3, 0, (⟨a0_1, a0_2⟩ : S28)⟩ : S30)); (case aB => exact (qB HB)); (case aF => exact (fun _ _ => trivial)); (case aO => exact (qR HO439)); (case aS => exact (bZ_ (qB HB))); (case aL => have := LMc5.out; omega); intro v441 w10 ho hb hg hat; rw [← Ny440.out] at ho; have n_ := aN3_ (blk_grown (qg BK436) hg (Kd.R_ne HO439.out BK436.out (by decide))) (hb) (ho); clear BK436 HB HO439 ho hb hg hat; obtain ⟨BK436, HB, HO442⟩ := n_))
      go_ret
      exact ⟨_, qE, qR HO442, qB HB⟩
    · rw [if_neg c5] at H
      exact absurd H (by simp)
  · rw [if_neg c4] at H
    have c4b0 : (a0_0 == 1) = false := beq_eq_false_iff_ne.mpr c4
    have c4b1 : (a0_0 != 1) = true := bne_iff_ne.mpr c4
    by_cases c11 : a0_0 = 3
    · rw [if_pos c11] at H
      have c11b0 : (a0_0 == 3) = true := beq_iff_eq.mpr c11
      have c11b1 : (a0_0 != 3) = false := bne_eq_false_iff_eq.mpr c11
      clear c11
      replace H := oB_ H
      obtain ⟨t443, A120, H⟩ := H
      have A12 := aM_ A120
      clear A120
      by_cases c13 : t437.length < 4398046511104
      · rw [if_pos c13] at H
        have LMc13 := aM_ c13
        clear c13
        obtain ⟨y446, hy446⟩ : ∃ y_ : List (S30), y_ = (t437 ++ [(⟨6, wrap64 ((wrap64 ((wrap64 (a1 + (wrap64 ((t437.length : Int) + 1)))) + (t443.length : Int))) + 1), (⟨0, 0⟩ : S28)⟩ : S30)]) := ⟨_, rfl⟩
        replace H : (if y446.length + t443.length < 4398046511104 then ((some (y446 ++ t443 : List (S30))).bind fun y449 => (if y449.length < 4398046511104 then (some (y449 ++ [(⟨8, a1, (⟨0, 0⟩ : S28)⟩ : S30)])) else (none))) else (none)) = some r := by subst hy446; exact H
        have Ny446 := aM_ hy446
        clear hy446
        by_cases c14 : y446.length + t443.length < 4398046511104
        · rw [if_pos c14] at H
          have LMc14 := aM_ c14
          clear c14
          obtain ⟨y449, hy449⟩ : ∃ y_ : List (S30), y_ = (y446 ++ t443) := ⟨_, rfl⟩
          replace H : (if y449.length < 4398046511104 then (some (y449 ++ [(⟨8, a1, (⟨0, 0⟩ : S28)⟩ : S30)])) else (none)) = some r := by subst hy449; exact H
          have Ny449 := aM_ hy449
          clear hy449
          by_cases c15 : y449.length < 4398046511104
          · rw [if_pos c15] at H
            have LMc15 := aM_ c15
            clear c15
            obtain ⟨y452, hy452⟩ : ∃ y_ : List (S30), y_ = (y449 ++ [(⟨8, a1, (⟨0, 0⟩ : S28)⟩ : S30)]) := ⟨_, rfl⟩
            replace H : (some y452) = some r := by subst hy452; exact H
            have Ny452 := aM_ hy452
            clear hy452
            obtain rfl := oI_ H
            go_enter Tryz.func83, Tryz.ntmps83
            go_wp2_with (first | ((with_reducible refine gD_ 2 ?_); refine bxB 2 122 #[.int .i64 a0_0, .int .i64 a0_1, .int .i64 a0_2, .int .i64 a0_3, .int .i64 a0_4, .int .i64 a0_5, .int .i64 a0_6, .slice A0_7 l0_7.length c0_7, .slice A0_8 l0_8.length c0_8, .slice A0_9 l0_9.length c0_9] (qB HB) ?_; clear HB; intro gb436 w16 HB BK436 GW436; have GE436 := GW436; have hC17 := cf10 BK436.out) | ((with_reducible refine gc_ 118 ?_); refine gL_ (some 12) Tryz.func118 #[.agg #[.int .i64 a0_3, .int .i64 a0_4, .int .i64 a0_5, .int .i64 a0_6, .slice A0_7 l0_7.length c0_7]] ?_; (with_reducible refine (spec_l5Expr.calls 1000 a0_3 a0_4 a0_5 a0_6 _ _ l0_7 t437 _ ?side1 ?side2 A3.out).mono ?_); (case side1 => exact qC (Kd.C_below HR0_7.out HB.out)); (case side2 => exact HC0_7.out); rintro e w18 ⟨v438, rfl, ho0, hb⟩; refine ⟨_, rfl, ?_⟩; have n_ := aN3_ (Kd.R_lower ho0 (bZ_ (qB HB))) (blk_below (qg BK436) hb) (bT_ (qB HB) hb); clear BK436 HB; obtain ⟨HO439, BK436, HB⟩ := n_; have hC19 := cf10 BK436.out; obtain ⟨Ao20, co20, eo20⟩ := Kd.R_slice HO439.out; subst eo20) | ((with_reducible refine gc_ 56 ?_); refine gL_ (some 33) Tryz.func56 #[.slice A0_8 l0_8.length c0_8, .int .i64 (wrap64 (a1 + (wrap64 ((t437.length : Int) + 1))))] ?_; (with_reducible refine (hF _ _ l0_8 (wrap64 (a1 + (wrap64 ((t437.length : Int) + 1)))) t443 _ ?side1 ?side2 A12.out).mono ?_); (case side1 => exact qC (Kd.C_below HR0_8.out HB.out)); (case side2 => exact HC0_8.out); rintro e w21 ⟨v444, rfl, ho0, hb⟩; refine ⟨_, rfl, ?_⟩; have n_ := aN4_ (Kd.R_elder' (qR HO439) (Kd.R_base ho0) hb) (Kd.R_lower (Kd.R_new' ho0 (Kd.R_lt (qR HO439))) (bZ_ (qB HB))) (blk_below (qg BK436) hb) (bT_ (qB HB) hb); clear HO439 BK436 HB; obtain ⟨HO439, HO445, BK436, HB⟩ := n_; obtain ⟨Ao22, co22, eo22⟩ := Kd.R_slice HO445.out; subst eo22) | ((with_reducible refine gate_builtin (b := .append) (xs := #[.tmp 34, .tmp 43]) rfl ?_); at_builtin; refine Kd.R_append k30 (w0 := w) w.heap.size rfl (.tmp 34) (.tmp 43) 23 30 (.agg #[(.int .i64 0), (.int .i64 0), (.int .i64 0), (.int .i64 0)]) 32 rfl Tryz.underlying23 info30 rfl (by decide) (by omega) (.slice Ao20 t437.length co20) t437 (⟨6, wrap64 ((wrap64 ((wrap64 (a1 + (wrap64 ((t437.length : Int) + 1)))) + (t443.length : Int))) + 1), (⟨0, 0⟩ : S28)⟩ : S30) [.int .i64 6, .int .i64 (wrap64 ((wrap64 ((wrap64 (a1 + (wrap64 ((t437.length : Int) + 1)))) + (t443.length : Int))) + 1)), .int .i64 0, .int .i64 0] (fun k_ => some k_ ≠ (.slice Ao22 t443.length co22 : Value).ownBlock) (fun _ => False) rfl rfl ?aP (fun _ hk => hk.elim) ?aF ?aO ?aB ?aS ?aL ?_; (case aP => exact k30_mkM _ _ _ (⟨6, wrap64 ((wrap64 ((wrap64 (a1 + (wrap64 ((t437.length : Int) + 1)))) + (t443.length : Int))) + 1), (⟨0, 0⟩ : S28)⟩ : S30)); (case aB => exact (qB HB)); (case aF => exact (fun k_ hk => Kd.fresh' (Kd.R_lt (qR HO445)) k_ hk)); (case aO => exact (qr (Kd.R_mono HO439.out (fun _ hk => hk.2)))); (case aS => exact (bZ_ (qB HB))); (case aL => have := LMc13.out; omega); intro v447 w23 ho hb hg hat; rw [← Ny446.out] at ho; have n_ := aN4_ (blk_grown (qg BK436) hg (Kd.R_ne HO439.out BK436.out (by decide))) (Kd.R_after (ok := (fun _ => True)) (qR HO445) hg hat) (hb) (ho); clear BK436 HO445 HB HO439 ho hb hg hat; obtain ⟨BK436, HO445, HB, HO448⟩ := n_) | ((with_reducible refine gate_builtin (b := .append) (xs := #[.tmp 45, .tmp 46]) rfl ?_); at_builtin; refine Kd.R_append_rows k30 (w0 := w) w.heap.size rfl (.tmp 45) (.tmp 46) 23 30 (.agg #[(.int .i64 0), (.int .i64 0), (.int .i64 0), (.int .i64 0)]) 32 rfl Tryz.underlying23 info30 rfl (by decide) (by omega) v447 y446 t443 _ _ _ (fun k_ => some k_ ≠ (.slice Ao22 t443.length co22 : Value).ownBlock) (fun _ => False) rfl rfl ?aO ?aR (fun _ _ h => h) (fun _ h => h.elim) ?aF ?aB ?aS ?aL ?_; (case aR => exact qC ((Kd.R_reads' HO445.out).2.2)); (case aB => exact (qB HB)); (case aF => exact (fun k_ hk => Kd.fresh' (Kd.R_lt (qR HO445)) k_ hk)); (case aO => exact (qR HO448)); (case aS => exact (bZ_ (qB HB))); (case aL => have := LMc14.out; omega); intro v450 w24 ho hb hg hat; rw [← Ny449.out] at ho; have n_ := aN4_ (blk_grown (qg BK436) hg (Kd.R_ne HO448.out BK436.out (by decide))) (Kd.R_after (ok := (fun _ => True)) (qR HO445) hg hat) (hb) (ho); clear BK436 HO445 HB HO448 ho hb hg hat; obtain ⟨BK436, HO445, HB, HO451⟩ := n_) | ((with_reducible refine gate_builtin (b := .append) (xs := #[.tmp 47, .tmp 50]) rfl ?_); at_builtin; refine Kd.R_append k30 (w0 := w) w.heap.size rfl (.tmp 47) (.tmp 50) 23 30 (.agg #[(.int .i64 0), (.int .i64 0), (.int .i64 0), (.int .i64 0)]) 32 rfl Tryz.underlying23 info30 rfl (by decide) (by omega) v450 y449 (⟨8, a1, (⟨0, 0⟩ : S28)⟩ : S30) [.int .i64 8, .int .i64 a1, .int .i64 0, .int .i64 0] (fun k_ => some k_ ≠ (.slice Ao22 t443.length co22 : Value).ownBlock) (fun _ => False) rfl rfl ?aP (fun _ hk => hk.elim) ?aF ?aO ?aB ?aS ?aL ?_; (case aP => exact k30_mkM _ _ _ (⟨8, a1, (⟨0, 0⟩ : S28)⟩ : S30)); (case aB => exact (qB HB)); (case aF => exact (fun k_ hk => Kd.fresh' (Kd.R_lt (qR HO445)) k_ hk)); (case aO => exact (qR HO451)); (case aS => exact (bZ_ (qB HB))); (case aL => have := LMc15.out; omega); intro v453 w25 ho hb hg hat; rw [← Ny452.out] at ho; have n_ := aN4_ (blk_grown (qg BK436) hg (Kd.R_ne HO451.out BK436.out (by decide))) (Kd.R_after (ok := (fun _ => True)) (qR HO445) hg hat) (hb) (ho); clear BK436 HO445 HB HO451 ho hb hg hat; obtain ⟨BK436, HO445, HB, HO454⟩ := n_))
            go_ret
            exact ⟨_, qE, by (with_reducible repeat (first | apply rA_ | apply rN_ | apply rD_)); exact Kd.R_mono HO454.out (fun _ hk => trivial), qB HB⟩
          · rw [if_neg c15] at H
            exact absurd H (by simp)
        · rw [if_neg c14] at H
          exact absurd H (by simp)
      · rw [if_neg c13] at H
        exact absurd H (by simp)
    · rw [if_neg c11] at H
      have c11b0 : (a0_0 == 3) = false := beq_eq_false_iff_ne.mpr c11
      have c11b1 : (a0_0 != 3) = true := bne_iff_ne.mpr c11
      replace H := oB_ H
      obtain ⟨t455, A260, H⟩ := H
      have A26 := aM_ A260
      clear A260
      replace H := oB_ H
      obtain ⟨t458, A270, H⟩ := H
      have A27 := aM_ A270
      clear A270
      by_cases c28 : t437.length < 4398046511104
      · rw [if_pos c28] at H
        have LMc28 := aM_ c28
        clear c28
        obtain ⟨y461, hy461⟩ : ∃ y_ : List (S30), y_ = (t437 ++ [(⟨6, wrap64 ((wrap64 ((wrap64 (a1 + (wrap64 ((t437.length : Int) + 1)))) + (t455.length : Int))) + 1), (⟨0, 0⟩ : S28)⟩ : S30)]) := ⟨_, rfl⟩
        replace H : (if y461.length + t455.length < 4398046511104 then ((some (y461 ++ t455 : List (S30))).bind fun y464 => (if y464.length < 4398046511104 then ((some (y464 ++ [(⟨7, wrap64 ((wrap64 ((wrap64 ((wrap64 (a1 + (wrap64 ((t437.length : Int) + 1)))) + (t455.length : Int))) + 1)) + (t458.length : Int)), (⟨0, 0⟩ : S28)⟩ : S30)] : List (S30))).bind fun y467 => (if y467.length + t458.length < 4398046511104 then (some (y467 ++ t458)) else (none))) else (none))) else (none)) = some r := by subst hy461; exact H
        have Ny461 := aM_ hy461
        clear hy461
        by_cases c29 : y461.length + t455.length < 4398046511104
        · rw [if_pos c29] at H
          have LMc29 := aM_ c29
          clear c29
          obtain ⟨y464, hy464⟩ : ∃ y_ : List (S30), y_ = (y461 ++ t455) := ⟨_, rfl⟩
          replace H : (if y464.length < 4398046511104 then ((some (y464 ++ [(⟨7, wrap64 ((wrap64 ((wrap64 ((wrap64 (a1 + (wrap64 ((t437.length : Int) + 1)))) + (t455.length : Int))) + 1)) + (t458.length : Int)), (⟨0, 0⟩ : S28)⟩ : S30)] : List (S30))).bind fun y467 => (if y467.length + t458.length < 4398046511104 then (some (y467 ++ t458)) else (none))) else (none)) = some r := by subst hy464; exact H
          have Ny464 := aM_ hy464
          clear hy464
          by_cases c30 : y464.length < 4398046511104
          · rw [if_pos c30] at H
            have LMc30 := aM_ c30
            clear c30
            obtain ⟨y467, hy467⟩ : ∃ y_ : List (S30), y_ = (y464 ++ [(⟨7, wrap64 ((wrap64 ((wrap64 ((wrap64 (a1 + (wrap64 ((t437.length : Int) + 1)))) + (t455.length : Int))) + 1)) + (t458.length : Int)), (⟨0, 0⟩ : S28)⟩ : S30)]) := ⟨_, rfl⟩
            replace H : (if y467.length + t458.length < 4398046511104 then (some (y467 ++ t458)) else (none)) = some r := by subst hy467; exact H
            have Ny467 := aM_ hy467
            clear hy467
            by_cases c31 : y467.length + t458.length < 4398046511104
            · rw [if_pos c31] at H
              have LMc31 := aM_ c31
              clear c31
              obtain ⟨y470, hy470⟩ : ∃ y_ : List (S30), y_ = (y467 ++ t458) := ⟨_, rfl⟩
              replace H : (some y470) = some r := by subst hy470; exact H
              have Ny470 := aM_ hy470
              clear hy470
              obtain rfl := oI_ H
              go_enter Tryz.func83, Tryz.ntmps83
              go_wp2_with (first | ((with_reducible refine gD_ 2 ?_); refine bxB 2 122 #[.int .i64 a0_0, .int .i64 a0_1, .int .i64 a0_2, .int .i64 a0_3, .int .i64 a0_4, .int .i64 a0_5, .int .i64 a0_6, .slice A0_7 l0_7.length c0_7, .slice A0_8 l0_8.length c0_8, .slice A0_9 l0_9.length c0_9] (qB HB) ?_; clear HB; intro gb436 w32 HB BK436 GW436; have GE436 := GW436; have hC33 := cf10 BK436.out) | ((with_reducible refine gc_ 118 ?_); refine gL_ (some 12) Tryz.func118 #[.agg #[.int .i64 a0_3, .int .i64 a0_4, .int .i64 a0_5, .int .i64 a0_6, .slice A0_7 l0_7.length c0_7]] ?_; (with_reducible refine (spec_l5Expr.calls 1000 a0_3 a0_4 a0_5 a0_6 _ _ l0_7 t437 _ ?side1 ?side2 A3.out).mono ?_); (case side1 => exact qC (Kd.C_below HR0_7.out HB.out)); (case side2 => exact HC0_7.out); rintro e w34 ⟨v438, rfl, ho0, hb⟩; refine ⟨_, rfl, ?_⟩; have n_ := aN3_ (Kd.R_lower ho0 (bZ_ (qB HB))) (blk_below (qg BK436) hb) (bT_ (qB HB) hb); clear BK436 HB; obtain ⟨HO439, BK436, HB⟩ := n_; have hC35 := cf10 BK436.out; obtain ⟨Ao36, co36, eo36⟩ := Kd.R_slice HO439.out; subst eo36) | ((with_reducible refine gc_ 56 ?_); refine gL_ (some 57) Tryz.func56 #[.slice A0_8 l0_8.length c0_8, .int .i64 (wrap64 (a1 + (wrap64 ((t437.length : Int) + 1))))] ?_; (with_reducible refine (hF _ _ l0_8 (wrap64 (a1 + (wrap64 ((t437.length : Int) + 1)))) t455 _ ?side1 ?side2 A26.out).mono ?_); (case side1 => exact qC (Kd.C_below HR0_8.out HB.out)); (case side2 => exact HC0_8.out); rintro e w37 ⟨v456, rfl, ho0, hb⟩; refine ⟨_, rfl, ?_⟩; have n_ := aN4_ (Kd.R_elder' (qR HO439) (Kd.R_base ho0) hb) (Kd.R_lower (Kd.R_new' ho0 (Kd.R_lt (qR HO439))) (bZ_ (qB HB))) (blk_below (qg BK436) hb) (bT_ (qB HB) hb); clear HO439 BK436 HB; obtain ⟨HO439, HO457, BK436, HB⟩ := n_; have hC38 := cf10 BK436.out; obtain ⟨Ao39, co39, eo39⟩ := Kd.R_slice HO457.out; subst eo39) | ((with_reducible refine gc_ 56 ?_); refine gL_ (some 67) Tryz.func56 #[.slice A0_9 l0_9.length c0_9, .int .i64 (wrap64 ((wrap64 ((wrap64 (a1 + (wrap64 ((t437.length : Int) + 1)))) + (t455.length : Int))) + 1))] ?_; (with_reducible refine (hF _ _ l0_9 (wrap64 ((wrap64 ((wrap64 (a1 + (wrap64 ((t437.length : Int) + 1)))) + (t455.length : Int))) + 1)) t458 _ ?side1 ?side2 A27.out).mono ?_); (case side1 => exact qC (Kd.C_below HR0_9.out HB.out)); (case side2 => exact HC0_9.out); rintro e w40 ⟨v459, rfl, ho0, hb⟩; refine ⟨_, rfl, ?_⟩; have n_ := aN5_ (Kd.R_elder' (qR HO439) (Kd.R_base ho0) hb) (Kd.R_elder' (qR HO457) (Kd.R_base ho0) hb) (Kd.R_lower (Kd.R_new' (Kd.R_new' ho0 (Kd.R_lt (qR HO439))) (Kd.R_lt (qR HO457))) (bZ_ (qB HB))) (blk_below (qg BK436) hb) (bT_ (qB HB) hb); clear HO439 HO457 BK436 HB; obtain ⟨HO439, HO457, HO460, BK436, HB⟩ := n_) | ((with_reducible refine gate_builtin (b := .append) (xs := #[.tmp 68, .tmp 77]) rfl ?_); at_builtin; refine Kd.R_append k30 (w0 := w) w.heap.size rfl (.tmp 68) (.tmp 77) 23 30 (.agg #[(.int .i64 0), (.int .i64 0), (.int .i64 0), (.int .i64 0)]) 32 rfl Tryz.underlying23 info30 rfl (by decide) (by omega) (.slice Ao36 t437.length co36) t437 (⟨6, wrap64 ((wrap64 ((wrap64 (a1 + (wrap64 ((t437.length : Int) + 1)))) + (t455.length : Int))) + 1), (⟨0, 0⟩ : S28)⟩ : S30) [.int .i64 6, .int .i64 (wrap64 ((wrap64 ((wrap64 (a1 + (wrap64 ((t437.length : Int) + 1)))) + (t455.length : Int))) + 1)), .int .i64 0, .int .i64 0] (fun k_ => some k_ ≠ (.slice Ao39 t455.length co39 : Value).ownBlock ∧ some k_ ≠ (v459 : Value).ownBlock) (fun _ => False) rfl rfl ?aP (fun _ hk => hk.elim) ?aF ?aO ?aB ?aS ?aL ?_; (case aP => exact k30_mkM _ _ _ (⟨6, wrap64 ((wrap64 ((wrap64 (a1 + (wrap64 ((t437.length : Int) + 1)))) + (t455.length : Int))) + 1), (⟨0, 0⟩ : S28)⟩ : S30)); (case aB => exact (qB HB)); (case aF => exact (fun k_ hk => ⟨Kd.fresh' (Kd.R_lt (qR HO457)) k_ hk, Kd.fresh' (Kd.R_lt (qR HO460)) k_ hk⟩)); (case aO => exact (qr (Kd.R_mono HO439.out (fun _ hk => ⟨hk.1.2, hk.2⟩)))); (case aS => exact (bZ_ (qB HB))); (case aL => have := LMc28.out; omega); intro v462 w41 ho hb hg hat; rw [← Ny461.out] at ho; have n_ := aN5_ (blk_grown (qg BK436) hg (Kd.R_ne HO439.out BK436.out (by decide))) (Kd.R_after (ok := (fun k_ => some k_ ≠ (v459 : Value).ownBlock)) (qr (Kd.R_mono HO457.out (fun _ hk => ⟨hk.2, hk.1.2⟩))) hg hat) (Kd.R_after (ok := (fun k_ => some k_ ≠ (.slice Ao39 t455.length co39 : Value).ownBlock)) (qr (Kd.R_mono HO460.out (fun _ hk => ⟨hk.2, hk.1.2⟩))) hg hat) (hb) (ho); clear BK436 HO457 HO460 HB HO439 ho hb hg hat; obtain ⟨BK436, HO457, HO460, HB, HO463⟩ := n_) | ((with_reducible refine gate_builtin (b := .append) (xs := #[.tmp 79, .tmp 80]) rfl ?_); at_builtin; refine Kd.R_append_rows k30 (w0 := w) w.heap.size rfl (.tmp 79) (.tmp 80) 23 30 (.agg #[(.int .i64 0), (.int .i64 0), (.int .i64 0), (.int .i64 0)]) 32 rfl Tryz.underlying23 info30 rfl (by decide) (by omega) v462 y461 t455 _ _ _ (fun k_ => some k_ ≠ (.slice Ao39 t455.length co39 : Value).ownBlock ∧ some k_ ≠ (v459 : Value).ownBlock) (fun _ => False) rfl rfl ?aO ?aR (fun _ _ h => h) (fun _ h => h.elim) ?aF ?aB ?aS ?aL ?_; (case aR => exact qC ((Kd.R_reads' HO457.out).2.2)); (case aB => exact (qB HB)); (case aF => exact (fun k_ hk => ⟨Kd.fresh' (Kd.R_lt (qR HO457)) k_ hk, Kd.fresh' (Kd.R_lt (qR HO460)) k_ hk⟩)); (case aO => exact (qR HO463)); (case aS => exact (bZ_ (qB HB))); (case aL => have := LMc29.out; omega); intro v465 w42 ho hb hg hat; rw [← Ny464.out] at ho; have n_ := aN5_ (blk_grown (qg BK436) hg (Kd.R_ne HO463.out BK436.out (by decide))) (Kd.R_after (ok := (fun k_ => some k_ ≠ (v459 : Value).ownBlock)) (qR HO457) hg hat) (Kd.R_after (ok := (fun k_ => some k_ ≠ (.slice Ao39 t455.length co39 : Value).ownBlock)) (qR HO460) hg hat) (hb) (ho); clear BK436 HO457 HO460 HB HO463 ho hb hg hat; obtain ⟨BK436, HO457, HO460, HB, HO466⟩ := n_; obtain ⟨Ao43, co43, eo43⟩ := Kd.R_slice HO460.out; subst eo43) | ((with_reducible refine gate_builtin (b := .append) (xs := #[.tmp 81, .tmp 93]) rfl ?_); at_builtin; refine Kd.R_append k30 (w0 := w) w.heap.size rfl (.tmp 81) (.tmp 93) 23 30 (.agg #[(.int .i64 0), (.int .i64 0), (.int .i64 0), (.int .i64 0)]) 32 rfl Tryz.underlying23 info30 rfl (by decide) (by omega) v465 y464 (⟨7, wrap64 ((wrap64 ((wrap64 ((wrap64 (a1 + (wrap64 ((t437.length : Int) + 1)))) + (t455.length : Int))) + 1)) + (t458.length : Int)), (⟨0, 0⟩ : S28)⟩ : S30) [.int .i64 7, .int .i64 (wrap64 ((wrap64 ((wrap64 ((wrap64 (a1 + (wrap64 ((t437.length : Int) + 1)))) + (t455.length : Int))) + 1)) + (t458.length : Int))), .int .i64 0, .int .i64 0] (fun k_ => some k_ ≠ (.slice Ao39 t455.length co39 : Value).ownBlock ∧ some k_ ≠ (.slice Ao43 t458.length co43 : Value).ownBlock) (fun _ => False) rfl rfl ?aP (fun _ hk => hk.elim) ?aF ?aO ?aB ?aS ?aL ?_; (case aP => exact k30_mkM _ _ _ (⟨7, wrap64 ((wrap64 ((wrap64 ((wrap64 (a1 + (wrap64 ((t437.length : Int) + 1)))) + (t455.length : Int))) + 1)) + (t458.length : Int)), (⟨0, 0⟩ : S28)⟩ : S30)); (case aB => exact (qB HB)); (case aF => exact (fun k_ hk => ⟨Kd.fresh' (Kd.R_lt (qR HO457)) k_ hk, Kd.fresh' (Kd.R_lt (qR HO460)) k_ hk⟩)); (case aO => exact (qR HO466)); (case aS => exact (bZ_ (qB HB))); (case aL => have := LMc30.out; omega); intro v468 w44 ho hb hg hat; rw [← Ny467.out] at ho; have n_ := aN5_ (blk_grown (qg BK436) hg (Kd.R_ne HO466.out BK436.out (by decide))) (Kd.R_after (ok := (fun k_ => some k_ ≠ (.slice Ao43 t458.length co43 : Value).ownBlock)) (qR HO457) hg hat) (Kd.R_after (ok := (fun k_ => some k_ ≠ (.slice Ao39 t455.length co39 : Value).ownBlock)) (qR HO460) hg hat) (hb) (ho); clear BK436 HO457 HO460 HB HO466 ho hb hg hat; obtain ⟨BK436, HO457, HO460, HB, HO469⟩ := n_) | ((with_reducible refine gate_builtin (b := .append) (xs := #[.tmp 95, .tmp 96]) rfl ?_); at_builtin; refine Kd.R_append_rows k30 (w0 := w) w.heap.size rfl (.tmp 95) (.tmp 96) 23 30 (.agg #[(.int .i64 0), (.int .i64 0), (.int .i64 0), (.int .i64 0)]) 32 rfl Tryz.underlying23 info30 rfl (by decide) (by omega) v468 y467 t458 _ _ _ (fun k_ => some k_ ≠ (.slice Ao39 t455.length co39 : Value).ownBlock ∧ some k_ ≠ (.slice Ao43 t458.length co43 : Value).ownBlock) (fun _ => False) rfl rfl ?aO ?aR (fun _ _ h => h) (fun _ h => h.elim) ?aF ?aB ?aS ?aL ?_; (case aR => exact qC ((Kd.R_reads' HO460.out).2.2)); (case aB => exact (qB HB)); (case aF => exact (fun k_ hk => ⟨Kd.fresh' (Kd.R_lt (qR HO457)) k_ hk, Kd.fresh' (Kd.R_lt (qR HO460)) k_ hk⟩)); (case aO => exact (qR HO469)); (case aS => exact (bZ_ (qB HB))); (case aL => have := LMc31.out; omega); intro v471 w45 ho hb hg hat; rw [← Ny470.out] at ho; have n_ := aN5_ (blk_grown (qg BK436) hg (Kd.R_ne HO469.out BK436.out (by decide))) (Kd.R_after (ok := (fun k_ => some k_ ≠ (.slice Ao43 t458.length co43 : Value).ownBlock)) (qR HO457) hg hat) (Kd.R_after (ok := (fun k_ => some k_ ≠ (.slice Ao39 t455.length co39 : Value).ownBlock)) (qR HO460) hg hat) (hb) (ho); clear BK436 HO457 HO460 HB HO469 ho hb hg hat; obtain ⟨BK436, HO457, HO460, HB, HO472⟩ := n_))
              go_ret
              exact ⟨_, qE, by (with_reducible repeat (first | apply rA_ | apply rN_ | apply rD_)); exact Kd.R_mono HO472.out (fun _ hk => trivial), qB HB⟩
            · rw [if_neg c31] at H
              exact absurd H (by simp)
          · rw [if_neg c30] at H
            exact absurd H (by simp)
        · rw [if_neg c29] at H
          exact absurd H (by simp)
      · rw [if_neg c28] at H
        exact absurd H (by simp)
def spec_l5Loop.l0 (G : Int → Int → Int → Int → Int → Int → Int → List (S120) → List (S122) → List (S122) → Int → Option ((List (S30)))) : Nat → List (S122) → Int → List (S30) → Int → Option ((List (S30)))
  | 0, _, _, _, _ => none
  | k + 1, x0, x1, x5, x6 => if x6 < (x0.length : Int) then (if 0 ≤ x6 then ((G ((rd_T122 x0 x6).f0) ((rd_T122 x0 x6).f1.f0) ((rd_T122 x0 x6).f1.f1) ((rd_T122 x0 x6).f2.f0) ((rd_T122 x0 x6).f2.f1) ((rd_T122 x0 x6).f2.f2.f0) ((rd_T122 x0 x6).f2.f2.f1) ((rd_T122 x0 x6).f2.f3) ((rd_T122 x0 x6).f3) ((rd_T122 x0 x6).f4) (wrap64 (x1 + (x5.length : Int)))).bind fun t145 => (if x5.length + t145.length < 4398046511104 then (spec_l5Loop.l0 G k x0 x1 (x5 ++ t145) (wrap64 (x6 + 1))) else (none))) else (none)) else (some x5)
def spec_l5Loop.f (G : Int → Int → Int → Int → Int → Int → Int → List (S120) → List (S122) → List (S122) → Int → Option ((List (S30)))) (k : Nat) (l0 : List (S122)) (a1 : Int) : Option ((List (S30))) := spec_l5Loop.l0 G k l0 a1 (([] : List (S30))) 0
set_option maxHeartbeats 8000000 in
set_option maxRecDepth 100000 in
theorem spec_l5Loop.calls (G : Int → Int → Int → Int → Int → Int → Int → List (S120) → List (S122) → List (S122) → Int → Option ((List (S30)))) (hG : ∀ (a0_0 : Int) (a0_1 : Int) (a0_2 : Int) (a0_3 : Int) (a0_4 : Int) (a0_5 : Int) (a0_6 : Int) (A0_7 : Option Addr) (c0_7 : Nat) (l0_7 : List (S120)) (A0_8 : Option Addr) (c0_8 : Nat) (l0_8 : List (S122)) (A0_9 : Option Addr) (c0_9 : Nat) (l0_9 : List (S122)) (a1 : Int) (r : List (S30)) (w : World) (hr0_7 : Kd.C k120 w A0_7 l0_7.length l0_7) (hc0_7 : l0_7.length ≤ c0_7) (hr0_8 : Kd.C k122 w A0_8 l0_8.length l0_8) (hc0_8 : l0_8.length ≤ c0_8) (hr0_9 : Kd.C k122 w A0_9 l0_9.length l0_9) (hc0_9 : l0_9.length ≤ c0_9) (h : G a0_0 a0_1 a0_2 a0_3 a0_4 a0_5 a0_6 l0_7 l0_8 l0_9 a1 = some r), Calls Tryz.prog 83 #[.agg #[.int .i64 a0_0, .int .i64 a0_1, .int .i64 a0_2, .int .i64 a0_3, .int .i64 a0_4, .int .i64 a0_5, .int .i64 a0_6, .slice A0_7 l0_7.length c0_7, .slice A0_8 l0_8.length c0_8, .slice A0_9 l0_9.length c0_9], .int .i64 a1] w fun e w' => ∃ v0_ : Value, e = .returned (v0_) ∧ Kd.R k30 30 w' w.heap.size (fun _ => True) v0_ r ∧ Below w.heap.size w w') (k : Nat) (A0 : Option Addr) (c0 : Nat) (l0 : List (S122)) (a1 : Int) (r : List (S30)) (w : World) (hr0 : Kd.C k122 w A0 l0.length l0) (hc0 : l0.length ≤ c0) (h : spec_l5Loop.f G k l0 a1 = some r) :
    Calls Tryz.prog 56 #[.slice A0 l0.length c0, .int .i64 a1] w fun e w' => ∃ v0_ : Value, e = .returned (v0_) ∧ Kd.R k30 30 w' w.heap.size (fun _ => True) v0_ r ∧ Below w.heap.size w w' := by
 have hu122 := Tryz.underlying122
 have HR0 := aM_ hr0
 have HC0 := aM_ hc0
 clear hr0 hc0
 have HB := aM_ (Below.refl w.heap.size w)
 have H : (spec_l5Loop.l0 G k l0 a1 (([] : List (S30))) 0) = some r := h
 clear h
 obtain ⟨y141, hy141⟩ : ∃ y_ : List (S30), y_ = (([] : List (S30))) := ⟨_, rfl⟩
 replace H : (spec_l5Loop.l0 G k l0 a1 y141 0) = some r := by subst hy141; exact H
 have Ny141 := aM_ hy141
 clear hy141
 have H' := aM_ H
 clear H
 go_enter Tryz.func56, Tryz.ntmps56
 go_wp2_with (first | ((with_reducible refine gD_ 7 ?_); refine Kd.R_lit k30 _ 30 ?hg (N := 7) ?hd (xs := ([] : List (S30))) (inner := []) (ok := fun _ => True) (okp := fun _ => True) ?hr ?hp (fun _ hk => hk) trivial (Below.refl _ _) (Nat.le_refl _) (by simp) ?_; (case hd => rfl); (case hg => rfl); (case hr => first | (go_simp; done) | (go_simp; rfl)); (case hp => exact (Reps.none _ _)); intro v142 w3 ho4 hb hg_ hnew_; clear hg_ hnew_; (first | rw [← Ny141.out] at ho4 | (simp only [Int.reduceToNat] at ho4; rw [← Ny141.out] at ho4)); have n_ := aN2_ (Kd.R_lower ho4 (bZ_ (qB HB))) (bT_ (qB HB) hb); clear HB hb ho4; obtain ⟨HO143, HB⟩ := n_))
 go_loopg [5, 6] k (fun kq v5 v6 w' => ∃ (x5_1 : List (S30)) (x6_1 : Int), v6 = .int .i64 x6_1 ∧ Aside0 (spec_l5Loop.l0 G kq l0 a1 x5_1 x6_1 = some r) ∧ Aside0 (kq ≤ k) ∧ Aside0 (Kd.R k30 30 w' w.heap.size (fun _ => True) v5 x5_1) ∧ Aside0 (Below w.heap.size w w'))
 case atStart => exact ⟨(y141), (0), qF, H', ⟨Nat.le_refl _⟩, ⟨qR HO143⟩, ⟨qB HB⟩⟩
 case round =>
  clear H'
  obtain ⟨x5_1, x6_1, rfl, HA, HK1, HO_5, HB⟩ := hrel
  cases gk with
  | zero => exact absurd HA.out (by simp [spec_l5Loop.l0])
  | succ k1 =>
   have H := HA.out
   clear HA
   simp only [spec_l5Loop.l0] at H
   by_cases c5 : x6_1 < (l0.length : Int)
   rotate_left
   · rw [if_neg c5] at H
     have c5b0 : decide (x6_1 < (l0.length : Int)) = false := dF_ c5
     clear c5
     obtain rfl := oI_ H
     go_wp2
     go_ret
     exact ⟨_, qE, qR HO_5, qB HB⟩
   rw [if_pos c5] at H
   have c5b0 : decide (x6_1 < (l0.length : Int)) = true := dT_ c5
   clear c5
   obtain ⟨H, c6b0⟩ := nP_ H
   replace H := oB_ H
   obtain ⟨t145, A70, H⟩ := H
   have A7 := aM_ A70
   clear A70
   by_cases c8 : x5_1.length + t145.length < 4398046511104
   rotate_left
   · rw [if_neg c8] at H
     exact absurd H (by simp)
   rw [if_pos c8] at H
   have LMc8 := aM_ c8
   clear c8
   obtain ⟨y148, hy148⟩ : ∃ y_ : List (S30), y_ = (x5_1 ++ t145) := ⟨_, rfl⟩
   replace H : (spec_l5Loop.l0 G k1 l0 a1 y148 (wrap64 (x6_1 + 1))) = some r := by subst hy148; exact H
   have Ny148 := aM_ hy148
   clear hy148
   have H' := aM_ H
   clear H
   have p144 : 0 ≤ (x6_1 : Int) := oD_ (by first | (with_reducible assumption) | assumption)
   have q144 : x6_1 < (l0.length : Int) := oD_ (by first | (with_reducible assumption) | assumption)
   obtain ⟨ad144, A144_7, c144_7, A144_8, c144_8, A144_9, c144_9, e144, hx144_0, hx144_1, hx144_2, hx144_3, hx144_4, hx144_5, hx144_6, hx144_7, hx144_8, hx144_9, hl144_7, hi144_7, hl144_8, hi144_8, hl144_9, hi144_9⟩ := at_T122 HR0.out x6_1 p144 q144
   cases e144
   replace hx144_0 := qc HB hx144_0
   replace hx144_1 := qc HB hx144_1
   replace hx144_2 := qc HB hx144_2
   replace hx144_3 := qc HB hx144_3
   replace hx144_4 := qc HB hx144_4
   replace hx144_5 := qc HB hx144_5
   replace hx144_6 := qc HB hx144_6
   replace hx144_7 := qc HB hx144_7
   replace hx144_8 := qc HB hx144_8
   replace hx144_9 := qc HB hx144_9
   have HR144_7 := aM_ hi144_7
   have HC144_7 := aM_ hl144_7
   clear hi144_7 hl144_7
   have HR144_8 := aM_ hi144_8
   have HC144_8 := aM_ hl144_8
   clear hi144_8 hl144_8
   have HR144_9 := aM_ hi144_9
   have HC144_9 := aM_ hl144_9
   clear hi144_9 hl144_9
   replace p144 := eq_true p144
   replace q144 := eq_true q144
   obtain ⟨Ao9, co9, eo9⟩ := Kd.R_slice HO_5.out
   subst eo9
   go_wp2_with (first | ((with_reducible refine gc_ 83 ?_); refine gL_ (some 23) Tryz.func83 #[.agg #[.int .i64 ((rd_T122 l0 x6_1).f0), .int .i64 ((rd_T122 l0 x6_1).f1.f0), .int .i64 ((rd_T122 l0 x6_1).f1.f1), .int .i64 ((rd_T122 l0 x6_1).f2.f0), .int .i64 ((rd_T122 l0 x6_1).f2.f1), .int .i64 ((rd_T122 l0 x6_1).f2.f2.f0), .int .i64 ((rd_T122 l0 x6_1).f2.f2.f1), .slice A144_7 ((rd_T122 l0 x6_1).f2.f3).length c144_7, .slice A144_8 ((rd_T122 l0 x6_1).f3).length c144_8, .slice A144_9 ((rd_T122 l0 x6_1).f4).length c144_9], .int .i64 (wrap64 (a1 + (x5_1.length : Int)))] ?_; (with_reducible refine (hG ((rd_T122 l0 x6_1).f0) ((rd_T122 l0 x6_1).f1.f0) ((rd_T122 l0 x6_1).f1.f1) ((rd_T122 l0 x6_1).f2.f0) ((rd_T122 l0 x6_1).f2.f1) ((rd_T122 l0 x6_1).f2.f2.f0) ((rd_T122 l0 x6_1).f2.f2.f1) _ _ ((rd_T122 l0 x6_1).f2.f3) _ _ ((rd_T122 l0 x6_1).f3) _ _ ((rd_T122 l0 x6_1).f4) (wrap64 (a1 + (x5_1.length : Int))) t145 _ ?side1 ?side2 ?side3 ?side4 ?side5 ?side6 A7.out).mono ?_); (case side1 => exact qC (Kd.C_below HR144_7.out HB.out)); (case side2 => exact HC144_7.out); (case side3 => exact qC (Kd.C_below HR144_8.out HB.out)); (case side4 => exact HC144_8.out); (case side5 => exact qC (Kd.C_below HR144_9.out HB.out)); (case side6 => exact HC144_9.out); rintro e w10 ⟨v146, rfl, ho0, hb⟩; refine ⟨_, rfl, ?_⟩; have n_ := aN3_ (Kd.R_elder' (qR HO_5) (Kd.R_base ho0) hb) (Kd.R_lower (Kd.R_new' ho0 (Kd.R_lt (qR HO_5))) (bZ_ (qB HB))) (bT_ (qB HB) hb); clear HO_5 HB; obtain ⟨HO_5, HO147, HB⟩ := n_; obtain ⟨Ao12, co12, eo12⟩ := Kd.R_slice HO147.out; subst eo12) | ((with_reducible refine gate_builtin (b := .append) (xs := #[.tmp 14, .tmp 23]) rfl ?_); at_builtin; refine Kd.R_append_rows k30 (w0 := w) w.heap.size rfl (.tmp 14) (.tmp 23) 23 30 (.agg #[(.int .i64 0), (.int .i64 0), (.int .i64 0), (.int .i64 0)]) 32 rfl Tryz.underlying23 info30 rfl (by decide) (by omega) (.slice Ao9 x5_1.length co9) x5_1 t145 _ _ _ (fun k_ => some k_ ≠ (.slice Ao12 t145.length co12 : Value).ownBlock) (fun _ => False) rfl rfl ?aO ?aR (fun _ _ h => h) (fun _ h => h.elim) ?aF ?aB ?aS ?aL ?_; (case aR => exact qC ((Kd.R_reads' HO147.out).2.2)); (case aB => exact (qB HB)); (case aF => exact (fun k_ hk => Kd.fresh' (Kd.R_lt (qR HO147)) k_ hk)); (case aO => exact (qr (Kd.R_mono HO_5.out (fun _ hk => hk.2)))); (case aS => exact (bZ_ (qB HB))); (case aL => have := LMc8.out; omega); intro v149 w11 ho hb hg hat; rw [← Ny148.out] at ho; have n_ := aN3_ (Kd.R_after (ok := (fun _ => True)) (qR HO147) hg hat) (hb) (ho); clear HO147 HB HO_5 ho hb hg hat; obtain ⟨HO147, HB, HO150⟩ := n_))
   go_roundg k1
   case measure => have := HK1.out; omega
   case rel => exact ⟨(y148), (wrap64 (x6_1 + 1)), qF, H', ⟨by have := HK1.out; omega⟩, ⟨by (with_reducible repeat (first | apply rA_ | apply rN_ | apply rD_)); exact Kd.R_mono HO150.out (fun _ hk => trivial)⟩, ⟨qB HB⟩⟩
def spec_l5Of.deep : Nat → List S122 → Int → Option (List S30)
  | 0 => fun _ _ => none
  | n + 1 => fun l a => spec_l5Loop.f (spec_l5One.g (spec_l5Of.deep n)) 1000 l a
theorem spec_l5Of.deep_calls : ∀ (n : Nat) (A0 : Option Addr) (c0 : Nat) (l0 : List (S122)) (a1 : Int) (r : List (S30)) (w : World) (hr0 : Kd.C k122 w A0 l0.length l0) (hc0 : l0.length ≤ c0) (h : spec_l5Of.deep n l0 a1 = some r), Calls Tryz.prog 56 #[.slice A0 l0.length c0, .int .i64 a1] w fun e w' => ∃ v0_ : Value, e = .returned (v0_) ∧ Kd.R k30 30 w' w.heap.size (fun _ => True) v0_ r ∧ Below w.heap.size w w'
  | 0 => fun _ _ _ _ _ _ _ _ h => by simp [spec_l5Of.deep] at h
  | n + 1 => fun A0 c0 l0 a1 r w hr0 hc0 h => spec_l5Loop.calls _ (spec_l5One.callsG _ (spec_l5Of.deep_calls n)) 1000 A0 c0 l0 a1 r w hr0 hc0 h
def spec_l5Of.f (l0 : List (S122)) (a1 : Int) : Option ((List (S30))) := spec_l5Of.deep 10 l0 a1
set_option maxHeartbeats 8000000 in
set_option maxRecDepth 100000 in
theorem spec_l5Of.calls (A0 : Option Addr) (c0 : Nat) (l0 : List (S122)) (a1 : Int) (r : List (S30)) (w : World) (hr0 : Kd.C k122 w A0 l0.length l0) (hc0 : l0.length ≤ c0) (h : spec_l5Of.f l0 a1 = some r) :
    Calls Tryz.prog 56 #[.slice A0 l0.length c0, .int .i64 a1] w fun e w' => ∃ v0_ : Value, e = .returned (v0_) ∧ Kd.R k30 30 w' w.heap.size (fun _ => True) v0_ r ∧ Below w.heap.size w w' := by
 exact spec_l5Of.deep_calls 10 A0 c0 l0 a1 r w hr0 hc0 h
end Go.Proofs.YtjamfddhcigchaaGreatDoor.HFnCodeRun
