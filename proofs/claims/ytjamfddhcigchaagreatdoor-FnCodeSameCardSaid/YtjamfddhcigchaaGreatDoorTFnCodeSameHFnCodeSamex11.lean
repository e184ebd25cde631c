-- Made by a program of this session (hp.py) over the kit's print: functions told by hand stand beside printed ones. Lean checks it.
import Derived.Test.YtjamfddhcigchaaGreatDoorTFnCodeSameHFnCodeSamex4
import Derived.Test.YtjamfddhcigchaaGreatDoorTFnCodeSameHFnCodeSamex6
import Derived.Test.YtjamfddhcigchaaGreatDoorTFnCodeSameHFnCodeSamex10
namespace Go.Proofs.YtjamfddhcigchaaGreatDoor.HFnCodeSame
open Go.RowKit Go.Proofs.YtjamfddhcigchaaGreatDoorW.PrintWords Go.Proofs.YtjamfddhcigchaaGreatDoorW.PrintLast Go.Proofs.YtjamfddhcigchaaGreatDoorW.PrintMore
attribute [local go_sem] max2_int min2_int max_two min_two max_three min_three max_four min_four
set_option linter.unusedVariables false
set_option linter.unusedSimpArgs false
attribute [local go_sem high] eqA30
def spec_StmtsOk.f (k : Nat) (l0 : List (S122)) : Option (Bool) := (spec_l4Many.f k l0 4).bind fun t284 => (if t284 ≤ 16 then ((spec_l4Form.f k l0 4).bind fun t285 => (some t285)) else (some false))
set_option maxHeartbeats 8000000 in
set_option maxRecDepth 100000 in
theorem spec_StmtsOk.calls (k : Nat) (A0 : Option Addr) (c0 : Nat) (l0 : List (S122)) (r : Bool) (w : World) (hr0 : Kd.C k122 w A0 l0.length l0) (hc0 : l0.length ≤ c0) (h : spec_StmtsOk.f k l0 = some r) :
    Calls Tryz.prog 85 #[.slice A0 l0.length c0] w fun e w' => e = .returned (.bool r) ∧ Below w.heap.size w w' := by
 have HR0 := aM_ hr0
 have HC0 := aM_ hc0
 clear hr0 hc0
 have HB := aM_ (Below.refl w.heap.size w)
 have H : ((spec_l4Many.f k l0 4).bind fun t284 => (if t284 ≤ 16 then ((spec_l4Form.f k l0 4).bind fun t285 => (some t285)) else (some false))) = some r := h
 clear h
 replace H := oB_ H
 obtain ⟨t284, A20, H⟩ := H
 have A2 := aM_ A20
 clear A20
 by_cases c3 : t284 ≤ 16
 rotate_left
 · rw [if_neg c3] at H
   have c3b0 : decide (t284 ≤ 16) = false := dF_ c3
   clear c3
   obtain rfl := oI_ H
   go_enter Tryz.func85, Tryz.ntmps85
   go_wp2_with (first | ((with_reducible refine gc_ 121 ?_); refine gL_ (some 4) Tryz.func121 #[.slice A0 l0.length c0, .int .i64 4] ?_; (with_reducible refine (spec_l4Many.calls k _ _ l0 4 t284 _ ?side1 ?side2 A2.out).mono ?_); (case side1 => exact qC (HR0.out)); (case side2 => exact HC0.out); rintro e w7 ⟨rfl, hb⟩; refine ⟨_, rfl, ?_⟩; have n0_ := aM_ (bT_ (qB HB) hb); clear HB; revert n0_; intro HB))
   go_ret
   exact ⟨qE, qB HB⟩
 rw [if_pos c3] at H
 have c3b0 : decide (t284 ≤ 16) = true := dT_ c3
 clear c3
 replace H := oB_ H
 obtain ⟨t285, A40, H⟩ := H
 have A4 := aM_ A40
 clear A40
 obtain rfl := oI_ H
 go_enter Tryz.func85, Tryz.ntmps85
 go_wp2_with (first | ((with_reducible refine gc_ 121 ?_); refine gL_ (some 4) Tryz.func121 #[.slice A0 l0.length c0, .int .i64 4] ?_; (with_reducible refine (spec_l4Many.calls k _ _ l0 4 t284 _ ?side1 ?side2 A2.out).mono ?_); (case side1 => exact qC (HR0.out)); (case side2 => exact HC0.out); rintro e w5 ⟨rfl, hb⟩; refine ⟨_, rfl, ?_⟩; have n0_ := aM_ (bT_ (qB HB) hb); clear HB; revert n0_; intro HB) | (go_at_call 122; (with_reducible refine (spec_l4Form.calls k _ _ l0 4 t285 _ ?side1 ?side2 A4.out).mono ?_); (case side1 => exact qC (Kd.C_below HR0.out HB.out)); (case side2 => exact HC0.out); rintro e w6 ⟨rfl, hb⟩; have n0_ := aM_ (bT_ (qB HB) hb); clear HB; revert n0_; intro HB))
 go_ret
 exact ⟨qE, qB HB⟩
def spec_l4Some.f (k : Nat) (s0_0 : List Int) (s0_1 : Int) : Option ((List (S122)) × Int) := (spec_l4List.f k s0_0 s0_1 3).bind fun bt286 => ((spec_StmtsOk.f k bt286.1).bind fun t290 => (if t290 = true then (some (bt286.1, bt286.2)) else ((spec_l4Count.f s0_0 bt286.2).bind fun bt291 => (some ((([(⟨bt291.1, (⟨bt291.2.1, bt291.2.2.1⟩ : S28), (⟨bt291.2.2.2.1, bt291.2.2.2.2.1, (⟨bt291.2.2.2.2.2.1, bt291.2.2.2.2.2.2.1⟩ : S28), bt291.2.2.2.2.2.2.2.1⟩ : S120), bt291.2.2.2.2.2.2.2.2.1, bt291.2.2.2.2.2.2.2.2.2.1⟩ : S122)] : List (S122))), bt291.2.2.2.2.2.2.2.2.2.2)))))
set_option maxHeartbeats 8000000 in
set_option maxRecDepth 100000 in
theorem spec_l4Some.calls (k : Nat) (g : Nat) (s0_0 : List Int) (s0_1 : Int) (r1 : List (S122)) (r2 : Int) (w0 w : World) (hI : IsS98 w0 w g s0_0 s0_1) (hB : Below w0.heap.size w0 w) (h : spec_l4Some.f k s0_0 s0_1 = some (r1, r2)) :
    Calls Tryz.prog 57 #[.pointer (some ⟨g, 0, none⟩)] w fun e w' => ∃ v0_ : Value, e = .returned (v0_) ∧ Kd.N k122 122 w' w.heap.size (fun k_ => (w.heap.size ≤ k_)) v0_ r1 ∧ IsS98 w0 w' g s0_0 r2 ∧ Below w0.heap.size w0 w' ∧ KeepBut w w' g none := by
 have HI0 := aM_ hI
 have HK := aM_ (KeepBut.refl w g none)
 have HL := aM_ hB.size
 clear hI
 have HW0 := aM_ hB.size
 have HB := aM_ hB
 clear hB
 have H : ((spec_l4List.f k s0_0 s0_1 3).bind fun bt286 => ((spec_StmtsOk.f k bt286.1).bind fun t290 => (if t290 = true then (some (bt286.1, bt286.2)) else ((spec_l4Count.f s0_0 bt286.2).bind fun bt291 => (some ((([(⟨bt291.1, (⟨bt291.2.1, bt291.2.2.1⟩ : S28), (⟨bt291.2.2.2.1, bt291.2.2.2.2.1, (⟨bt291.2.2.2.2.2.1, bt291.2.2.2.2.2.2.1⟩ : S28), bt291.2.2.2.2.2.2.2.1⟩ : S120), bt291.2.2.2.2.2.2.2.2.1, bt291.2.2.2.2.2.2.2.2.2.1⟩ : S122)] : List (S122))), bt291.2.2.2.2.2.2.2.2.2.2)))))) = some (r1, r2) := h
 clear h
 replace H := oB_ H
 obtain ⟨⟨t286, t289⟩, A20, H⟩ := H
 dsimp only at H
 have A2 := aM_ A20
 clear A20
 replace H := oB_ H
 obtain ⟨t290, A30, H⟩ := H
 have A3 := aM_ A30
 clear A30
 by_cases c4 : t290 = true
 · subst c4
   rw [if_pos rfl] at H
   simp only [Option.some.injEq, Prod.mk.injEq] at H
   obtain ⟨rfl, rfl⟩ := H
   go_enter Tryz.func57, Tryz.ntmps57
   go_wp2_with (first | ((with_reducible refine gc_ 84 ?_); refine gL_ (some 5) Tryz.func84 #[.pointer (some ⟨g, 0, none⟩), .int .i64 3] ?_; (with_reducible refine (spec_l4List.calls k g s0_0 s0_1 3 t286 t289 w0 _ ?side1 ?side2 A2.out).mono ?_); (case side1 => exact qI HI0); (case side2 => exact qS HB); rintro e w5 ⟨v287, rfl, ho0, hi, hb, hk⟩; refine ⟨_, rfl, ?_⟩; have n_ := aN4_ (Kd.N_lower (Kd.N_mono (ok' := fun k_ => (w.heap.size ≤ k_) ∧ k_ ≠ g) (Kd.R_N (Kd.R_bound ho0)) (fun k_ hk_ => ⟨(Nat.le_trans (kz_ HK) hk_.2.1), (IsS98.fresh (qI HI0) k_ hk_.2.1)⟩)) (kz_ HK)) (KeepBut.trans (qK HK) hk (.inl rfl)) (hb) (hi); clear HK HB HI0; obtain ⟨HO288, HK, HB, HI0⟩ := n_; obtain ⟨Ao6, co6, eo6⟩ := Kd.N_slice HO288.out; subst eo6) | ((with_reducible refine gc_ 85 ?_); refine gL_ (some 7) Tryz.func85 #[.slice Ao6 t286.length co6] ?_; (with_reducible refine (spec_StmtsOk.calls k _ _ t286 true _ ?side1 ?side2 A3.out).mono ?_); (case side1 => repeat (first | exact (Kd.N_reads' HO288.out).2.2 | (with_reducible refine Kd.C_alloc ?_ _) | (with_reducible refine Kd.C_drewN ?_ _) | (with_reducible refine Kd.C_drew ?_))); (case side2 => exact (Kd.N_reads' HO288.out).2.1); rintro e w7 ⟨rfl, hb⟩; refine ⟨_, rfl, ?_⟩; have n_ := aN4_ (Kd.N_below (qN (HO288.out)) hb) (IsS98.below (qI HI0) hb) (KeepBut.trans (qK HK) (KeepBut.of_below hb g none) (.inl rfl)) (bT_ (qS HB) hb); clear HO288 HI0 HK HB; obtain ⟨HO288, HI0, HK, HB⟩ := n_))
   go_ret
   exact ⟨_, qE, by (with_reducible repeat (first | apply Kd.N_alloc | apply Kd.N_drewN | apply Kd.N_drew)); exact Kd.N_mono HO288.out (fun _ hk => hk.1), qI HI0, qS HB, qK HK⟩
 replace c4 := Bool.eq_false_iff.mpr c4
 subst c4
 rw [if_neg (show ¬ (false = true) by decide)] at H
 replace H := oB_ H
 obtain ⟨⟨t291, t292, t293, t294, t295, t296, t297, t298, t301, t304, t307⟩, A80, H⟩ := H
 dsimp only at H
 have A8 := aM_ A80
 clear A80
 obtain ⟨y308, hy308⟩ : ∃ y_ : List (S122), y_ = (([(⟨t291, (⟨t292, t293⟩ : S28), (⟨t294, t295, (⟨t296, t297⟩ : S28), t298⟩ : S120), t301, t304⟩ : S122)] : List (S122))) := ⟨_, rfl⟩
 replace H : (some (y308, t307)) = some (r1, r2) := by subst hy308; exact H
 have Ny308 := aM_ hy308
 clear hy308
 simp only [Option.some.injEq, Prod.mk.injEq] at H
 obtain ⟨rfl, rfl⟩ := H
 go_enter Tryz.func57, Tryz.ntmps57
 go_wp2_with (first | ((with_reducible refine gc_ 84 ?_); refine gL_ (some 5) Tryz.func84 #[.pointer (some ⟨g, 0, none⟩), .int .i64 3] ?_; (with_reducible refine (spec_l4List.calls k g s0_0 s0_1 3 t286 t289 w0 _ ?side1 ?side2 A2.out).mono ?_); (case side1 => exact qI HI0); (case side2 => exact qS HB); rintro e w9 ⟨v287, rfl, ho0, hi, hb, hk⟩; refine ⟨_, rfl, ?_⟩; have n_ := aN4_ (Kd.N_lower (Kd.N_mono (ok' := fun k_ => (w.heap.size ≤ k_) ∧ k_ ≠ g) (Kd.R_N (Kd.R_bound ho0)) (fun k_ hk_ => ⟨(Nat.le_trans (kz_ HK) hk_.2.1), (IsS98.fresh (qI HI0) k_ hk_.2.1)⟩)) (kz_ HK)) (KeepBut.trans (qK HK) hk (.inl rfl)) (hb) (hi); clear HK HB HI0; obtain ⟨HO288, HK, HB, HI0⟩ := n_; obtain ⟨Ao10, co10, eo10⟩ := Kd.N_slice HO288.out; subst eo10) | ((with_reducible refine gc_ 85 ?_); refine gL_ (some 7) Tryz.func85 #[.slice Ao10 t286.length co10] ?_; (with_reducible refine (spec_StmtsOk.calls k _ _ t286 false _ ?side1 ?side2 A3.out).mono ?_); (case side1 => repeat (first | exact (Kd.N_reads' HO288.out).2.2 | (with_reducible refine Kd.C_alloc ?_ _) | (with_reducible refine Kd.C_drewN ?_ _) | (with_reducible refine Kd.C_drew ?_))); (case side2 => exact (Kd.N_reads' HO288.out).2.1); rintro e w11 ⟨rfl, hb⟩; refine ⟨_, rfl, ?_⟩; have n_ := aN4_ (Kd.N_below (qN (HO288.out)) hb) (IsS98.below (qI HI0) hb) (KeepBut.trans (qK HK) (KeepBut.of_below hb g none) (.inl rfl)) (bT_ (qS HB) hb); clear HO288 HI0 HK HB; obtain ⟨HO288, HI0, HK, HB⟩ := n_) | ((with_reducible refine gc_ 86 ?_); refine gL_ (some 10) Tryz.func86 #[.pointer (some ⟨g, 0, none⟩)] ?_; (with_reducible refine (spec_l4Count.calls g s0_0 t289 t291 t292 t293 t294 t295 t296 t297 t298 t301 t304 t307 w0 _ ?side1 ?side2 A8.out).mono ?_); (case side1 => exact qI HI0); (case side2 => exact qS HB); rintro e w12 ⟨v299, v302, v305, rfl, ho0, ho1, ho2, hi, hb, hk⟩; refine ⟨_, rfl, ?_⟩; have n_ := aN7_ (Kd.N_mono (Kd.N_told (Kd.N_told (Kd.N_told (Kd.N_oldK (Kd.N_mono (ok := fun k_ => (((w.heap.size ≤ k_)) ∧ k_ ≠ g)) (qN (HO288.out)) (fun k_ hk_ => (⟨hk_, hk_.2⟩ : _ ∧ k_ ≠ g))) hk) (Kd.R_base ho0)) (Kd.R_base ho1)) (Kd.R_base ho2)) (fun _ h_ => h_.1)) (Kd.N_lower (Kd.N_mono (ok' := fun k_ => (w.heap.size ≤ k_) ∧ some k_ ≠ (v302 : Value).ownBlock ∧ some k_ ≠ (v305 : Value).ownBlock ∧ some k_ ≠ (.slice Ao10 t286.length co10 : Value).ownBlock ∧ k_ ≠ g) (Kd.R_N (Kd.R_bound (Kd.R_apart' (Kd.R_apart' ho0 (Kd.R_typed ho1) (by decide)) (Kd.R_typed ho2) (by decide)))) (fun k_ hk_ => ⟨(Nat.le_trans (kz_ HK) hk_.2.1), hk_.1.1.2, hk_.1.2, (Kd.fresh' (Kd.N_lt (qN (HO288.out))) k_ hk_.2.1), (IsS98.fresh (qI HI0) k_ hk_.2.1)⟩)) (kz_ HK)) (Kd.N_lower (Kd.N_mono (ok' := fun k_ => (w.heap.size ≤ k_) ∧ some k_ ≠ (v299 : Value).ownBlock ∧ some k_ ≠ (v305 : Value).ownBlock ∧ some k_ ≠ (.slice Ao10 t286.length co10 : Value).ownBlock ∧ k_ ≠ g) (Kd.R_N (Kd.R_bound ho1)) (fun k_ hk_ => ⟨(Nat.le_trans (kz_ HK) hk_.2.1), hk_.1.1, hk_.1.2, (Kd.fresh' (Kd.N_lt (qN (HO288.out))) k_ hk_.2.1), (IsS98.fresh (qI HI0) k_ hk_.2.1)⟩)) (kz_ HK)) (Kd.N_lower (Kd.N_mono (ok' := fun k_ => (w.heap.size ≤ k_) ∧ some k_ ≠ (v299 : Value).ownBlock ∧ some k_ ≠ (v302 : Value).ownBlock ∧ some k_ ≠ (.slice Ao10 t286.length co10 : Value).ownBlock ∧ k_ ≠ g) (Kd.R_N (Kd.R_bound ho2)) (fun k_ hk_ => ⟨(Nat.le_trans (kz_ HK) hk_.2.1), hk_.1.1, hk_.1.2, (Kd.fresh' (Kd.N_lt (qN (HO288.out))) k_ hk_.2.1), (IsS98.fresh (qI HI0) k_ hk_.2.1)⟩)) (kz_ HK)) (KeepBut.trans (qK HK) hk (.inl rfl)) (hb) (hi); clear HO288 HK HB HI0; obtain ⟨HO288, HO300, HO303, HO306, HK, HB, HI0⟩ := n_; obtain ⟨Ao13, co13, eo13⟩ := Kd.N_slice HO300.out; subst eo13; obtain ⟨Ao14, co14, eo14⟩ := Kd.N_slice HO303.out; subst eo14; obtain ⟨Ao15, co15, eo15⟩ := Kd.N_slice HO306.out; subst eo15) | ((with_reducible refine gate_dst (N := 11) rfl ?_); refine Kd.N_lit k122 _ 122 ?hg (N' := 11) ?hd (xs := ([(⟨t291, (⟨t292, t293⟩ : S28), (⟨t294, t295, (⟨t296, t297⟩ : S28), t298⟩ : S120), t301, t304⟩ : S122)] : List (S122))) (inner := [.int .i64 t291, .int .i64 t292, .int .i64 t293, .int .i64 t294, .int .i64 t295, .int .i64 t296, .int .i64 t297, .slice Ao13 t298.length co13, .slice Ao14 t301.length co14, .slice Ao15 t304.length co15]) (ok := (fun k_ => (w.heap.size ≤ k_) ∧ some k_ ≠ (.slice Ao10 t286.length co10 : Value).ownBlock ∧ k_ ≠ g)) (okp := (fun k_ => (w.heap.size ≤ k_) ∧ some k_ ≠ (.slice Ao10 t286.length co10 : Value).ownBlock ∧ k_ ≠ g)) ?hr ?hp (fun _ hk => hk) ((show ∀ k_, w12.heap.size ≤ k_ → (fun k_ => (w.heap.size ≤ k_) ∧ some k_ ≠ (.slice Ao10 t286.length co10 : Value).ownBlock ∧ k_ ≠ g) k_ from fun k_ hk => ⟨(Nat.le_trans (kz_ HK) hk), Kd.fresh' (Kd.N_lt (qN (HO288.out))) k_ hk, IsS98.fresh (qI HI0) k_ hk⟩) _ (Nat.le_refl _)) (Below.refl _ _) (Nat.le_refl _) (by simp) ?_; (case hd => rfl); (case hg => rfl); (case hr => first | (go_simp; done) | (go_simp; rfl)); (case hp => exact (Reps.c10 (show Kd.FK k122 _ _ (⟨t291, (⟨t292, t293⟩ : S28), (⟨t294, t295, (⟨t296, t297⟩ : S28), t298⟩ : S120), t301, t304⟩ : S122) [.int .i64 t291, .int .i64 t292, .int .i64 t293, .int .i64 t294, .int .i64 t295, .int .i64 t296, .int .i64 t297, .slice Ao13 t298.length co13, .slice Ao14 t301.length co14, .slice Ao15 t304.length co15] from (k122_mkF _ _ (⟨t291, (⟨t292, t293⟩ : S28), (⟨t294, t295, (⟨t296, t297⟩ : S28), t298⟩ : S120), t301, t304⟩ : S122) (Kd.N_reads' (Kd.N_mono (ok' := (fun k_ => (w.heap.size ≤ k_) ∧ some k_ ≠ (.slice Ao10 t286.length co10 : Value).ownBlock ∧ k_ ≠ g)) (HO300.out) (fun k_ hk => ⟨hk.1, ⟨hk.2.2.2.1, hk.2.2.2.2⟩⟩))).2.1 (Kd.N_F (Kd.N_mono (ok' := (fun k_ => (w.heap.size ≤ k_) ∧ some k_ ≠ (.slice Ao10 t286.length co10 : Value).ownBlock ∧ k_ ≠ g)) (HO300.out) (fun k_ hk => ⟨hk.1, ⟨hk.2.2.2.1, hk.2.2.2.2⟩⟩))) (Kd.N_reads' (Kd.N_mono (ok' := (fun k_ => (w.heap.size ≤ k_) ∧ some k_ ≠ (.slice Ao10 t286.length co10 : Value).ownBlock ∧ k_ ≠ g)) (HO303.out) (fun k_ hk => ⟨hk.1, ⟨hk.2.2.2.1, hk.2.2.2.2⟩⟩))).2.1 (Kd.N_F (Kd.N_mono (ok' := (fun k_ => (w.heap.size ≤ k_) ∧ some k_ ≠ (.slice Ao10 t286.length co10 : Value).ownBlock ∧ k_ ≠ g)) (HO303.out) (fun k_ hk => ⟨hk.1, ⟨hk.2.2.2.1, hk.2.2.2.2⟩⟩))) (Kd.N_reads' (Kd.N_mono (ok' := (fun k_ => (w.heap.size ≤ k_) ∧ some k_ ≠ (.slice Ao10 t286.length co10 : Value).ownBlock ∧ k_ ≠ g)) (HO306.out) (fun k_ hk => ⟨hk.1, ⟨hk.2.2.2.1, hk.2.2.2.2⟩⟩))).2.1 (Kd.N_F (Kd.N_mono (ok' := (fun k_ => (w.heap.size ≤ k_) ∧ some k_ ≠ (.slice Ao10 t286.length co10 : Value).ownBlock ∧ k_ ≠ g)) (HO306.out) (fun k_ hk => ⟨hk.1, ⟨hk.2.2.2.1, hk.2.2.2.2⟩⟩))))) (Reps.none _ _))); intro v309 w16 ho17 hb hg_ hnew_; clear hg_ hnew_; (first | rw [← Ny308.out] at ho17 | (simp only [Int.reduceToNat] at ho17; rw [← Ny308.out] at ho17)); have n0_ := aM_ (Kd.N_elder' (qN (HO288.out)) (Kd.N_base ho17) hb); have n1_ := aM_ (Kd.N_lower ho17 (kz_ HK)); have n2_ := aM_ (IsS98.below (qI HI0) hb); have n3_ := aM_ (KeepBut.trans (qK HK) (KeepBut.of_below hb g none) (.inl rfl)); have n4_ := aM_ (bT_ (qS HB) hb); clear HO288 HI0 HK HB HO300 HO303 HO306; have HO288 := n0_; have HO310 := n1_; have HI0 := n2_; have HK := n3_; have HB := n4_; clear n0_ n1_ n2_ n3_ n4_ hb ho17))
 go_ret
 exact ⟨_, qE, by (with_reducible repeat (first | apply Kd.N_alloc | apply Kd.N_drewN | apply Kd.N_drew)); exact Kd.N_mono HO310.out (fun _ hk => hk.1), qI HI0, qS HB, qK HK⟩
def spec_l2AddrBent.f (k : Nat) (s0_0 : List Int) (s0_1 : Int) : Option (Int × Int × Int) := (spec_l2Addr.f k s0_0 s0_1).bind fun bt312 => ((spec_l12Rd_pick.f k s0_0 bt312.2.2 16).bind fun bt316 => (if bt316.1 = 0 then ((spec_l12Rd_num.f k s0_0 bt316.2 (([0, 4, (-1)] : List Int))).bind fun bt321 => (some (bt321.1, bt312.2.1, bt321.2))) else (if bt316.1 = 1 then ((spec_l12Rd_num.f k s0_0 bt316.2 (([(-1), 6, 5] : List Int))).bind fun bt326 => (some (bt312.1, bt326.1, bt326.2))) else (some (bt312.1, bt312.2.1, bt316.2)))))
set_option maxHeartbeats 8000000 in
set_option maxRecDepth 100000 in
theorem spec_l2AddrBent.calls (k : Nat) (g : Nat) (s0_0 : List Int) (s0_1 : Int) (r1 : Int) (r2 : Int) (r3 : Int) (w0 w : World) (hI : IsS98 w0 w g s0_0 s0_1) (hB : Below w0.heap.size w0 w) (h : spec_l2AddrBent.f k s0_0 s0_1 = some (r1, r2, r3)) :
    Calls Tryz.prog 59 #[.pointer (some ⟨g, 0, none⟩)] w fun e w' => e = .returned (.agg #[.int .i64 r1, .int .i64 r2]) ∧ IsS98 w0 w' g s0_0 r3 ∧ Below w0.heap.size w0 w' ∧ KeepBut w w' g none := by
 have hu28 := Tryz.underlying28
 have HI0 := aM_ hI
 have HK := aM_ (KeepBut.refl w g none)
 have HL := aM_ hB.size
 clear hI
 have HW0 := aM_ hB.size
 have HB := aM_ hB
 clear hB
 have H : ((spec_l2Addr.f k s0_0 s0_1).bind fun bt312 => ((spec_l12Rd_pick.f k s0_0 bt312.2.2 16).bind fun bt316 => (if bt316.1 = 0 then ((spec_l12Rd_num.f k s0_0 bt316.2 (([0, 4, (-1)] : List Int))).bind fun bt321 => (some (bt321.1, bt312.2.1, bt321.2))) else (if bt316.1 = 1 then ((spec_l12Rd_num.f k s0_0 bt316.2 (([(-1), 6, 5] : List Int))).bind fun bt326 => (some (bt312.1, bt326.1, bt326.2))) else (some (bt312.1, bt312.2.1, bt316.2)))))) = some (r1, r2, r3) := h
 clear h
 replace H := oB_ H
 obtain ⟨⟨t312, t313, t314⟩, A20, H⟩ := H
 dsimp only at H
 have A2 := aM_ A20
 clear A20
 replace H := oB_ H
 obtain ⟨⟨t316, t317⟩, A30, H⟩ := H
 dsimp only at H
 have A3 := aM_ A30
 clear A30
 by_cases c4 : t316 = 0
 · rw [if_pos c4] at H
   have c4b0 : (t316 == 0) = true := beq_iff_eq.mpr c4
   have c4b1 : (t316 != 0) = false := bne_eq_false_iff_eq.mpr c4
   clear c4
   obtain ⟨y318, hy318⟩ : ∃ y_ : List Int, y_ = (([0, 4, (-1)] : List Int)) := ⟨_, rfl⟩
   replace H : ((spec_l12Rd_num.f k s0_0 t317 y318).bind fun bt321 => (some (bt321.1, t313, bt321.2))) = some (r1, r2, r3) := by subst hy318; exact H
   have Ny318 := aM_ hy318
   clear hy318
   replace H := oB_ H
   obtain ⟨⟨t321, t322⟩, A50, H⟩ := H
   dsimp only at H
   have A5 := aM_ A50
   clear A50
   simp only [Option.some.injEq, Prod.mk.injEq] at H
   obtain ⟨rfl, rfl, rfl⟩ := H
   go_enter Tryz.func59, Tryz.ntmps59
   go_wp2_with (first | ((with_reducible refine gate_dst (N := 2) rfl ?_); refine box_event ?hg (N := 2) ?hd (cs := #[.int .i64 0, .int .i64 0]) (t := 28) ?hr ?_; (case hd => rfl); (case hg => rfl); (case hr => first | (go_simp; done) | (go_simp; rfl)); intro gb311 hg w6 hbox hb; have n0_ := aM_ (IsS98.below (qI HI0) hb); have n1_ := aM_ (KeepBut.trans (qK HK) (KeepBut.of_below hb g none) (.inl rfl)); have n2_ := aM_ (bT_ (qS HB) hb); have n3_ := aM_ (hbox); have n4_ := aM_ ((by rw [hg]; exact (kz_ HK) : w.heap.size ≤ gb311)); have n5_ := aM_ ((Nat.le_trans HW0.out (by rw [hg]; exact (kz_ HK) : w.heap.size ≤ gb311) : w0.heap.size ≤ gb311)); have n6_ := aM_ ((by rw [hg]; exact Nat.ne_of_lt (IsS98.lt (show IsS98 w0 _ g s0_0 s0_1 from qI HI0)) : g ≠ gb311)); have n7_ := aM_ ((by rw [hg]; exact Nat.ne_of_gt (IsS98.lt (show IsS98 w0 _ g s0_0 s0_1 from qI HI0)) : gb311 ≠ g)); clear HI0 HK HB; have HI0 := n0_; have HK := n1_; have HB := n2_; have BK311 := n3_; have GW311 := n4_; have GE311 := n5_; have NB0_311 := n6_; have NB311_0 := n7_; clear n0_ n1_ n2_ n3_ n4_ n5_ n6_ n7_ hb hbox hg) | ((with_reducible refine gc_ 87 ?_); refine gL_ (some 5) Tryz.func87 #[.pointer (some ⟨g, 0, none⟩)] ?_; (with_reducible refine (spec_l2Addr.calls k g s0_0 s0_1 t312 t313 t314 w0 _ ?side1 ?side2 A2.out).mono ?_); (case side1 => exact qI HI0); (case side2 => exact qS HB); rintro e w7 ⟨rfl, hi, hb, hk⟩; refine ⟨_, rfl, ?_⟩; have n_ := aN4_ (KeepBut.blk hk (g' := gb311) (o := .cells #[.int .i64 0, .int .i64 0] 28 (0, 0)) qk NB311_0.out (by simp)) (KeepBut.trans (qK HK) hk (.inl rfl)) (hb) (hi); clear BK311 HK HB HI0; obtain ⟨BK311, HK, HB, HI0⟩ := n_) | ((with_reducible refine gate_dst (N := 3) rfl ?_); refine box_event ?hg (N := 3) ?hd (cs := #[.int .i64 0, .int .i64 0]) (t := 28) ?hr ?_; (case hd => rfl); (case hg => rfl); (case hr => first | (go_simp; done) | (go_simp; rfl)); intro gb315 hg w8 hbox hb; have n0_ := aM_ (IsS98.below (qI HI0) hb); have n1_ := aM_ (blk_below (g := gb311) (o := .cells #[.int .i64 0, .int .i64 0] 28 (0, 0)) qk hb); have n2_ := aM_ (KeepBut.trans (qK HK) (KeepBut.of_below hb g none) (.inl rfl)); have n3_ := aM_ (bT_ (qS HB) hb); have n4_ := aM_ (hbox); have n5_ := aM_ ((by rw [hg]; exact (kz_ HK) : w.heap.size ≤ gb315)); have n6_ := aM_ ((Nat.le_trans HW0.out (by rw [hg]; exact (kz_ HK) : w.heap.size ≤ gb315) : w0.heap.size ≤ gb315)); have n7_ := aM_ ((by rw [hg]; exact Nat.ne_of_lt (blk_lt (g := gb311) (o := .cells #[.int .i64 0, .int .i64 0] 28 (0, 0)) qk) : gb311 ≠ gb315)); have n8_ := aM_ ((by rw [hg]; exact Nat.ne_of_gt (blk_lt (g := gb311) (o := .cells #[.int .i64 0, .int .i64 0] 28 (0, 0)) qk) : gb315 ≠ gb311)); have n9_ := aM_ ((by rw [hg]; exact Nat.ne_of_lt (IsS98.lt (show IsS98 w0 _ g s0_0 t314 from qI HI0)) : g ≠ gb315)); have n10_ := aM_ ((by rw [hg]; exact Nat.ne_of_gt (IsS98.lt (show IsS98 w0 _ g s0_0 t314 from qI HI0)) : gb315 ≠ g)); clear HI0 BK311 HK HB; have HI0 := n0_; have BK311 := n1_; have HK := n2_; have HB := n3_; have BK315 := n4_; have GW315 := n5_; have GE315 := n6_; have NB311_315 := n7_; have NB315_311 := n8_; have NB0_315 := n9_; have NB315_0 := n10_; clear n0_ n1_ n2_ n3_ n4_ n5_ n6_ n7_ n8_ n9_ n10_ hb hbox hg; have hnb9 := NB315_311.out; have hnc9 := NB311_315.out; have hnb10 := NB315_0.out; have hnc10 := NB0_315.out; (obtain ⟨hcz11_0, hcz11_1⟩ := cells2 BK315.out); (obtain ⟨hfz11_0, hfz11_1⟩ := frozen2 BK315.out)) | ((with_reducible refine gc_ 58 ?_); refine gL_ (some 7) Tryz.func58 #[.pointer (some ⟨g, 0, none⟩), .int .i64 16] ?_; (with_reducible refine (spec_l12Rd_pick.calls k g s0_0 t314 16 t316 t317 w0 _ ?side1 ?side2 A3.out).mono ?_); (case side1 => exact qI HI0); (case side2 => exact qS HB); rintro e w12 ⟨rfl, hi, hb, hk⟩; refine ⟨_, rfl, ?_⟩; have n_ := aN5_ (KeepBut.blk hk (g' := gb311) (o := .cells #[.int .i64 0, .int .i64 0] 28 (0, 0)) (by (with_reducible repeat (first | refine kN_ ?_ _ | refine kD_ ?_ | refine kA_ ?_ _)); refine blk_far ?_ NB311_315.out _; (with_reducible repeat (first | refine kN_ ?_ _ | refine kD_ ?_ | refine kA_ ?_ _)); refine blk_far ?_ NB311_315.out _; (with_reducible repeat (first | refine kN_ ?_ _ | refine kD_ ?_ | refine kA_ ?_ _)); exact BK311.out) NB311_0.out (by simp)) (KeepBut.blk hk (g' := gb315) (o := .cells #[.int .i64 t312, .int .i64 t313] 28 (0, 0)) (by (with_reducible repeat (first | refine kN_ ?_ _ | refine kD_ ?_ | refine kA_ ?_ _)); refine kP_ (cs := #[.int .i64 t312, .int .i64 0]) ?_ 1 _ rfl; (with_reducible repeat (first | refine kN_ ?_ _ | refine kD_ ?_ | refine kA_ ?_ _)); refine kP_ (cs := #[.int .i64 0, .int .i64 0]) ?_ 0 _ rfl; (with_reducible repeat (first | refine kN_ ?_ _ | refine kD_ ?_ | refine kA_ ?_ _)); exact BK315.out) NB315_0.out (by simp)) (KeepBut.trans (qK HK) hk (.inl rfl)) (hb) (hi); clear BK311 BK315 HK HB HI0; obtain ⟨BK311, BK315, HK, HB, HI0⟩ := n_) | ((with_reducible refine gate_dst (N := 11) rfl ?_); refine Kd.R_lit (Kd.int .i64) _ 3 ?hg (N := 11) ?hd (xs := ([0, 4, (-1)] : List Int)) (inner := [.int .i64 0, .int .i64 4, .int .i64 (-1)]) (ok := fun _ => True) (okp := fun _ => True) ?hr ?hp (fun _ hk => hk) trivial (Below.refl _ _) (Nat.le_refl _) (by simp) ?_; (case hd => rfl); (case hg => rfl); (case hr => first | (go_simp; done) | (go_simp; rfl)); (case hp => exact (Reps.one (show Kd.M (Kd.int .i64) _ _ _ 0 [.int .i64 0] from rfl) (Reps.one (show Kd.M (Kd.int .i64) _ _ _ 4 [.int .i64 4] from rfl) (Reps.one (show Kd.M (Kd.int .i64) _ _ _ (-1) [.int .i64 (-1)] from rfl) (Reps.none _ _))))); intro v319 w13 ho14 hb hg_ hnew_; clear hg_ hnew_; (first | rw [← Ny318.out] at ho14 | (simp only [Int.reduceToNat] at ho14; rw [← Ny318.out] at ho14)); have n0_ := aM_ (Kd.R_lower ho14 (kz_ HK)); have n1_ := aM_ (IsS98.below (qI HI0) hb); have n2_ := aM_ (blk_below (g := gb311) (o := .cells #[.int .i64 0, .int .i64 0] 28 (0, 0)) qk hb); have n3_ := aM_ (blk_below (g := gb315) (o := .cells #[.int .i64 t312, .int .i64 t313] 28 (0, 0)) qk hb); have n4_ := aM_ (KeepBut.trans (qK HK) (KeepBut.of_below hb g none) (.inl rfl)); have n5_ := aM_ (bT_ (qS HB) hb); clear HI0 BK311 BK315 HK HB; have HO320 := n0_; have HI0 := n1_; have BK311 := n2_; have BK315 := n3_; have HK := n4_; have HB := n5_; clear n0_ n1_ n2_ n3_ n4_ n5_ hb ho14; obtain ⟨Ao15, co15, eo15⟩ := Kd.R_slice HO320.out; subst eo15) | ((with_reducible refine gc_ 35 ?_); refine gL_ (some 12) Tryz.func35 #[.pointer (some ⟨g, 0, none⟩), .slice Ao15 y318.length co15] ?_; (with_reducible refine (spec_l12Rd_num.calls k g s0_0 t317 _ _ y318 t321 t322 w0 _ ?side1 ?side2 ?side3 ?side4 ?side5 A5.out).mono ?_); (case side1 => exact qI HI0); (case side2 => exact qS HB); (case side3 => exact qC ((Kd.R_reads' HO320.out).2.2)); (case side4 => exact (Kd.R_reads' HO320.out).2.1); (case side5 => exact far_slice (IsS98.own_ne HI0.out HO320.out (by decide))); rintro e w16 ⟨rfl, hi, hb, hk⟩; refine ⟨_, rfl, ?_⟩; have n_ := aN6_ (KeepBut.blk hk (g' := gb311) (o := .cells #[.int .i64 0, .int .i64 0] 28 (0, 0)) qk NB311_0.out (by simp)) (KeepBut.blk hk (g' := gb315) (o := .cells #[.int .i64 t312, .int .i64 t313] 28 (0, 0)) qk NB315_0.out (by simp)) (Kd.R_mono (Kd.R_keep (IsS98.apart (show IsS98 w0 _ g s0_0 t317 from qI HI0) (qR HO320) (by decide)) hk (fun _ h => h.2)) (fun _ h => h.1)) (KeepBut.trans (qK HK) hk (.inl rfl)) (hb) (hi); clear BK311 BK315 HO320 HK HB HI0; obtain ⟨BK311, BK315, HO320, HK, HB, HI0⟩ := n_; (obtain ⟨hcz17_0, hcz17_1⟩ := cells2 BK315.out); (obtain ⟨hfz17_0, hfz17_1⟩ := frozen2 BK315.out); have hnb18 := NB311_0.out; have hnc18 := NB0_311.out; (obtain ⟨hcz19_0, hcz19_1⟩ := cells2 BK311.out); (obtain ⟨hfz19_0, hfz19_1⟩ := frozen2 BK311.out)))
   refine bodyPost_ret (results_cell_row rfl _ _ gb311 28 #[.int .i64 t321, .int .i64 t313] (0, 0) _ rfl (by (with_reducible repeat (first | refine kN_ ?_ _ | refine kD_ ?_ | refine kA_ ?_ _)); refine kP_ (cs := #[.int .i64 t321, .int .i64 0]) ?_ 1 _ rfl; (with_reducible repeat (first | refine kN_ ?_ _ | refine kD_ ?_ | refine kA_ ?_ _)); refine kP_ (cs := #[.int .i64 0, .int .i64 0]) ?_ 0 _ rfl; (with_reducible repeat (first | refine kN_ ?_ _ | refine kD_ ?_ | refine kA_ ?_ _)); refine blk_far ?_ NB311_315.out _; (with_reducible repeat (first | refine kN_ ?_ _ | refine kD_ ?_ | refine kA_ ?_ _)); exact BK311.out) Tryz.underlying28 rfl (by kernel_rfl)) rfl ?_
   exact ⟨qE, qI HI0, qS HB, qK HK⟩
 rw [if_neg c4] at H
 have c4b0 : (t316 == 0) = false := beq_eq_false_iff_ne.mpr c4
 have c4b1 : (t316 != 0) = true := bne_iff_ne.mpr c4
 by_cases c20 : t316 = 1
 rotate_left
 · rw [if_neg c20] at H
   have c20b0 : (t316 == 1) = false := beq_eq_false_iff_ne.mpr c20
   have c20b1 : (t316 != 1) = true := bne_iff_ne.mpr c20
   simp only [Option.some.injEq, Prod.mk.injEq] at H
   obtain ⟨rfl, rfl, rfl⟩ := H
   go_enter Tryz.func59, Tryz.ntmps59
   go_wp2_with (first | ((with_reducible refine gate_dst (N := 2) rfl ?_); refine box_event ?hg (N := 2) ?hd (cs := #[.int .i64 0, .int .i64 0]) (t := 28) ?hr ?_; (case hd => rfl); (case hg => rfl); (case hr => first | (go_simp; done) | (go_simp; rfl)); intro gb311 hg w36 hbox hb; have n0_ := aM_ (IsS98.below (qI HI0) hb); have n1_ := aM_ (KeepBut.trans (qK HK) (KeepBut.of_below hb g none) (.inl rfl)); have n2_ := aM_ (bT_ (qS HB) hb); have n3_ := aM_ (hbox); have n4_ := aM_ ((by rw [hg]; exact (kz_ HK) : w.heap.size ≤ gb311)); have n5_ := aM_ ((Nat.le_trans HW0.out (by rw [hg]; exact (kz_ HK) : w.heap.size ≤ gb311) : w0.heap.size ≤ gb311)); have n6_ := aM_ ((by rw [hg]; exact Nat.ne_of_lt (IsS98.lt (show IsS98 w0 _ g s0_0 s0_1 from qI HI0)) : g ≠ gb311)); have n7_ := aM_ ((by rw [hg]; exact Nat.ne_of_gt (IsS98.lt (show IsS98 w0 _ g s0_0 s0_1 from qI HI0)) : gb311 ≠ g)); clear HI0 HK HB; have HI0 := n0_; have HK := n1_; have HB := n2_; have BK311 := n3_; have GW311 := n4_; have GE311 := n5_; have NB0_311 := n6_; have NB311_0 := n7_; clear n0_ n1_ n2_ n3_ n4_ n5_ n6_ n7_ hb hbox hg) | ((with_reducible refine gc_ 87 ?_); refine gL_ (some 5) Tryz.func87 #[.pointer (some ⟨g, 0, none⟩)] ?_; (with_reducible refine (spec_l2Addr.calls k g s0_0 s0_1 t312 t313 t314 w0 _ ?side1 ?side2 A2.out).mono ?_); (case side1 => exact qI HI0); (case side2 => exact qS HB); rintro e w37 ⟨rfl, hi, hb, hk⟩; refine ⟨_, rfl, ?_⟩; have n_ := aN4_ (KeepBut.blk hk (g' := gb311) (o := .cells #[.int .i64 0, .int .i64 0] 28 (0, 0)) qk NB311_0.out (by simp)) (KeepBut.trans (qK HK) hk (.inl rfl)) (hb) (hi); clear BK311 HK HB HI0; obtain ⟨BK311, HK, HB, HI0⟩ := n_) | ((with_reducible refine gate_dst (N := 3) rfl ?_); refine box_event ?hg (N := 3) ?hd (cs := #[.int .i64 0, .int .i64 0]) (t := 28) ?hr ?_; (case hd => rfl); (case hg => rfl); (case hr => first | (go_simp; done) | (go_simp; rfl)); intro gb315 hg w38 hbox hb; have n0_ := aM_ (IsS98.below (qI HI0) hb); have n1_ := aM_ (blk_below (g := gb311) (o := .cells #[.int .i64 0, .int .i64 0] 28 (0, 0)) qk hb); have n2_ := aM_ (KeepBut.trans (qK HK) (KeepBut.of_below hb g none) (.inl rfl)); have n3_ := aM_ (bT_ (qS HB) hb); have n4_ := aM_ (hbox); have n5_ := aM_ ((by rw [hg]; exact (kz_ HK) : w.heap.size ≤ gb315)); have n6_ := aM_ ((Nat.le_trans HW0.out (by rw [hg]; exact (kz_ HK) : w.heap.size ≤ gb315) : w0.heap.size ≤ gb315)); have n7_ := aM_ ((by rw [hg]; exact Nat.ne_of_lt (blk_lt (g := gb311) (o := .cells #[.int .i64 0, .int .i64 0] 28 (0, 0)) qk) : gb311 ≠ gb315)); have n8_ := aM_ ((by rw [hg]; exact Nat.ne_of_gt (blk_lt (g := gb311) (o := .cells #[.int .i64 0, .int .i64 0] 28 (0, 0)) qk) : gb315 ≠ gb311)); have n9_ := aM_ ((by rw [hg]; exact Nat.ne_of_lt (IsS98.lt (show IsS98 w0 _ g s0_0 t314 from qI HI0)) : g ≠ gb315)); have n10_ := aM_ ((by rw [hg]; exact Nat.ne_of_gt (IsS98.lt (show IsS98 w0 _ g s0_0 t314 from qI HI0)) : gb315 ≠ g)); clear HI0 BK311 HK HB; have HI0 := n0_; have BK311 := n1_; have HK := n2_; have HB := n3_; have BK315 := n4_; have GW315 := n5_; have GE315 := n6_; have NB311_315 := n7_; have NB315_311 := n8_; have NB0_315 := n9_; have NB315_0 := n10_; clear n0_ n1_ n2_ n3_ n4_ n5_ n6_ n7_ n8_ n9_ n10_ hb hbox hg; have hnb39 := NB315_311.out; have hnc39 := NB311_315.out; have hnb40 := NB315_0.out; have hnc40 := NB0_315.out; (obtain ⟨hcz41_0, hcz41_1⟩ := cells2 BK315.out); (obtain ⟨hfz41_0, hfz41_1⟩ := frozen2 BK315.out)) | ((with_reducible refine gc_ 58 ?_); refine gL_ (some 7) Tryz.func58 #[.pointer (some ⟨g, 0, none⟩), .int .i64 16] ?_; (with_reducible refine (spec_l12Rd_pick.calls k g s0_0 t314 16 t316 t317 w0 _ ?side1 ?side2 A3.out).mono ?_); (case side1 => exact qI HI0); (case side2 => exact qS HB); rintro e w42 ⟨rfl, hi, hb, hk⟩; refine ⟨_, rfl, ?_⟩; have n_ := aN5_ (KeepBut.blk hk (g' := gb311) (o := .cells #[.int .i64 0, .int .i64 0] 28 (0, 0)) (by (with_reducible repeat (first | refine kN_ ?_ _ | refine kD_ ?_ | refine kA_ ?_ _)); refine blk_far ?_ NB311_315.out _; (with_reducible repeat (first | refine kN_ ?_ _ | refine kD_ ?_ | refine kA_ ?_ _)); refine blk_far ?_ NB311_315.out _; (with_reducible repeat (first | refine kN_ ?_ _ | refine kD_ ?_ | refine kA_ ?_ _)); exact BK311.out) NB311_0.out (by simp)) (KeepBut.blk hk (g' := gb315) (o := .cells #[.int .i64 t312, .int .i64 t313] 28 (0, 0)) (by (with_reducible repeat (first | refine kN_ ?_ _ | refine kD_ ?_ | refine kA_ ?_ _)); refine kP_ (cs := #[.int .i64 t312, .int .i64 0]) ?_ 1 _ rfl; (with_reducible repeat (first | refine kN_ ?_ _ | refine kD_ ?_ | refine kA_ ?_ _)); refine kP_ (cs := #[.int .i64 0, .int .i64 0]) ?_ 0 _ rfl; (with_reducible repeat (first | refine kN_ ?_ _ | refine kD_ ?_ | refine kA_ ?_ _)); exact BK315.out) NB315_0.out (by simp)) (KeepBut.trans (qK HK) hk (.inl rfl)) (hb) (hi); clear BK311 BK315 HK HB HI0; obtain ⟨BK311, BK315, HK, HB, HI0⟩ := n_; (obtain ⟨hcz43_0, hcz43_1⟩ := cells2 BK315.out); (obtain ⟨hfz43_0, hfz43_1⟩ := frozen2 BK315.out); have hnb44 := NB311_0.out; have hnc44 := NB0_311.out; (obtain ⟨hcz45_0, hcz45_1⟩ := cells2 BK311.out); (obtain ⟨hfz45_0, hfz45_1⟩ := frozen2 BK311.out)))
   refine bodyPost_ret (results_cell_row rfl _ _ gb311 28 #[.int .i64 t312, .int .i64 t313] (0, 0) _ rfl (by (with_reducible repeat (first | refine kN_ ?_ _ | refine kD_ ?_ | refine kA_ ?_ _)); refine kP_ (cs := #[.int .i64 t312, .int .i64 0]) ?_ 1 _ rfl; (with_reducible repeat (first | refine kN_ ?_ _ | refine kD_ ?_ | refine kA_ ?_ _)); refine kP_ (cs := #[.int .i64 0, .int .i64 0]) ?_ 0 _ rfl; (with_reducible repeat (first | refine kN_ ?_ _ | refine kD_ ?_ | refine kA_ ?_ _)); exact BK311.out) Tryz.underlying28 rfl (by kernel_rfl)) rfl ?_
   exact ⟨qE, qI HI0, qS HB, qK HK⟩
 rw [if_pos c20] at H
 have c20b0 : (t316 == 1) = true := beq_iff_eq.mpr c20
 have c20b1 : (t316 != 1) = false := bne_eq_false_iff_eq.mpr c20
 clear c20
 obtain ⟨y323, hy323⟩ : ∃ y_ : List Int, y_ = (([(-1), 6, 5] : List Int)) := ⟨_, rfl⟩
 replace H : ((spec_l12Rd_num.f k s0_0 t317 y323).bind fun bt326 => (some (t312, bt326.1, bt326.2))) = some (r1, r2, r3) := by subst hy323; exact H
 have Ny323 := aM_ hy323
 clear hy323
 replace H := oB_ H
 obtain ⟨⟨t326, t327⟩, A210, H⟩ := H
 dsimp only at H
 have A21 := aM_ A210
 clear A210
 simp only [Option.some.injEq, Prod.mk.injEq] at H
 obtain ⟨rfl, rfl, rfl⟩ := H
 go_enter Tryz.func59, Tryz.ntmps59
 go_wp2_with (first | ((with_reducible refine gate_dst (N := 2) rfl ?_); refine box_event ?hg (N := 2) ?hd (cs := #[.int .i64 0, .int .i64 0]) (t := 28) ?hr ?_; (case hd => rfl); (case hg => rfl); (case hr => first | (go_simp; done) | (go_simp; rfl)); intro gb311 hg w22 hbox hb; have n0_ := aM_ (IsS98.below (qI HI0) hb); have n1_ := aM_ (KeepBut.trans (qK HK) (KeepBut.of_below hb g none) (.inl rfl)); have n2_ := aM_ (bT_ (qS HB) hb); have n3_ := aM_ (hbox); have n4_ := aM_ ((by rw [hg]; exact (kz_ HK) : w.heap.size ≤ gb311)); have n5_ := aM_ ((Nat.le_trans HW0.out (by rw [hg]; exact (kz_ HK) : w.heap.size ≤ gb311) : w0.heap.size ≤ gb311)); have n6_ := aM_ ((by rw [hg]; exact Nat.ne_of_lt (IsS98.lt (show IsS98 w0 _ g s0_0 s0_1 from qI HI0)) : g ≠ gb311)); have n7_ := aM_ ((by rw [hg]; exact Nat.ne_of_gt (IsS98.lt (show IsS98 w0 _ g s0_0 s0_1 from qI HI0)) : gb311 ≠ g)); clear HI0 HK HB; have HI0 := n0_; have HK := n1_; have HB := n2_; have BK311 := n3_; have GW311 := n4_; have GE311 := n5_; have NB0_311 := n6_; have NB311_0 := n7_; clear n0_ n1_ n2_ n3_ n4_ n5_ n6_ n7_ hb hbox hg) | ((with_reducible refine gc_ 87 ?_); refine gL_ (some 5) Tryz.func87 #[.pointer (some ⟨g, 0, none⟩)] ?_; (with_reducible refine (spec_l2Addr.calls k g s0_0 s0_1 t312 t313 t314 w0 _ ?side1 ?side2 A2.out).mono ?_); (case side1 => exact qI HI0); (case side2 => exact qS HB); rintro e w23 ⟨rfl, hi, hb, hk⟩; refine ⟨_, rfl, ?_⟩; have n_ := aN4_ (KeepBut.blk hk (g' := gb311) (o := .cells #[.int .i64 0, .int .i64 0] 28 (0, 0)) qk NB311_0.out (by simp)) (KeepBut.trans (qK HK) hk (.inl rfl)) (hb) (hi); clear BK311 HK HB HI0; obtain ⟨BK311, HK, HB, HI0⟩ := n_) | ((with_reducible refine gate_dst (N := 3) rfl ?_); refine box_event ?hg (N := 3) ?hd (cs := #[.int .i64 0, .int .i64 0]) (t := 28) ?hr ?_; (case hd => rfl); (case hg => rfl); (case hr => first | (go_simp; done) | (go_simp; rfl)); intro gb315 hg w24 hbox hb; have n0_ := aM_ (IsS98.below (qI HI0) hb); have n1_ := aM_ (blk_below (g := gb311) (o := .cells #[.int .i64 0, .int .i64 0] 28 (0, 0)) qk hb); have n2_ := aM_ (KeepBut.trans (qK HK) (KeepBut.of_below hb g none) (.inl rfl)); have n3_ := aM_ (bT_ (qS HB) hb); have n4_ := aM_ (hbox); have n5_ := aM_ ((by rw [hg]; exact (kz_ HK) : w.heap.size ≤ gb315)); have n6_ := aM_ ((Nat.le_trans HW0.out (by rw [hg]; exact (kz_ HK) : w.heap.size ≤ gb315) : w0.heap.size ≤ gb315)); have n7_ := aM_ ((by rw [hg]; exact Nat.ne_of_lt (blk_lt (g := gb311) (o := .cells #[.int .i64 0, .int .i64 0] 28 (0, 0)) qk) : gb311 ≠ gb315)); have n8_ := aM_ ((by rw [hg]; exact Nat.ne_of_gt (blk_lt (g := gb311) (o := .cells #[.int .i64 0, .int .i64 0] 28 (0, 0)) qk) : gb315 ≠ gb311)); have n9_ := aM_ ((by rw [hg]; exact Nat.ne_of_lt (IsS98.lt (show IsS98 w0 _ g s0_0 t314 from qI HI0)) : g ≠ gb315)); have n10_ := aM_ ((by rw [hg]; exact Nat.ne_of_gt (IsS98.lt (show IsS98 w0 _ g s0_0 t314 from qI HI0)) : gb315 ≠ g)); clear HI0 BK311 HK HB; have HI0 := n0_; have BK311 := n1_; have HK := n2_; have HB := n3_; have BK315 := n4_; have GW315 := n5_; have GE315 := n6_; have NB311_315 := n7_; have NB315_311 := n8_; have NB0_315 := n9_; have NB315_0 := n10_; clear n0_ n1_ n2_ n3_ n4_ n5_ n6_ n7_ n8_ n9_ n10_ hb hbox hg; have hnb25 := NB315_311.out; have hnc25 := NB311_315.out; have hnb26 := NB315_0.out; have hnc26 := NB0_315.out; (obtain ⟨hcz27_0, hcz27_1⟩ := cells2 BK315.out); (obtain ⟨hfz27_0, hfz27_1⟩ := frozen2 BK315.out)) | ((with_reducible refine gc_ 58 ?_); refine gL_ (some 7) Tryz.func58 #[.pointer (some ⟨g, 0, none⟩), .int .i64 16] ?_; (with_reducible refine (spec_l12Rd_pick.calls k g s0_0 t314 16 t316 t317 w0 _ ?side1 ?side2 A3.out).mono ?_); (case side1 => exact qI HI0); (case side2 => exact qS HB); rintro e w28 ⟨rfl, hi, hb, hk⟩; refine ⟨_, rfl, ?_⟩; have n_ := aN5_ (KeepBut.blk hk (g' := gb311) (o := .cells #[.int .i64 0, .int .i64 0] 28 (0, 0)) (by (with_reducible repeat (first | refine kN_ ?_ _ | refine kD_ ?_ | refine kA_ ?_ _)); refine blk_far ?_ NB311_315.out _; (with_reducible repeat (first | refine kN_ ?_ _ | refine kD_ ?_ | refine kA_ ?_ _)); refine blk_far ?_ NB311_315.out _; (with_reducible repeat (first | refine kN_ ?_ _ | refine kD_ ?_ | refine kA_ ?_ _)); exact BK311.out) NB311_0.out (by simp)) (KeepBut.blk hk (g' := gb315) (o := .cells #[.int .i64 t312, .int .i64 t313] 28 (0, 0)) (by (with_reducible repeat (first | refine kN_ ?_ _ | refine kD_ ?_ | refine kA_ ?_ _)); refine kP_ (cs := #[.int .i64 t312, .int .i64 0]) ?_ 1 _ rfl; (with_reducible repeat (first | refine kN_ ?_ _ | refine kD_ ?_ | refine kA_ ?_ _)); refine kP_ (cs := #[.int .i64 0, .int .i64 0]) ?_ 0 _ rfl; (with_reducible repeat (first | refine kN_ ?_ _ | refine kD_ ?_ | refine kA_ ?_ _)); exact BK315.out) NB315_0.out (by simp)) (KeepBut.trans (qK HK) hk (.inl rfl)) (hb) (hi); clear BK311 BK315 HK HB HI0; obtain ⟨BK311, BK315, HK, HB, HI0⟩ := n_) | ((with_reducible refine gate_dst (N := 17) rfl ?_); refine Kd.R_lit (Kd.int .i64) _ 3 ?hg (N := 17) ?hd (xs := ([(-1), 6, 5] : List Int)) (inner := [.int .i64 (-1), .int .i64 6, .int .i64 5]) (ok := fun _ => True) (okp := fun _ => True) ?hr ?hp (fun _ hk => hk) trivial (Below.refl _ _) (Nat.le_refl _) (by simp) ?_; (case hd => rfl); (case hg => rfl); (case hr => first | (go_simp; done) | (go_simp; rfl)); (case hp => exact (Reps.one (show Kd.M (Kd.int .i64) _ _ _ (-1) [.int .i64 (-1)] from rfl) (Reps.one (show Kd.M (Kd.int .i64) _ _ _ 6 [.int .i64 6] from rfl) (Reps.one (show Kd.M (Kd.int .i64) _ _ _ 5 [.int .i64 5] from rfl) (Reps.none _ _))))); intro v324 w29 ho30 hb hg_ hnew_; clear hg_ hnew_; (first | rw [← Ny323.out] at ho30 | (simp only [Int.reduceToNat] at ho30; rw [← Ny323.out] at ho30)); have n0_ := aM_ (Kd.R_lower ho30 (kz_ HK)); have n1_ := aM_ (IsS98.below (qI HI0) hb); have n2_ := aM_ (blk_below (g := gb311) (o := .cells #[.int .i64 0, .int .i64 0] 28 (0, 0)) qk hb); have n3_ := aM_ (blk_below (g := gb315) (o := .cells #[.int .i64 t312, .int .i64 t313] 28 (0, 0)) qk hb); have n4_ := aM_ (KeepBut.trans (qK HK) (KeepBut.of_below hb g none) (.inl rfl)); have n5_ := aM_ (bT_ (qS HB) hb); clear HI0 BK311 BK315 HK HB; have HO325 := n0_; have HI0 := n1_; have BK311 := n2_; have BK315 := n3_; have HK := n4_; have HB := n5_; clear n0_ n1_ n2_ n3_ n4_ n5_ hb ho30; obtain ⟨Ao31, co31, eo31⟩ := Kd.R_slice HO325.out; subst eo31) | ((with_reducible refine gc_ 35 ?_); refine gL_ (some 18) Tryz.func35 #[.pointer (some ⟨g, 0, none⟩), .slice Ao31 y323.length co31] ?_; (with_reducible refine (spec_l12Rd_num.calls k g s0_0 t317 _ _ y323 t326 t327 w0 _ ?side1 ?side2 ?side3 ?side4 ?side5 A21.out).mono ?_); (case side1 => exact qI HI0); (case side2 => exact qS HB); (case side3 => exact qC ((Kd.R_reads' HO325.out).2.2)); (case side4 => exact (Kd.R_reads' HO325.out).2.1); (case side5 => exact far_slice (IsS98.own_ne HI0.out HO325.out (by decide))); rintro e w32 ⟨rfl, hi, hb, hk⟩; refine ⟨_, rfl, ?_⟩; have n_ := aN6_ (KeepBut.blk hk (g' := gb311) (o := .cells #[.int .i64 0, .int .i64 0] 28 (0, 0)) qk NB311_0.out (by simp)) (KeepBut.blk hk (g' := gb315) (o := .cells #[.int .i64 t312, .int .i64 t313] 28 (0, 0)) qk NB315_0.out (by simp)) (Kd.R_mono (Kd.R_keep (IsS98.apart (show IsS98 w0 _ g s0_0 t317 from qI HI0) (qR HO325) (by decide)) hk (fun _ h => h.2)) (fun _ h => h.1)) (KeepBut.trans (qK HK) hk (.inl rfl)) (hb) (hi); clear BK311 BK315 HO325 HK HB HI0; obtain ⟨BK311, BK315, HO325, HK, HB, HI0⟩ := n_; (obtain ⟨hcz33_0, hcz33_1⟩ := cells2 BK315.out); (obtain ⟨hfz33_0, hfz33_1⟩ := frozen2 BK315.out); have hnb34 := NB311_0.out; have hnc34 := NB0_311.out; (obtain ⟨hcz35_0, hcz35_1⟩ := cells2 BK311.out); (obtain ⟨hfz35_0, hfz35_1⟩ := frozen2 BK311.out)))
 refine bodyPost_ret (results_cell_row rfl _ _ gb311 28 #[.int .i64 t312, .int .i64 t326] (0, 0) _ rfl (by (with_reducible repeat (first | refine kN_ ?_ _ | refine kD_ ?_ | refine kA_ ?_ _)); refine kP_ (cs := #[.int .i64 t312, .int .i64 0]) ?_ 1 _ rfl; (with_reducible repeat (first | refine kN_ ?_ _ | refine kD_ ?_ | refine kA_ ?_ _)); refine kP_ (cs := #[.int .i64 0, .int .i64 0]) ?_ 0 _ rfl; (with_reducible repeat (first | refine kN_ ?_ _ | refine kD_ ?_ | refine kA_ ?_ _)); refine blk_far ?_ NB311_315.out _; (with_reducible repeat (first | refine kN_ ?_ _ | refine kD_ ?_ | refine kA_ ?_ _)); exact BK311.out) Tryz.underlying28 rfl (by kernel_rfl)) rfl ?_
 exact ⟨qE, qI HI0, qS HB, qK HK⟩
def spec_l5Code.f (k : Nat) (s0_0 : List Int) (s0_1 : Int) : Option ((List (S30)) × Int) := (spec_l4Some.f k s0_0 s0_1).bind fun bt328 => ((spec_l5Of.f bt328.1 0).bind fun t332 => (if (t332.length : Int) = 0 then (some (t332, bt328.2)) else ((spec_l12Rd_pick.f k s0_0 bt328.2 (t332.length : Int)).bind fun bt335 => ((spec_l12Rd_pick.f k s0_0 bt335.2 30).bind fun bt337 => (if bt337.1 = 0 then ((spec_l12Rd_num.f k s0_0 bt337.2 (([0, 9, 1, 5, 8] : List Int))).bind fun bt342 => (if 0 ≤ bt335.1 then (if bt335.1 < (t332.length : Int) then (some ((t332.set (bt335.1 : Int).toNat (⟨bt342.1, (rd_T30 t332 bt335.1).f1, (⟨(rd_T30 t332 bt335.1).f2.f0, (rd_T30 t332 bt335.1).f2.f1⟩ : S28)⟩ : S30)), bt342.2)) else (none)) else (none))) else (if bt337.1 = 1 then ((spec_l12Rd_num.f k s0_0 bt337.2 (([0, (-1), (t332.length : Int), wrap64 ((t332.length : Int) + 1), wrap64 (bt335.1 + 1)] : List Int))).bind fun bt348 => (if 0 ≤ bt335.1 then (if bt335.1 < (t332.length : Int) then (some ((t332.set (bt335.1 : Int).toNat (⟨(rd_T30 t332 bt335.1).f0, bt348.1, (⟨(rd_T30 t332 bt335.1).f2.f0, (rd_T30 t332 bt335.1).f2.f1⟩ : S28)⟩ : S30)), bt348.2)) else (none)) else (none))) else (if bt337.1 = 2 then (if 0 ≤ bt335.1 then (if bt335.1 ≤ (t332.length : Int) then (if 0 ≤ (wrap64 (bt335.1 + 1)) then (if (wrap64 (bt335.1 + 1)) ≤ (t332.length : Int) then (some ((t332.eraseIdx (bt335.1 : Int).toNat), bt337.2)) else (none)) else (none)) else (none)) else (none)) else (if bt337.1 = 3 then ((spec_l2AddrBent.f k s0_0 bt337.2).bind fun bt364 => (if 0 ≤ bt335.1 then (if bt335.1 < (t332.length : Int) then (some ((t332.set (bt335.1 : Int).toNat (⟨(rd_T30 t332 bt335.1).f0, (rd_T30 t332 bt335.1).f1, (⟨bt364.1, bt364.2.1⟩ : S28)⟩ : S30)), bt364.2.2)) else (none)) else (none))) else (if bt337.1 = 4 then ((spec_l12Rd_pick.f k s0_0 bt337.2 (t332.length : Int)).bind fun bt368 => (if t332.length < 4398046511104 then (some ((t332 ++ [(⟨8, bt368.1, (⟨0, 0⟩ : S28)⟩ : S30)]), bt368.2)) else (none))) else (some (t332, bt337.2)))))))))))
def spec_l5Code.T11 : Bool × List (List Nat × List Nat) := (true, [([], []), ([], []), ([0, 1], [0, 1]), ([], []), ([], []), ([4], [4]), ([3, 5], [3, 5]), ([2, 6], [2, 6]), ([7, 7, 0, 1, 2, 3, 4, 5, 6, 7], [0, 3, 7])])
def spec_l5Code.B11 : List Nat := [0, 0, 3, 0, 0, 16, 56, 127, 255]
theorem spec_l5Code.tab11 : rtab .any (opsOf Tryz.f31 11) = spec_l5Code.T11 := by kernel_rfl
theorem spec_l5Code.bits11 : waitsOk spec_l5Code.T11.2 spec_l5Code.B11 = true := by kernel_rfl
set_option maxHeartbeats 8000000 in
set_option maxRecDepth 100000 in
theorem spec_l5Code.calls (k : Nat) (g : Nat) (s0_0 : List Int) (s0_1 : Int) (r1 : List (S30)) (r2 : Int) (w0 w : World) (hI : IsS98 w0 w g s0_0 s0_1) (hB : Below w0.heap.size w0 w) (h : spec_l5Code.f k s0_0 s0_1 = some (r1, r2)) :
    Calls Tryz.prog 31 #[.pointer (some ⟨g, 0, none⟩)] w fun e w' => ∃ v0_ : Value, e = .returned (v0_) ∧ Kd.R k30 30 w' w.heap.size (fun _ => True) v0_ r1 ∧ IsS98 w0 w' g s0_0 r2 ∧ Below w0.heap.size w0 w' ∧ KeepBut w w' g none := by
 have hu28 := Tryz.underlying28
 have hu30 := Tryz.underlying30
 have HI0 := aM_ hI
 have HK := aM_ (KeepBut.refl w g none)
 have HL := aM_ hB.size
 clear hI
 have HW0 := aM_ hB.size
 have HB := aM_ hB
 clear hB
 have H : ((spec_l4Some.f k s0_0 s0_1).bind fun bt328 => ((spec_l5Of.f bt328.1 0).bind fun t332 => (if (t332.length : Int) = 0 then (some (t332, bt328.2)) else ((spec_l12Rd_pick.f k s0_0 bt328.2 (t332.length : Int)).bind fun bt335 => ((spec_l12Rd_pick.f k s0_0 bt335.2 30).bind fun bt337 => (if bt337.1 = 0 then ((spec_l12Rd_num.f k s0_0 bt337.2 (([0, 9, 1, 5, 8] : List Int))).bind fun bt342 => (if 0 ≤ bt335.1 then (if bt335.1 < (t332.length : Int) then (some ((t332.set (bt335.1 : Int).toNat (⟨bt342.1, (rd_T30 t332 bt335.1).f1, (⟨(rd_T30 t332 bt335.1).f2.f0, (rd_T30 t332 bt335.1).f2.f1⟩ : S28)⟩ : S30)), bt342.2)) else (none)) else (none))) else (if bt337.1 = 1 then ((spec_l12Rd_num.f k s0_0 bt337.2 (([0, (-1), (t332.length : Int), wrap64 ((t332.length : Int) + 1), wrap64 (bt335.1 + 1)] : List Int))).bind fun bt348 => (if 0 ≤ bt335.1 then (if bt335.1 < (t332.length : Int) then (some ((t332.set (bt335.1 : Int).toNat (⟨(rd_T30 t332 bt335.1).f0, bt348.1, (⟨(rd_T30 t332 bt335.1).f2.f0, (rd_T30 t332 bt335.1).f2.f1⟩ : S28)⟩ : S30)), bt348.2)) else (none)) else (none))) else (if bt337.1 = 2 then (if 0 ≤ bt335.1 then (if bt335.1 ≤ (t332.length : Int) then (if 0 ≤ (wrap64 (bt335.1 + 1)) then (if (wrap64 (bt335.1 + 1)) ≤ (t332.length : Int) then (some ((t332.eraseIdx (bt335.1 : Int).toNat), bt337.2)) else (none)) else (none)) else (none)) else (none)) else (if bt337.1 = 3 then ((spec_l2AddrBent.f k s0_0 bt337.2).bind fun bt364 => (if 0 ≤ bt335.1 then (if bt335.1 < (t332.length : Int) then (some ((t332.set (bt335.1 : Int).toNat (⟨(rd_T30 t332 bt335.1).f0, (rd_T30 t332 bt335.1).f1, (⟨bt364.1, bt364.2.1⟩ : S28)⟩ : S30)), bt364.2.2)) else (none)) else (none))) else (if bt337.1 = 4 then ((spec_l12Rd_pick.f k s0_0 bt337.2 (t332.length : Int)).bind fun bt368 => (if t332.length < 4398046511104 then (some ((t332 ++ [(⟨8, bt368.1, (⟨0, 0⟩ : S28)⟩ : S30)]), bt368.2)) else (none))) else (some (t332, bt337.2)))))))))))) = some (r1, r2) := h
 clear h
 replace H := oB_ H
 obtain ⟨⟨t328, t331⟩, A20, H⟩ := H
 dsimp only at H
 have A2 := aM_ A20
 clear A20
 replace H := oB_ H
 obtain ⟨t332, A30, H⟩ := H
 have A3 := aM_ A30
 clear A30
 by_cases c4 : (t332.length : Int) = 0
 · rw [if_pos c4] at H
   have c4b0 : ((t332.length : Int) == 0) = true := beq_iff_eq.mpr c4
   have c4b1 : ((t332.length : Int) != 0) = false := bne_eq_false_iff_eq.mpr c4
   clear c4
   simp only [Option.some.injEq, Prod.mk.injEq] at H
   obtain ⟨rfl, rfl⟩ := H
   go_enter Tryz.func31, Tryz.ntmps31
   go_wp2_with (first | ((with_reducible refine gc_ 57 ?_); refine gL_ (some 6) Tryz.func57 #[.pointer (some ⟨g, 0, none⟩)] ?_; (with_reducible refine (spec_l4Some.calls k g s0_0 s0_1 t328 t331 w0 _ ?side1 ?side2 A2.out).mono ?_); (case side1 => exact qI HI0); (case side2 => exact qS HB); rintro e w5 ⟨v329, rfl, ho0, hi, hb, hk⟩; refine ⟨_, rfl, ?_⟩; have n_ := aN4_ (Kd.N_lower (Kd.N_mono (ok' := fun k_ => k_ ≠ g) ho0 (fun k_ hk_ => (IsS98.fresh (qI HI0) k_ hk_))) (kz_ HK)) (KeepBut.trans (qK HK) hk (.inl rfl)) (hb) (hi); clear HK HB HI0; obtain ⟨HO330, HK, HB, HI0⟩ := n_; obtain ⟨Ao6, co6, eo6⟩ := Kd.N_slice HO330.out; subst eo6) | ((with_reducible refine gc_ 56 ?_); refine gL_ (some 7) Tryz.func56 #[.slice Ao6 t328.length co6, .int .i64 0] ?_; (with_reducible refine (spec_l5Of.calls _ _ t328 0 t332 _ ?side1 ?side2 A3.out).mono ?_); (case side1 => repeat (first | exact (Kd.N_reads' HO330.out).2.2 | (with_reducible refine Kd.C_alloc ?_ _) | (with_reducible refine Kd.C_drewN ?_ _) | (with_reducible refine Kd.C_drew ?_))); (case side2 => exact (Kd.N_reads' HO330.out).2.1); rintro e w7 ⟨v333, rfl, ho0, hb⟩; refine ⟨_, rfl, ?_⟩; have n_ := aN5_ (Kd.N_elder' (qN (HO330.out)) (Kd.R_base ho0) hb) (Kd.R_lower ho0 (kz_ HK)) (IsS98.below (qI HI0) hb) (KeepBut.trans (qK HK) (KeepBut.of_below hb g none) (.inl rfl)) (bT_ (qS HB) hb); clear HO330 HI0 HK HB; obtain ⟨HO330, HO334, HI0, HK, HB⟩ := n_; obtain ⟨Ao8, co8, eo8⟩ := Kd.R_slice HO334.out; subst eo8))
   go_ret
   exact ⟨_, qE, by (with_reducible repeat (first | apply rA_ | apply rN_ | apply rD_)); exact HO334.out, qI HI0, qS HB, qK HK⟩
 rw [if_neg c4] at H
 have c4b0 : ((t332.length : Int) == 0) = false := beq_eq_false_iff_ne.mpr c4
 have c4b1 : ((t332.length : Int) != 0) = true := bne_iff_ne.mpr c4
 have c4b2 : ¬ (t332 = []) := fun h_ => c4 (by rw [h_]; rfl)
 replace H := oB_ H
 obtain ⟨⟨t335, t336⟩, A90, H⟩ := H
 dsimp only at H
 have A9 := aM_ A90
 clear A90
 replace H := oB_ H
 obtain ⟨⟨t337, t338⟩, A100, H⟩ := H
 dsimp only at H
 have A10 := aM_ A100
 clear A100
 by_cases c11 : t337 = 0
 · rw [if_pos c11] at H
   have c11b0 : (t337 == 0) = true := beq_iff_eq.mpr c11
   have c11b1 : (t337 != 0) = false := bne_eq_false_iff_eq.mpr c11
   clear c11
   obtain ⟨y339, hy339⟩ : ∃ y_ : List Int, y_ = (([0, 9, 1, 5, 8] : List Int)) := ⟨_, rfl⟩
   replace H : ((spec_l12Rd_num.f k s0_0 t338 y339).bind fun bt342 => (if 0 ≤ t335 then (if t335 < (t332.length : Int) then (some ((t332.set (t335 : Int).toNat (⟨bt342.1, (rd_T30 t332 t335).f1, (⟨(rd_T30 t332 t335).f2.f0, (rd_T30 t332 t335).f2.f1⟩ : S28)⟩ : S30)), bt342.2)) else (none)) else (none))) = some (r1, r2) := by subst hy339; exact H
   have Ny339 := aM_ hy339
   clear hy339
   replace H := oB_ H
   obtain ⟨⟨t342, t343⟩, A120, H⟩ := H
   dsimp only at H
   have A12 := aM_ A120
   clear A120
   by_cases c13 : 0 ≤ t335
   rotate_left
   · rw [if_neg c13] at H
     exact absurd H (by simp)
   rw [if_pos c13] at H
   have c13b0 : decide (0 ≤ t335) = true := dT_ c13
   clear c13
   by_cases c14 : t335 < (t332.length : Int)
   rotate_left
   · rw [if_neg c14] at H
     exact absurd H (by simp)
   rw [if_pos c14] at H
   have c14b0 : decide (t335 < (t332.length : Int)) = true := dT_ c14
   clear c14
   obtain ⟨y344, hy344⟩ : ∃ y_ : List (S30), y_ = (t332.set (t335 : Int).toNat (⟨t342, (rd_T30 t332 t335).f1, (⟨(rd_T30 t332 t335).f2.f0, (rd_T30 t332 t335).f2.f1⟩ : S28)⟩ : S30)) := ⟨_, rfl⟩
   replace H : (some (y344, t343)) = some (r1, r2) := by subst hy344; exact H
   have Ny344 := aM_ hy344
   clear hy344
   simp only [Option.some.injEq, Prod.mk.injEq] at H
   obtain ⟨rfl, rfl⟩ := H
   go_enter Tryz.func31, Tryz.ntmps31
   go_wp2_with (first | ((with_reducible refine gc_ 57 ?_); refine gL_ (some 6) Tryz.func57 #[.pointer (some ⟨g, 0, none⟩)] ?_; (with_reducible refine (spec_l4Some.calls k g s0_0 s0_1 t328 t331 w0 _ ?side1 ?side2 A2.out).mono ?_); (case side1 => exact qI HI0); (case side2 => exact qS HB); rintro e w16 ⟨v329, rfl, ho0, hi, hb, hk⟩; refine ⟨_, rfl, ?_⟩; have n_ := aN4_ (Kd.N_lower (Kd.N_mono (ok' := fun k_ => k_ ≠ g) ho0 (fun k_ hk_ => (IsS98.fresh (qI HI0) k_ hk_))) (kz_ HK)) (KeepBut.trans (qK HK) hk (.inl rfl)) (hb) (hi); clear HK HB HI0; obtain ⟨HO330, HK, HB, HI0⟩ := n_; obtain ⟨Ao17, co17, eo17⟩ := Kd.N_slice HO330.out; subst eo17) | ((with_reducible refine gc_ 56 ?_); refine gL_ (some 7) Tryz.func56 #[.slice Ao17 t328.length co17, .int .i64 0] ?_; (with_reducible refine (spec_l5Of.calls _ _ t328 0 t332 _ ?side1 ?side2 A3.out).mono ?_); (case side1 => repeat (first | exact (Kd.N_reads' HO330.out).2.2 | (with_reducible refine Kd.C_alloc ?_ _) | (with_reducible refine Kd.C_drewN ?_ _) | (with_reducible refine Kd.C_drew ?_))); (case side2 => exact (Kd.N_reads' HO330.out).2.1); rintro e w18 ⟨v333, rfl, ho0, hb⟩; refine ⟨_, rfl, ?_⟩; have n_ := aN5_ (Kd.N_elder' (qN (HO330.out)) (Kd.R_base ho0) hb) (Kd.R_lower ho0 (kz_ HK)) (IsS98.below (qI HI0) hb) (KeepBut.trans (qK HK) (KeepBut.of_below hb g none) (.inl rfl)) (bT_ (qS HB) hb); clear HO330 HI0 HK HB; obtain ⟨HO330, HO334, HI0, HK, HB⟩ := n_; obtain ⟨Ao19, co19, eo19⟩ := Kd.R_slice HO334.out; subst eo19) | ((with_reducible refine gc_ 58 ?_); refine gL_ (some 15) Tryz.func58 #[.pointer (some ⟨g, 0, none⟩), .int .i64 (t332.length : Int)] ?_; (with_reducible refine (spec_l12Rd_pick.calls k g s0_0 t331 (t332.length : Int) t335 t336 w0 _ ?side1 ?side2 A9.out).mono ?_); (case side1 => exact qI HI0); (case side2 => exact qS HB); rintro e w20 ⟨rfl, hi, hb, hk⟩; refine ⟨_, rfl, ?_⟩; have n_ := aN5_ (Kd.N_mono (Kd.N_keep (Kd.N_mono (ok := fun k_ => (k_ ≠ g ∧ some k_ ≠ (.slice Ao19 t332.length co19 : Value).ownBlock)) (qN (HO330.out)) (fun k_ hk_ => (⟨hk_, hk_.1⟩ : _ ∧ k_ ≠ g))) hk (fun _ h => h.2)) (fun _ h => h.1)) (Kd.R_mono (Kd.R_keep (IsS98.apart (show IsS98 w0 _ g s0_0 t331 from qI HI0) (qR HO334) (by decide)) hk (fun _ h => h.2)) (fun _ h => h.1)) (KeepBut.trans (qK HK) hk (.inl rfl)) (hb) (hi); clear HO330 HO334 HK HB HI0; obtain ⟨HO330, HO334, HK, HB, HI0⟩ := n_) | ((with_reducible refine gc_ 58 ?_); refine gL_ (some 17) Tryz.func58 #[.pointer (some ⟨g, 0, none⟩), .int .i64 30] ?_; (with_reducible refine (spec_l12Rd_pick.calls k g s0_0 t336 30 t337 t338 w0 _ ?side1 ?side2 A10.out).mono ?_); (case side1 => exact qI HI0); (case side2 => exact qS HB); rintro e w21 ⟨rfl, hi, hb, hk⟩; refine ⟨_, rfl, ?_⟩; have n_ := aN5_ (Kd.N_mono (Kd.N_keep (Kd.N_mono (ok := fun k_ => (k_ ≠ g ∧ some k_ ≠ (.slice Ao19 t332.length co19 : Value).ownBlock)) (qN (HO330.out)) (fun k_ hk_ => (⟨hk_, hk_.1⟩ : _ ∧ k_ ≠ g))) hk (fun _ h => h.2)) (fun _ h => h.1)) (Kd.R_mono (Kd.R_keep (IsS98.apart (show IsS98 w0 _ g s0_0 t336 from qI HI0) (qR HO334) (by decide)) hk (fun _ h => h.2)) (fun _ h => h.1)) (KeepBut.trans (qK HK) hk (.inl rfl)) (hb) (hi); clear HO330 HO334 HK HB HI0; obtain ⟨HO330, HO334, HK, HB, HI0⟩ := n_) | ((with_reducible refine gate_dst (N := 23) rfl ?_); refine Kd.R_lit (Kd.int .i64) _ 3 ?hg (N := 23) ?hd (xs := ([0, 9, 1, 5, 8] : List Int)) (inner := [.int .i64 0, .int .i64 9, .int .i64 1, .int .i64 5, .int .i64 8]) (ok := fun _ => True) (okp := fun _ => True) ?hr ?hp (fun _ hk => hk) trivial (Below.refl _ _) (Nat.le_refl _) (by simp) ?_; (case hd => rfl); (case hg => rfl); (case hr => first | (go_simp; done) | (go_simp; rfl)); (case hp => exact (Reps.one (show Kd.M (Kd.int .i64) _ _ _ 0 [.int .i64 0] from rfl) (Reps.one (show Kd.M (Kd.int .i64) _ _ _ 9 [.int .i64 9] from rfl) (Reps.one (show Kd.M (Kd.int .i64) _ _ _ 1 [.int .i64 1] from rfl) (Reps.one (show Kd.M (Kd.int .i64) _ _ _ 5 [.int .i64 5] from rfl) (Reps.one (show Kd.M (Kd.int .i64) _ _ _ 8 [.int .i64 8] from rfl) (Reps.none _ _))))))); intro v340 w22 ho23 hb hg_ hnew_; clear hg_ hnew_; (first | rw [← Ny339.out] at ho23 | (simp only [Int.reduceToNat] at ho23; rw [← Ny339.out] at ho23)); have n0_ := aM_ (Kd.N_elder' (qN (HO330.out)) (Kd.R_base ho23) hb); have n1_ := aM_ (Kd.R_below (qR HO334) hb); have n2_ := aM_ (Kd.R_lower ho23 (kz_ HK)); have n3_ := aM_ (IsS98.below (qI HI0) hb); have n4_ := aM_ (KeepBut.trans (qK HK) (KeepBut.of_below hb g none) (.inl rfl)); have n5_ := aM_ (bT_ (qS HB) hb); clear HO330 HO334 HI0 HK HB; have HO330 := n0_; have HO334 := n1_; have HO341 := n2_; have HI0 := n3_; have HK := n4_; have HB := n5_; clear n0_ n1_ n2_ n3_ n4_ n5_ hb ho23; obtain ⟨Ao24, co24, eo24⟩ := Kd.R_slice HO341.out; subst eo24) | ((with_reducible refine gc_ 35 ?_); refine gL_ (some 24) Tryz.func35 #[.pointer (some ⟨g, 0, none⟩), .slice Ao24 y339.length co24] ?_; (with_reducible refine (spec_l12Rd_num.calls k g s0_0 t338 _ _ y339 t342 t343 w0 _ ?side1 ?side2 ?side3 ?side4 ?side5 A12.out).mono ?_); (case side1 => exact qI HI0); (case side2 => exact qS HB); (case side3 => exact qC ((Kd.R_reads' HO341.out).2.2)); (case side4 => exact (Kd.R_reads' HO341.out).2.1); (case side5 => exact far_slice (IsS98.own_ne HI0.out HO341.out (by decide))); rintro e w25 ⟨rfl, hi, hb, hk⟩; refine ⟨_, rfl, ?_⟩; have n_ := aN6_ (Kd.N_mono (Kd.N_keep (Kd.N_mono (ok := fun k_ => ((k_ ≠ g ∧ some k_ ≠ (.slice Ao19 t332.length co19 : Value).ownBlock) ∧ some k_ ≠ (.slice Ao24 y339.length co24 : Value).ownBlock)) (qN (HO330.out)) (fun k_ hk_ => (⟨hk_, hk_.1.1⟩ : _ ∧ k_ ≠ g))) hk (fun _ h => h.2)) (fun _ h => h.1)) (Kd.R_mono (Kd.R_keep (IsS98.apart (show IsS98 w0 _ g s0_0 t338 from qI HI0) (qR HO334) (by decide)) hk (fun _ h => h.2)) (fun _ h => h.1)) (Kd.R_mono (Kd.R_keep (IsS98.apart (show IsS98 w0 _ g s0_0 t338 from qI HI0) (qR HO341) (by decide)) hk (fun _ h => h.2)) (fun _ h => h.1)) (KeepBut.trans (qK HK) hk (.inl rfl)) (hb) (hi); clear HO330 HO334 HO341 HK HB HI0; obtain ⟨HO330, HO334, HO341, HK, HB, HI0⟩ := n_; have p15 : 0 ≤ (t335 : Int) := oD_ (by first | (with_reducible assumption) | assumption); have q15 : (t335 : Int) < ((t332.length : Int) : Int) := oD_ (by first | (with_reducible assumption) | assumption); obtain ⟨go15, co15, eo15, gb15, gl15, cl15, HG15⟩ := Kd.R_form HO334.out (by omega); (first | cases eo15 | (injection eo15 with ea_ en_ ec_; (first | subst ea_ | (injection ea_ with ea_; subst ea_)); subst ec_; clear en_)); have GB15 := aM_ gb15; have GG15 := aM_ HG15; clear gb15 gl15 HG15; obtain ⟨ce15, hcl15, hM15, hcc15, hfr15⟩ := Kd.R_elem HO334.out z30 (t335 : Int) p15 q15; obtain rfl := k30_openM hM15; have hx15_0 : w25.cell? ⟨go15, (t335 : Int).toNat * 4, none⟩ = some (.int .i64 ((rd_T30 t332 t335).f0)) := hcc15 0 _ rfl; have hx15_1 : w25.cell? ⟨go15, (t335 : Int).toNat * 4 + 1, none⟩ = some (.int .i64 ((rd_T30 t332 t335).f1)) := hcc15 1 _ rfl; have hx15_2 : w25.cell? ⟨go15, (t335 : Int).toNat * 4 + 2, none⟩ = some (.int .i64 ((rd_T30 t332 t335).f2.f0)) := hcc15 2 _ rfl; have hx15_3 : w25.cell? ⟨go15, (t335 : Int).toNat * 4 + 3, none⟩ = some (.int .i64 ((rd_T30 t332 t335).f2.f1)) := hcc15 3 _ rfl; have hf15_0 : w25.frozen? ⟨go15, (t335 : Int).toNat * 4, none⟩ = false := hfr15 0; have hf15_1 : w25.frozen? ⟨go15, (t335 : Int).toNat * 4 + 1, none⟩ = false := hfr15 1; have hf15_2 : w25.frozen? ⟨go15, (t335 : Int).toNat * 4 + 2, none⟩ = false := hfr15 2; have hf15_3 : w25.frozen? ⟨go15, (t335 : Int).toNat * 4 + 3, none⟩ = false := hfr15 3; clear hcl15 hcc15 hfr15 hM15; replace p15 := eq_true p15; replace q15 := eq_true q15; have HX26 := aM_ (show Kd.R k30 30 w25 w.heap.size (fun _ => True) (.slice (some ⟨go15, 0, none⟩) t332.length co19) t332 from (qR HO334)); obtain ⟨ce26, hcl26, hM26, hcc26, hfr26⟩ := Kd.R_elem HX26.out z30 (t335 : Int) (oD_ (by first | (with_reducible assumption) | assumption)) (by have h_ : (t335 : Int) < ((t332.length : Int) : Int) := oD_ (by first | (with_reducible assumption) | assumption); first | exact h_ | (have e_ := (Kd.R_reads' HO334.out).1; omega) | simpa using h_); obtain rfl := k30_openM hM26; have HP26 := Kd.R_seg HX26.out (t335 : Int) (oD_ (by first | (with_reducible assumption) | assumption)) (by have h_ : (t335 : Int) < ((t332.length : Int) : Int) := oD_ (by first | (with_reducible assumption) | assumption); first | exact h_ | (have e_ := (Kd.R_reads' HO334.out).1; omega) | simpa using h_) (seg := [.int .i64 t342]) (j := 0) hcl26 hcc26 (show 1 ≤ 4 from by decide) (x' := (⟨t342, (rd_T30 t332 t335).f1, (⟨(rd_T30 t332 t335).f2.f0, (rd_T30 t332 t335).f2.f1⟩ : S28)⟩ : S30)) (k30_mkM _ _ _ (⟨t342, (rd_T30 t332 t335).f1, (⟨(rd_T30 t332 t335).f2.f0, (rd_T30 t332 t335).f2.f1⟩ : S28)⟩ : S30) ) (fun _ hk => hk); have hx26_0 := hcc26 0 _ rfl; (try simp only [show (k30).sz = 4 from rfl, Nat.mul_one, Nat.add_zero] at hx26_0); have hf26_0 := hfr26 0; (try simp only [show (k30).sz = 4 from rfl, Nat.mul_one, Nat.add_zero] at hf26_0); clear hcl26 hcc26 hfr26 hM26) | ((with_reducible refine gate_store (t := 3) (p := 26) rfl ?_); refine store_event (t := 3) (p := 26) (v := ?vo_w27) (w1 := (w25.setCell ⟨go15, (t335 : Int).toNat * 4, none⟩ (.int .i64 t342))) ?hg ?ho ?hn ?hr ?_; (case ho => rfl); (case hg => rfl); (case hn => rfl); (case hr => first | (go_simp; done) | (go_simp; rfl)); intro w27 hw; have hg : w25.grownBy w27 (some go15) := (by rw [hw]; exact HP26.2); have hp_ : Kd.R k30 30 w27 w.heap.size (fun _ => True) (.slice (some ⟨go15, 0, none⟩) t332.length co19) y344 := (by rw [hw, Ny344.out]; exact HP26.1); clear HP26; have n0_ := aM_ (IsS98.grown (qI HI0) hg (IsS98.own_ne HI0.out HO334.out (by decide))); have n1_ := aM_ (Kd.N_afterv (v := (.slice (some ⟨go15, 0, none⟩) t332.length co19)) (v1 := (.slice (some ⟨go15, 0, none⟩) t332.length co19)) (ok := (fun k_ => some k_ ≠ (.slice Ao24 y339.length co24 : Value).ownBlock ∧ k_ ≠ g)) (qN (Kd.N_mono HO330.out (fun _ hk => ⟨⟨hk.2, hk.1.1⟩, hk.1.2⟩))) hg (.inl rfl)); have n2_ := aM_ (hp_); have n3_ := aM_ (Kd.R_over' (v := (.slice (some ⟨go15, 0, none⟩) t332.length co19)) (qR HO341) (Kd.R_typed HO334.out) (by decide) hg); have n4_ := aM_ ((by rw [hw]; exact bS_ (HB.out) (Nat.le_trans HL.out GB15.out) : Below w0.heap.size w0 w27)); have n5_ := aM_ (KeepBut.trans (qK HK) (KeepBut.of_grown hg g) (Kd.R_base2 HO334.out)); clear HI0 HO330 HO334 HO341 HB HK; have HI0 := n0_; have HO330 := n1_; have HO334 := n2_; have HO341 := n3_; have HB := n4_; have HK := n5_; clear n0_ n1_ n2_ n3_ n4_ n5_ hg hw hp_))
   go_ret
   exact ⟨_, qE, by (with_reducible repeat (first | apply rA_ | apply rN_ | apply rD_)); exact HO334.out, qI HI0, qS HB, qK HK⟩
 rw [if_neg c11] at H
 have c11b0 : (t337 == 0) = false := beq_eq_false_iff_ne.mpr c11
 have c11b1 : (t337 != 0) = true := bne_iff_ne.mpr c11
 by_cases c28 : t337 = 1
 · rw [if_pos c28] at H
   have c28b0 : (t337 == 1) = true := beq_iff_eq.mpr c28
   have c28b1 : (t337 != 1) = false := bne_eq_false_iff_eq.mpr c28
   clear c28
   obtain ⟨y345, hy345⟩ : ∃ y_ : List Int, y_ = (([0, (-1), (t332.length : Int), wrap64 ((t332.length : Int) + 1), wrap64 (t335 + 1)] : List Int)) := ⟨_, rfl⟩
   replace H : ((spec_l12Rd_num.f k s0_0 t338 y345).bind fun bt348 => (if 0 ≤ t335 then (if t335 < (t332.length : Int) then (some ((t332.set (t335 : Int).toNat (⟨(rd_T30 t332 t335).f0, bt348.1, (⟨(rd_T30 t332 t335).f2.f0, (rd_T30 t332 t335).f2.f1⟩ : S28)⟩ : S30)), bt348.2)) else (none)) else (none))) = some (r1, r2) := by subst hy345; exact H
   have Ny345 := aM_ hy345
   clear hy345
   replace H := oB_ H
   obtain ⟨⟨t348, t349⟩, A290, H⟩ := H
   dsimp only at H
   have A29 := aM_ A290
   clear A290
   by_cases c30 : 0 ≤ t335
   rotate_left
   · rw [if_neg c30] at H
     exact absurd H (by simp)
   rw [if_pos c30] at H
   have c30b0 : decide (0 ≤ t335) = true := dT_ c30
   clear c30
   by_cases c31 : t335 < (t332.length : Int)
   rotate_left
   · rw [if_neg c31] at H
     exact absurd H (by simp)
   rw [if_pos c31] at H
   have c31b0 : decide (t335 < (t332.length : Int)) = true := dT_ c31
   clear c31
   obtain ⟨y350, hy350⟩ : ∃ y_ : List (S30), y_ = (t332.set (t335 : Int).toNat (⟨(rd_T30 t332 t335).f0, t348, (⟨(rd_T30 t332 t335).f2.f0, (rd_T30 t332 t335).f2.f1⟩ : S28)⟩ : S30)) := ⟨_, rfl⟩
   replace H : (some (y350, t349)) = some (r1, r2) := by subst hy350; exact H
   have Ny350 := aM_ hy350
   clear hy350
   simp only [Option.some.injEq, Prod.mk.injEq] at H
   obtain ⟨rfl, rfl⟩ := H
   go_enter Tryz.func31, Tryz.ntmps31
   go_wp2_with (first | ((with_reducible refine gc_ 57 ?_); refine gL_ (some 6) Tryz.func57 #[.pointer (some ⟨g, 0, none⟩)] ?_; (with_reducible refine (spec_l4Some.calls k g s0_0 s0_1 t328 t331 w0 _ ?side1 ?side2 A2.out).mono ?_); (case side1 => exact qI HI0); (case side2 => exact qS HB); rintro e w33 ⟨v329, rfl, ho0, hi, hb, hk⟩; refine ⟨_, rfl, ?_⟩; have n_ := aN4_ (Kd.N_lower (Kd.N_mono (ok' := fun k_ => k_ ≠ g) ho0 (fun k_ hk_ => (IsS98.fresh (qI HI0) k_ hk_))) (kz_ HK)) (KeepBut.trans (qK HK) hk (.inl rfl)) (hb) (hi); clear HK HB HI0; obtain ⟨HO330, HK, HB, HI0⟩ := n_; obtain ⟨Ao34, co34, eo34⟩ := Kd.N_slice HO330.out; subst eo34) | ((with_reducible refine gc_ 56 ?_); refine gL_ (some 7) Tryz.func56 #[.slice Ao34 t328.length co34, .int .i64 0] ?_; (with_reducible refine (spec_l5Of.calls _ _ t328 0 t332 _ ?side1 ?side2 A3.out).mono ?_); (case side1 => repeat (first | exact (Kd.N_reads' HO330.out).2.2 | (with_reducible refine Kd.C_alloc ?_ _) | (with_reducible refine Kd.C_drewN ?_ _) | (with_reducible refine Kd.C_drew ?_))); (case side2 => exact (Kd.N_reads' HO330.out).2.1); rintro e w35 ⟨v333, rfl, ho0, hb⟩; refine ⟨_, rfl, ?_⟩; have n_ := aN5_ (Kd.N_elder' (qN (HO330.out)) (Kd.R_base ho0) hb) (Kd.R_lower ho0 (kz_ HK)) (IsS98.below (qI HI0) hb) (KeepBut.trans (qK HK) (KeepBut.of_below hb g none) (.inl rfl)) (bT_ (qS HB) hb); clear HO330 HI0 HK HB; obtain ⟨HO330, HO334, HI0, HK, HB⟩ := n_; obtain ⟨Ao36, co36, eo36⟩ := Kd.R_slice HO334.out; subst eo36) | ((with_reducible refine gc_ 58 ?_); refine gL_ (some 15) Tryz.func58 #[.pointer (some ⟨g, 0, none⟩), .int .i64 (t332.length : Int)] ?_; (with_reducible refine (spec_l12Rd_pick.calls k g s0_0 t331 (t332.length : Int) t335 t336 w0 _ ?side1 ?side2 A9.out).mono ?_); (case side1 => exact qI HI0); (case side2 => exact qS HB); rintro e w37 ⟨rfl, hi, hb, hk⟩; refine ⟨_, rfl, ?_⟩; have n_ := aN5_ (Kd.N_mono (Kd.N_keep (Kd.N_mono (ok := fun k_ => (k_ ≠ g ∧ some k_ ≠ (.slice Ao36 t332.length co36 : Value).ownBlock)) (qN (HO330.out)) (fun k_ hk_ => (⟨hk_, hk_.1⟩ : _ ∧ k_ ≠ g))) hk (fun _ h => h.2)) (fun _ h => h.1)) (Kd.R_mono (Kd.R_keep (IsS98.apart (show IsS98 w0 _ g s0_0 t331 from qI HI0) (qR HO334) (by decide)) hk (fun _ h => h.2)) (fun _ h => h.1)) (KeepBut.trans (qK HK) hk (.inl rfl)) (hb) (hi); clear HO330 HO334 HK HB HI0; obtain ⟨HO330, HO334, HK, HB, HI0⟩ := n_) | ((with_reducible refine gc_ 58 ?_); refine gL_ (some 17) Tryz.func58 #[.pointer (some ⟨g, 0, none⟩), .int .i64 30] ?_; (with_reducible refine (spec_l12Rd_pick.calls k g s0_0 t336 30 t337 t338 w0 _ ?side1 ?side2 A10.out).mono ?_); (case side1 => exact qI HI0); (case side2 => exact qS HB); rintro e w38 ⟨rfl, hi, hb, hk⟩; refine ⟨_, rfl, ?_⟩; have n_ := aN5_ (Kd.N_mono (Kd.N_keep (Kd.N_mono (ok := fun k_ => (k_ ≠ g ∧ some k_ ≠ (.slice Ao36 t332.length co36 : Value).ownBlock)) (qN (HO330.out)) (fun k_ hk_ => (⟨hk_, hk_.1⟩ : _ ∧ k_ ≠ g))) hk (fun _ h => h.2)) (fun _ h => h.1)) (Kd.R_mono (Kd.R_keep (IsS98.apart (show IsS98 w0 _ g s0_0 t336 from qI HI0) (qR HO334) (by decide)) hk (fun _ h => h.2)) (fun _ h => h.1)) (KeepBut.trans (qK HK) hk (.inl rfl)) (hb) (hi); clear HO330 HO334 HK HB HI0; obtain ⟨HO330, HO334, HK, HB, HI0⟩ := n_) | ((with_reducible refine gate_dst (N := 39) rfl ?_); refine Kd.R_lit (Kd.int .i64) _ 3 ?hg (N := 39) ?hd (xs := ([0, (-1), (t332.length : Int), wrap64 ((t332.length : Int) + 1), wrap64 (t335 + 1)] : List Int)) (inner := [.int .i64 0, .int .i64 (-1), .int .i64 (t332.length : Int), .int .i64 (wrap64 ((t332.length : Int) + 1)), .int .i64 (wrap64 (t335 + 1))]) (ok := fun _ => True) (okp := fun _ => True) ?hr ?hp (fun _ hk => hk) trivial (Below.refl _ _) (Nat.le_refl _) (by simp) ?_; (case hd => rfl); (case hg => rfl); (case hr => first | (go_simp; done) | (go_simp; rfl)); (case hp => exact (Reps.one (show Kd.M (Kd.int .i64) _ _ _ 0 [.int .i64 0] from rfl) (Reps.one (show Kd.M (Kd.int .i64) _ _ _ (-1) [.int .i64 (-1)] from rfl) (Reps.one (show Kd.M (Kd.int .i64) _ _ _ (t332.length : Int) [.int .i64 (t332.length : Int)] from rfl) (Reps.one (show Kd.M (Kd.int .i64) _ _ _ (wrap64 ((t332.length : Int) + 1)) [.int .i64 (wrap64 ((t332.length : Int) + 1))] from rfl) (Reps.one (show Kd.M (Kd.int .i64) _ _ _ (wrap64 (t335 + 1)) [.int .i64 (wrap64 (t335 + 1))] from rfl) (Reps.none _ _))))))); intro v346 w39 ho40 hb hg_ hnew_; clear hg_ hnew_; (first | rw [← Ny345.out] at ho40 | (simp only [Int.reduceToNat] at ho40; rw [← Ny345.out] at ho40)); have n0_ := aM_ (Kd.N_elder' (qN (HO330.out)) (Kd.R_base ho40) hb); have n1_ := aM_ (Kd.R_below (qR HO334) hb); have n2_ := aM_ (Kd.R_lower ho40 (kz_ HK)); have n3_ := aM_ (IsS98.below (qI HI0) hb); have n4_ := aM_ (KeepBut.trans (qK HK) (KeepBut.of_below hb g none) (.inl rfl)); have n5_ := aM_ (bT_ (qS HB) hb); clear HO330 HO334 HI0 HK HB; have HO330 := n0_; have HO334 := n1_; have HO347 := n2_; have HI0 := n3_; have HK := n4_; have HB := n5_; clear n0_ n1_ n2_ n3_ n4_ n5_ hb ho40; obtain ⟨Ao41, co41, eo41⟩ := Kd.R_slice HO347.out; subst eo41) | ((with_reducible refine gc_ 35 ?_); refine gL_ (some 40) Tryz.func35 #[.pointer (some ⟨g, 0, none⟩), .slice Ao41 y345.length co41] ?_; (with_reducible refine (spec_l12Rd_num.calls k g s0_0 t338 _ _ y345 t348 t349 w0 _ ?side1 ?side2 ?side3 ?side4 ?side5 A29.out).mono ?_); (case side1 => exact qI HI0); (case side2 => exact qS HB); (case side3 => exact qC ((Kd.R_reads' HO347.out).2.2)); (case side4 => exact (Kd.R_reads' HO347.out).2.1); (case side5 => exact far_slice (IsS98.own_ne HI0.out HO347.out (by decide))); rintro e w42 ⟨rfl, hi, hb, hk⟩; refine ⟨_, rfl, ?_⟩; have n_ := aN6_ (Kd.N_mono (Kd.N_keep (Kd.N_mono (ok := fun k_ => ((k_ ≠ g ∧ some k_ ≠ (.slice Ao36 t332.length co36 : Value).ownBlock) ∧ some k_ ≠ (.slice Ao41 y345.length co41 : Value).ownBlock)) (qN (HO330.out)) (fun k_ hk_ => (⟨hk_, hk_.1.1⟩ : _ ∧ k_ ≠ g))) hk (fun _ h => h.2)) (fun _ h => h.1)) (Kd.R_mono (Kd.R_keep (IsS98.apart (show IsS98 w0 _ g s0_0 t338 from qI HI0) (qR HO334) (by decide)) hk (fun _ h => h.2)) (fun _ h => h.1)) (Kd.R_mono (Kd.R_keep (IsS98.apart (show IsS98 w0 _ g s0_0 t338 from qI HI0) (qR HO347) (by decide)) hk (fun _ h => h.2)) (fun _ h => h.1)) (KeepBut.trans (qK HK) hk (.inl rfl)) (hb) (hi); clear HO330 HO334 HO347 HK HB HI0; obtain ⟨HO330, HO334, HO347, HK, HB, HI0⟩ := n_; have p32 : 0 ≤ (t335 : Int) := oD_ (by first | (with_reducible assumption) | assumption); have q32 : (t335 : Int) < ((t332.length : Int) : Int) := oD_ (by first | (with_reducible assumption) | assumption); obtain ⟨go32, co32, eo32, gb32, gl32, cl32, HG32⟩ := Kd.R_form HO334.out (by omega); (first | cases eo32 | (injection eo32 with ea_ en_ ec_; (first | subst ea_ | (injection ea_ with ea_; subst ea_)); subst ec_; clear en_)); have GB32 := aM_ gb32; have GG32 := aM_ HG32; clear gb32 gl32 HG32; obtain ⟨ce32, hcl32, hM32, hcc32, hfr32⟩ := Kd.R_elem HO334.out z30 (t335 : Int) p32 q32; obtain rfl := k30_openM hM32; have hx32_0 : w42.cell? ⟨go32, (t335 : Int).toNat * 4, none⟩ = some (.int .i64 ((rd_T30 t332 t335).f0)) := hcc32 0 _ rfl; have hx32_1 : w42.cell? ⟨go32, (t335 : Int).toNat * 4 + 1, none⟩ = some (.int .i64 ((rd_T30 t332 t335).f1)) := hcc32 1 _ rfl; have hx32_2 : w42.cell? ⟨go32, (t335 : Int).toNat * 4 + 2, none⟩ = some (.int .i64 ((rd_T30 t332 t335).f2.f0)) := hcc32 2 _ rfl; have hx32_3 : w42.cell? ⟨go32, (t335 : Int).toNat * 4 + 3, none⟩ = some (.int .i64 ((rd_T30 t332 t335).f2.f1)) := hcc32 3 _ rfl; have hf32_0 : w42.frozen? ⟨go32, (t335 : Int).toNat * 4, none⟩ = false := hfr32 0; have hf32_1 : w42.frozen? ⟨go32, (t335 : Int).toNat * 4 + 1, none⟩ = false := hfr32 1; have hf32_2 : w42.frozen? ⟨go32, (t335 : Int).toNat * 4 + 2, none⟩ = false := hfr32 2; have hf32_3 : w42.frozen? ⟨go32, (t335 : Int).toNat * 4 + 3, none⟩ = false := hfr32 3; clear hcl32 hcc32 hfr32 hM32; replace p32 := eq_true p32; replace q32 := eq_true q32; have HX43 := aM_ (show Kd.R k30 30 w42 w.heap.size (fun _ => True) (.slice (some ⟨go32, 0, none⟩) t332.length co36) t332 from (qR HO334)); obtain ⟨ce43, hcl43, hM43, hcc43, hfr43⟩ := Kd.R_elem HX43.out z30 (t335 : Int) (oD_ (by first | (with_reducible assumption) | assumption)) (by have h_ : (t335 : Int) < ((t332.length : Int) : Int) := oD_ (by first | (with_reducible assumption) | assumption); first | exact h_ | (have e_ := (Kd.R_reads' HO334.out).1; omega) | simpa using h_); obtain rfl := k30_openM hM43; have HP43 := Kd.R_seg HX43.out (t335 : Int) (oD_ (by first | (with_reducible assumption) | assumption)) (by have h_ : (t335 : Int) < ((t332.length : Int) : Int) := oD_ (by first | (with_reducible assumption) | assumption); first | exact h_ | (have e_ := (Kd.R_reads' HO334.out).1; omega) | simpa using h_) (seg := [.int .i64 t348]) (j := 1) hcl43 hcc43 (show 2 ≤ 4 from by decide) (x' := (⟨(rd_T30 t332 t335).f0, t348, (⟨(rd_T30 t332 t335).f2.f0, (rd_T30 t332 t335).f2.f1⟩ : S28)⟩ : S30)) (k30_mkM _ _ _ (⟨(rd_T30 t332 t335).f0, t348, (⟨(rd_T30 t332 t335).f2.f0, (rd_T30 t332 t335).f2.f1⟩ : S28)⟩ : S30) ) (fun _ hk => hk); have hx43_1 := hcc43 1 _ rfl; (try simp only [show (k30).sz = 4 from rfl, Nat.mul_one, Nat.add_zero] at hx43_1); have hf43_1 := hfr43 1; (try simp only [show (k30).sz = 4 from rfl, Nat.mul_one, Nat.add_zero] at hf43_1); clear hcl43 hcc43 hfr43 hM43) | ((with_reducible refine gate_store (t := 3) (p := 42) rfl ?_); refine store_event (t := 3) (p := 42) (v := ?vo_w44) (w1 := (w42.setCell ⟨go32, (t335 : Int).toNat * 4 + 1, none⟩ (.int .i64 t348))) ?hg ?ho ?hn ?hr ?_; (case ho => rfl); (case hg => rfl); (case hn => rfl); (case hr => first | (go_simp; done) | (go_simp; rfl)); intro w44 hw; have hg : w42.grownBy w44 (some go32) := (by rw [hw]; exact HP43.2); have hp_ : Kd.R k30 30 w44 w.heap.size (fun _ => True) (.slice (some ⟨go32, 0, none⟩) t332.length co36) y350 := (by rw [hw, Ny350.out]; exact HP43.1); clear HP43; have n0_ := aM_ (IsS98.grown (qI HI0) hg (IsS98.own_ne HI0.out HO334.out (by decide))); have n1_ := aM_ (Kd.N_afterv (v := (.slice (some ⟨go32, 0, none⟩) t332.length co36)) (v1 := (.slice (some ⟨go32, 0, none⟩) t332.length co36)) (ok := (fun k_ => some k_ ≠ (.slice Ao41 y345.length co41 : Value).ownBlock ∧ k_ ≠ g)) (qN (Kd.N_mono HO330.out (fun _ hk => ⟨⟨hk.2, hk.1.1⟩, hk.1.2⟩))) hg (.inl rfl)); have n2_ := aM_ (hp_); have n3_ := aM_ (Kd.R_over' (v := (.slice (some ⟨go32, 0, none⟩) t332.length co36)) (qR HO347) (Kd.R_typed HO334.out) (by decide) hg); have n4_ := aM_ ((by rw [hw]; exact bS_ (HB.out) (Nat.le_trans HL.out GB32.out) : Below w0.heap.size w0 w44)); have n5_ := aM_ (KeepBut.trans (qK HK) (KeepBut.of_grown hg g) (Kd.R_base2 HO334.out)); clear HI0 HO330 HO334 HO347 HB HK; have HI0 := n0_; have HO330 := n1_; have HO334 := n2_; have HO347 := n3_; have HB := n4_; have HK := n5_; clear n0_ n1_ n2_ n3_ n4_ n5_ hg hw hp_))
   go_ret
   exact ⟨_, qE, by (with_reducible repeat (first | apply rA_ | apply rN_ | apply rD_)); exact HO334.out, qI HI0, qS HB, qK HK⟩
 rw [if_neg c28] at H
 have c28b0 : (t337 == 1) = false := beq_eq_false_iff_ne.mpr c28
 have c28b1 : (t337 != 1) = true := bne_iff_ne.mpr c28
 by_cases c45 : t337 = 2
 · rw [if_pos c45] at H
   have c45b0 : (t337 == 2) = true := beq_iff_eq.mpr c45
   have c45b1 : (t337 != 2) = false := bne_eq_false_iff_eq.mpr c45
   clear c45
   by_cases c46 : 0 ≤ t335
   rotate_left
   · rw [if_neg c46] at H
     exact absurd H (by simp)
   rw [if_pos c46] at H
   have c46b0 := eq_true c46
   have c46b1 : decide (0 ≤ t335) = true := dT_ c46
   clear c46
   by_cases c47 : t335 ≤ (t332.length : Int)
   rotate_left
   · rw [if_neg c47] at H
     exact absurd H (by simp)
   rw [if_pos c47] at H
   have c47b0 := eq_true c47
   have c47b1 : decide (t335 ≤ (t332.length : Int)) = true := dT_ c47
   clear c47
   obtain ⟨y351, hy351⟩ : ∃ y_ : List (S30), y_ = (t332.take (t335 : Int).toNat) := ⟨_, rfl⟩
   replace H : (if 0 ≤ (wrap64 (t335 + 1)) then (if (wrap64 (t335 + 1)) ≤ (t332.length : Int) then (some ((t332.eraseIdx (t335 : Int).toNat), t338)) else (none)) else (none)) = some (r1, r2) := by subst hy351; exact H
   have Ny351 := aM_ hy351
   clear hy351
   obtain ⟨ji48, hji48⟩ : ∃ j_ : Int, (wrap64 (t335 + 1)) = j_ := ⟨_, rfl⟩
   replace H : (if 0 ≤ (ji48) then (if (ji48) ≤ (t332.length : Int) then (some ((t332.eraseIdx (t335 : Int).toNat), t338)) else (none)) else (none)) = some (r1, r2) := by first | (rw [hji48] at H; exact H) | (simp only [hji48] at H ⊢; exact H)
   (try rw [hji48] at A2)
   (try rw [hji48] at A3)
   (try rw [hji48] at A9)
   (try rw [hji48] at A10)
   have hji48w : (IntKind.i64.wrap (t335 + 1)) = ji48 := (i64_w _).trans hji48
   by_cases c49 : 0 ≤ (ji48)
   rotate_left
   · rw [if_neg c49] at H
     exact absurd H (by simp)
   rw [if_pos c49] at H
   have c49b0 := eq_true c49
   have c49b1 : decide (0 ≤ (ji48)) = true := dT_ c49
   clear c49
   by_cases c50 : (ji48) ≤ (t332.length : Int)
   rotate_left
   · rw [if_neg c50] at H
     exact absurd H (by simp)
   rw [if_pos c50] at H
   have c50b0 := eq_true c50
   have c50b1 : decide ((ji48) ≤ (t332.length : Int)) = true := dT_ c50
   clear c50
   obtain ⟨y356, hy356⟩ : ∃ y_ : List (S30), y_ = (t332.drop ((ji48) : Int).toNat) := ⟨_, rfl⟩
   replace H : (some ((t332.eraseIdx (t335 : Int).toNat), t338)) = some (r1, r2) := by subst hy356; exact H
   have Ny356 := aM_ hy356
   clear hy356
   obtain ⟨y361, hy361⟩ : ∃ y_ : List (S30), y_ = (t332.eraseIdx (t335 : Int).toNat) := ⟨_, rfl⟩
   replace H : (some (y361, t338)) = some (r1, r2) := by subst hy361; exact H
   have Ny361 := aM_ hy361
   clear hy361
   simp only [Option.some.injEq, Prod.mk.injEq] at H
   obtain ⟨rfl, rfl⟩ := H
   go_enter Tryz.func31, Tryz.ntmps31
   try go_wp2_with (first | ((with_reducible refine gc_ 57 ?_); refine gL_ (some 6) Tryz.func57 #[.pointer (some ⟨g, 0, none⟩)] ?_; (with_reducible refine (spec_l4Some.calls k g s0_0 s0_1 t328 t331 w0 _ ?side1 ?side2 A2.out).mono ?_); (case side1 => exact qI HI0); (case side2 => exact qS HB); rintro e w51 ⟨v329, rfl, ho0, hi, hb, hk⟩; refine ⟨_, rfl, ?_⟩; have n_ := aN4_ (Kd.N_lower (Kd.N_mono (ok' := fun k_ => k_ ≠ g) ho0 (fun k_ hk_ => (IsS98.fresh (qI HI0) k_ hk_))) (kz_ HK)) (KeepBut.trans (qK HK) hk (.inl rfl)) (hb) (hi); clear HK HB HI0; obtain ⟨HO330, HK, HB, HI0⟩ := n_; obtain ⟨Ao52, co52, eo52⟩ := Kd.N_slice HO330.out; subst eo52) | ((with_reducible refine gc_ 56 ?_); refine gL_ (some 7) Tryz.func56 #[.slice Ao52 t328.length co52, .int .i64 0] ?_; (with_reducible refine (spec_l5Of.calls _ _ t328 0 t332 _ ?side1 ?side2 A3.out).mono ?_); (case side1 => repeat (first | exact (Kd.N_reads' HO330.out).2.2 | (with_reducible refine Kd.C_alloc ?_ _) | (with_reducible refine Kd.C_drewN ?_ _) | (with_reducible refine Kd.C_drew ?_))); (case side2 => exact (Kd.N_reads' HO330.out).2.1); rintro e w53 ⟨v333, rfl, ho0, hb⟩; refine ⟨_, rfl, ?_⟩; have n_ := aN5_ (Kd.N_elder' (qN (HO330.out)) (Kd.R_base ho0) hb) (Kd.R_lower ho0 (kz_ HK)) (IsS98.below (qI HI0) hb) (KeepBut.trans (qK HK) (KeepBut.of_below hb g none) (.inl rfl)) (bT_ (qS HB) hb); clear HO330 HI0 HK HB; obtain ⟨HO330, HO334, HI0, HK, HB⟩ := n_; obtain ⟨Ao54, co54, eo54⟩ := Kd.R_slice HO334.out; subst eo54) | ((with_reducible refine gc_ 58 ?_); refine gL_ (some 15) Tryz.func58 #[.pointer (some ⟨g, 0, none⟩), .int .i64 (t332.length : Int)] ?_; (with_reducible refine (spec_l12Rd_pick.calls k g s0_0 t331 (t332.length : Int) t335 t336 w0 _ ?side1 ?side2 A9.out).mono ?_); (case side1 => exact qI HI0); (case side2 => exact qS HB); rintro e w55 ⟨rfl, hi, hb, hk⟩; refine ⟨_, rfl, ?_⟩; have n_ := aN5_ (Kd.N_mono (Kd.N_keep (Kd.N_mono (ok := fun k_ => (k_ ≠ g ∧ some k_ ≠ (.slice Ao54 t332.length co54 : Value).ownBlock)) (qN (HO330.out)) (fun k_ hk_ => (⟨hk_, hk_.1⟩ : _ ∧ k_ ≠ g))) hk (fun _ h => h.2)) (fun _ h => h.1)) (Kd.R_mono (Kd.R_keep (IsS98.apart (show IsS98 w0 _ g s0_0 t331 from qI HI0) (qR HO334) (by decide)) hk (fun _ h => h.2)) (fun _ h => h.1)) (KeepBut.trans (qK HK) hk (.inl rfl)) (hb) (hi); clear HO330 HO334 HK HB HI0; obtain ⟨HO330, HO334, HK, HB, HI0⟩ := n_) | ((with_reducible refine gc_ 58 ?_); refine gL_ (some 17) Tryz.func58 #[.pointer (some ⟨g, 0, none⟩), .int .i64 30] ?_; (with_reducible refine (spec_l12Rd_pick.calls k g s0_0 t336 30 t337 t338 w0 _ ?side1 ?side2 A10.out).mono ?_); (case side1 => exact qI HI0); (case side2 => exact qS HB); rintro e w56 ⟨rfl, hi, hb, hk⟩; refine ⟨_, rfl, ?_⟩; have n_ := aN5_ (Kd.N_mono (Kd.N_keep (Kd.N_mono (ok := fun k_ => (k_ ≠ g ∧ some k_ ≠ (.slice Ao54 t332.length co54 : Value).ownBlock)) (qN (HO330.out)) (fun k_ hk_ => (⟨hk_, hk_.1⟩ : _ ∧ k_ ≠ g))) hk (fun _ h => h.2)) (fun _ h => h.1)) (Kd.R_mono (Kd.R_keep (IsS98.apart (show IsS98 w0 _ g s0_0 t336 from qI HI0) (qR HO334) (by decide)) hk (fun _ h => h.2)) (fun _ h => h.1)) (KeepBut.trans (qK HK) hk (.inl rfl)) (hb) (hi); clear HO330 HO334 HK HB HI0; obtain ⟨HO330, HO334, HK, HB, HI0⟩ := n_))
   have n0_ := aM_ (Kd.N_drew HO330.out)
   have n1_ := aM_ (rD_ HO334.out)
   have n2_ := aM_ (iD_ HI0.out)
   have n3_ := aM_ (pD_ HK.out)
   have n4_ := aM_ (b1_ HB.out)
   clear HO330 HO334 HI0 HK HB
   revert n0_ n1_ n2_ n3_ n4_
   intro HO330 HO334 HI0 HK HB
   have q58 : (t335 : Int) ≤ ((t332.length : Int) : Int) := oD_ (by first | (with_reducible assumption) | assumption)
   obtain ⟨i058, hi058, _, hsz58, _⟩ := info_parts info30
   have hroom58 : t332.length ≤ co54 := (Kd.R_reads' HO334.out).2.1
   have hC58 : Kd.F k30 _ _ Ao54 t332.length t332 := (Kd.V_at (base := w.heap.size) (Kd.R_V (IsS98.apart HI0.out (Kd.R_apart' (HO334.out) (Kd.N_typed HO330.out) (by decide)) (by decide)))).2.2
   have hcut58 := cut_to (P := Tryz.prog) 23 30 .i64 Tryz.underlying23 hi058 Ao54 t332.length co54 t335 (oD_ (by first | (with_reducible assumption) | assumption)) q58 hroom58
   have hr58 := Kd.F_take (m := (t335 : Int).toNat) hC58 (by omega)
   have hy58 : y351.length = (t335 : Int).toNat := (by rw [Ny351.out, lT_]; omega)
   rw [← Ny351.out] at hr58
   rw [← hy58] at hcut58
   have HO355 := aM_ (show Kd.V k30 30 _ w.heap.size _ (.slice Ao54 y351.length co54) y351 from Kd.V_mk (by omega) hr58)
   have HC355 := aM_ (show y351.length ≤ co54 from by omega)
   clear hr58 hC58 hroom58 hi058 hsz58
   have KY58 := aM_ hy58
   clear hy58
   replace q58 := eq_true q58
   have q59 : ((ji48) : Int) ≤ ((t332.length : Int) : Int) := oD_ (by first | (with_reducible assumption) | assumption)
   obtain ⟨i059, hi059, _, hsz59, _⟩ := info_parts info30
   have hroom59 : t332.length ≤ co54 := (Kd.R_reads' HO334.out).2.1
   have hC59 : Kd.F k30 _ _ Ao54 t332.length t332 := (Kd.V_at (base := w.heap.size) (Kd.R_V (IsS98.apart HI0.out (Kd.R_apart' (HO334.out) (Kd.N_typed HO330.out) (by decide)) (by decide)))).2.2
   have q059 : (0 : Int) ≤ ((ji48) : Int) := oD_ (by first | (with_reducible assumption) | assumption)
   have hcut59 := cut_from (P := Tryz.prog) 23 30 .i64 Tryz.underlying23 hi059 4 hsz59 Ao54 t332.length co54 (ji48) q059 q59
   have hr59 := Kd.F_cut (m := ((ji48) : Int).toNat) (c := co54) hC59 (by omega) hroom59
   obtain ⟨A59, hA59⟩ : ∃ A1, A1 = (if co54 = ((ji48) : Int).toNat then Ao54 else (Ao54 : Option Addr).map (·.add (((ji48) : Int).toNat * 4))) := ⟨_, rfl⟩
   obtain ⟨c59, hc59⟩ : ∃ c1, c1 = co54 - ((ji48) : Int).toNat := ⟨_, rfl⟩
   have hy59 : y356.length = t332.length - ((ji48) : Int).toNat := (by rw [Ny356.out, lD_] <;> omega)
   rw [show (t332).drop ((ji48) : Int).toNat = y356 from Ny356.out.symm] at hr59
   replace hr59 : Kd.F k30 _ _ A59 y356.length y356 := (by rw [hA59]; exact hr59)
   rw [← hy59, ← hA59, ← hc59] at hcut59
   have HO360 := aM_ (show Kd.V k30 30 _ w.heap.size _ (.slice A59 y356.length c59) y356 from Kd.V_mk (by rw [hy59, hc59]; exact Nat.sub_le_sub_right hroom59 _) hr59)
   have HC360 := aM_ (show y356.length ≤ c59 from by rw [hy59, hc59]; exact Nat.sub_le_sub_right hroom59 _)
   clear hr59 hC59 hroom59 hi059 hsz59 hc59
   have KY59 := aM_ hy59
   have KA59 := aM_ hA59
   clear hy59 hA59
   replace q59 := eq_true q59
   obtain ⟨go61, co61, eo61, gb61, gl61, cl61, HG61⟩ := Kd.R_form HO334.out (by have hj_ : 0 ≤ (t335 : Int) := oD_ (by first | (with_reducible assumption) | assumption); have hl_ : (ji48 : Int) ≤ (t332.length : Int) := oD_ (by first | (with_reducible assumption) | assumption); have hh_ : (t335 : Int) ≤ (t332.length : Int) := oD_ (by first | (with_reducible assumption) | assumption); rw [← hji48] at hl_; unfold wrap64 at hl_; omega)
   (first | cases eo61 | (injection eo61 with ea_ en_ ec_; (first | subst ea_ | (injection ea_ with ea_; subst ea_)); subst ec_; clear en_))
   have GB61 := aM_ gb61
   have GG61 := aM_ HG61
   clear gb61 gl61 HG61
   refine start_ (n := 9) (S := fun w' => True) (ds := []) #[F_, F_, F_, F_, F_, F_, F_, F_, F_] (by kernel_rfl) rfl rfl trivial (fun hHeld => ?_); refine with_tabW spec_l5Code.tab11 spec_l5Code.bits11 (fun HT_ HW_ => ?_)
   generalize w56.drew = w57 at HO330 HO334 HI0 HK HB GG61 HO355 HO360 hHeld ⊢
   refine pure_ (i := 0) (N := some 45) (v := ?_) (a' := ?_) #[T_, F_, F_, F_, F_, F_, F_, F_, F_] rfl rfl (any_of HT_.out (by kernel_rfl)) (fun _ _ _ h => h) (Or.inl ⟨by rfl, ?_⟩) ?_ ?_
   rotate_left
   · intro w'
     go_simp
     with_reducible rfl
   rotate_left
   · simp only [Act.put, sA_, sB_, sC_, i64_w, i32_w]
     rfl
   refine pure_ (i := 1) (N := some 46) (v := ?_) (a' := ?_) #[T_, T_, F_, F_, F_, F_, F_, F_, F_] rfl rfl (any_of HT_.out (by kernel_rfl)) (fun _ _ _ h => h) (Or.inl ⟨by rfl, ?_⟩) ?_ ?_
   rotate_left
   · intro w'
     go_simp
     with_reducible rfl
   rotate_left
   · simp only [Act.put, sA_, sB_, sC_, i64_w, i32_w]
     rfl
   refine pure_ (i := 2) (N := some 47) (v := ?_) (a' := ?_) #[T_, T_, T_, F_, F_, F_, F_, F_, F_] rfl rfl (any_of HT_.out (by kernel_rfl)) (fun _ _ _ h => h) (Or.inl ⟨by rfl, ?_⟩) ?_ ?_
   rotate_left
   · intro w'
     go_simp
     with_reducible rfl
   rotate_left
   · simp only [Act.put, sA_, sB_, sC_, i64_w, i32_w]
     rfl
   refine pure_ (i := 3) (N := some 48) (v := ?_) (a' := ?_) #[T_, T_, T_, T_, F_, F_, F_, F_, F_] rfl rfl (any_of HT_.out (by kernel_rfl)) (fun _ _ _ h => h) (Or.inl ⟨by rfl, ?_⟩) ?_ ?_
   rotate_left
   · intro w'
     go_simp
     with_reducible rfl
   rotate_left
   · simp only [Act.put, sA_, sB_, sC_, i64_w, i32_w]
     rfl
   refine pure_ (i := 4) (N := some 49) (v := ?_) (a' := ?_) #[T_, T_, T_, T_, T_, F_, F_, F_, F_] rfl rfl (any_of HT_.out (by kernel_rfl)) (fun _ _ _ h => h) (Or.inl ⟨by rfl, ?_⟩) ?_ ?_
   rotate_left
   · intro w'
     go_simp
     with_reducible rfl
   rotate_left
   · simp only [Act.put, sA_, sB_, sC_, i64_w, i32_w]
     rfl
   refine pure_ (i := 5) (N := some 50) (v := ?_) (a' := ?_) #[T_, T_, T_, T_, T_, T_, F_, F_, F_] rfl rfl (any_of HT_.out (by kernel_rfl)) (fun _ _ _ h => h) (Or.inl ⟨by rfl, ?_⟩) ?_ ?_
   rotate_left
   · intro w'
     go_simp
     with_reducible rfl
   rotate_left
   · simp only [Act.put, sA_, sB_, sC_, i64_w, i32_w]
     rfl
   refine pure_ (i := 6) (N := some 51) (v := ?_) (a' := ?_) #[T_, T_, T_, T_, T_, T_, T_, F_, F_] rfl rfl (any_of HT_.out (by kernel_rfl)) (fun _ _ _ h => h) (Or.inl ⟨by rfl, ?_⟩) ?_ ?_
   rotate_left
   · intro w'
     go_simp
     with_reducible rfl
   rotate_left
   · simp only [Act.put, sA_, sB_, sC_, i64_w, i32_w]
     rfl
   refine one_ (i := 7) (N := some 52) #[T_, T_, T_, T_, T_, T_, T_, T_, F_] rfl rfl (one_of HT_.out (by kernel_rfl)) (by decide) (fun K hK => ?_)
   have hj_ : 0 ≤ (t335 : Int) := oD_ (by first | (with_reducible assumption) | assumption)
   have hl_ : (ji48 : Int) ≤ (t332.length : Int) := oD_ (by first | (with_reducible assumption) | assumption)
   have hh_ : (t335 : Int) ≤ (t332.length : Int) := oD_ (by first | (with_reducible assumption) | assumption)
   have hb_ := (Kd.R_reads' HO334.out).2.2.2.1
   have h0_ : (0 : Int) ≤ (ji48 : Int) := oD_ (by first | (with_reducible assumption) | assumption)
   have hy1_ := KY58.out
   have hk_ : (ji48 : Int).toNat = y351.length + 1 := (by have hw_ : (ji48 : Int) = t335 + 1 := (by have h00_ := h0_; rw [← hji48] at h00_ ⊢; unfold wrap64 at h00_ ⊢; omega); rw [hw_]; omega)
   refine Kd.R_delete_step k30 w.heap.size (by rfl) (.tmp 47) (.tmp 51) 23 30 rfl Tryz.underlying23 (by kernel_rfl) (g := go61) (n := t332.length) (c := co54) (k := y351.length) rfl rfl ?hA ?hm (qR HO334) ?hk (Below.refl _ _) (kz_ HK) ?_
   (case hA => have ha_ := KA59.out; rw [hk_] at ha_; exact ha_)
   (case hm => have ha_ := KY59.out; omega)
   (case hk => omega)
   intro w60 ho hb hg
   clear hj_ hl_ hh_ hb_ hk_ h0_
   rw [hy1_, ← Ny361.out] at ho
   clear hy1_
   have hn_ : t332.length - 1 = y361.length := (by have := (Kd.R_reads' ho).1; omega)
   rw [hn_] at ho ⊢
   clear hn_
   have n0_ := aM_ (Kd.N_afterv (v := (.slice (some ⟨go61, 0, none⟩) t332.length co54)) (v1 := .slice (some ⟨go61, 0, none⟩) y361.length co54) (ok := (fun k_ => k_ ≠ g)) (qN (HO330.out)) hg (.inl rfl))
   have n1_ := aM_ (ho)
   have n2_ := aM_ (IsS98.grown (qI HI0) hg (IsS98.own_ne HI0.out HO334.out (by decide)))
   have n3_ := aM_ (below_weaken (qS HB) HL.out hb)
   have n4_ := aM_ (KeepBut.trans (qK HK) (KeepBut.of_grown hg g) (Kd.R_base2 HO334.out))
   clear HO330 HO334 HI0 HB HK
   have HO330 := n0_
   have HO334 := n1_
   have HI0 := n2_
   have HB := n3_
   have HK := n4_
   clear n0_ n1_ n2_ n3_ n4_ ho hb hg
   refine hK.out _ _ trivial (fun hHeld => ?_)
   clear hK K
   refine norm_ (a' := ?_) ?_ ?_
   rotate_left
   · show Act.put _ (some 52) _ = _
     simp only [Act.put, sA_, sB_, sC_, i64_w, i32_w]
     rfl
   refine pure_ (i := 8) (N := some 3) (v := ?_) (a' := ?_) #[T_, T_, T_, T_, T_, T_, T_, T_, T_] rfl rfl (any_of HT_.out (by kernel_rfl)) (fun _ _ _ h => h) (Or.inl ⟨by rfl, ?_⟩) ?_ ?_
   rotate_left
   · intro w'
     go_simp
     with_reducible rfl
   rotate_left
   · simp only [Act.put, sA_, sB_, sC_, i64_w, i32_w]
     rfl
   refine done_ (done_of HT_.out (by kernel_rfl)) ?_
   try go_wp2
   go_ret
   exact ⟨_, by first | rfl | (simp [errW_none, errW_some] <;> rfl) | (simp only [← hji48]; first | rfl | (simp [errW_none, errW_some] <;> rfl)) | (simp [*, errW_none, errW_some] <;> rfl), by (with_reducible repeat (first | apply rA_ | apply rN_ | apply rD_)); exact HO334.out, qI HI0, qS HB, qK HK⟩
 rw [if_neg c45] at H
 have c45b0 : (t337 == 2) = false := beq_eq_false_iff_ne.mpr c45
 have c45b1 : (t337 != 2) = true := bne_iff_ne.mpr c45
 by_cases c62 : t337 = 3
 · rw [if_pos c62] at H
   have c62b0 : (t337 == 3) = true := beq_iff_eq.mpr c62
   have c62b1 : (t337 != 3) = false := bne_eq_false_iff_eq.mpr c62
   clear c62
   replace H := oB_ H
   obtain ⟨⟨t364, t365, t366⟩, A630, H⟩ := H
   dsimp only at H
   have A63 := aM_ A630
   clear A630
   by_cases c64 : 0 ≤ t335
   rotate_left
   · rw [if_neg c64] at H
     exact absurd H (by simp)
   rw [if_pos c64] at H
   have c64b0 : decide (0 ≤ t335) = true := dT_ c64
   clear c64
   by_cases c65 : t335 < (t332.length : Int)
   rotate_left
   · rw [if_neg c65] at H
     exact absurd H (by simp)
   rw [if_pos c65] at H
   have c65b0 : decide (t335 < (t332.length : Int)) = true := dT_ c65
   clear c65
   obtain ⟨y367, hy367⟩ : ∃ y_ : List (S30), y_ = (t332.set (t335 : Int).toNat (⟨(rd_T30 t332 t335).f0, (rd_T30 t332 t335).f1, (⟨t364, t365⟩ : S28)⟩ : S30)) := ⟨_, rfl⟩
   replace H : (some (y367, t366)) = some (r1, r2) := by subst hy367; exact H
   have Ny367 := aM_ hy367
   clear hy367
   simp only [Option.some.injEq, Prod.mk.injEq] at H
   obtain ⟨rfl, rfl⟩ := H
   go_enter Tryz.func31, Tryz.ntmps31
   go_wp2_with (first | ((with_reducible refine gc_ 57 ?_); refine gL_ (some 6) Tryz.func57 #[.pointer (some ⟨g, 0, none⟩)] ?_; (with_reducible refine (spec_l4Some.calls k g s0_0 s0_1 t328 t331 w0 _ ?side1 ?side2 A2.out).mono ?_); (case side1 => exact qI HI0); (case side2 => exact qS HB); rintro e w67 ⟨v329, rfl, ho0, hi, hb, hk⟩; refine ⟨_, rfl, ?_⟩; have n_ := aN4_ (Kd.N_lower (Kd.N_mono (ok' := fun k_ => k_ ≠ g) ho0 (fun k_ hk_ => (IsS98.fresh (qI HI0) k_ hk_))) (kz_ HK)) (KeepBut.trans (qK HK) hk (.inl rfl)) (hb) (hi); clear HK HB HI0; obtain ⟨HO330, HK, HB, HI0⟩ := n_; obtain ⟨Ao68, co68, eo68⟩ := Kd.N_slice HO330.out; subst eo68) | ((with_reducible refine gc_ 56 ?_); refine gL_ (some 7) Tryz.func56 #[.slice Ao68 t328.length co68, .int .i64 0] ?_; (with_reducible refine (spec_l5Of.calls _ _ t328 0 t332 _ ?side1 ?side2 A3.out).mono ?_); (case side1 => repeat (first | exact (Kd.N_reads' HO330.out).2.2 | (with_reducible refine Kd.C_alloc ?_ _) | (with_reducible refine Kd.C_drewN ?_ _) | (with_reducible refine Kd.C_drew ?_))); (case side2 => exact (Kd.N_reads' HO330.out).2.1); rintro e w69 ⟨v333, rfl, ho0, hb⟩; refine ⟨_, rfl, ?_⟩; have n_ := aN5_ (Kd.N_elder' (qN (HO330.out)) (Kd.R_base ho0) hb) (Kd.R_lower ho0 (kz_ HK)) (IsS98.below (qI HI0) hb) (KeepBut.trans (qK HK) (KeepBut.of_below hb g none) (.inl rfl)) (bT_ (qS HB) hb); clear HO330 HI0 HK HB; obtain ⟨HO330, HO334, HI0, HK, HB⟩ := n_; obtain ⟨Ao70, co70, eo70⟩ := Kd.R_slice HO334.out; subst eo70) | ((with_reducible refine gc_ 58 ?_); refine gL_ (some 15) Tryz.func58 #[.pointer (some ⟨g, 0, none⟩), .int .i64 (t332.length : Int)] ?_; (with_reducible refine (spec_l12Rd_pick.calls k g s0_0 t331 (t332.length : Int) t335 t336 w0 _ ?side1 ?side2 A9.out).mono ?_); (case side1 => exact qI HI0); (case side2 => exact qS HB); rintro e w71 ⟨rfl, hi, hb, hk⟩; refine ⟨_, rfl, ?_⟩; have n_ := aN5_ (Kd.N_mono (Kd.N_keep (Kd.N_mono (ok := fun k_ => (k_ ≠ g ∧ some k_ ≠ (.slice Ao70 t332.length co70 : Value).ownBlock)) (qN (HO330.out)) (fun k_ hk_ => (⟨hk_, hk_.1⟩ : _ ∧ k_ ≠ g))) hk (fun _ h => h.2)) (fun _ h => h.1)) (Kd.R_mono (Kd.R_keep (IsS98.apart (show IsS98 w0 _ g s0_0 t331 from qI HI0) (qR HO334) (by decide)) hk (fun _ h => h.2)) (fun _ h => h.1)) (KeepBut.trans (qK HK) hk (.inl rfl)) (hb) (hi); clear HO330 HO334 HK HB HI0; obtain ⟨HO330, HO334, HK, HB, HI0⟩ := n_) | ((with_reducible refine gc_ 58 ?_); refine gL_ (some 17) Tryz.func58 #[.pointer (some ⟨g, 0, none⟩), .int .i64 30] ?_; (with_reducible refine (spec_l12Rd_pick.calls k g s0_0 t336 30 t337 t338 w0 _ ?side1 ?side2 A10.out).mono ?_); (case side1 => exact qI HI0); (case side2 => exact qS HB); rintro e w72 ⟨rfl, hi, hb, hk⟩; refine ⟨_, rfl, ?_⟩; have n_ := aN5_ (Kd.N_mono (Kd.N_keep (Kd.N_mono (ok := fun k_ => (k_ ≠ g ∧ some k_ ≠ (.slice Ao70 t332.length co70 : Value).ownBlock)) (qN (HO330.out)) (fun k_ hk_ => (⟨hk_, hk_.1⟩ : _ ∧ k_ ≠ g))) hk (fun _ h => h.2)) (fun _ h => h.1)) (Kd.R_mono (Kd.R_keep (IsS98.apart (show IsS98 w0 _ g s0_0 t336 from qI HI0) (qR HO334) (by decide)) hk (fun _ h => h.2)) (fun _ h => h.1)) (KeepBut.trans (qK HK) hk (.inl rfl)) (hb) (hi); clear HO330 HO334 HK HB HI0; obtain ⟨HO330, HO334, HK, HB, HI0⟩ := n_) | ((with_reducible refine gc_ 59 ?_); refine gL_ (some 58) Tryz.func59 #[.pointer (some ⟨g, 0, none⟩)] ?_; (with_reducible refine (spec_l2AddrBent.calls k g s0_0 t338 t364 t365 t366 w0 _ ?side1 ?side2 A63.out).mono ?_); (case side1 => exact qI HI0); (case side2 => exact qS HB); rintro e w73 ⟨rfl, hi, hb, hk⟩; refine ⟨_, rfl, ?_⟩; have n_ := aN5_ (Kd.N_mono (Kd.N_keep (Kd.N_mono (ok := fun k_ => (k_ ≠ g ∧ some k_ ≠ (.slice Ao70 t332.length co70 : Value).ownBlock)) (qN (HO330.out)) (fun k_ hk_ => (⟨hk_, hk_.1⟩ : _ ∧ k_ ≠ g))) hk (fun _ h => h.2)) (fun _ h => h.1)) (Kd.R_mono (Kd.R_keep (IsS98.apart (show IsS98 w0 _ g s0_0 t338 from qI HI0) (qR HO334) (by decide)) hk (fun _ h => h.2)) (fun _ h => h.1)) (KeepBut.trans (qK HK) hk (.inl rfl)) (hb) (hi); clear HO330 HO334 HK HB HI0; obtain ⟨HO330, HO334, HK, HB, HI0⟩ := n_; have p66 : 0 ≤ (t335 : Int) := oD_ (by first | (with_reducible assumption) | assumption); have q66 : (t335 : Int) < ((t332.length : Int) : Int) := oD_ (by first | (with_reducible assumption) | assumption); obtain ⟨go66, co66, eo66, gb66, gl66, cl66, HG66⟩ := Kd.R_form HO334.out (by omega); (first | cases eo66 | (injection eo66 with ea_ en_ ec_; (first | subst ea_ | (injection ea_ with ea_; subst ea_)); subst ec_; clear en_)); have GB66 := aM_ gb66; have GG66 := aM_ HG66; clear gb66 gl66 HG66; obtain ⟨ce66, hcl66, hM66, hcc66, hfr66⟩ := Kd.R_elem HO334.out z30 (t335 : Int) p66 q66; obtain rfl := k30_openM hM66; have hx66_0 : w73.cell? ⟨go66, (t335 : Int).toNat * 4, none⟩ = some (.int .i64 ((rd_T30 t332 t335).f0)) := hcc66 0 _ rfl; have hx66_1 : w73.cell? ⟨go66, (t335 : Int).toNat * 4 + 1, none⟩ = some (.int .i64 ((rd_T30 t332 t335).f1)) := hcc66 1 _ rfl; have hx66_2 : w73.cell? ⟨go66, (t335 : Int).toNat * 4 + 2, none⟩ = some (.int .i64 ((rd_T30 t332 t335).f2.f0)) := hcc66 2 _ rfl; have hx66_3 : w73.cell? ⟨go66, (t335 : Int).toNat * 4 + 3, none⟩ = some (.int .i64 ((rd_T30 t332 t335).f2.f1)) := hcc66 3 _ rfl; have hf66_0 : w73.frozen? ⟨go66, (t335 : Int).toNat * 4, none⟩ = false := hfr66 0; have hf66_1 : w73.frozen? ⟨go66, (t335 : Int).toNat * 4 + 1, none⟩ = false := hfr66 1; have hf66_2 : w73.frozen? ⟨go66, (t335 : Int).toNat * 4 + 2, none⟩ = false := hfr66 2; have hf66_3 : w73.frozen? ⟨go66, (t335 : Int).toNat * 4 + 3, none⟩ = false := hfr66 3; clear hcl66 hcc66 hfr66 hM66; replace p66 := eq_true p66; replace q66 := eq_true q66; have HX74 := aM_ (show Kd.R k30 30 w73 w.heap.size (fun _ => True) (.slice (some ⟨go66, 0, none⟩) t332.length co70) t332 from (qR HO334)); obtain ⟨ce74, hcl74, hM74, hcc74, hfr74⟩ := Kd.R_elem HX74.out z30 (t335 : Int) (oD_ (by first | (with_reducible assumption) | assumption)) (by have h_ : (t335 : Int) < ((t332.length : Int) : Int) := oD_ (by first | (with_reducible assumption) | assumption); first | exact h_ | (have e_ := (Kd.R_reads' HO334.out).1; omega) | simpa using h_); obtain rfl := k30_openM hM74; have HP74 := Kd.R_seg HX74.out (t335 : Int) (oD_ (by first | (with_reducible assumption) | assumption)) (by have h_ : (t335 : Int) < ((t332.length : Int) : Int) := oD_ (by first | (with_reducible assumption) | assumption); first | exact h_ | (have e_ := (Kd.R_reads' HO334.out).1; omega) | simpa using h_) (seg := [.int .i64 t364, .int .i64 t365]) (j := 2) hcl74 hcc74 (show 4 ≤ 4 from by decide) (x' := (⟨(rd_T30 t332 t335).f0, (rd_T30 t332 t335).f1, (⟨t364, t365⟩ : S28)⟩ : S30)) (k30_mkM _ _ _ (⟨(rd_T30 t332 t335).f0, (rd_T30 t332 t335).f1, (⟨t364, t365⟩ : S28)⟩ : S30) ) (fun _ hk => hk); have hx74_2 := hcc74 2 _ rfl; (try simp only [show (k30).sz = 4 from rfl, Nat.mul_one, Nat.add_zero] at hx74_2); have hf74_2 := hfr74 2; (try simp only [show (k30).sz = 4 from rfl, Nat.mul_one, Nat.add_zero] at hf74_2); have hx74_3 := hcc74 3 _ rfl; (try simp only [show (k30).sz = 4 from rfl, Nat.mul_one, Nat.add_zero] at hx74_3); have hf74_3 := hfr74 3; (try simp only [show (k30).sz = 4 from rfl, Nat.mul_one, Nat.add_zero] at hf74_3); clear hcl74 hcc74 hfr74 hM74) | ((with_reducible refine gate_store (t := 28) (p := 60) rfl ?_); refine store_event (t := 28) (p := 60) (v := ?vo_w75) (w1 := ((w73.setCell ⟨go66, (t335 : Int).toNat * 4 + 2, none⟩ (.int .i64 t364)).setCell ⟨go66, (t335 : Int).toNat * 4 + 3, none⟩ (.int .i64 t365))) ?hg ?ho ?hn ?hr ?_; (case ho => rfl); (case hg => rfl); (case hn => rfl); (case hr => first | (go_simp; done) | (go_simp; rfl)); intro w75 hw; have hg : w73.grownBy w75 (some go66) := (by rw [hw]; exact HP74.2); have hp_ : Kd.R k30 30 w75 w.heap.size (fun _ => True) (.slice (some ⟨go66, 0, none⟩) t332.length co70) y367 := (by rw [hw, Ny367.out]; exact HP74.1); clear HP74; have n0_ := aM_ (IsS98.grown (qI HI0) hg (IsS98.own_ne HI0.out HO334.out (by decide))); have n1_ := aM_ (Kd.N_afterv (v := (.slice (some ⟨go66, 0, none⟩) t332.length co70)) (v1 := (.slice (some ⟨go66, 0, none⟩) t332.length co70)) (ok := (fun k_ => k_ ≠ g)) (qN (HO330.out)) hg (.inl rfl)); have n2_ := aM_ (hp_); have n3_ := aM_ ((by rw [hw]; exact bS_ (bS_ (HB.out) (Nat.le_trans HL.out GB66.out)) (Nat.le_trans HL.out GB66.out) : Below w0.heap.size w0 w75)); have n4_ := aM_ (KeepBut.trans (qK HK) (KeepBut.of_grown hg g) (Kd.R_base2 HO334.out)); clear HI0 HO330 HO334 HB HK; have HI0 := n0_; have HO330 := n1_; have HO334 := n2_; have HB := n3_; have HK := n4_; clear n0_ n1_ n2_ n3_ n4_ hg hw hp_))
   go_ret
   exact ⟨_, qE, by (with_reducible repeat (first | apply rA_ | apply rN_ | apply rD_)); exact HO334.out, qI HI0, qS HB, qK HK⟩
 rw [if_neg c62] at H
 have c62b0 : (t337 == 3) = false := beq_eq_false_iff_ne.mpr c62
 have c62b1 : (t337 != 3) = true := bne_iff_ne.mpr c62
 by_cases c76 : t337 = 4
 rotate_left
 · rw [if_neg c76] at H
   have c76b0 : (t337 == 4) = false := beq_eq_false_iff_ne.mpr c76
   have c76b1 : (t337 != 4) = true := bne_iff_ne.mpr c76
   simp only [Option.some.injEq, Prod.mk.injEq] at H
   obtain ⟨rfl, rfl⟩ := H
   go_enter Tryz.func31, Tryz.ntmps31
   go_wp2_with (first | ((with_reducible refine gc_ 57 ?_); refine gL_ (some 6) Tryz.func57 #[.pointer (some ⟨g, 0, none⟩)] ?_; (with_reducible refine (spec_l4Some.calls k g s0_0 s0_1 t328 t331 w0 _ ?side1 ?side2 A2.out).mono ?_); (case side1 => exact qI HI0); (case side2 => exact qS HB); rintro e w87 ⟨v329, rfl, ho0, hi, hb, hk⟩; refine ⟨_, rfl, ?_⟩; have n_ := aN4_ (Kd.N_lower (Kd.N_mono (ok' := fun k_ => k_ ≠ g) ho0 (fun k_ hk_ => (IsS98.fresh (qI HI0) k_ hk_))) (kz_ HK)) (KeepBut.trans (qK HK) hk (.inl rfl)) (hb) (hi); clear HK HB HI0; obtain ⟨HO330, HK, HB, HI0⟩ := n_; obtain ⟨Ao88, co88, eo88⟩ := Kd.N_slice HO330.out; subst eo88) | ((with_reducible refine gc_ 56 ?_); refine gL_ (some 7) Tryz.func56 #[.slice Ao88 t328.length co88, .int .i64 0] ?_; (with_reducible refine (spec_l5Of.calls _ _ t328 0 t332 _ ?side1 ?side2 A3.out).mono ?_); (case side1 => repeat (first | exact (Kd.N_reads' HO330.out).2.2 | (with_reducible refine Kd.C_alloc ?_ _) | (with_reducible refine Kd.C_drewN ?_ _) | (with_reducible refine Kd.C_drew ?_))); (case side2 => exact (Kd.N_reads' HO330.out).2.1); rintro e w89 ⟨v333, rfl, ho0, hb⟩; refine ⟨_, rfl, ?_⟩; have n_ := aN5_ (Kd.N_elder' (qN (HO330.out)) (Kd.R_base ho0) hb) (Kd.R_lower ho0 (kz_ HK)) (IsS98.below (qI HI0) hb) (KeepBut.trans (qK HK) (KeepBut.of_below hb g none) (.inl rfl)) (bT_ (qS HB) hb); clear HO330 HI0 HK HB; obtain ⟨HO330, HO334, HI0, HK, HB⟩ := n_; obtain ⟨Ao90, co90, eo90⟩ := Kd.R_slice HO334.out; subst eo90) | ((with_reducible refine gc_ 58 ?_); refine gL_ (some 15) Tryz.func58 #[.pointer (some ⟨g, 0, none⟩), .int .i64 (t332.length : Int)] ?_; (with_reducible refine (spec_l12Rd_pick.calls k g s0_0 t331 (t332.length : Int) t335 t336 w0 _ ?side1 ?side2 A9.out).mono ?_); (case side1 => exact qI HI0); (case side2 => exact qS HB); rintro e w91 ⟨rfl, hi, hb, hk⟩; refine ⟨_, rfl, ?_⟩; have n_ := aN5_ (Kd.N_mono (Kd.N_keep (Kd.N_mono (ok := fun k_ => (k_ ≠ g ∧ some k_ ≠ (.slice Ao90 t332.length co90 : Value).ownBlock)) (qN (HO330.out)) (fun k_ hk_ => (⟨hk_, hk_.1⟩ : _ ∧ k_ ≠ g))) hk (fun _ h => h.2)) (fun _ h => h.1)) (Kd.R_mono (Kd.R_keep (IsS98.apart (show IsS98 w0 _ g s0_0 t331 from qI HI0) (qR HO334) (by decide)) hk (fun _ h => h.2)) (fun _ h => h.1)) (KeepBut.trans (qK HK) hk (.inl rfl)) (hb) (hi); clear HO330 HO334 HK HB HI0; obtain ⟨HO330, HO334, HK, HB, HI0⟩ := n_) | ((with_reducible refine gc_ 58 ?_); refine gL_ (some 17) Tryz.func58 #[.pointer (some ⟨g, 0, none⟩), .int .i64 30] ?_; (with_reducible refine (spec_l12Rd_pick.calls k g s0_0 t336 30 t337 t338 w0 _ ?side1 ?side2 A10.out).mono ?_); (case side1 => exact qI HI0); (case side2 => exact qS HB); rintro e w92 ⟨rfl, hi, hb, hk⟩; refine ⟨_, rfl, ?_⟩; have n_ := aN5_ (Kd.N_mono (Kd.N_keep (Kd.N_mono (ok := fun k_ => (k_ ≠ g ∧ some k_ ≠ (.slice Ao90 t332.length co90 : Value).ownBlock)) (qN (HO330.out)) (fun k_ hk_ => (⟨hk_, hk_.1⟩ : _ ∧ k_ ≠ g))) hk (fun _ h => h.2)) (fun _ h => h.1)) (Kd.R_mono (Kd.R_keep (IsS98.apart (show IsS98 w0 _ g s0_0 t336 from qI HI0) (qR HO334) (by decide)) hk (fun _ h => h.2)) (fun _ h => h.1)) (KeepBut.trans (qK HK) hk (.inl rfl)) (hb) (hi); clear HO330 HO334 HK HB HI0; obtain ⟨HO330, HO334, HK, HB, HI0⟩ := n_))
   go_ret
   exact ⟨_, qE, by (with_reducible repeat (first | apply rA_ | apply rN_ | apply rD_)); exact HO334.out, qI HI0, qS HB, qK HK⟩
 rw [if_pos c76] at H
 have c76b0 : (t337 == 4) = true := beq_iff_eq.mpr c76
 have c76b1 : (t337 != 4) = false := bne_eq_false_iff_eq.mpr c76
 clear c76
 replace H := oB_ H
 obtain ⟨⟨t368, t369⟩, A770, H⟩ := H
 dsimp only at H
 have A77 := aM_ A770
 clear A770
 by_cases c78 : t332.length < 4398046511104
 rotate_left
 · rw [if_neg c78] at H
   exact absurd H (by simp)
 rw [if_pos c78] at H
 have LMc78 := aM_ c78
 clear c78
 obtain ⟨y370, hy370⟩ : ∃ y_ : List (S30), y_ = (t332 ++ [(⟨8, t368, (⟨0, 0⟩ : S28)⟩ : S30)]) := ⟨_, rfl⟩
 replace H : (some (y370, t369)) = some (r1, r2) := by subst hy370; exact H
 have Ny370 := aM_ hy370
 clear hy370
 simp only [Option.some.injEq, Prod.mk.injEq] at H
 obtain ⟨rfl, rfl⟩ := H
 go_enter Tryz.func31, Tryz.ntmps31
 go_wp2_with (first | ((with_reducible refine gc_ 57 ?_); refine gL_ (some 6) Tryz.func57 #[.pointer (some ⟨g, 0, none⟩)] ?_; (with_reducible refine (spec_l4Some.calls k g s0_0 s0_1 t328 t331 w0 _ ?side1 ?side2 A2.out).mono ?_); (case side1 => exact qI HI0); (case side2 => exact qS HB); rintro e w79 ⟨v329, rfl, ho0, hi, hb, hk⟩; refine ⟨_, rfl, ?_⟩; have n_ := aN4_ (Kd.N_lower (Kd.N_mono (ok' := fun k_ => k_ ≠ g) ho0 (fun k_ hk_ => (IsS98.fresh (qI HI0) k_ hk_))) (kz_ HK)) (KeepBut.trans (qK HK) hk (.inl rfl)) (hb) (hi); clear HK HB HI0; obtain ⟨HO330, HK, HB, HI0⟩ := n_; obtain ⟨Ao80, co80, eo80⟩ := Kd.N_slice HO330.out; subst eo80) | ((with_reducible refine gc_ 56 ?_); refine gL_ (some 7) Tryz.func56 #[.slice Ao80 t328.length co80, .int .i64 0] ?_; (with_reducible refine (spec_l5Of.calls _ _ t328 0 t332 _ ?side1 ?side2 A3.out).mono ?_); (case side1 => repeat (first | exact (Kd.N_reads' HO330.out).2.2 | (with_reducible refine Kd.C_alloc ?_ _) | (with_reducible refine Kd.C_drewN ?_ _) | (with_reducible refine Kd.C_drew ?_))); (case side2 => exact (Kd.N_reads' HO330.out).2.1); rintro e w81 ⟨v333, rfl, ho0, hb⟩; refine ⟨_, rfl, ?_⟩; have n_ := aN5_ (Kd.N_elder' (qN (HO330.out)) (Kd.R_base ho0) hb) (Kd.R_lower ho0 (kz_ HK)) (IsS98.below (qI HI0) hb) (KeepBut.trans (qK HK) (KeepBut.of_below hb g none) (.inl rfl)) (bT_ (qS HB) hb); clear HO330 HI0 HK HB; obtain ⟨HO330, HO334, HI0, HK, HB⟩ := n_; obtain ⟨Ao82, co82, eo82⟩ := Kd.R_slice HO334.out; subst eo82) | ((with_reducible refine gc_ 58 ?_); refine gL_ (some 15) Tryz.func58 #[.pointer (some ⟨g, 0, none⟩), .int .i64 (t332.length : Int)] ?_; (with_reducible refine (spec_l12Rd_pick.calls k g s0_0 t331 (t332.length : Int) t335 t336 w0 _ ?side1 ?side2 A9.out).mono ?_); (case side1 => exact qI HI0); (case side2 => exact qS HB); rintro e w83 ⟨rfl, hi, hb, hk⟩; refine ⟨_, rfl, ?_⟩; have n_ := aN5_ (Kd.N_mono (Kd.N_keep (Kd.N_mono (ok := fun k_ => (k_ ≠ g ∧ some k_ ≠ (.slice Ao82 t332.length co82 : Value).ownBlock)) (qN (HO330.out)) (fun k_ hk_ => (⟨hk_, hk_.1⟩ : _ ∧ k_ ≠ g))) hk (fun _ h => h.2)) (fun _ h => h.1)) (Kd.R_mono (Kd.R_keep (IsS98.apart (show IsS98 w0 _ g s0_0 t331 from qI HI0) (qR HO334) (by decide)) hk (fun _ h => h.2)) (fun _ h => h.1)) (KeepBut.trans (qK HK) hk (.inl rfl)) (hb) (hi); clear HO330 HO334 HK HB HI0; obtain ⟨HO330, HO334, HK, HB, HI0⟩ := n_) | ((with_reducible refine gc_ 58 ?_); refine gL_ (some 17) Tryz.func58 #[.pointer (some ⟨g, 0, none⟩), .int .i64 30] ?_; (with_reducible refine (spec_l12Rd_pick.calls k g s0_0 t336 30 t337 t338 w0 _ ?side1 ?side2 A10.out).mono ?_); (case side1 => exact qI HI0); (case side2 => exact qS HB); rintro e w84 ⟨rfl, hi, hb, hk⟩; refine ⟨_, rfl, ?_⟩; have n_ := aN5_ (Kd.N_mono (Kd.N_keep (Kd.N_mono (ok := fun k_ => (k_ ≠ g ∧ some k_ ≠ (.slice Ao82 t332.length co82 : Value).ownBlock)) (qN (HO330.out)) (fun k_ hk_ => (⟨hk_, hk_.1⟩ : _ ∧ k_ ≠ g))) hk (fun _ h => h.2)) (fun _ h => h.1)) (Kd.R_mono (Kd.R_keep (IsS98.apart (show IsS98 w0 _ g s0_0 t336 from qI HI0) (qR HO334) (by decide)) hk (fun _ h => h.2)) (fun _ h => h.1)) (KeepBut.trans (qK HK) hk (.inl rfl)) (hb) (hi); clear HO330 HO334 HK HB HI0; obtain ⟨HO330, HO334, HK, HB, HI0⟩ := n_) | ((with_reducible refine gc_ 58 ?_); refine gL_ (some 67) Tryz.func58 #[.pointer (some ⟨g, 0, none⟩), .int .i64 (t332.length : Int)] ?_; (with_reducible refine (spec_l12Rd_pick.calls k g s0_0 t338 (t332.length : Int) t368 t369 w0 _ ?side1 ?side2 A77.out).mono ?_); (case side1 => exact qI HI0); (case side2 => exact qS HB); rintro e w85 ⟨rfl, hi, hb, hk⟩; refine ⟨_, rfl, ?_⟩; have n_ := aN5_ (Kd.N_mono (Kd.N_keep (Kd.N_mono (ok := fun k_ => (k_ ≠ g ∧ some k_ ≠ (.slice Ao82 t332.length co82 : Value).ownBlock)) (qN (HO330.out)) (fun k_ hk_ => (⟨hk_, hk_.1⟩ : _ ∧ k_ ≠ g))) hk (fun _ h => h.2)) (fun _ h => h.1)) (Kd.R_mono (Kd.R_keep (IsS98.apart (show IsS98 w0 _ g s0_0 t338 from qI HI0) (qR HO334) (by decide)) hk (fun _ h => h.2)) (fun _ h => h.1)) (KeepBut.trans (qK HK) hk (.inl rfl)) (hb) (hi); clear HO330 HO334 HK HB HI0; obtain ⟨HO330, HO334, HK, HB, HI0⟩ := n_) | ((with_reducible refine gate_builtin (b := .append) (xs := #[.tmp 63, .tmp 69]) rfl ?_); at_builtin; refine Kd.R_append k30 w.heap.size rfl (.tmp 63) (.tmp 69) 23 30 (.agg #[(.int .i64 0), (.int .i64 0), (.int .i64 0), (.int .i64 0)]) 32 rfl Tryz.underlying23 info30 rfl (by decide) (by omega) (.slice Ao82 t332.length co82) t332 (⟨8, t368, (⟨0, 0⟩ : S28)⟩ : S30) [.int .i64 8, .int .i64 t368, .int .i64 0, .int .i64 0] (fun _ => True) (fun _ => False) rfl rfl ?aP (fun _ hk => hk.elim) ?aF ?aO (Below.refl _ _) ?aS ?aL ?_; (case aP => exact k30_mkM _ _ _ (⟨8, t368, (⟨0, 0⟩ : S28)⟩ : S30)); (case aF => exact (fun _ _ => trivial)); (case aO => exact (qR HO334)); (case aS => exact (kz_ HK)); (case aL => have := LMc78.out; omega); intro v371 w86 ho hb hg hat; rw [← Ny370.out] at ho; have n0_ := aM_ (IsS98.grown (qI HI0) hg (IsS98.own_ne HI0.out HO334.out (by decide))); have n1_ := aM_ (Kd.N_afterv (ok := (fun k_ => k_ ≠ g)) (qN (HO330.out)) hg hat); have n2_ := aM_ (below_weaken (qS HB) HL.out hb); have n3_ := aM_ (KeepBut.trans (qK HK) (KeepBut.of_grown hg g) (Kd.R_base2 HO334.out)); have n4_ := aM_ (ho); clear HI0 HO330 HB HK HO334; have HI0 := n0_; have HO330 := n1_; have HB := n2_; have HK := n3_; have HO372 := n4_; clear n0_ n1_ n2_ n3_ n4_ ho hb hg hat))
 go_ret
 exact ⟨_, qE, by (with_reducible repeat (first | apply rA_ | apply rN_ | apply rD_)); exact HO372.out, qI HI0, qS HB, qK HK⟩
def spec_l12Open.f (l0 : List Int) : Option (List Int × Int) := if (l0.length : Int) > 2000 then (if 2000 ≤ (l0.length : Int) then (some (l0.take 2000, 0)) else (none)) else (some (l0, 0))
set_option maxHeartbeats 8000000 in
set_option maxRecDepth 100000 in
theorem spec_l12Open.calls (A0 : Option Addr) (c0 : Nat) (l0 : List Int) (r1 : List Int) (r2 : Int) (w0 w : World) (hB : Below w0.heap.size w0 w) (hr0 : Kd.C (Kd.int .u8) w0 A0 l0.length l0) (hc0 : l0.length ≤ c0) (h : spec_l12Open.f l0 = some (r1, r2)) :
    Calls Tryz.prog 32 #[.slice A0 l0.length c0] w fun e w' => ∃ g_ : Nat, e = .returned (.pointer (some ⟨g_, 0, none⟩)) ∧ IsS98 w0 w' g_ r1 r2 ∧ Below w0.heap.size w0 w' ∧ Below w.heap.size w w' := by
 have hu98 := Tryz.underlying98
 have HR0 := aM_ hr0
 have HC0 := aM_ hc0
 clear hr0 hc0
 have HBW := aM_ (Below.refl w.heap.size w)
 have HW0 := aM_ hB.size
 have HB := aM_ hB
 clear hB
 have H : (if (l0.length : Int) > 2000 then (if 2000 ≤ (l0.length : Int) then (some (l0.take 2000, 0)) else (none)) else (some (l0, 0))) = some (r1, r2) := h
 clear h
 by_cases c2 : (l0.length : Int) > 2000
 rotate_left
 · rw [if_neg c2] at H
   have c2b0 : decide (2000 < (l0.length : Int)) = false := dF_ c2
   have c2b1 : decide (2000 < l0.length) = false := dF_ (by omega)
   clear c2
   simp only [Option.some.injEq, Prod.mk.injEq] at H
   obtain ⟨rfl, rfl⟩ := H
   go_enter Tryz.func32, Tryz.ntmps32
   go_wp2_with (first | ((with_reducible refine gate_dst (N := 10) rfl ?_); refine box_event ?hg (N := 10) ?hd (cs := #[.slice A0 l0.length c0, .int .i64 0]) (t := 98) ?hr ?_; (case hd => rfl); (case hg => rfl); (case hr => first | (go_simp; done) | (go_simp; rfl)); intro gb375 hg w6 hbox hb; have n0_ := aM_ (bT_ HBW.out hb); have n1_ := aM_ (bT_ (qB HB) hb); have n2_ := aM_ (hbox); have n3_ := aM_ ((by rw [hg]; exact (bZ_ (qB HBW)) : w.heap.size ≤ gb375)); have n4_ := aM_ ((Nat.le_trans HW0.out (by rw [hg]; exact (bZ_ (qB HBW)) : w.heap.size ≤ gb375) : w0.heap.size ≤ gb375)); clear HBW HB; have HBW := n0_; have HB := n1_; have BK375 := n2_; have GW375 := n3_; have GE375 := n4_; clear n0_ n1_ n2_ n3_ n4_ hb hbox hg))
   go_ret
   exact ⟨_, rfl, (show IsS98 w0 _ gb375 l0 0 from ⟨_, _, by (with_reducible repeat (first | refine kN_ ?_ _ | refine kD_ ?_ | refine kA_ ?_ _)); exact BK375.out, GE375.out, HR0.out⟩), qB HB, qB HBW⟩
 rw [if_pos c2] at H
 have c2b0 : decide (2000 < (l0.length : Int)) = true := dT_ c2
 have c2b1 : decide (2000 < l0.length) = true := dT_ (by omega)
 clear c2
 by_cases c3 : 2000 ≤ (l0.length : Int)
 rotate_left
 · rw [if_neg c3] at H
   exact absurd H (by simp)
 rw [if_pos c3] at H
 have c3b0 := eq_true c3
 have c3b1 : decide (2000 ≤ (l0.length : Int)) = true := dT_ c3
 clear c3
 simp only [Option.some.injEq, Prod.mk.injEq] at H
 obtain ⟨rfl, rfl⟩ := H
 obtain ⟨i04, hi04, _, hsz4, _⟩ := info_parts info5
 obtain ⟨hcut4, hA4, hC4⟩ := print_take_of (P := Tryz.prog) (Value.int .u8) 0 22 5 .i64 Tryz.underlying22 hi04 hsz4 A0 c0 l0 2000 (by omega) (oD_ (by first | (with_reducible assumption) | assumption)) HC0.out
 have HR373 := aM_ (Kd.C_of_reads (h1 := fun _ => rfl) (hA4 _ (Kd.reads_of_C HR0.out)))
 have HC373 := aM_ hC4
 clear hA4 hC4 hi04 hsz4
 go_enter Tryz.func32, Tryz.ntmps32
 go_wp2_with (first | ((with_reducible refine gate_dst (N := 10) rfl ?_); refine box_event ?hg (N := 10) ?hd (cs := #[.slice A0 (l0.take 2000).length c0, .int .i64 0]) (t := 98) ?hr ?_; (case hd => rfl); (case hg => rfl); (case hr => first | (go_simp; done) | (go_simp; rfl)); intro gb374 hg w5 hbox hb; have n0_ := aM_ (bT_ HBW.out hb); have n1_ := aM_ (bT_ (qB HB) hb); have n2_ := aM_ (hbox); have n3_ := aM_ ((by rw [hg]; exact (bZ_ (qB HBW)) : w.heap.size ≤ gb374)); have n4_ := aM_ ((Nat.le_trans HW0.out (by rw [hg]; exact (bZ_ (qB HBW)) : w.heap.size ≤ gb374) : w0.heap.size ≤ gb374)); clear HBW HB; have HBW := n0_; have HB := n1_; have BK374 := n2_; have GW374 := n3_; have GE374 := n4_; clear n0_ n1_ n2_ n3_ n4_ hb hbox hg))
 go_ret
 exact ⟨_, rfl, (show IsS98 w0 _ gb374 (l0.take 2000) 0 from ⟨_, _, by (with_reducible repeat (first | refine kN_ ?_ _ | refine kD_ ?_ | refine kA_ ?_ _)); exact BK374.out, GE374.out, HR373.out⟩), qB HB, qB HBW⟩
def impl_Ins.l0 : Nat → List (S30) → List (S30) → Int → Int → Option (Bool)
  | 0, _, _, _, _ => none
  | k + 1, x0, x1, x12, x13 => if x13 < x12 then (if 0 ≤ x13 then (if x13 < (x0.length : Int) then (if x13 < (x1.length : Int) then (if (!(((rd_T30 x0 x13).f0) == ((rd_T30 x1 x13).f0)) || (!(((rd_T30 x0 x13).f1) == ((rd_T30 x1 x13).f1)) || ((!(((rd_T30 x0 x13).f2.f0) == ((rd_T30 x1 x13).f2.f0)) || (!(((rd_T30 x0 x13).f2.f1) == ((rd_T30 x1 x13).f2.f1))))))) = true then (some false) else (impl_Ins.l0 k x0 x1 x12 (wrap64 (x13 + 1)))) else (none)) else (none)) else (none)) else (some true)
def impl_Ins.f (k : Nat) (l0 : List (S30)) (l1 : List (S30)) : Option (Bool) := if (l0.length : Int) = (l1.length : Int) then (impl_Ins.l0 k l0 l1 (l0.length : Int) 0) else (some false)
set_option maxHeartbeats 8000000 in
set_option maxRecDepth 100000 in
theorem impl_Ins.calls (k : Nat) (A0 : Option Addr) (c0 : Nat) (l0 : List (S30)) (A1 : Option Addr) (c1 : Nat) (l1 : List (S30)) (r : Bool) (w : World) (hr0 : Kd.C k30 w A0 l0.length l0) (hc0 : l0.length ≤ c0) (hr1 : Kd.C k30 w A1 l1.length l1) (hc1 : l1.length ≤ c1) (h : impl_Ins.f k l0 l1 = some r) :
    Calls Tryz.prog 33 #[.slice A0 l0.length c0, .slice A1 l1.length c1] w fun e w' => e = .returned (.bool r) ∧ Drawn0 w w' := by
 have hu30 := Tryz.underlying30
 have HR0 := aM_ hr0
 have HC0 := aM_ hc0
 clear hr0 hc0
 have HR1 := aM_ hr1
 have HC1 := aM_ hc1
 clear hr1 hc1
 have H : (if (l0.length : Int) = (l1.length : Int) then (impl_Ins.l0 k l0 l1 (l0.length : Int) 0) else (some false)) = some r := h
 clear h
 by_cases c3 : (l0.length : Int) = (l1.length : Int)
 rotate_left
 · rw [if_neg c3] at H
   have c3b0 : ((l0.length : Int) == (l1.length : Int)) = false := beq_eq_false_iff_ne.mpr c3
   have c3b1 : ((l0.length : Int) != (l1.length : Int)) = true := bne_iff_ne.mpr c3
   have c3b2 : (l0.length == l1.length) = false := by first | simpa using c3 | (simp at c3 ⊢; omega)
   obtain rfl := oI_ H
   go_enter Tryz.func33, Tryz.ntmps33
   go_wp2
   repeat (go_quiet (fail); try go_wp2)
   go_ret
   exact ⟨qF, by repeat (first | exact Drawn0.refl _ | apply Drawn0.step)⟩
 rw [if_pos c3] at H
 have c3b0 : ((l0.length : Int) == (l1.length : Int)) = true := beq_iff_eq.mpr c3
 have c3b1 : ((l0.length : Int) != (l1.length : Int)) = false := bne_eq_false_iff_eq.mpr c3
 have c3b2 : (l0.length == l1.length) = true := by first | simpa using c3 | (simp at c3 ⊢; omega)
 clear c3
 have H' := aM_ H
 clear H
 go_enter Tryz.func33, Tryz.ntmps33
 go_wp2
 repeat (go_quiet (fail); try go_wp2)
 go_loopg [13] k (fun kq v13 w' => ∃ (x13_1 : Int), v13 = .int .i64 x13_1 ∧ Aside0 (impl_Ins.l0 kq l0 l1 (l0.length : Int) x13_1 = some r) ∧ Aside0 (kq ≤ k) ∧ Drawn0 w w')
 case atStart => exact ⟨(0), qF, H', ⟨Nat.le_refl _⟩, by repeat (first | exact Drawn0.refl _ | apply Drawn0.step)⟩
 case round =>
  clear H'
  try clear c1
  try clear p2
  try clear c3
  try clear c3b0
  try clear c3b1
  try clear c3b2
  obtain ⟨x13_1, rfl, HA, HK1, ⟨m1, rfl⟩⟩ := hrel
  cases gk with
  | zero => exact absurd HA.out (by simp [impl_Ins.l0])
  | succ k1 =>
   have H := HA.out
   clear HA
   simp only [impl_Ins.l0] at H
   by_cases c4 : x13_1 < (l0.length : Int)
   rotate_left
   · rw [if_neg c4] at H
     have c4b0 : decide (x13_1 < (l0.length : Int)) = false := dF_ c4
     clear c4
     obtain rfl := oI_ H
     go_wp2
     repeat (go_quiet (fail); try go_wp2)
     go_ret
     exact ⟨qF, by repeat (first | exact Drawn0.refl _ | apply Drawn0.step)⟩
   rw [if_pos c4] at H
   have c4b0 : decide (x13_1 < (l0.length : Int)) = true := dT_ c4
   clear c4
   by_cases c5 : 0 ≤ x13_1
   rotate_left
   · rw [if_neg c5] at H
     exact absurd H (by simp)
   rw [if_pos c5] at H
   have c5b0 : decide (0 ≤ x13_1) = true := dT_ c5
   clear c5
   by_cases c6 : x13_1 < (l0.length : Int)
   rotate_left
   · rw [if_neg c6] at H
     exact absurd H (by simp)
   rw [if_pos c6] at H
   have c6b0 : decide (x13_1 < (l0.length : Int)) = true := dT_ c6
   clear c6
   by_cases c7 : x13_1 < (l1.length : Int)
   rotate_left
   · rw [if_neg c7] at H
     exact absurd H (by simp)
   rw [if_pos c7] at H
   have c7b0 : decide (x13_1 < (l1.length : Int)) = true := dT_ c7
   clear c7
   by_cases c8 : (!(((rd_T30 l0 x13_1).f0) == ((rd_T30 l1 x13_1).f0)) || (!(((rd_T30 l0 x13_1).f1) == ((rd_T30 l1 x13_1).f1)) || ((!(((rd_T30 l0 x13_1).f2.f0) == ((rd_T30 l1 x13_1).f2.f0)) || (!(((rd_T30 l0 x13_1).f2.f1) == ((rd_T30 l1 x13_1).f2.f1))))))) = true
   · rw [if_pos c8] at H
     have c8b0 : (!(((rd_T30 l0 x13_1).f0) == ((rd_T30 l1 x13_1).f0)) || (!(((rd_T30 l0 x13_1).f1) == ((rd_T30 l1 x13_1).f1)) || ((!(((rd_T30 l0 x13_1).f2.f0) == ((rd_T30 l1 x13_1).f2.f0)) || (!(((rd_T30 l0 x13_1).f2.f1) == ((rd_T30 l1 x13_1).f2.f1))))))) = true := c8
     clear c8
     obtain rfl := oI_ H
     have p394 : 0 ≤ (x13_1 : Int) := oD_ (by first | (with_reducible assumption) | assumption)
     have q394 : x13_1 < (l0.length : Int) := oD_ (by first | (with_reducible assumption) | assumption)
     obtain ⟨ad394, e394, hx394_0, hx394_1, hx394_2, hx394_3⟩ := at_T30 HR0.out x13_1 p394 q394
     cases e394
     replace p394 := eq_true p394
     replace q394 := eq_true q394
     have p395 : 0 ≤ (x13_1 : Int) := oD_ (by first | (with_reducible assumption) | assumption)
     have q395 : x13_1 < (l1.length : Int) := oD_ (by first | (with_reducible assumption) | assumption)
     obtain ⟨ad395, e395, hx395_0, hx395_1, hx395_2, hx395_3⟩ := at_T30 HR1.out x13_1 p395 q395
     cases e395
     replace p395 := eq_true p395
     replace q395 := eq_true q395
     go_wp2
     repeat (go_quiet (fail); try go_wp2)
     go_ret
     exact ⟨qF, by repeat (first | exact Drawn0.refl _ | apply Drawn0.step)⟩
   rw [if_neg c8] at H
   have c8b0 : (!(((rd_T30 l0 x13_1).f0) == ((rd_T30 l1 x13_1).f0)) || (!(((rd_T30 l0 x13_1).f1) == ((rd_T30 l1 x13_1).f1)) || ((!(((rd_T30 l0 x13_1).f2.f0) == ((rd_T30 l1 x13_1).f2.f0)) || (!(((rd_T30 l0 x13_1).f2.f1) == ((rd_T30 l1 x13_1).f2.f1))))))) = false := by simpa using c8
   clear c8
   have H' := aM_ H
   clear H
   have p394 : 0 ≤ (x13_1 : Int) := oD_ (by first | (with_reducible assumption) | assumption)
   have q394 : x13_1 < (l0.length : Int) := oD_ (by first | (with_reducible assumption) | assumption)
   obtain ⟨ad394, e394, hx394_0, hx394_1, hx394_2, hx394_3⟩ := at_T30 HR0.out x13_1 p394 q394
   cases e394
   replace p394 := eq_true p394
   replace q394 := eq_true q394
   have p395 : 0 ≤ (x13_1 : Int) := oD_ (by first | (with_reducible assumption) | assumption)
   have q395 : x13_1 < (l1.length : Int) := oD_ (by first | (with_reducible assumption) | assumption)
   obtain ⟨ad395, e395, hx395_0, hx395_1, hx395_2, hx395_3⟩ := at_T30 HR1.out x13_1 p395 q395
   cases e395
   replace p395 := eq_true p395
   replace q395 := eq_true q395
   go_wp2
   repeat (go_quiet (fail); try go_wp2)
   go_roundg k1
   case measure => have := HK1.out; omega
   case rel => exact ⟨(wrap64 (x13_1 + 1)), qF, H', ⟨by have := HK1.out; omega⟩, by repeat (first | exact Drawn0.refl _ | apply Drawn0.step)⟩
end Go.Proofs.YtjamfddhcigchaaGreatDoor.HFnCodeSame
