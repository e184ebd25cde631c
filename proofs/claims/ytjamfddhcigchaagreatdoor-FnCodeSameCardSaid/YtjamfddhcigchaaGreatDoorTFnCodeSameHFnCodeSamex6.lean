-- Made by a program of this session (hp.py) over the kit's print: functions told by hand stand beside printed ones. Lean checks it.
import Derived.Test.YtjamfddhcigchaaGreatDoorTFnCodeSameHFnCodeSamex5
namespace Go.Proofs.YtjamfddhcigchaaGreatDoor.HFnCodeSame
open Go.RowKit Go.Proofs.YtjamfddhcigchaaGreatDoorW.PrintWords Go.Proofs.YtjamfddhcigchaaGreatDoorW.PrintLast Go.Proofs.YtjamfddhcigchaaGreatDoorW.PrintMore
attribute [local go_sem] max2_int min2_int max_two min_two max_three min_three max_four min_four
set_option linter.unusedVariables false
set_option linter.unusedSimpArgs false
mutual
def spec_l4List.l0 : Nat → Int → List (S122) → Int → List Int → Int → Option ((List (S122)) × Int)
  | 0, _, _, _, _, _ => none
  | k + 1, x1, x5, x6, x1000, x1001 => if x6 > 0 then (spec_l4List.j1 k x1 x5 x6 (decide (x1 > 0)) x1000 x1001) else (spec_l4List.j1 k x1 x5 x6 false x1000 x1001)
def spec_l4List.j1 : Nat → Int → List (S122) → Int → Bool → List Int → Int → Option ((List (S122)) × Int)
  | 0, _, _, _, _, _, _ => none
  | k + 1, x1, x5, x6, x15, x1000, x1001 => if x15 = true then ((spec_l12Rd_pick.f k x1000 x1001 7).bind fun bt187 => (if bt187.1 = 0 then (spec_l4List.j2 k x1 x5 x6 bt187.1 (bt187.1 == 0) x1000 bt187.2) else (spec_l4List.j2 k x1 x5 x6 bt187.1 (bt187.1 == 1) x1000 bt187.2))) else (some (x5, x1001))
def spec_l4List.j2 : Nat → Int → List (S122) → Int → Int → Bool → List Int → Int → Option ((List (S122)) × Int)
  | 0, _, _, _, _, _, _, _ => none
  | k + 1, x1, x5, x6, x19, x28, x1000, x1001 => if x28 = true then ((spec_l3Expr.f k x1000 x1001 3).bind fun bt189 => ((spec_l4List.f k x1000 bt189.2.2.2.2.2 (wrap64 (x1 - 1))).bind fun bt197 => ((spec_l4List.f k x1000 bt197.2 (wrap64 (x1 - 2))).bind fun bt201 => (if x5.length < 1099511627776 then (spec_l4List.l0 k x1 (x5 ++ [(⟨2, (⟨0, 0⟩ : S28), (⟨bt189.1, bt189.2.1, (⟨bt189.2.2.1, bt189.2.2.2.1⟩ : S28), bt189.2.2.2.2.1⟩ : S120), bt197.1, bt201.1⟩ : S122)]) (wrap64 (x6 - 1)) x1000 bt201.2) else (none))))) else (if x19 = 2 then (if x1 > 1 then ((spec_l4Count.f x1000 x1001).bind fun bt208 => (if x5.length < 1099511627776 then (spec_l4List.l0 k x1 (x5 ++ [(⟨bt208.1, (⟨bt208.2.1, bt208.2.2.1⟩ : S28), (⟨bt208.2.2.2.1, bt208.2.2.2.2.1, (⟨bt208.2.2.2.2.2.1, bt208.2.2.2.2.2.2.1⟩ : S28), bt208.2.2.2.2.2.2.2.1⟩ : S120), bt208.2.2.2.2.2.2.2.2.1, bt208.2.2.2.2.2.2.2.2.2.1⟩ : S122)]) (wrap64 (x6 - 1)) x1000 bt208.2.2.2.2.2.2.2.2.2.2) else (none))) else (spec_l4List.l0 k x1 x5 (wrap64 (x6 - 1)) x1000 x1001)) else (if x19 = 3 then ((spec_l12Rd_pick.f k x1000 x1001 3).bind fun bt228 => (if bt228.1 = 0 then ((spec_l3Expr.f k x1000 bt228.2 2).bind fun bt230 => ((spec_l4List.f k x1000 bt230.2.2.2.2.2 (wrap64 (x1 - 1))).bind fun bt238 => (if x5.length < 1099511627776 then (spec_l4List.l0 k x1 (x5 ++ [(⟨3, (⟨0, 0⟩ : S28), (⟨bt230.1, bt230.2.1, (⟨bt230.2.2.1, bt230.2.2.2.1⟩ : S28), bt230.2.2.2.2.1⟩ : S120), bt238.1, ([] : List (S122))⟩ : S122)]) (wrap64 (x6 - 1)) x1000 bt238.2) else (none)))) else (spec_l4List.l0 k x1 x5 (wrap64 (x6 - 1)) x1000 bt228.2))) else ((spec_l2To.f k x1000 x1001).bind fun bt245 => ((spec_l3Expr.f k x1000 bt245.2.2 3).bind fun bt248 => (if x5.length < 1099511627776 then (spec_l4List.l0 k x1 (x5 ++ [(⟨1, (⟨bt245.1, bt245.2.1⟩ : S28), (⟨bt248.1, bt248.2.1, (⟨bt248.2.2.1, bt248.2.2.2.1⟩ : S28), bt248.2.2.2.2.1⟩ : S120), ([] : List (S122)), ([] : List (S122))⟩ : S122)]) (wrap64 (x6 - 1)) x1000 bt248.2.2.2.2.2) else (none))))))
def spec_l4List.f : Nat → List Int → Int → Int → Option ((List (S122)) × Int)
  | 0, _, _, _ => none
  | k + 1, s0_0, s0_1, a1 => (spec_l12Rd_pick.f k s0_0 s0_1 4).bind fun bt185 => (spec_l4List.l0 k a1 (([] : List (S122))) bt185.1 s0_0 bt185.2)
end
set_option maxHeartbeats 8000000 in
set_option maxRecDepth 100000 in
theorem spec_l4List.calls (k : Nat) : ∀ (g : Nat) (s0_0 : List Int) (s0_1 : Int) (a1 : Int) (r1 : List (S122)) (r2 : Int) (w0 w : World) (hI : IsS98 w0 w g s0_0 s0_1) (hB : Below w0.heap.size w0 w) (h : spec_l4List.f k s0_0 s0_1 a1 = some (r1, r2)),
    Calls Tryz.prog 84 #[.pointer (some ⟨g, 0, none⟩), .int .i64 a1] w fun e w' => ∃ v0_ : Value, e = .returned (v0_) ∧ Kd.R k122 122 w' w.heap.size (fun _ => True) v0_ r1 ∧ IsS98 w0 w' g s0_0 r2 ∧ Below w0.heap.size w0 w' ∧ KeepBut w w' g none := by
 induction k using Nat.strongRecOn with
 | _ k ih =>
 intro g s0_0 s0_1 a1 r1 r2 w0 w hI hB h
 cases k with
 | zero => exact absurd h (by simp [spec_l4List.f])
 | succ k =>
 simp only [spec_l4List.f] at h
 have hu122 := Tryz.underlying122
 have HI0 := aM_ hI
 have HK := aM_ (KeepBut.refl w g none)
 have HL := aM_ hB.size
 clear hI
 have HW0 := aM_ hB.size
 have HB := aM_ hB
 clear hB
 have H : ((spec_l12Rd_pick.f k s0_0 s0_1 4).bind fun bt185 => (spec_l4List.l0 k a1 (([] : List (S122))) bt185.1 s0_0 bt185.2)) = some (r1, r2) := h
 clear h
 obtain ⟨y182, hy182⟩ : ∃ y_ : List (S122), y_ = (([] : List (S122))) := ⟨_, rfl⟩
 replace H : ((spec_l12Rd_pick.f k s0_0 s0_1 4).bind fun bt185 => (spec_l4List.l0 k a1 y182 bt185.1 s0_0 bt185.2)) = some (r1, r2) := by subst hy182; exact H
 have Ny182 := aM_ hy182
 clear hy182
 replace H := oB_ H
 obtain ⟨⟨t185, t186⟩, A30, H⟩ := H
 dsimp only at H
 have A3 := aM_ A30
 clear A30
 have H' := aM_ H
 clear H
 go_enter Tryz.func84, Tryz.ntmps84
 go_wp2_with (first | ((with_reducible refine gate_dst (N := 7) rfl ?_); refine Kd.R_lit k122 _ 122 ?hg (N := 7) ?hd (xs := ([] : List (S122))) (inner := []) (ok := fun _ => True) (okp := fun _ => True) ?hr ?hp (fun _ hk => hk) trivial (Below.refl _ _) (Nat.le_refl _) (by simp) ?_; (case hd => rfl); (case hg => rfl); (case hr => first | (go_simp; done) | (go_simp; rfl)); (case hp => exact (Reps.none _ _)); intro v183 w4 ho5 hb hg_ hnew_; clear hg_ hnew_; (first | rw [← Ny182.out] at ho5 | (simp only [Int.reduceToNat] at ho5; rw [← Ny182.out] at ho5)); have n0_ := aM_ (Kd.R_lower ho5 (kz_ HK)); have n1_ := aM_ (IsS98.below (qI HI0) hb); have n2_ := aM_ (KeepBut.trans (qK HK) (KeepBut.of_below hb g none) (.inl rfl)); have n3_ := aM_ (bT_ (qS HB) hb); clear HI0 HK HB; have HO184 := n0_; have HI0 := n1_; have HK := n2_; have HB := n3_; clear n0_ n1_ n2_ n3_ hb ho5) | ((with_reducible refine gc_ 58 ?_); refine gL_ (some 9) Tryz.func58 #[.pointer (some ⟨g, 0, none⟩), .int .i64 4] ?_; (with_reducible refine (spec_l12Rd_pick.calls k g s0_0 s0_1 4 t185 t186 w0 _ ?side1 ?side2 A3.out).mono ?_); (case side1 => exact qI HI0); (case side2 => exact qS HB); rintro e w6 ⟨rfl, hi, hb, hk⟩; refine ⟨_, rfl, ?_⟩; have n_ := aN4_ (Kd.R_mono (Kd.R_keep (IsS98.apart (show IsS98 w0 _ g s0_0 s0_1 from qI HI0) (qR HO184) (by decide)) hk (fun _ h => h.2)) (fun _ h => h.1)) (KeepBut.trans (qK HK) hk (.inl rfl)) (hb) (hi); clear HO184 HK HB HI0; obtain ⟨HO184, HK, HB, HI0⟩ := n_))
 go_loopg [5, 6] k (fun kq v5 v6 w' => ∃ (x5_1 : List (S122)) (x6_1 : Int) (x1001_1 : Int), v6 = .int .i64 x6_1 ∧ Aside0 (spec_l4List.l0 kq a1 x5_1 x6_1 s0_0 x1001_1 = some (r1, r2)) ∧ Aside0 (kq ≤ k) ∧ Aside0 (Kd.R k122 122 w' w.heap.size (fun _ => True) v5 x5_1) ∧ Aside0 (IsS98 w0 w' g s0_0 x1001_1) ∧ Aside0 (KeepBut w w' g none) ∧ Aside0 (Below w0.heap.size w0 w'))
 case atStart => exact ⟨(y182), (t185), (t186), qF, H', ⟨Nat.le_refl _⟩, ⟨by (with_reducible repeat (first | apply rA_ | apply rN_ | apply rD_)); exact HO184.out⟩, ⟨qI HI0⟩, ⟨qK HK⟩, ⟨qS HB⟩⟩
 case round =>
  clear H'
  try clear p2
  try clear c5
  obtain ⟨x5_1, x6_1, x1001_1, rfl, HA, HK1, HO_5, HI0, HK, HB⟩ := hrel
  cases gk with
  | zero => exact absurd HA.out (by simp [spec_l4List.l0])
  | succ k1 =>
   have H := HA.out
   clear HA
   simp only [spec_l4List.l0] at H
   have HC7 := aM_ H
   clear H
   go_upto_region 3 with (fail)
   go_cut [15] (fun v15 wc => ∃ (kq : Nat) (x15_6 : Bool), v15 = .bool x15_6 ∧ Aside0 (spec_l4List.j1 kq a1 x5_1 x6_1 x15_6 s0_0 x1001_1 = some (r1, r2)) ∧ Aside0 (kq ≤ k1) ∧ Aside0 (Kd.R k122 122 wc w.heap.size (fun _ => True) u5 x5_1) ∧ Aside0 (IsS98 w0 wc g s0_0 x1001_1) ∧ Aside0 (KeepBut w wc g none) ∧ Aside0 (Below w0.heap.size w0 wc))
   case first =>
    have H := HC7.out
    clear HC7
    by_cases c8 : x6_1 > 0
    rotate_left
    · rw [if_neg c8] at H
      have c8b0 : decide (0 < x6_1) = false := dF_ c8
      clear c8
      (first | rw [c8b0] | (simp only [i64_w, i32_w]; rw [c8b0]) | skip)
      have H' := aM_ H
      clear H
      go_wp2
      go_meet
      case rel => exact ⟨_, (false), qF, H', ⟨by have := HK1.out; first | omega | exact Nat.le_refl _⟩, ⟨by (with_reducible repeat (first | apply rA_ | apply rN_ | apply rD_)); exact HO_5.out⟩, ⟨qI HI0⟩, ⟨qK HK⟩, ⟨qS HB⟩⟩
    rw [if_pos c8] at H
    have c8b0 : decide (0 < x6_1) = true := dT_ c8
    clear c8
    (first | rw [c8b0] | (simp only [i64_w, i32_w]; rw [c8b0]) | skip)
    have H' := aM_ H
    clear H
    go_wp2
    go_meet
    case rel => exact ⟨_, (decide (a1 > 0)), qF, H', ⟨by have := HK1.out; first | omega | exact Nat.le_refl _⟩, ⟨by (with_reducible repeat (first | apply rA_ | apply rN_ | apply rD_)); exact HO_5.out⟩, ⟨qI HI0⟩, ⟨qK HK⟩, ⟨qS HB⟩⟩
   case rest =>
    clear HC7
    try clear p2
    try clear c5
    try clear c8
    try clear c8b0
    try clear p2
    obtain ⟨kq, x15_6, rfl, HA, HJ6, HO_5, HI0, HK, HB⟩ := hcut
    cases kq with
    | zero => exact absurd HA.out (by simp [spec_l4List.j1])
    | succ kj6 =>
     have H := HA.out
     clear HA
     simp only [spec_l4List.j1] at H
     by_cases c9 : x15_6 = true
     rotate_left
     · replace c9 := Bool.eq_false_iff.mpr c9
       subst c9
       rw [if_neg (show ¬ (false = true) by decide)] at H
       simp only [Option.some.injEq, Prod.mk.injEq] at H
       obtain ⟨rfl, rfl⟩ := H
       go_wp2
       go_ret
       exact ⟨_, qE, by (with_reducible repeat (first | apply rA_ | apply rN_ | apply rD_)); exact HO_5.out, qI HI0, qS HB, qK HK⟩
     subst c9
     rw [if_pos rfl] at H
     replace H := oB_ H
     obtain ⟨⟨t187, t188⟩, A100, H⟩ := H
     dsimp only at H
     have A10 := aM_ A100
     clear A100
     have HC11 := aM_ H
     clear H
     go_upto_if 28 with (first | ((with_reducible refine gc_ 58 ?_); refine gL_ (some 19) Tryz.func58 #[.pointer (some ⟨g, 0, none⟩), .int .i64 7] ?_; (with_reducible refine (spec_l12Rd_pick.calls kj6 g s0_0 x1001_1 7 t187 t188 w0 _ ?side1 ?side2 A10.out).mono ?_); (case side1 => exact qI HI0); (case side2 => exact qS HB); rintro e w12 ⟨rfl, hi, hb, hk⟩; refine ⟨_, rfl, ?_⟩; have n_ := aN4_ (Kd.R_mono (Kd.R_keep (IsS98.apart (show IsS98 w0 _ g s0_0 x1001_1 from qI HI0) (qR HO_5) (by decide)) hk (fun _ h => h.2)) (fun _ h => h.1)) (KeepBut.trans (qK HK) hk (.inl rfl)) (hb) (hi); clear HO_5 HK HB HI0; obtain ⟨HO_5, HK, HB, HI0⟩ := n_))
     (try simp only [Act.put, sA_, sB_, sC_])
     go_cut [28] (fun v28 wc => ∃ (kq : Nat) (x28_10 : Bool), v28 = .bool x28_10 ∧ Aside0 (spec_l4List.j2 kq a1 x5_1 x6_1 t187 x28_10 s0_0 t188 = some (r1, r2)) ∧ Aside0 (kq ≤ kj6) ∧ Aside0 (Kd.R k122 122 wc w.heap.size (fun _ => True) u5 x5_1) ∧ Aside0 (IsS98 w0 wc g s0_0 t188) ∧ Aside0 (KeepBut w wc g none) ∧ Aside0 (Below w0.heap.size w0 wc))
     case first =>
      have H := HC11.out
      clear HC11
      by_cases c13 : t187 = 0
      rotate_left
      · rw [if_neg c13] at H
        have c13b0 : (t187 == 0) = false := beq_eq_false_iff_ne.mpr c13
        have c13b1 : (t187 != 0) = true := bne_iff_ne.mpr c13
        (first | rw [c13b0] | (simp only [i64_w, i32_w]; rw [c13b0]) | skip)
        have H' := aM_ H
        clear H
        go_wp2
        go_meet
        case rel => exact ⟨_, ((t187 == 1)), qF, H', ⟨by have := HK1.out; have := HJ6.out; first | omega | exact Nat.le_refl _⟩, ⟨by (with_reducible repeat (first | apply rA_ | apply rN_ | apply rD_)); exact HO_5.out⟩, ⟨qI HI0⟩, ⟨qK HK⟩, ⟨qS HB⟩⟩
      rw [if_pos c13] at H
      have c13b0 : (t187 == 0) = true := beq_iff_eq.mpr c13
      have c13b1 : (t187 != 0) = false := bne_eq_false_iff_eq.mpr c13
      clear c13
      (first | rw [c13b0] | (simp only [i64_w, i32_w]; rw [c13b0]) | skip)
      have H' := aM_ H
      clear H
      go_wp2
      go_meet
      case rel => exact ⟨_, ((t187 == 0)), qF, H', ⟨by have := HK1.out; have := HJ6.out; first | omega | exact Nat.le_refl _⟩, ⟨by (with_reducible repeat (first | apply rA_ | apply rN_ | apply rD_)); exact HO_5.out⟩, ⟨qI HI0⟩, ⟨qK HK⟩, ⟨qS HB⟩⟩
     case rest =>
      clear HC11
      try clear c1
      try clear p2
      try clear c5
      try clear c8
      try clear c8b0
      try clear c9
      try clear c13
      try clear c13b0
      try clear c13b1
      try clear p2
      obtain ⟨kq, x28_10, rfl, HA, HJ10, HO_5, HI0, HK, HB⟩ := hcut
      cases kq with
      | zero => exact absurd HA.out (by simp [spec_l4List.j2])
      | succ kj10 =>
       have H := HA.out
       clear HA
       simp only [spec_l4List.j2] at H
       by_cases c14 : x28_10 = true
       · subst c14
         rw [if_pos rfl] at H
         replace H := oB_ H
         obtain ⟨⟨t189, t190, t191, t192, t193, t196⟩, A150, H⟩ := H
         dsimp only at H
         have A15 := aM_ A150
         clear A150
         replace H := oB_ H
         obtain ⟨⟨t197, t200⟩, A160, H⟩ := H
         dsimp only at H
         have A16 := aM_ A160
         clear A160
         replace H := oB_ H
         obtain ⟨⟨t201, t204⟩, A170, H⟩ := H
         dsimp only at H
         have A17 := aM_ A170
         clear A170
         by_cases c18 : x5_1.length < 1099511627776
         rotate_left
         · rw [if_neg c18] at H
           exact absurd H (by simp)
         rw [if_pos c18] at H
         have LMc18 := aM_ c18
         clear c18
         obtain ⟨y205, hy205⟩ : ∃ y_ : List (S122), y_ = (x5_1 ++ [(⟨2, (⟨0, 0⟩ : S28), (⟨t189, t190, (⟨t191, t192⟩ : S28), t193⟩ : S120), t197, t201⟩ : S122)]) := ⟨_, rfl⟩
         replace H : (spec_l4List.l0 kj10 a1 y205 (wrap64 (x6_1 - 1)) s0_0 t204) = some (r1, r2) := by subst hy205; exact H
         have Ny205 := aM_ hy205
         clear hy205
         have H' := aM_ H
         clear H
         go_wp2_with (first | ((with_reducible refine gc_ 119 ?_); refine gL_ (some 33) Tryz.func119 #[.pointer (some ⟨g, 0, none⟩), .int .i64 3] ?_; (with_reducible refine (spec_l3Expr.calls kj10 g s0_0 t188 3 t189 t190 t191 t192 t193 t196 w0 _ ?side1 ?side2 A15.out).mono ?_); (case side1 => exact qI HI0); (case side2 => exact qS HB); rintro e w19 ⟨v194, rfl, ho0, hi, hb, hk⟩; refine ⟨_, rfl, ?_⟩; have n_ := aN5_ (Kd.R_mono (Kd.R_told (Kd.R_oldK (IsS98.apart (show IsS98 w0 _ g s0_0 t188 from qI HI0) (qR HO_5) (by decide)) hk) (Kd.R_base ho0)) (fun _ h_ => h_.1)) (Kd.R_lower ho0 (kz_ HK)) (KeepBut.trans (qK HK) hk (.inl rfl)) (hb) (hi); clear HO_5 HK HB HI0; obtain ⟨HO_5, HO195, HK, HB, HI0⟩ := n_) | ((with_reducible refine gc_ 84 ?_); refine gL_ (some 37) Tryz.func84 #[.pointer (some ⟨g, 0, none⟩), .int .i64 (wrap64 (a1 - 1))] ?_; (with_reducible refine (ih kj10 (by have := HK1.out; have := HJ6.out; have := HJ10.out; omega) g s0_0 t196 (wrap64 (a1 - 1)) t197 t200 w0 _ ?side1 ?side2 A16.out).mono ?_); (case side1 => exact qI HI0); (case side2 => exact qS HB); rintro e w20 ⟨v198, rfl, ho0, hi, hb, hk⟩; refine ⟨_, rfl, ?_⟩; have n_ := aN6_ (Kd.R_mono (Kd.R_told (Kd.R_oldK (IsS98.apart (show IsS98 w0 _ g s0_0 t196 from qI HI0) (qR HO_5) (by decide)) hk) (Kd.R_base ho0)) (fun _ h_ => h_.1)) (Kd.R_mono (Kd.R_keep (IsS98.apart (show IsS98 w0 _ g s0_0 t196 from qI HI0) (qR HO195) (by decide)) hk (fun _ h => h.2)) (fun _ h => h.1)) (Kd.R_lower (Kd.R_new' (Kd.R_new' ho0 (Kd.R_lt (qR HO_5))) (Kd.R_lt (qR HO195))) (kz_ HK)) (KeepBut.trans (qK HK) hk (.inl rfl)) (hb) (hi); clear HO_5 HO195 HK HB HI0; obtain ⟨HO_5, HO195, HO199, HK, HB, HI0⟩ := n_) | ((with_reducible refine gc_ 84 ?_); refine gL_ (some 41) Tryz.func84 #[.pointer (some ⟨g, 0, none⟩), .int .i64 (wrap64 (a1 - 2))] ?_; (with_reducible refine (ih kj10 (by have := HK1.out; have := HJ6.out; have := HJ10.out; omega) g s0_0 t200 (wrap64 (a1 - 2)) t201 t204 w0 _ ?side1 ?side2 A17.out).mono ?_); (case side1 => exact qI HI0); (case side2 => exact qS HB); rintro e w21 ⟨v202, rfl, ho0, hi, hb, hk⟩; refine ⟨_, rfl, ?_⟩; have n_ := aN7_ (Kd.R_mono (Kd.R_told (Kd.R_oldK (IsS98.apart (show IsS98 w0 _ g s0_0 t200 from qI HI0) (qR HO_5) (by decide)) hk) (Kd.R_base ho0)) (fun _ h_ => h_.1)) (Kd.R_mono (Kd.R_keep (IsS98.apart (show IsS98 w0 _ g s0_0 t200 from qI HI0) (qR HO195) (by decide)) hk (fun _ h => h.2)) (fun _ h => h.1)) (Kd.R_mono (Kd.R_told (Kd.R_oldK (IsS98.apart (show IsS98 w0 _ g s0_0 t200 from qI HI0) (qR HO199) (by decide)) hk) (Kd.R_base ho0)) (fun _ h_ => h_.1)) (Kd.R_lower (Kd.R_new' (Kd.R_new' (Kd.R_new' ho0 (Kd.R_lt (qR HO_5))) (Kd.R_lt (qR HO195))) (Kd.R_lt (qR HO199))) (kz_ HK)) (KeepBut.trans (qK HK) hk (.inl rfl)) (hb) (hi); clear HO_5 HO195 HO199 HK HB HI0; obtain ⟨HO_5, HO195, HO199, HO203, HK, HB, HI0⟩ := n_; obtain ⟨Ao22, co22, eo22⟩ := Kd.R_slice HO203.out; subst eo22; obtain ⟨Ao23, co23, eo23⟩ := Kd.R_slice HO199.out; subst eo23; obtain ⟨Ao24, co24, eo24⟩ := Kd.R_slice HO195.out; subst eo24) | ((with_reducible refine gate_builtin (b := .append) (xs := #[.tmp 31, .tmp 43]) rfl ?_); at_builtin; refine Kd.R_append k122 w.heap.size rfl (.tmp 31) (.tmp 43) 93 122 (.agg #[(.int .i64 0), (.int .i64 0), (.int .i64 0), (.int .i64 0), (.int .i64 0), (.int .i64 0), (.int .i64 0), (.slice none 0 0), (.slice none 0 0), (.slice none 0 0)]) 128 rfl Tryz.underlying93 info122 rfl (by decide) (by omega) u5 x5_1 (⟨2, (⟨0, 0⟩ : S28), (⟨t189, t190, (⟨t191, t192⟩ : S28), t193⟩ : S120), t197, t201⟩ : S122) [.int .i64 2, .int .i64 0, .int .i64 0, .int .i64 t189, .int .i64 t190, .int .i64 t191, .int .i64 t192, .slice Ao24 t193.length co24, .slice Ao23 t197.length co23, .slice Ao22 t201.length co22] (fun _ => True) (fun k_ => ((fun _ => True)) k_ ∧ some k_ ≠ (u5 : Value).ownBlock) rfl rfl ?aP (fun _ hk => hk) ?aF ?aO (Below.refl _ _) ?aS ?aL ?_; (case aP => exact k122_mkM _ _ _ (⟨2, (⟨0, 0⟩ : S28), (⟨t189, t190, (⟨t191, t192⟩ : S28), t193⟩ : S120), t197, t201⟩ : S122) (Kd.R_mono (Kd.R_apart' (HO195.out) (Kd.R_typed HO_5.out) (by decide)) (fun k_ hk => ⟨trivial, hk.2⟩)) (Kd.R_mono (HO199.out) (fun k_ hk => ⟨trivial, hk.1.1.2⟩)) (Kd.R_mono (HO203.out) (fun k_ hk => ⟨trivial, hk.1.1.2⟩))); (case aF => exact (fun _ _ => trivial)); (case aO => exact (qr (Kd.R_mono HO_5.out (fun _ hk => trivial)))); (case aS => exact (kz_ HK)); (case aL => have := LMc18.out; omega); intro v206 w25 ho hb hg hat; rw [← Ny205.out] at ho; have n0_ := aM_ (IsS98.grown (qI HI0) hg (IsS98.own_ne HI0.out HO_5.out (by decide))); have n1_ := aM_ (below_weaken (qS HB) HL.out hb); have n2_ := aM_ (KeepBut.trans (qK HK) (KeepBut.of_grown hg g) (Kd.R_base2 HO_5.out)); have n3_ := aM_ (ho); clear HI0 HB HK HO_5 HO195 HO199 HO203; have HI0 := n0_; have HB := n1_; have HK := n2_; have HO207 := n3_; clear n0_ n1_ n2_ n3_ ho hb hg hat))
         go_roundg kj10
         case measure => have := HK1.out; have := HJ6.out; have := HJ10.out; omega
         case rel => exact ⟨(y205), (wrap64 (x6_1 - 1)), (t204), qF, H', ⟨by have := HK1.out; have := HJ6.out; have := HJ10.out; omega⟩, ⟨by (with_reducible repeat (first | apply rA_ | apply rN_ | apply rD_)); exact HO207.out⟩, ⟨qI HI0⟩, ⟨qK HK⟩, ⟨qS HB⟩⟩
       replace c14 := Bool.eq_false_iff.mpr c14
       subst c14
       rw [if_neg (show ¬ (false = true) by decide)] at H
       by_cases c26 : t187 = 2
       · rw [if_pos c26] at H
         have c26b0 : (t187 == 2) = true := beq_iff_eq.mpr c26
         have c26b1 : (t187 != 2) = false := bne_eq_false_iff_eq.mpr c26
         clear c26
         by_cases c27 : a1 > 1
         rotate_left
         · rw [if_neg c27] at H
           have c27b0 : decide (1 < a1) = false := dF_ c27
           clear c27
           have H' := aM_ H
           clear H
           go_wp2
           go_roundg kj10
           case measure => have := HK1.out; have := HJ6.out; have := HJ10.out; omega
           case rel => exact ⟨(x5_1), (wrap64 (x6_1 - 1)), (t188), qF, H', ⟨by have := HK1.out; have := HJ6.out; have := HJ10.out; omega⟩, ⟨by (with_reducible repeat (first | apply rA_ | apply rN_ | apply rD_)); exact HO_5.out⟩, ⟨qI HI0⟩, ⟨qK HK⟩, ⟨qS HB⟩⟩
         rw [if_pos c27] at H
         have c27b0 : decide (1 < a1) = true := dT_ c27
         clear c27
         replace H := oB_ H
         obtain ⟨⟨t208, t209, t210, t211, t212, t213, t214, t215, t218, t221, t224⟩, A280, H⟩ := H
         dsimp only at H
         have A28 := aM_ A280
         clear A280
         by_cases c29 : x5_1.length < 1099511627776
         rotate_left
         · rw [if_neg c29] at H
           exact absurd H (by simp)
         rw [if_pos c29] at H
         have LMc29 := aM_ c29
         clear c29
         obtain ⟨y225, hy225⟩ : ∃ y_ : List (S122), y_ = (x5_1 ++ [(⟨t208, (⟨t209, t210⟩ : S28), (⟨t211, t212, (⟨t213, t214⟩ : S28), t215⟩ : S120), t218, t221⟩ : S122)]) := ⟨_, rfl⟩
         replace H : (spec_l4List.l0 kj10 a1 y225 (wrap64 (x6_1 - 1)) s0_0 t224) = some (r1, r2) := by subst hy225; exact H
         have Ny225 := aM_ hy225
         clear hy225
         have H' := aM_ H
         clear H
         go_wp2_with (first | ((with_reducible refine gc_ 86 ?_); refine gL_ (some 51) Tryz.func86 #[.pointer (some ⟨g, 0, none⟩)] ?_; (with_reducible refine (spec_l4Count.calls g s0_0 t188 t208 t209 t210 t211 t212 t213 t214 t215 t218 t221 t224 w0 _ ?side1 ?side2 A28.out).mono ?_); (case side1 => exact qI HI0); (case side2 => exact qS HB); rintro e w30 ⟨v216, v219, v222, rfl, ho0, ho1, ho2, hi, hb, hk⟩; refine ⟨_, rfl, ?_⟩; have n_ := aN7_ (Kd.R_mono (Kd.R_told (Kd.R_told (Kd.R_told (Kd.R_oldK (IsS98.apart (show IsS98 w0 _ g s0_0 t188 from qI HI0) (qR HO_5) (by decide)) hk) (Kd.R_base ho0)) (Kd.R_base ho1)) (Kd.R_base ho2)) (fun _ h_ => h_.1)) (Kd.R_lower ho0 (kz_ HK)) (Kd.R_lower (Kd.R_new' ho1 (Kd.R_lt (qR HO_5))) (kz_ HK)) (Kd.R_lower (Kd.R_new' ho2 (Kd.R_lt (qR HO_5))) (kz_ HK)) (KeepBut.trans (qK HK) hk (.inl rfl)) (hb) (hi); clear HO_5 HK HB HI0; obtain ⟨HO_5, HO217, HO220, HO223, HK, HB, HI0⟩ := n_; obtain ⟨Ao32, co32, eo32⟩ := Kd.R_slice HO217.out; subst eo32; obtain ⟨Ao33, co33, eo33⟩ := Kd.R_slice HO220.out; subst eo33; obtain ⟨Ao34, co34, eo34⟩ := Kd.R_slice HO223.out; subst eo34) | ((with_reducible refine gate_builtin (b := .append) (xs := #[.tmp 49, .tmp 52]) rfl ?_); at_builtin; refine Kd.R_append k122 w.heap.size rfl (.tmp 49) (.tmp 52) 93 122 (.agg #[(.int .i64 0), (.int .i64 0), (.int .i64 0), (.int .i64 0), (.int .i64 0), (.int .i64 0), (.int .i64 0), (.slice none 0 0), (.slice none 0 0), (.slice none 0 0)]) 128 rfl Tryz.underlying93 info122 rfl (by decide) (by omega) u5 x5_1 (⟨t208, (⟨t209, t210⟩ : S28), (⟨t211, t212, (⟨t213, t214⟩ : S28), t215⟩ : S120), t218, t221⟩ : S122) [.int .i64 t208, .int .i64 t209, .int .i64 t210, .int .i64 t211, .int .i64 t212, .int .i64 t213, .int .i64 t214, .slice Ao32 t215.length co32, .slice Ao33 t218.length co33, .slice Ao34 t221.length co34] (fun _ => True) (fun k_ => ((fun _ => True)) k_ ∧ some k_ ≠ (u5 : Value).ownBlock) rfl rfl ?aP (fun _ hk => hk) ?aF ?aO (Below.refl _ _) ?aS ?aL ?_; (case aP => exact k122_mkM _ _ _ (⟨t208, (⟨t209, t210⟩ : S28), (⟨t211, t212, (⟨t213, t214⟩ : S28), t215⟩ : S120), t218, t221⟩ : S122) (Kd.R_mono (Kd.R_apart' (HO217.out) (Kd.R_typed HO_5.out) (by decide)) (fun k_ hk => ⟨trivial, hk.2⟩)) (Kd.R_mono (HO220.out) (fun k_ hk => ⟨trivial, hk.2⟩)) (Kd.R_mono (HO223.out) (fun k_ hk => ⟨trivial, hk.2⟩))); (case aF => exact (fun _ _ => trivial)); (case aO => exact (qr (Kd.R_mono HO_5.out (fun _ hk => trivial)))); (case aS => exact (kz_ HK)); (case aL => have := LMc29.out; omega); intro v226 w31 ho hb hg hat; rw [← Ny225.out] at ho; have n0_ := aM_ (IsS98.grown (qI HI0) hg (IsS98.own_ne HI0.out HO_5.out (by decide))); have n1_ := aM_ (below_weaken (qS HB) HL.out hb); have n2_ := aM_ (KeepBut.trans (qK HK) (KeepBut.of_grown hg g) (Kd.R_base2 HO_5.out)); have n3_ := aM_ (ho); clear HI0 HB HK HO_5 HO217 HO220 HO223; have HI0 := n0_; have HB := n1_; have HK := n2_; have HO227 := n3_; clear n0_ n1_ n2_ n3_ ho hb hg hat))
         go_roundg kj10
         case measure => have := HK1.out; have := HJ6.out; have := HJ10.out; omega
         case rel => exact ⟨(y225), (wrap64 (x6_1 - 1)), (t224), qF, H', ⟨by have := HK1.out; have := HJ6.out; have := HJ10.out; omega⟩, ⟨by (with_reducible repeat (first | apply rA_ | apply rN_ | apply rD_)); exact HO227.out⟩, ⟨qI HI0⟩, ⟨qK HK⟩, ⟨qS HB⟩⟩
       rw [if_neg c26] at H
       have c26b0 : (t187 == 2) = false := beq_eq_false_iff_ne.mpr c26
       have c26b1 : (t187 != 2) = true := bne_iff_ne.mpr c26
       by_cases c35 : t187 = 3
       rotate_left
       · rw [if_neg c35] at H
         have c35b0 : (t187 == 3) = false := beq_eq_false_iff_ne.mpr c35
         have c35b1 : (t187 != 3) = true := bne_iff_ne.mpr c35
         replace H := oB_ H
         obtain ⟨⟨t245, t246, t247⟩, A480, H⟩ := H
         dsimp only at H
         have A48 := aM_ A480
         clear A480
         replace H := oB_ H
         obtain ⟨⟨t248, t249, t250, t251, t252, t255⟩, A490, H⟩ := H
         dsimp only at H
         have A49 := aM_ A490
         clear A490
         by_cases c50 : x5_1.length < 1099511627776
         rotate_left
         · rw [if_neg c50] at H
           exact absurd H (by simp)
         rw [if_pos c50] at H
         have LMc50 := aM_ c50
         clear c50
         obtain ⟨y256, hy256⟩ : ∃ y_ : List (S122), y_ = (x5_1 ++ [(⟨1, (⟨t245, t246⟩ : S28), (⟨t248, t249, (⟨t250, t251⟩ : S28), t252⟩ : S120), ([] : List (S122)), ([] : List (S122))⟩ : S122)]) := ⟨_, rfl⟩
         replace H : (spec_l4List.l0 kj10 a1 y256 (wrap64 (x6_1 - 1)) s0_0 t255) = some (r1, r2) := by subst hy256; exact H
         have Ny256 := aM_ hy256
         clear hy256
         have H' := aM_ H
         clear H
         go_wp2_with (first | ((with_reducible refine gc_ 120 ?_); refine gL_ (some 22) Tryz.func120 #[.pointer (some ⟨g, 0, none⟩)] ?_; (with_reducible refine (spec_l2To.calls kj10 g s0_0 t188 t245 t246 t247 w0 _ ?side1 ?side2 A48.out).mono ?_); (case side1 => exact qI HI0); (case side2 => exact qS HB); rintro e w51 ⟨rfl, hi, hb, hk⟩; refine ⟨_, rfl, ?_⟩; have n_ := aN4_ (Kd.R_mono (Kd.R_keep (IsS98.apart (show IsS98 w0 _ g s0_0 t188 from qI HI0) (qR HO_5) (by decide)) hk (fun _ h => h.2)) (fun _ h => h.1)) (KeepBut.trans (qK HK) hk (.inl rfl)) (hb) (hi); clear HO_5 HK HB HI0; obtain ⟨HO_5, HK, HB, HI0⟩ := n_) | ((with_reducible refine gc_ 119 ?_); refine gL_ (some 24) Tryz.func119 #[.pointer (some ⟨g, 0, none⟩), .int .i64 3] ?_; (with_reducible refine (spec_l3Expr.calls kj10 g s0_0 t247 3 t248 t249 t250 t251 t252 t255 w0 _ ?side1 ?side2 A49.out).mono ?_); (case side1 => exact qI HI0); (case side2 => exact qS HB); rintro e w52 ⟨v253, rfl, ho0, hi, hb, hk⟩; refine ⟨_, rfl, ?_⟩; have n_ := aN5_ (Kd.R_mono (Kd.R_told (Kd.R_oldK (IsS98.apart (show IsS98 w0 _ g s0_0 t247 from qI HI0) (qR HO_5) (by decide)) hk) (Kd.R_base ho0)) (fun _ h_ => h_.1)) (Kd.R_lower ho0 (kz_ HK)) (KeepBut.trans (qK HK) hk (.inl rfl)) (hb) (hi); clear HO_5 HK HB HI0; obtain ⟨HO_5, HO254, HK, HB, HI0⟩ := n_; obtain ⟨Ao53, co53, eo53⟩ := Kd.R_slice HO254.out; subst eo53) | ((with_reducible refine gate_builtin (b := .append) (xs := #[.tmp 20, .tmp 26]) rfl ?_); at_builtin; refine Kd.R_append k122 w.heap.size rfl (.tmp 20) (.tmp 26) 93 122 (.agg #[(.int .i64 0), (.int .i64 0), (.int .i64 0), (.int .i64 0), (.int .i64 0), (.int .i64 0), (.int .i64 0), (.slice none 0 0), (.slice none 0 0), (.slice none 0 0)]) 128 rfl Tryz.underlying93 info122 rfl (by decide) (by omega) u5 x5_1 (⟨1, (⟨t245, t246⟩ : S28), (⟨t248, t249, (⟨t250, t251⟩ : S28), t252⟩ : S120), ([] : List (S122)), ([] : List (S122))⟩ : S122) [.int .i64 1, .int .i64 t245, .int .i64 t246, .int .i64 t248, .int .i64 t249, .int .i64 t250, .int .i64 t251, .slice Ao53 t252.length co53, .slice none 0 0, .slice none 0 0] (fun _ => True) (fun k_ => ((fun _ => True)) k_ ∧ some k_ ≠ (u5 : Value).ownBlock) rfl rfl ?aP (fun _ hk => hk) ?aF ?aO (Below.refl _ _) ?aS ?aL ?_; (case aP => exact k122_mkM _ _ _ (⟨1, (⟨t245, t246⟩ : S28), (⟨t248, t249, (⟨t250, t251⟩ : S28), t252⟩ : S120), ([] : List (S122)), ([] : List (S122))⟩ : S122) (Kd.R_mono (Kd.R_apart' (HO254.out) (Kd.R_typed HO_5.out) (by decide)) (fun k_ hk => ⟨trivial, hk.2⟩)) (Kd.R_nil _ _ _ _ _) (Kd.R_nil _ _ _ _ _)); (case aF => exact (fun _ _ => trivial)); (case aO => exact (qr (Kd.R_mono HO_5.out (fun _ hk => trivial)))); (case aS => exact (kz_ HK)); (case aL => have := LMc50.out; omega); intro v257 w54 ho hb hg hat; rw [← Ny256.out] at ho; have n0_ := aM_ (IsS98.grown (qI HI0) hg (IsS98.own_ne HI0.out HO_5.out (by decide))); have n1_ := aM_ (below_weaken (qS HB) HL.out hb); have n2_ := aM_ (KeepBut.trans (qK HK) (KeepBut.of_grown hg g) (Kd.R_base2 HO_5.out)); have n3_ := aM_ (ho); clear HI0 HB HK HO_5 HO254; have HI0 := n0_; have HB := n1_; have HK := n2_; have HO258 := n3_; clear n0_ n1_ n2_ n3_ ho hb hg hat))
         go_roundg kj10
         case measure => have := HK1.out; have := HJ6.out; have := HJ10.out; omega
         case rel => exact ⟨(y256), (wrap64 (x6_1 - 1)), (t255), qF, H', ⟨by have := HK1.out; have := HJ6.out; have := HJ10.out; omega⟩, ⟨by (with_reducible repeat (first | apply rA_ | apply rN_ | apply rD_)); exact HO258.out⟩, ⟨qI HI0⟩, ⟨qK HK⟩, ⟨qS HB⟩⟩
       rw [if_pos c35] at H
       have c35b0 : (t187 == 3) = true := beq_iff_eq.mpr c35
       have c35b1 : (t187 != 3) = false := bne_eq_false_iff_eq.mpr c35
       clear c35
       replace H := oB_ H
       obtain ⟨⟨t228, t229⟩, A360, H⟩ := H
       dsimp only at H
       have A36 := aM_ A360
       clear A360
       by_cases c37 : t228 = 0
       rotate_left
       · rw [if_neg c37] at H
         have c37b0 : (t228 == 0) = false := beq_eq_false_iff_ne.mpr c37
         have c37b1 : (t228 != 0) = true := bne_iff_ne.mpr c37
         have H' := aM_ H
         clear H
         go_wp2_with (first | ((with_reducible refine gc_ 58 ?_); refine gL_ (some 57) Tryz.func58 #[.pointer (some ⟨g, 0, none⟩), .int .i64 3] ?_; (with_reducible refine (spec_l12Rd_pick.calls kj10 g s0_0 t188 3 t228 t229 w0 _ ?side1 ?side2 A36.out).mono ?_); (case side1 => exact qI HI0); (case side2 => exact qS HB); rintro e w47 ⟨rfl, hi, hb, hk⟩; refine ⟨_, rfl, ?_⟩; have n_ := aN4_ (Kd.R_mono (Kd.R_keep (IsS98.apart (show IsS98 w0 _ g s0_0 t188 from qI HI0) (qR HO_5) (by decide)) hk (fun _ h => h.2)) (fun _ h => h.1)) (KeepBut.trans (qK HK) hk (.inl rfl)) (hb) (hi); clear HO_5 HK HB HI0; obtain ⟨HO_5, HK, HB, HI0⟩ := n_))
         go_roundg kj10
         case measure => have := HK1.out; have := HJ6.out; have := HJ10.out; omega
         case rel => exact ⟨(x5_1), (wrap64 (x6_1 - 1)), (t229), qF, H', ⟨by have := HK1.out; have := HJ6.out; have := HJ10.out; omega⟩, ⟨by (with_reducible repeat (first | apply rA_ | apply rN_ | apply rD_)); exact HO_5.out⟩, ⟨qI HI0⟩, ⟨qK HK⟩, ⟨qS HB⟩⟩
       rw [if_pos c37] at H
       have c37b0 : (t228 == 0) = true := beq_iff_eq.mpr c37
       have c37b1 : (t228 != 0) = false := bne_eq_false_iff_eq.mpr c37
       clear c37
       replace H := oB_ H
       obtain ⟨⟨t230, t231, t232, t233, t234, t237⟩, A380, H⟩ := H
       dsimp only at H
       have A38 := aM_ A380
       clear A380
       replace H := oB_ H
       obtain ⟨⟨t238, t241⟩, A390, H⟩ := H
       dsimp only at H
       have A39 := aM_ A390
       clear A390
       by_cases c40 : x5_1.length < 1099511627776
       rotate_left
       · rw [if_neg c40] at H
         exact absurd H (by simp)
       rw [if_pos c40] at H
       have LMc40 := aM_ c40
       clear c40
       obtain ⟨y242, hy242⟩ : ∃ y_ : List (S122), y_ = (x5_1 ++ [(⟨3, (⟨0, 0⟩ : S28), (⟨t230, t231, (⟨t232, t233⟩ : S28), t234⟩ : S120), t238, ([] : List (S122))⟩ : S122)]) := ⟨_, rfl⟩
       replace H : (spec_l4List.l0 kj10 a1 y242 (wrap64 (x6_1 - 1)) s0_0 t241) = some (r1, r2) := by subst hy242; exact H
       have Ny242 := aM_ hy242
       clear hy242
       have H' := aM_ H
       clear H
       go_wp2_with (first | ((with_reducible refine gc_ 58 ?_); refine gL_ (some 57) Tryz.func58 #[.pointer (some ⟨g, 0, none⟩), .int .i64 3] ?_; (with_reducible refine (spec_l12Rd_pick.calls kj10 g s0_0 t188 3 t228 t229 w0 _ ?side1 ?side2 A36.out).mono ?_); (case side1 => exact qI HI0); (case side2 => exact qS HB); rintro e w41 ⟨rfl, hi, hb, hk⟩; refine ⟨_, rfl, ?_⟩; have n_ := aN4_ (Kd.R_mono (Kd.R_keep (IsS98.apart (show IsS98 w0 _ g s0_0 t188 from qI HI0) (qR HO_5) (by decide)) hk (fun _ h => h.2)) (fun _ h => h.1)) (KeepBut.trans (qK HK) hk (.inl rfl)) (hb) (hi); clear HO_5 HK HB HI0; obtain ⟨HO_5, HK, HB, HI0⟩ := n_) | ((with_reducible refine gc_ 119 ?_); refine gL_ (some 61) Tryz.func119 #[.pointer (some ⟨g, 0, none⟩), .int .i64 2] ?_; (with_reducible refine (spec_l3Expr.calls kj10 g s0_0 t229 2 t230 t231 t232 t233 t234 t237 w0 _ ?side1 ?side2 A38.out).mono ?_); (case side1 => exact qI HI0); (case side2 => exact qS HB); rintro e w42 ⟨v235, rfl, ho0, hi, hb, hk⟩; refine ⟨_, rfl, ?_⟩; have n_ := aN5_ (Kd.R_mono (Kd.R_told (Kd.R_oldK (IsS98.apart (show IsS98 w0 _ g s0_0 t229 from qI HI0) (qR HO_5) (by decide)) hk) (Kd.R_base ho0)) (fun _ h_ => h_.1)) (Kd.R_lower ho0 (kz_ HK)) (KeepBut.trans (qK HK) hk (.inl rfl)) (hb) (hi); clear HO_5 HK HB HI0; obtain ⟨HO_5, HO236, HK, HB, HI0⟩ := n_) | ((with_reducible refine gc_ 84 ?_); refine gL_ (some 65) Tryz.func84 #[.pointer (some ⟨g, 0, none⟩), .int .i64 (wrap64 (a1 - 1))] ?_; (with_reducible refine (ih kj10 (by have := HK1.out; have := HJ6.out; have := HJ10.out; omega) g s0_0 t237 (wrap64 (a1 - 1)) t238 t241 w0 _ ?side1 ?side2 A39.out).mono ?_); (case side1 => exact qI HI0); (case side2 => exact qS HB); rintro e w43 ⟨v239, rfl, ho0, hi, hb, hk⟩; refine ⟨_, rfl, ?_⟩; have n_ := aN6_ (Kd.R_mono (Kd.R_told (Kd.R_oldK (IsS98.apart (show IsS98 w0 _ g s0_0 t237 from qI HI0) (qR HO_5) (by decide)) hk) (Kd.R_base ho0)) (fun _ h_ => h_.1)) (Kd.R_mono (Kd.R_keep (IsS98.apart (show IsS98 w0 _ g s0_0 t237 from qI HI0) (qR HO236) (by decide)) hk (fun _ h => h.2)) (fun _ h => h.1)) (Kd.R_lower (Kd.R_new' (Kd.R_new' ho0 (Kd.R_lt (qR HO_5))) (Kd.R_lt (qR HO236))) (kz_ HK)) (KeepBut.trans (qK HK) hk (.inl rfl)) (hb) (hi); clear HO_5 HO236 HK HB HI0; obtain ⟨HO_5, HO236, HO240, HK, HB, HI0⟩ := n_; obtain ⟨Ao44, co44, eo44⟩ := Kd.R_slice HO240.out; subst eo44; obtain ⟨Ao45, co45, eo45⟩ := Kd.R_slice HO236.out; subst eo45) | ((with_reducible refine gate_builtin (b := .append) (xs := #[.tmp 59, .tmp 67]) rfl ?_); at_builtin; refine Kd.R_append k122 w.heap.size rfl (.tmp 59) (.tmp 67) 93 122 (.agg #[(.int .i64 0), (.int .i64 0), (.int .i64 0), (.int .i64 0), (.int .i64 0), (.int .i64 0), (.int .i64 0), (.slice none 0 0), (.slice none 0 0), (.slice none 0 0)]) 128 rfl Tryz.underlying93 info122 rfl (by decide) (by omega) u5 x5_1 (⟨3, (⟨0, 0⟩ : S28), (⟨t230, t231, (⟨t232, t233⟩ : S28), t234⟩ : S120), t238, ([] : List (S122))⟩ : S122) [.int .i64 3, .int .i64 0, .int .i64 0, .int .i64 t230, .int .i64 t231, .int .i64 t232, .int .i64 t233, .slice Ao45 t234.length co45, .slice Ao44 t238.length co44, .slice none 0 0] (fun _ => True) (fun k_ => ((fun _ => True)) k_ ∧ some k_ ≠ (u5 : Value).ownBlock) rfl rfl ?aP (fun _ hk => hk) ?aF ?aO (Below.refl _ _) ?aS ?aL ?_; (case aP => exact k122_mkM _ _ _ (⟨3, (⟨0, 0⟩ : S28), (⟨t230, t231, (⟨t232, t233⟩ : S28), t234⟩ : S120), t238, ([] : List (S122))⟩ : S122) (Kd.R_mono (Kd.R_apart' (HO236.out) (Kd.R_typed HO_5.out) (by decide)) (fun k_ hk => ⟨trivial, hk.2⟩)) (Kd.R_mono (HO240.out) (fun k_ hk => ⟨trivial, hk.1.2⟩)) (Kd.R_nil _ _ _ _ _)); (case aF => exact (fun _ _ => trivial)); (case aO => exact (qr (Kd.R_mono HO_5.out (fun _ hk => trivial)))); (case aS => exact (kz_ HK)); (case aL => have := LMc40.out; omega); intro v243 w46 ho hb hg hat; rw [← Ny242.out] at ho; have n0_ := aM_ (IsS98.grown (qI HI0) hg (IsS98.own_ne HI0.out HO_5.out (by decide))); have n1_ := aM_ (below_weaken (qS HB) HL.out hb); have n2_ := aM_ (KeepBut.trans (qK HK) (KeepBut.of_grown hg g) (Kd.R_base2 HO_5.out)); have n3_ := aM_ (ho); clear HI0 HB HK HO_5 HO236 HO240; have HI0 := n0_; have HB := n1_; have HK := n2_; have HO244 := n3_; clear n0_ n1_ n2_ n3_ ho hb hg hat))
       go_roundg kj10
       case measure => have := HK1.out; have := HJ6.out; have := HJ10.out; omega
       case rel => exact ⟨(y242), (wrap64 (x6_1 - 1)), (t241), qF, H', ⟨by have := HK1.out; have := HJ6.out; have := HJ10.out; omega⟩, ⟨by (with_reducible repeat (first | apply rA_ | apply rN_ | apply rD_)); exact HO244.out⟩, ⟨qI HI0⟩, ⟨qK HK⟩, ⟨qS HB⟩⟩
end Go.Proofs.YtjamfddhcigchaaGreatDoor.HFnCodeSame
