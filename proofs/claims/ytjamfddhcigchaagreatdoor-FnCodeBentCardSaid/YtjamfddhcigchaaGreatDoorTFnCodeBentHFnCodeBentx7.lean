-- Made by a program of this session (hp.py) over the kit's print: functions told by hand stand beside printed ones. Lean checks it.
import Derived.Test.YtjamfddhcigchaaGreatDoorTFnCodeBentHFnCodeBentx6
namespace Go.Proofs.YtjamfddhcigchaaGreatDoor.HFnCodeBent
open Go.RowKit Go.Proofs.YtjamfddhcigchaaGreatDoorW.PrintWords Go.Proofs.YtjamfddhcigchaaGreatDoorW.PrintLast Go.Proofs.YtjamfddhcigchaaGreatDoorW.PrintMore
attribute [local go_sem] max2_int min2_int max_two min_two max_three min_three max_four min_four
set_option linter.unusedVariables false
set_option linter.unusedSimpArgs false
mutual
def spec_l4List.l0 : Nat → Int → List (S122) → Int → List Int → Int → Option ((List (S122)) × Int)
  | 0, _, _, _, _, _ => none
  | k + 1, x1, x5, x6, x1000, x1001 => if x6 > 0 then (spec_l4List.j1 k x1 x5 x6 (decide (x1 > 0)) x1000 x1001) else (spec_l4List.j1 k x1 x5 x6 false x1000 x1001)
def spec_l4List.j1 : Nat → Int → List (S122) → Int → Bool → List Int → Int → Option ((List (S122)) × Int)
  | 0, _, _, _, _, _, _ => none
  | k + 1, x1, x5, x6, x15, x1000, x1001 => if x15 = true then ((spec_l12Rd_pick.f k x1000 x1001 7).bind fun bt208 => (if bt208.1 = 0 then (spec_l4List.j2 k x1 x5 x6 bt208.1 (bt208.1 == 0) x1000 bt208.2) else (spec_l4List.j2 k x1 x5 x6 bt208.1 (bt208.1 == 1) x1000 bt208.2))) else (some (x5, x1001))
def spec_l4List.j2 : Nat → Int → List (S122) → Int → Int → Bool → List Int → Int → Option ((List (S122)) × Int)
  | 0, _, _, _, _, _, _, _ => none
  | k + 1, x1, x5, x6, x19, x28, x1000, x1001 => if x28 = true then ((spec_l3Expr.f k x1000 x1001 3).bind fun bt210 => ((spec_l4List.f k x1000 bt210.2.2.2.2.2 (wrap64 (x1 - 1))).bind fun bt218 => ((spec_l4List.f k x1000 bt218.2 (wrap64 (x1 - 2))).bind fun bt222 => (if x5.length < 1099511627776 then (spec_l4List.l0 k x1 (x5 ++ [(⟨2, (⟨0, 0⟩ : S28), (⟨bt210.1, bt210.2.1, (⟨bt210.2.2.1, bt210.2.2.2.1⟩ : S28), bt210.2.2.2.2.1⟩ : S120), bt218.1, bt222.1⟩ : S122)]) (wrap64 (x6 - 1)) x1000 bt222.2) else (none))))) else (if x19 = 2 then (if x1 > 1 then ((spec_l4Count.f x1000 x1001).bind fun bt229 => (if x5.length < 1099511627776 then (spec_l4List.l0 k x1 (x5 ++ [(⟨bt229.1, (⟨bt229.2.1, bt229.2.2.1⟩ : S28), (⟨bt229.2.2.2.1, bt229.2.2.2.2.1, (⟨bt229.2.2.2.2.2.1, bt229.2.2.2.2.2.2.1⟩ : S28), bt229.2.2.2.2.2.2.2.1⟩ : S120), bt229.2.2.2.2.2.2.2.2.1, bt229.2.2.2.2.2.2.2.2.2.1⟩ : S122)]) (wrap64 (x6 - 1)) x1000 bt229.2.2.2.2.2.2.2.2.2.2) else (none))) else (spec_l4List.l0 k x1 x5 (wrap64 (x6 - 1)) x1000 x1001)) else (if x19 = 3 then ((spec_l12Rd_pick.f k x1000 x1001 3).bind fun bt249 => (if bt249.1 = 0 then ((spec_l3Expr.f k x1000 bt249.2 2).bind fun bt251 => ((spec_l4List.f k x1000 bt251.2.2.2.2.2 (wrap64 (x1 - 1))).bind fun bt259 => (if x5.length < 1099511627776 then (spec_l4List.l0 k x1 (x5 ++ [(⟨3, (⟨0, 0⟩ : S28), (⟨bt251.1, bt251.2.1, (⟨bt251.2.2.1, bt251.2.2.2.1⟩ : S28), bt251.2.2.2.2.1⟩ : S120), bt259.1, ([] : List (S122))⟩ : S122)]) (wrap64 (x6 - 1)) x1000 bt259.2) else (none)))) else (spec_l4List.l0 k x1 x5 (wrap64 (x6 - 1)) x1000 bt249.2))) else ((spec_l2To.f k x1000 x1001).bind fun bt266 => ((spec_l3Expr.f k x1000 bt266.2.2 3).bind fun bt269 => (if x5.length < 1099511627776 then (spec_l4List.l0 k x1 (x5 ++ [(⟨1, (⟨bt266.1, bt266.2.1⟩ : S28), (⟨bt269.1, bt269.2.1, (⟨bt269.2.2.1, bt269.2.2.2.1⟩ : S28), bt269.2.2.2.2.1⟩ : S120), ([] : List (S122)), ([] : List (S122))⟩ : S122)]) (wrap64 (x6 - 1)) x1000 bt269.2.2.2.2.2) else (none))))))
def spec_l4List.f : Nat → List Int → Int → Int → Option ((List (S122)) × Int)
  | 0, _, _, _ => none
  | k + 1, s0_0, s0_1, a1 => (spec_l12Rd_pick.f k s0_0 s0_1 4).bind fun bt206 => (spec_l4List.l0 k a1 (([] : List (S122))) bt206.1 s0_0 bt206.2)
end
set_option maxHeartbeats 8000000 in
set_option maxRecDepth 100000 in
theorem spec_l4List.calls (k : Nat) : ∀ (g : Nat) (s0_0 : List Int) (s0_1 : Int) (a1 : Int) (r1 : List (S122)) (r2 : Int) (w0 w : World) (hI : IsS98 w0 w g s0_0 s0_1) (hB : Below w0.heap.size w0 w) (h : spec_l4List.f k s0_0 s0_1 a1 = some (r1, r2)),
    Calls Tryz.prog 84 #[.pointer (some ⟨g, 0, none⟩), .int .i64 a1] w fun e w' => ∃ v0_ : Value, e = .returned (v0_) ∧ Kd.R k122 122 w' w.heap.size (fun _ => True) v0_ r1 ∧ IsS98 w0 w' g s0_0 r2 ∧ Below w0.heap.size w0 w' ∧ KeepBut w w' g none := by
 induction k using Nat.strongRecOn with
 | _ k ih =>
 intro g s0_0 s0_1 a1 r1 r2 w0 w hI hB h
 cases k with
 | zero => exact absurd h (by simp [spec_l4List.f])
 | succ k =>
 simp only [spec_l4List.f] at h
 have hu122 := Tryz.underlying122
 have HI0 := aM_ hI
 have HK := aM_ (KeepBut.refl w g none)
 have HL := aM_ hB.size
 clear hI
 have HW0 := aM_ hB.size
 have HB := aM_ hB
 clear hB
 have H : ((spec_l12Rd_pick.f k s0_0 s0_1 4).bind fun bt206 => (spec_l4List.l0 k a1 (([] : List (S122))) bt206.1 s0_0 bt206.2)) = some (r1, r2) := h
 clear h
 obtain ⟨y203, hy203⟩ : ∃ y_ : List (S122), y_ = (([] : List (S122))) := ⟨_, rfl⟩
 replace H : ((spec_l12Rd_pick.f k s0_0 s0_1 4).bind fun bt206 => (spec_l4List.l0 k a1 y203 bt206.1 s0_0 bt206.2)) = some (r1, r2) := by first | (rw [hy203]; with_reducible exact H) | (have H2_ := (Option.bind_some _ _).symm.trans H; rw [hy203]; with_reducible exact H2_) | (have H2_ := (Option.bind_some _ _).symm.trans H; with_reducible exact H2_) | with_reducible exact H | (rw [hy203]; exact H) | exact H
 have Ny203 := aM_ hy203
 clear hy203
 replace H := oB_ H
 obtain ⟨⟨t206, t207⟩, A30, H⟩ := H
 replace H : (spec_l4List.l0 k a1 y203 t206 s0_0 t207) = some (r1, r2) := H
 have A3 := aM_ A30
 clear A30
 have H' := aM_ H
 clear H
 go_enter Tryz.func84, Tryz.ntmps84
 go_wp2_with (first | ((with_reducible refine gate_dst (N := 7) rfl ?_); refine Kd.R_lit k122 _ 122 ?hg (N := 7) ?hd (xs := ([] : List (S122))) (inner := []) (ok := fun _ => True) (okp := fun _ => True) ?hr ?hp (fun _ hk => hk) trivial (Below.refl _ _) (Nat.le_refl _) (by simp) ?_; (case hd => rfl); (case hg => rfl); (case hr => first | (go_simp; done) | (go_simp; rfl)); (case hp => exact (Reps.none _ _)); intro v204 w4 ho5 hb hg_ hnew_; clear hg_ hnew_; (first | rw [← Ny203.out] at ho5 | (simp only [Int.reduceToNat] at ho5; rw [← Ny203.out] at ho5)); have n0_ := aM_ (Kd.R_lower ho5 (keep_size (w := w) (g := g) (row := none) (qK HK))); have n1_ := aM_ (IsS98.below (qI HI0) hb); have n2_ := aM_ (KeepBut.trans (qK HK) (KeepBut.of_below hb g none) (.inl rfl)); have n3_ := aM_ (bT_ (qS HB) hb); clear HI0 HK HB; have HO205 := n0_; have HI0 := n1_; have HK := n2_; have HB := n3_; clear n0_ n1_ n2_ n3_ hb ho5) | ((with_reducible refine gate_callee (f := 58) rfl ?_); refine goesL_ (some 9) rfl rfl Tryz.func58 (by kernel_rfl) rfl #[.pointer (some ⟨g, 0, none⟩), .int .i64 4] rfl (by (try simp only [mA_, List.map_cons, List.map_nil]); first | done | rfl | (simp only [lD_, lT_]; rfl)) ?_; (with_reducible refine (spec_l12Rd_pick.calls k g s0_0 s0_1 4 t206 t207 w0 _ ?side1 ?side2 A3.out).mono ?_); (case side1 => exact qI HI0); (case side2 => exact qS HB); rintro e w6 ⟨rfl, hi, hb, hk⟩; refine ⟨_, rfl, ?_⟩; have n0_ := aM_ (Kd.R_mono (Kd.R_keep (IsS98.apart (show IsS98 w0 _ g s0_0 s0_1 from qI HI0) (qR HO205) (by decide)) hk (fun _ h => h.2)) (fun _ h => h.1)); have n1_ := aM_ (KeepBut.trans (qK HK) hk (.inl rfl)); have n2_ := aM_ (hb); have n3_ := aM_ (hi); clear HO205 HK HB HI0; revert n0_ n1_ n2_ n3_; intro HO205 HK HB HI0; (try clear hb); (try clear hb2); (try clear hk); (try clear hi)))
 go_loopg [5, 6] k (fun kq v5 v6 w' => ∃ (x5_1 : List (S122)) (x6_1 : Int) (x1001_1 : Int), v6 = .int .i64 x6_1 ∧ Aside0 (spec_l4List.l0 kq a1 x5_1 x6_1 s0_0 x1001_1 = some (r1, r2)) ∧ Aside0 (kq ≤ k) ∧ Aside0 (Kd.R k122 122 w' w.heap.size (fun _ => True) v5 x5_1) ∧ Aside0 (IsS98 w0 w' g s0_0 x1001_1) ∧ Aside0 (KeepBut w w' g none) ∧ Aside0 (Below w0.heap.size w0 w'))
 case atStart => exact ⟨(y203), (t206), (t207), qF, H', ⟨Nat.le_refl _⟩, ⟨by (with_reducible repeat (first | apply rA_ | apply rN_ | apply rD_)); exact HO205.out⟩, ⟨qI HI0⟩, ⟨qK HK⟩, ⟨qS HB⟩⟩
 case round =>
  clear H'
  try clear p2
  try clear c5
  obtain ⟨x5_1, x6_1, x1001_1, rfl, HA, HK1, HO_5, HI0, HK, HB⟩ := hrel
  cases gk with
  | zero => exact absurd HA.out (by simp [spec_l4List.l0])
  | succ k1 =>
   have H := HA.out
   clear HA
   simp only [spec_l4List.l0] at H
   have HC7 := aM_ H
   clear H
   go_upto_region 3 with (fail)
   go_cut [15] (fun v15 wc => ∃ (kq : Nat) (x15_6 : Bool), v15 = .bool x15_6 ∧ Aside0 (spec_l4List.j1 kq a1 x5_1 x6_1 x15_6 s0_0 x1001_1 = some (r1, r2)) ∧ Aside0 (kq ≤ k1) ∧ Aside0 (Kd.R k122 122 wc w.heap.size (fun _ => True) u5 x5_1) ∧ Aside0 (IsS98 w0 wc g s0_0 x1001_1) ∧ Aside0 (KeepBut w wc g none) ∧ Aside0 (Below w0.heap.size w0 wc))
   case first =>
    have H := HC7.out
    clear HC7
    by_cases c8 : x6_1 > 0
    rotate_left
    · rw [if_neg c8] at H
      have c8b0 : decide (0 < x6_1) = false := dF_ c8
      clear c8
      (first | rw [c8b0] | (simp only [i64_w, i32_w]; rw [c8b0]) | skip)
      have H' := aM_ H
      clear H
      go_wp2
      go_meet
      case rel => exact ⟨_, (false), qF, H', ⟨by have := HK1.out; first | omega | exact Nat.le_refl _⟩, ⟨by (with_reducible repeat (first | apply rA_ | apply rN_ | apply rD_)); exact HO_5.out⟩, ⟨qI HI0⟩, ⟨qK HK⟩, ⟨qS HB⟩⟩
    rw [if_pos c8] at H
    have c8b0 : decide (0 < x6_1) = true := dT_ c8
    clear c8
    (first | rw [c8b0] | (simp only [i64_w, i32_w]; rw [c8b0]) | skip)
    have H' := aM_ H
    clear H
    go_wp2
    go_meet
    case rel => exact ⟨_, (decide (a1 > 0)), qF, H', ⟨by have := HK1.out; first | omega | exact Nat.le_refl _⟩, ⟨by (with_reducible repeat (first | apply rA_ | apply rN_ | apply rD_)); exact HO_5.out⟩, ⟨qI HI0⟩, ⟨qK HK⟩, ⟨qS HB⟩⟩
   case rest =>
    clear HC7
    try clear p2
    try clear c5
    try clear c8
    try clear c8b0
    try clear p2
    obtain ⟨kq, x15_6, rfl, HA, HJ6, HO_5, HI0, HK, HB⟩ := hcut
    cases kq with
    | zero => exact absurd HA.out (by simp [spec_l4List.j1])
    | succ kj6 =>
     have H := HA.out
     clear HA
     simp only [spec_l4List.j1] at H
     by_cases c9 : x15_6 = true
     rotate_left
     · replace c9 := Bool.eq_false_iff.mpr c9
       subst c9
       have H1 : (some (x5_1, x1001_1)) = some (r1, r2) := by rw [if_neg (show ¬ (false = true) by decide)] at H; exact H
       clear H
       have H := H1
       clear H1
       simp only [Option.some.injEq, Prod.mk.injEq] at H
       obtain ⟨rfl, rfl⟩ := H
       go_wp2
       go_ret
       exact ⟨_, qE, by (with_reducible repeat (first | apply rA_ | apply rN_ | apply rD_)); exact HO_5.out, qI HI0, qS HB, qK HK⟩
     subst c9
     have H1 : ((spec_l12Rd_pick.f kj6 s0_0 x1001_1 7).bind fun bt208 => (if bt208.1 = 0 then (spec_l4List.j2 kj6 a1 x5_1 x6_1 bt208.1 (bt208.1 == 0) s0_0 bt208.2) else (spec_l4List.j2 kj6 a1 x5_1 x6_1 bt208.1 (bt208.1 == 1) s0_0 bt208.2))) = some (r1, r2) := by rw [if_pos rfl] at H; exact H
     clear H
     have H := H1
     clear H1
     replace H := oB_ H
     obtain ⟨⟨t208, t209⟩, A100, H⟩ := H
     replace H : (if t208 = 0 then (spec_l4List.j2 kj6 a1 x5_1 x6_1 t208 (t208 == 0) s0_0 t209) else (spec_l4List.j2 kj6 a1 x5_1 x6_1 t208 (t208 == 1) s0_0 t209)) = some (r1, r2) := H
     have A10 := aM_ A100
     clear A100
     have HC11 := aM_ H
     clear H
     go_upto_if 28 with (first | ((with_reducible refine gate_callee (f := 58) rfl ?_); refine goesL_ (some 19) rfl rfl Tryz.func58 (by kernel_rfl) rfl #[.pointer (some ⟨g, 0, none⟩), .int .i64 7] rfl (by (try simp only [mA_, List.map_cons, List.map_nil]); first | done | rfl | (simp only [lD_, lT_]; rfl)) ?_; (with_reducible refine (spec_l12Rd_pick.calls kj6 g s0_0 x1001_1 7 t208 t209 w0 _ ?side1 ?side2 A10.out).mono ?_); (case side1 => exact qI HI0); (case side2 => exact qS HB); rintro e w12 ⟨rfl, hi, hb, hk⟩; refine ⟨_, rfl, ?_⟩; have n0_ := aM_ (Kd.R_mono (Kd.R_keep (IsS98.apart (show IsS98 w0 _ g s0_0 x1001_1 from qI HI0) (qR HO_5) (by decide)) hk (fun _ h => h.2)) (fun _ h => h.1)); have n1_ := aM_ (KeepBut.trans (qK HK) hk (.inl rfl)); have n2_ := aM_ (hb); have n3_ := aM_ (hi); clear HO_5 HK HB HI0; revert n0_ n1_ n2_ n3_; intro HO_5 HK HB HI0; (try clear hb); (try clear hb2); (try clear hk); (try clear hi)))
     (try simp only [Act.put, sA_, sB_, sC_])
     go_cut [28] (fun v28 wc => ∃ (kq : Nat) (x28_10 : Bool), v28 = .bool x28_10 ∧ Aside0 (spec_l4List.j2 kq a1 x5_1 x6_1 t208 x28_10 s0_0 t209 = some (r1, r2)) ∧ Aside0 (kq ≤ kj6) ∧ Aside0 (Kd.R k122 122 wc w.heap.size (fun _ => True) u5 x5_1) ∧ Aside0 (IsS98 w0 wc g s0_0 t209) ∧ Aside0 (KeepBut w wc g none) ∧ Aside0 (Below w0.heap.size w0 wc))
     case first =>
      have H := HC11.out
      clear HC11
      by_cases c13 : t208 = 0
      rotate_left
      · rw [if_neg c13] at H
        have c13b0 : (t208 == 0) = false := beq_eq_false_iff_ne.mpr c13
        have c13b1 : (t208 != 0) = true := bne_iff_ne.mpr c13
        (first | rw [c13b0] | (simp only [i64_w, i32_w]; rw [c13b0]) | skip)
        have H' := aM_ H
        clear H
        go_wp2
        go_meet
        case rel => exact ⟨_, ((t208 == 1)), qF, H', ⟨by have := HK1.out; have := HJ6.out; first | omega | exact Nat.le_refl _⟩, ⟨by (with_reducible repeat (first | apply rA_ | apply rN_ | apply rD_)); exact HO_5.out⟩, ⟨qI HI0⟩, ⟨qK HK⟩, ⟨qS HB⟩⟩
      rw [if_pos c13] at H
      have c13b0 : (t208 == 0) = true := beq_iff_eq.mpr c13
      have c13b1 : (t208 != 0) = false := bne_eq_false_iff_eq.mpr c13
      clear c13
      (first | rw [c13b0] | (simp only [i64_w, i32_w]; rw [c13b0]) | skip)
      have H' := aM_ H
      clear H
      go_wp2
      go_meet
      case rel => exact ⟨_, ((t208 == 0)), qF, H', ⟨by have := HK1.out; have := HJ6.out; first | omega | exact Nat.le_refl _⟩, ⟨by (with_reducible repeat (first | apply rA_ | apply rN_ | apply rD_)); exact HO_5.out⟩, ⟨qI HI0⟩, ⟨qK HK⟩, ⟨qS HB⟩⟩
     case rest =>
      clear HC11
      try clear c1
      try clear p2
      try clear c5
      try clear c8
      try clear c8b0
      try clear c9
      try clear c13
      try clear c13b0
      try clear c13b1
      try clear p2
      obtain ⟨kq, x28_10, rfl, HA, HJ10, HO_5, HI0, HK, HB⟩ := hcut
      cases kq with
      | zero => exact absurd HA.out (by simp [spec_l4List.j2])
      | succ kj10 =>
       have H := HA.out
       clear HA
       simp only [spec_l4List.j2] at H
       by_cases c14 : x28_10 = true
       · subst c14
         have H1 : ((spec_l3Expr.f kj10 s0_0 t209 3).bind fun bt210 => ((spec_l4List.f kj10 s0_0 bt210.2.2.2.2.2 (wrap64 (a1 - 1))).bind fun bt218 => ((spec_l4List.f kj10 s0_0 bt218.2 (wrap64 (a1 - 2))).bind fun bt222 => (if x5_1.length < 1099511627776 then (spec_l4List.l0 kj10 a1 (x5_1 ++ [(⟨2, (⟨0, 0⟩ : S28), (⟨bt210.1, bt210.2.1, (⟨bt210.2.2.1, bt210.2.2.2.1⟩ : S28), bt210.2.2.2.2.1⟩ : S120), bt218.1, bt222.1⟩ : S122)]) (wrap64 (x6_1 - 1)) s0_0 bt222.2) else (none))))) = some (r1, r2) := by rw [if_pos rfl] at H; exact H
         clear H
         have H := H1
         clear H1
         replace H := oB_ H
         obtain ⟨⟨t210, t211, t212, t213, t214, t217⟩, A150, H⟩ := H
         replace H : ((spec_l4List.f kj10 s0_0 t217 (wrap64 (a1 - 1))).bind fun bt218 => ((spec_l4List.f kj10 s0_0 bt218.2 (wrap64 (a1 - 2))).bind fun bt222 => (if x5_1.length < 1099511627776 then (spec_l4List.l0 kj10 a1 (x5_1 ++ [(⟨2, (⟨0, 0⟩ : S28), (⟨t210, t211, (⟨t212, t213⟩ : S28), t214⟩ : S120), bt218.1, bt222.1⟩ : S122)]) (wrap64 (x6_1 - 1)) s0_0 bt222.2) else (none)))) = some (r1, r2) := H
         have A15 := aM_ A150
         clear A150
         replace H := oB_ H
         obtain ⟨⟨t218, t221⟩, A160, H⟩ := H
         replace H : ((spec_l4List.f kj10 s0_0 t221 (wrap64 (a1 - 2))).bind fun bt222 => (if x5_1.length < 1099511627776 then (spec_l4List.l0 kj10 a1 (x5_1 ++ [(⟨2, (⟨0, 0⟩ : S28), (⟨t210, t211, (⟨t212, t213⟩ : S28), t214⟩ : S120), t218, bt222.1⟩ : S122)]) (wrap64 (x6_1 - 1)) s0_0 bt222.2) else (none))) = some (r1, r2) := H
         have A16 := aM_ A160
         clear A160
         replace H := oB_ H
         obtain ⟨⟨t222, t225⟩, A170, H⟩ := H
         replace H : (if x5_1.length < 1099511627776 then (spec_l4List.l0 kj10 a1 (x5_1 ++ [(⟨2, (⟨0, 0⟩ : S28), (⟨t210, t211, (⟨t212, t213⟩ : S28), t214⟩ : S120), t218, t222⟩ : S122)]) (wrap64 (x6_1 - 1)) s0_0 t225) else (none)) = some (r1, r2) := H
         have A17 := aM_ A170
         clear A170
         by_cases c18 : x5_1.length < 1099511627776
         rotate_left
         · rw [if_neg c18] at H
           exact absurd H (by simp)
         rw [if_pos c18] at H
         have LMc18 := aM_ c18
         clear c18
         obtain ⟨y226, hy226⟩ : ∃ y_ : List (S122), y_ = (x5_1 ++ [(⟨2, (⟨0, 0⟩ : S28), (⟨t210, t211, (⟨t212, t213⟩ : S28), t214⟩ : S120), t218, t222⟩ : S122)]) := ⟨_, rfl⟩
         replace H : (spec_l4List.l0 kj10 a1 y226 (wrap64 (x6_1 - 1)) s0_0 t225) = some (r1, r2) := by first | (rw [hy226]; with_reducible exact H) | (have H2_ := (Option.bind_some _ _).symm.trans H; rw [hy226]; with_reducible exact H2_) | (have H2_ := (Option.bind_some _ _).symm.trans H; with_reducible exact H2_) | with_reducible exact H | (rw [hy226]; exact H) | exact H
         have Ny226 := aM_ hy226
         clear hy226
         have H' := aM_ H
         clear H
         go_wp2_with (first | ((with_reducible refine gate_callee (f := 119) rfl ?_); refine goesL_ (some 33) rfl rfl Tryz.func119 (by kernel_rfl) rfl #[.pointer (some ⟨g, 0, none⟩), .int .i64 3] rfl (by (try simp only [mA_, List.map_cons, List.map_nil]); first | done | rfl | (simp only [lD_, lT_]; rfl)) ?_; (with_reducible refine (spec_l3Expr.calls kj10 g s0_0 t209 3 t210 t211 t212 t213 t214 t217 w0 _ ?side1 ?side2 A15.out).mono ?_); (case side1 => exact qI HI0); (case side2 => exact qS HB); rintro e w19 ⟨v215, rfl, ho0, hi, hb, hk⟩; refine ⟨_, rfl, ?_⟩; have n0_ := aM_ (Kd.R_mono (Kd.R_told (Kd.R_oldK (IsS98.apart (show IsS98 w0 _ g s0_0 t209 from qI HI0) (qR HO_5) (by decide)) hk) (Kd.R_base ho0)) (fun _ h_ => h_.1)); have n1_ := aM_ (Kd.R_lower ho0 (keep_size (w := w) (g := g) (row := none) (qK HK))); have n2_ := aM_ (KeepBut.trans (qK HK) hk (.inl rfl)); have n3_ := aM_ (hb); have n4_ := aM_ (hi); clear HO_5 HK HB HI0; revert n0_ n1_ n2_ n3_ n4_; intro HO_5 HO216 HK HB HI0; (try clear hb); (try clear hb2); (try clear hk); (try clear hi); (try clear ho0)) | ((with_reducible refine gate_callee (f := 84) rfl ?_); refine goesL_ (some 37) rfl rfl Tryz.func84 (by kernel_rfl) rfl #[.pointer (some ⟨g, 0, none⟩), .int .i64 (wrap64 (a1 - 1))] rfl (by (try simp only [mA_, List.map_cons, List.map_nil]); first | done | rfl | (simp only [lD_, lT_]; rfl)) ?_; (with_reducible refine (ih kj10 (by have := HK1.out; have := HJ6.out; have := HJ10.out; omega) g s0_0 t217 (wrap64 (a1 - 1)) t218 t221 w0 _ ?side1 ?side2 A16.out).mono ?_); (case side1 => exact qI HI0); (case side2 => exact qS HB); rintro e w20 ⟨v219, rfl, ho0, hi, hb, hk⟩; refine ⟨_, rfl, ?_⟩; have n0_ := aM_ (Kd.R_mono (Kd.R_told (Kd.R_oldK (IsS98.apart (show IsS98 w0 _ g s0_0 t217 from qI HI0) (qR HO_5) (by decide)) hk) (Kd.R_base ho0)) (fun _ h_ => h_.1)); have n1_ := aM_ (Kd.R_mono (Kd.R_keep (IsS98.apart (show IsS98 w0 _ g s0_0 t217 from qI HI0) (qR HO216) (by decide)) hk (fun _ h => h.2)) (fun _ h => h.1)); have n2_ := aM_ (Kd.R_lower (Kd.R_new' (Kd.R_new' ho0 (Kd.R_lt (qR HO_5))) (Kd.R_lt (qR HO216))) (keep_size (w := w) (g := g) (row := none) (qK HK))); have n3_ := aM_ (KeepBut.trans (qK HK) hk (.inl rfl)); have n4_ := aM_ (hb); have n5_ := aM_ (hi); clear HO_5 HO216 HK HB HI0; revert n0_ n1_ n2_ n3_ n4_ n5_; intro HO_5 HO216 HO220 HK HB HI0; (try clear hb); (try clear hb2); (try clear hk); (try clear hi); (try clear ho0)) | ((with_reducible refine gate_callee (f := 84) rfl ?_); refine goesL_ (some 41) rfl rfl Tryz.func84 (by kernel_rfl) rfl #[.pointer (some ⟨g, 0, none⟩), .int .i64 (wrap64 (a1 - 2))] rfl (by (try simp only [mA_, List.map_cons, List.map_nil]); first | done | rfl | (simp only [lD_, lT_]; rfl)) ?_; (with_reducible refine (ih kj10 (by have := HK1.out; have := HJ6.out; have := HJ10.out; omega) g s0_0 t221 (wrap64 (a1 - 2)) t222 t225 w0 _ ?side1 ?side2 A17.out).mono ?_); (case side1 => exact qI HI0); (case side2 => exact qS HB); rintro e w21 ⟨v223, rfl, ho0, hi, hb, hk⟩; refine ⟨_, rfl, ?_⟩; have n0_ := aM_ (Kd.R_mono (Kd.R_told (Kd.R_oldK (IsS98.apart (show IsS98 w0 _ g s0_0 t221 from qI HI0) (qR HO_5) (by decide)) hk) (Kd.R_base ho0)) (fun _ h_ => h_.1)); have n1_ := aM_ (Kd.R_mono (Kd.R_keep (IsS98.apart (show IsS98 w0 _ g s0_0 t221 from qI HI0) (qR HO216) (by decide)) hk (fun _ h => h.2)) (fun _ h => h.1)); have n2_ := aM_ (Kd.R_mono (Kd.R_told (Kd.R_oldK (IsS98.apart (show IsS98 w0 _ g s0_0 t221 from qI HI0) (qR HO220) (by decide)) hk) (Kd.R_base ho0)) (fun _ h_ => h_.1)); have n3_ := aM_ (Kd.R_lower (Kd.R_new' (Kd.R_new' (Kd.R_new' ho0 (Kd.R_lt (qR HO_5))) (Kd.R_lt (qR HO216))) (Kd.R_lt (qR HO220))) (keep_size (w := w) (g := g) (row := none) (qK HK))); have n4_ := aM_ (KeepBut.trans (qK HK) hk (.inl rfl)); have n5_ := aM_ (hb); have n6_ := aM_ (hi); clear HO_5 HO216 HO220 HK HB HI0; revert n0_ n1_ n2_ n3_ n4_ n5_ n6_; intro HO_5 HO216 HO220 HO224 HK HB HI0; (try clear hb); (try clear hb2); (try clear hk); (try clear hi); (try clear ho0); obtain ⟨Ao22, co22, eo22⟩ := Kd.R_slice HO224.out; subst eo22; obtain ⟨Ao23, co23, eo23⟩ := Kd.R_slice HO220.out; subst eo23; obtain ⟨Ao24, co24, eo24⟩ := Kd.R_slice HO216.out; subst eo24) | ((with_reducible refine gate_builtin (b := .append) (xs := #[.tmp 31, .tmp 43]) rfl ?_); at_builtin; refine Kd.R_append k122 w.heap.size rfl (.tmp 31) (.tmp 43) 93 122 (.agg #[(.int .i64 0), (.int .i64 0), (.int .i64 0), (.int .i64 0), (.int .i64 0), (.int .i64 0), (.int .i64 0), (.slice none 0 0), (.slice none 0 0), (.slice none 0 0)]) 128 rfl Tryz.underlying93 info122 rfl (by decide) (by omega) u5 x5_1 (⟨2, (⟨0, 0⟩ : S28), (⟨t210, t211, (⟨t212, t213⟩ : S28), t214⟩ : S120), t218, t222⟩ : S122) [.int .i64 2, .int .i64 0, .int .i64 0, .int .i64 t210, .int .i64 t211, .int .i64 t212, .int .i64 t213, .slice Ao24 t214.length co24, .slice Ao23 t218.length co23, .slice Ao22 t222.length co22] (fun _ => True) (fun k_ => ((fun _ => True)) k_ ∧ some k_ ≠ (u5 : Value).ownBlock) rfl rfl ?aP (fun _ hk => hk) ?aF ?aO (Below.refl _ _) ?aS ?aL ?_; (case aP => exact k122_mkM _ _ _ (⟨2, (⟨0, 0⟩ : S28), (⟨t210, t211, (⟨t212, t213⟩ : S28), t214⟩ : S120), t218, t222⟩ : S122) (Kd.R_mono (Kd.R_apart' (HO216.out) (Kd.R_typed HO_5.out) (by decide)) (fun k_ hk => ⟨trivial, hk.2⟩)) (Kd.R_mono (HO220.out) (fun k_ hk => ⟨trivial, hk.1.1.2⟩)) (Kd.R_mono (HO224.out) (fun k_ hk => ⟨trivial, hk.1.1.2⟩))); (case aF => exact (fun _ _ => trivial)); (case aO => exact (qr (Kd.R_mono HO_5.out (fun _ hk => trivial)))); (case aS => exact (keep_size (w := w) (g := g) (row := none) (qK HK))); (case aL => have := LMc18.out; omega); intro v227 w25 ho hb hg hat; rw [← Ny226.out] at ho; have n0_ := aM_ (IsS98.grown (qI HI0) hg (IsS98.own_ne HI0.out HO_5.out (by decide))); have n1_ := aM_ (below_weaken (qS HB) HL.out hb); have n2_ := aM_ (KeepBut.trans (qK HK) (KeepBut.of_grown hg g) (Kd.R_base2 HO_5.out)); have n3_ := aM_ (ho); clear HI0 HB HK HO_5 HO216 HO220 HO224; have HI0 := n0_; have HB := n1_; have HK := n2_; have HO228 := n3_; clear n0_ n1_ n2_ n3_ ho hb hg hat))
         go_roundg kj10
         case measure => have := HK1.out; have := HJ6.out; have := HJ10.out; omega
         case rel => exact ⟨(y226), (wrap64 (x6_1 - 1)), (t225), qF, H', ⟨by have := HK1.out; have := HJ6.out; have := HJ10.out; omega⟩, ⟨by (with_reducible repeat (first | apply rA_ | apply rN_ | apply rD_)); exact HO228.out⟩, ⟨qI HI0⟩, ⟨qK HK⟩, ⟨qS HB⟩⟩
       replace c14 := Bool.eq_false_iff.mpr c14
       subst c14
       have H1 : (if t208 = 2 then (if a1 > 1 then ((spec_l4Count.f s0_0 t209).bind fun bt229 => (if x5_1.length < 1099511627776 then (spec_l4List.l0 kj10 a1 (x5_1 ++ [(⟨bt229.1, (⟨bt229.2.1, bt229.2.2.1⟩ : S28), (⟨bt229.2.2.2.1, bt229.2.2.2.2.1, (⟨bt229.2.2.2.2.2.1, bt229.2.2.2.2.2.2.1⟩ : S28), bt229.2.2.2.2.2.2.2.1⟩ : S120), bt229.2.2.2.2.2.2.2.2.1, bt229.2.2.2.2.2.2.2.2.2.1⟩ : S122)]) (wrap64 (x6_1 - 1)) s0_0 bt229.2.2.2.2.2.2.2.2.2.2) else (none))) else (spec_l4List.l0 kj10 a1 x5_1 (wrap64 (x6_1 - 1)) s0_0 t209)) else (if t208 = 3 then ((spec_l12Rd_pick.f kj10 s0_0 t209 3).bind fun bt249 => (if bt249.1 = 0 then ((spec_l3Expr.f kj10 s0_0 bt249.2 2).bind fun bt251 => ((spec_l4List.f kj10 s0_0 bt251.2.2.2.2.2 (wrap64 (a1 - 1))).bind fun bt259 => (if x5_1.length < 1099511627776 then (spec_l4List.l0 kj10 a1 (x5_1 ++ [(⟨3, (⟨0, 0⟩ : S28), (⟨bt251.1, bt251.2.1, (⟨bt251.2.2.1, bt251.2.2.2.1⟩ : S28), bt251.2.2.2.2.1⟩ : S120), bt259.1, ([] : List (S122))⟩ : S122)]) (wrap64 (x6_1 - 1)) s0_0 bt259.2) else (none)))) else (spec_l4List.l0 kj10 a1 x5_1 (wrap64 (x6_1 - 1)) s0_0 bt249.2))) else ((spec_l2To.f kj10 s0_0 t209).bind fun bt266 => ((spec_l3Expr.f kj10 s0_0 bt266.2.2 3).bind fun bt269 => (if x5_1.length < 1099511627776 then (spec_l4List.l0 kj10 a1 (x5_1 ++ [(⟨1, (⟨bt266.1, bt266.2.1⟩ : S28), (⟨bt269.1, bt269.2.1, (⟨bt269.2.2.1, bt269.2.2.2.1⟩ : S28), bt269.2.2.2.2.1⟩ : S120), ([] : List (S122)), ([] : List (S122))⟩ : S122)]) (wrap64 (x6_1 - 1)) s0_0 bt269.2.2.2.2.2) else (none)))))) = some (r1, r2) := by rw [if_neg (show ¬ (false = true) by decide)] at H; exact H
       clear H
       have H := H1
       clear H1
       by_cases c26 : t208 = 2
       · rw [if_pos c26] at H
         have c26b0 : (t208 == 2) = true := beq_iff_eq.mpr c26
         have c26b1 : (t208 != 2) = false := bne_eq_false_iff_eq.mpr c26
         clear c26
         by_cases c27 : a1 > 1
         rotate_left
         · rw [if_neg c27] at H
           have c27b0 : decide (1 < a1) = false := dF_ c27
           clear c27
           have H' := aM_ H
           clear H
           go_wp2
           go_roundg kj10
           case measure => have := HK1.out; have := HJ6.out; have := HJ10.out; omega
           case rel => exact ⟨(x5_1), (wrap64 (x6_1 - 1)), (t209), qF, H', ⟨by have := HK1.out; have := HJ6.out; have := HJ10.out; omega⟩, ⟨by (with_reducible repeat (first | apply rA_ | apply rN_ | apply rD_)); exact HO_5.out⟩, ⟨qI HI0⟩, ⟨qK HK⟩, ⟨qS HB⟩⟩
         rw [if_pos c27] at H
         have c27b0 : decide (1 < a1) = true := dT_ c27
         clear c27
         replace H := oB_ H
         obtain ⟨⟨t229, t230, t231, t232, t233, t234, t235, t236, t239, t242, t245⟩, A280, H⟩ := H
         replace H : (if x5_1.length < 1099511627776 then (spec_l4List.l0 kj10 a1 (x5_1 ++ [(⟨t229, (⟨t230, t231⟩ : S28), (⟨t232, t233, (⟨t234, t235⟩ : S28), t236⟩ : S120), t239, t242⟩ : S122)]) (wrap64 (x6_1 - 1)) s0_0 t245) else (none)) = some (r1, r2) := H
         have A28 := aM_ A280
         clear A280
         by_cases c29 : x5_1.length < 1099511627776
         rotate_left
         · rw [if_neg c29] at H
           exact absurd H (by simp)
         rw [if_pos c29] at H
         have LMc29 := aM_ c29
         clear c29
         obtain ⟨y246, hy246⟩ : ∃ y_ : List (S122), y_ = (x5_1 ++ [(⟨t229, (⟨t230, t231⟩ : S28), (⟨t232, t233, (⟨t234, t235⟩ : S28), t236⟩ : S120), t239, t242⟩ : S122)]) := ⟨_, rfl⟩
         replace H : (spec_l4List.l0 kj10 a1 y246 (wrap64 (x6_1 - 1)) s0_0 t245) = some (r1, r2) := by first | (rw [hy246]; with_reducible exact H) | (have H2_ := (Option.bind_some _ _).symm.trans H; rw [hy246]; with_reducible exact H2_) | (have H2_ := (Option.bind_some _ _).symm.trans H; with_reducible exact H2_) | with_reducible exact H | (rw [hy246]; exact H) | exact H
         have Ny246 := aM_ hy246
         clear hy246
         have H' := aM_ H
         clear H
         go_wp2_with (first | ((with_reducible refine gate_callee (f := 86) rfl ?_); refine goesL_ (some 51) rfl rfl Tryz.func86 (by kernel_rfl) rfl #[.pointer (some ⟨g, 0, none⟩)] rfl (by (try simp only [mA_, List.map_cons, List.map_nil]); first | done | rfl | (simp only [lD_, lT_]; rfl)) ?_; (with_reducible refine (spec_l4Count.calls g s0_0 t209 t229 t230 t231 t232 t233 t234 t235 t236 t239 t242 t245 w0 _ ?side1 ?side2 A28.out).mono ?_); (case side1 => exact qI HI0); (case side2 => exact qS HB); rintro e w30 ⟨v237, v240, v243, rfl, ho0, ho1, ho2, hi, hb, hk⟩; refine ⟨_, rfl, ?_⟩; have n0_ := aM_ (Kd.R_mono (Kd.R_told (Kd.R_told (Kd.R_told (Kd.R_oldK (IsS98.apart (show IsS98 w0 _ g s0_0 t209 from qI HI0) (qR HO_5) (by decide)) hk) (Kd.R_base ho0)) (Kd.R_base ho1)) (Kd.R_base ho2)) (fun _ h_ => h_.1)); have n1_ := aM_ (Kd.R_lower ho0 (keep_size (w := w) (g := g) (row := none) (qK HK))); have n2_ := aM_ (Kd.R_lower (Kd.R_new' ho1 (Kd.R_lt (qR HO_5))) (keep_size (w := w) (g := g) (row := none) (qK HK))); have n3_ := aM_ (Kd.R_lower (Kd.R_new' ho2 (Kd.R_lt (qR HO_5))) (keep_size (w := w) (g := g) (row := none) (qK HK))); have n4_ := aM_ (KeepBut.trans (qK HK) hk (.inl rfl)); have n5_ := aM_ (hb); have n6_ := aM_ (hi); clear HO_5 HK HB HI0; revert n0_ n1_ n2_ n3_ n4_ n5_ n6_; intro HO_5 HO238 HO241 HO244 HK HB HI0; (try clear hb); (try clear hb2); (try clear hk); (try clear hi); (try clear ho0); (try clear ho1); (try clear ho2); obtain ⟨Ao32, co32, eo32⟩ := Kd.R_slice HO238.out; subst eo32; obtain ⟨Ao33, co33, eo33⟩ := Kd.R_slice HO241.out; subst eo33; obtain ⟨Ao34, co34, eo34⟩ := Kd.R_slice HO244.out; subst eo34) | ((with_reducible refine gate_builtin (b := .append) (xs := #[.tmp 49, .tmp 52]) rfl ?_); at_builtin; refine Kd.R_append k122 w.heap.size rfl (.tmp 49) (.tmp 52) 93 122 (.agg #[(.int .i64 0), (.int .i64 0), (.int .i64 0), (.int .i64 0), (.int .i64 0), (.int .i64 0), (.int .i64 0), (.slice none 0 0), (.slice none 0 0), (.slice none 0 0)]) 128 rfl Tryz.underlying93 info122 rfl (by decide) (by omega) u5 x5_1 (⟨t229, (⟨t230, t231⟩ : S28), (⟨t232, t233, (⟨t234, t235⟩ : S28), t236⟩ : S120), t239, t242⟩ : S122) [.int .i64 t229, .int .i64 t230, .int .i64 t231, .int .i64 t232, .int .i64 t233, .int .i64 t234, .int .i64 t235, .slice Ao32 t236.length co32, .slice Ao33 t239.length co33, .slice Ao34 t242.length co34] (fun _ => True) (fun k_ => ((fun _ => True)) k_ ∧ some k_ ≠ (u5 : Value).ownBlock) rfl rfl ?aP (fun _ hk => hk) ?aF ?aO (Below.refl _ _) ?aS ?aL ?_; (case aP => exact k122_mkM _ _ _ (⟨t229, (⟨t230, t231⟩ : S28), (⟨t232, t233, (⟨t234, t235⟩ : S28), t236⟩ : S120), t239, t242⟩ : S122) (Kd.R_mono (Kd.R_apart' (HO238.out) (Kd.R_typed HO_5.out) (by decide)) (fun k_ hk => ⟨trivial, hk.2⟩)) (Kd.R_mono (HO241.out) (fun k_ hk => ⟨trivial, hk.2⟩)) (Kd.R_mono (HO244.out) (fun k_ hk => ⟨trivial, hk.2⟩))); (case aF => exact (fun _ _ => trivial)); (case aO => exact (qr (Kd.R_mono HO_5.out (fun _ hk => trivial)))); (case aS => exact (keep_size (w := w) (g := g) (row := none) (qK HK))); (case aL => have := LMc29.out; omega); intro v247 w31 ho hb hg hat; rw [← Ny246.out] at ho; have n0_ := aM_ (IsS98.grown (qI HI0) hg (IsS98.own_ne HI0.out HO_5.out (by decide))); have n1_ := aM_ (below_weaken (qS HB) HL.out hb); have n2_ := aM_ (KeepBut.trans (qK HK) (KeepBut.of_grown hg g) (Kd.R_base2 HO_5.out)); have n3_ := aM_ (ho); clear HI0 HB HK HO_5 HO238 HO241 HO244; have HI0 := n0_; have HB := n1_; have HK := n2_; have HO248 := n3_; clear n0_ n1_ n2_ n3_ ho hb hg hat))
         go_roundg kj10
         case measure => have := HK1.out; have := HJ6.out; have := HJ10.out; omega
         case rel => exact ⟨(y246), (wrap64 (x6_1 - 1)), (t245), qF, H', ⟨by have := HK1.out; have := HJ6.out; have := HJ10.out; omega⟩, ⟨by (with_reducible repeat (first | apply rA_ | apply rN_ | apply rD_)); exact HO248.out⟩, ⟨qI HI0⟩, ⟨qK HK⟩, ⟨qS HB⟩⟩
       rw [if_neg c26] at H
       have c26b0 : (t208 == 2) = false := beq_eq_false_iff_ne.mpr c26
       have c26b1 : (t208 != 2) = true := bne_iff_ne.mpr c26
       by_cases c35 : t208 = 3
       rotate_left
       · rw [if_neg c35] at H
         have c35b0 : (t208 == 3) = false := beq_eq_false_iff_ne.mpr c35
         have c35b1 : (t208 != 3) = true := bne_iff_ne.mpr c35
         replace H := oB_ H
         obtain ⟨⟨t266, t267, t268⟩, A480, H⟩ := H
         replace H : ((spec_l3Expr.f kj10 s0_0 t268 3).bind fun bt269 => (if x5_1.length < 1099511627776 then (spec_l4List.l0 kj10 a1 (x5_1 ++ [(⟨1, (⟨t266, t267⟩ : S28), (⟨bt269.1, bt269.2.1, (⟨bt269.2.2.1, bt269.2.2.2.1⟩ : S28), bt269.2.2.2.2.1⟩ : S120), ([] : List (S122)), ([] : List (S122))⟩ : S122)]) (wrap64 (x6_1 - 1)) s0_0 bt269.2.2.2.2.2) else (none))) = some (r1, r2) := H
         have A48 := aM_ A480
         clear A480
         replace H := oB_ H
         obtain ⟨⟨t269, t270, t271, t272, t273, t276⟩, A490, H⟩ := H
         replace H : (if x5_1.length < 1099511627776 then (spec_l4List.l0 kj10 a1 (x5_1 ++ [(⟨1, (⟨t266, t267⟩ : S28), (⟨t269, t270, (⟨t271, t272⟩ : S28), t273⟩ : S120), ([] : List (S122)), ([] : List (S122))⟩ : S122)]) (wrap64 (x6_1 - 1)) s0_0 t276) else (none)) = some (r1, r2) := H
         have A49 := aM_ A490
         clear A490
         by_cases c50 : x5_1.length < 1099511627776
         rotate_left
         · rw [if_neg c50] at H
           exact absurd H (by simp)
         rw [if_pos c50] at H
         have LMc50 := aM_ c50
         clear c50
         obtain ⟨y277, hy277⟩ : ∃ y_ : List (S122), y_ = (x5_1 ++ [(⟨1, (⟨t266, t267⟩ : S28), (⟨t269, t270, (⟨t271, t272⟩ : S28), t273⟩ : S120), ([] : List (S122)), ([] : List (S122))⟩ : S122)]) := ⟨_, rfl⟩
         replace H : (spec_l4List.l0 kj10 a1 y277 (wrap64 (x6_1 - 1)) s0_0 t276) = some (r1, r2) := by first | (rw [hy277]; with_reducible exact H) | (have H2_ := (Option.bind_some _ _).symm.trans H; rw [hy277]; with_reducible exact H2_) | (have H2_ := (Option.bind_some _ _).symm.trans H; with_reducible exact H2_) | with_reducible exact H | (rw [hy277]; exact H) | exact H
         have Ny277 := aM_ hy277
         clear hy277
         have H' := aM_ H
         clear H
         go_wp2_with (first | ((with_reducible refine gate_callee (f := 120) rfl ?_); refine goesL_ (some 22) rfl rfl Tryz.func120 (by kernel_rfl) rfl #[.pointer (some ⟨g, 0, none⟩)] rfl (by (try simp only [mA_, List.map_cons, List.map_nil]); first | done | rfl | (simp only [lD_, lT_]; rfl)) ?_; (with_reducible refine (spec_l2To.calls kj10 g s0_0 t209 t266 t267 t268 w0 _ ?side1 ?side2 A48.out).mono ?_); (case side1 => exact qI HI0); (case side2 => exact qS HB); rintro e w51 ⟨rfl, hi, hb, hk⟩; refine ⟨_, rfl, ?_⟩; have n0_ := aM_ (Kd.R_mono (Kd.R_keep (IsS98.apart (show IsS98 w0 _ g s0_0 t209 from qI HI0) (qR HO_5) (by decide)) hk (fun _ h => h.2)) (fun _ h => h.1)); have n1_ := aM_ (KeepBut.trans (qK HK) hk (.inl rfl)); have n2_ := aM_ (hb); have n3_ := aM_ (hi); clear HO_5 HK HB HI0; revert n0_ n1_ n2_ n3_; intro HO_5 HK HB HI0; (try clear hb); (try clear hb2); (try clear hk); (try clear hi)) | ((with_reducible refine gate_callee (f := 119) rfl ?_); refine goesL_ (some 24) rfl rfl Tryz.func119 (by kernel_rfl) rfl #[.pointer (some ⟨g, 0, none⟩), .int .i64 3] rfl (by (try simp only [mA_, List.map_cons, List.map_nil]); first | done | rfl | (simp only [lD_, lT_]; rfl)) ?_; (with_reducible refine (spec_l3Expr.calls kj10 g s0_0 t268 3 t269 t270 t271 t272 t273 t276 w0 _ ?side1 ?side2 A49.out).mono ?_); (case side1 => exact qI HI0); (case side2 => exact qS HB); rintro e w52 ⟨v274, rfl, ho0, hi, hb, hk⟩; refine ⟨_, rfl, ?_⟩; have n0_ := aM_ (Kd.R_mono (Kd.R_told (Kd.R_oldK (IsS98.apart (show IsS98 w0 _ g s0_0 t268 from qI HI0) (qR HO_5) (by decide)) hk) (Kd.R_base ho0)) (fun _ h_ => h_.1)); have n1_ := aM_ (Kd.R_lower ho0 (keep_size (w := w) (g := g) (row := none) (qK HK))); have n2_ := aM_ (KeepBut.trans (qK HK) hk (.inl rfl)); have n3_ := aM_ (hb); have n4_ := aM_ (hi); clear HO_5 HK HB HI0; revert n0_ n1_ n2_ n3_ n4_; intro HO_5 HO275 HK HB HI0; (try clear hb); (try clear hb2); (try clear hk); (try clear hi); (try clear ho0); obtain ⟨Ao53, co53, eo53⟩ := Kd.R_slice HO275.out; subst eo53) | ((with_reducible refine gate_builtin (b := .append) (xs := #[.tmp 20, .tmp 26]) rfl ?_); at_builtin; refine Kd.R_append k122 w.heap.size rfl (.tmp 20) (.tmp 26) 93 122 (.agg #[(.int .i64 0), (.int .i64 0), (.int .i64 0), (.int .i64 0), (.int .i64 0), (.int .i64 0), (.int .i64 0), (.slice none 0 0), (.slice none 0 0), (.slice none 0 0)]) 128 rfl Tryz.underlying93 info122 rfl (by decide) (by omega) u5 x5_1 (⟨1, (⟨t266, t267⟩ : S28), (⟨t269, t270, (⟨t271, t272⟩ : S28), t273⟩ : S120), ([] : List (S122)), ([] : List (S122))⟩ : S122) [.int .i64 1, .int .i64 t266, .int .i64 t267, .int .i64 t269, .int .i64 t270, .int .i64 t271, .int .i64 t272, .slice Ao53 t273.length co53, .slice none 0 0, .slice none 0 0] (fun _ => True) (fun k_ => ((fun _ => True)) k_ ∧ some k_ ≠ (u5 : Value).ownBlock) rfl rfl ?aP (fun _ hk => hk) ?aF ?aO (Below.refl _ _) ?aS ?aL ?_; (case aP => exact k122_mkM _ _ _ (⟨1, (⟨t266, t267⟩ : S28), (⟨t269, t270, (⟨t271, t272⟩ : S28), t273⟩ : S120), ([] : List (S122)), ([] : List (S122))⟩ : S122) (Kd.R_mono (Kd.R_apart' (HO275.out) (Kd.R_typed HO_5.out) (by decide)) (fun k_ hk => ⟨trivial, hk.2⟩)) (Kd.R_nil _ _ _ _ _) (Kd.R_nil _ _ _ _ _)); (case aF => exact (fun _ _ => trivial)); (case aO => exact (qr (Kd.R_mono HO_5.out (fun _ hk => trivial)))); (case aS => exact (keep_size (w := w) (g := g) (row := none) (qK HK))); (case aL => have := LMc50.out; omega); intro v278 w54 ho hb hg hat; rw [← Ny277.out] at ho; have n0_ := aM_ (IsS98.grown (qI HI0) hg (IsS98.own_ne HI0.out HO_5.out (by decide))); have n1_ := aM_ (below_weaken (qS HB) HL.out hb); have n2_ := aM_ (KeepBut.trans (qK HK) (KeepBut.of_grown hg g) (Kd.R_base2 HO_5.out)); have n3_ := aM_ (ho); clear HI0 HB HK HO_5 HO275; have HI0 := n0_; have HB := n1_; have HK := n2_; have HO279 := n3_; clear n0_ n1_ n2_ n3_ ho hb hg hat))
         go_roundg kj10
         case measure => have := HK1.out; have := HJ6.out; have := HJ10.out; omega
         case rel => exact ⟨(y277), (wrap64 (x6_1 - 1)), (t276), qF, H', ⟨by have := HK1.out; have := HJ6.out; have := HJ10.out; omega⟩, ⟨by (with_reducible repeat (first | apply rA_ | apply rN_ | apply rD_)); exact HO279.out⟩, ⟨qI HI0⟩, ⟨qK HK⟩, ⟨qS HB⟩⟩
       rw [if_pos c35] at H
       have c35b0 : (t208 == 3) = true := beq_iff_eq.mpr c35
       have c35b1 : (t208 != 3) = false := bne_eq_false_iff_eq.mpr c35
       clear c35
       replace H := oB_ H
       obtain ⟨⟨t249, t250⟩, A360, H⟩ := H
       replace H : (if t249 = 0 then ((spec_l3Expr.f kj10 s0_0 t250 2).bind fun bt251 => ((spec_l4List.f kj10 s0_0 bt251.2.2.2.2.2 (wrap64 (a1 - 1))).bind fun bt259 => (if x5_1.length < 1099511627776 then (spec_l4List.l0 kj10 a1 (x5_1 ++ [(⟨3, (⟨0, 0⟩ : S28), (⟨bt251.1, bt251.2.1, (⟨bt251.2.2.1, bt251.2.2.2.1⟩ : S28), bt251.2.2.2.2.1⟩ : S120), bt259.1, ([] : List (S122))⟩ : S122)]) (wrap64 (x6_1 - 1)) s0_0 bt259.2) else (none)))) else (spec_l4List.l0 kj10 a1 x5_1 (wrap64 (x6_1 - 1)) s0_0 t250)) = some (r1, r2) := H
       have A36 := aM_ A360
       clear A360
       by_cases c37 : t249 = 0
       rotate_left
       · rw [if_neg c37] at H
         have c37b0 : (t249 == 0) = false := beq_eq_false_iff_ne.mpr c37
         have c37b1 : (t249 != 0) = true := bne_iff_ne.mpr c37
         have H' := aM_ H
         clear H
         go_wp2_with (first | ((with_reducible refine gate_callee (f := 58) rfl ?_); refine goesL_ (some 57) rfl rfl Tryz.func58 (by kernel_rfl) rfl #[.pointer (some ⟨g, 0, none⟩), .int .i64 3] rfl (by (try simp only [mA_, List.map_cons, List.map_nil]); first | done | rfl | (simp only [lD_, lT_]; rfl)) ?_; (with_reducible refine (spec_l12Rd_pick.calls kj10 g s0_0 t209 3 t249 t250 w0 _ ?side1 ?side2 A36.out).mono ?_); (case side1 => exact qI HI0); (case side2 => exact qS HB); rintro e w47 ⟨rfl, hi, hb, hk⟩; refine ⟨_, rfl, ?_⟩; have n0_ := aM_ (Kd.R_mono (Kd.R_keep (IsS98.apart (show IsS98 w0 _ g s0_0 t209 from qI HI0) (qR HO_5) (by decide)) hk (fun _ h => h.2)) (fun _ h => h.1)); have n1_ := aM_ (KeepBut.trans (qK HK) hk (.inl rfl)); have n2_ := aM_ (hb); have n3_ := aM_ (hi); clear HO_5 HK HB HI0; revert n0_ n1_ n2_ n3_; intro HO_5 HK HB HI0; (try clear hb); (try clear hb2); (try clear hk); (try clear hi)))
         go_roundg kj10
         case measure => have := HK1.out; have := HJ6.out; have := HJ10.out; omega
         case rel => exact ⟨(x5_1), (wrap64 (x6_1 - 1)), (t250), qF, H', ⟨by have := HK1.out; have := HJ6.out; have := HJ10.out; omega⟩, ⟨by (with_reducible repeat (first | apply rA_ | apply rN_ | apply rD_)); exact HO_5.out⟩, ⟨qI HI0⟩, ⟨qK HK⟩, ⟨qS HB⟩⟩
       rw [if_pos c37] at H
       have c37b0 : (t249 == 0) = true := beq_iff_eq.mpr c37
       have c37b1 : (t249 != 0) = false := bne_eq_false_iff_eq.mpr c37
       clear c37
       replace H := oB_ H
       obtain ⟨⟨t251, t252, t253, t254, t255, t258⟩, A380, H⟩ := H
       replace H : ((spec_l4List.f kj10 s0_0 t258 (wrap64 (a1 - 1))).bind fun bt259 => (if x5_1.length < 1099511627776 then (spec_l4List.l0 kj10 a1 (x5_1 ++ [(⟨3, (⟨0, 0⟩ : S28), (⟨t251, t252, (⟨t253, t254⟩ : S28), t255⟩ : S120), bt259.1, ([] : List (S122))⟩ : S122)]) (wrap64 (x6_1 - 1)) s0_0 bt259.2) else (none))) = some (r1, r2) := H
       have A38 := aM_ A380
       clear A380
       replace H := oB_ H
       obtain ⟨⟨t259, t262⟩, A390, H⟩ := H
       replace H : (if x5_1.length < 1099511627776 then (spec_l4List.l0 kj10 a1 (x5_1 ++ [(⟨3, (⟨0, 0⟩ : S28), (⟨t251, t252, (⟨t253, t254⟩ : S28), t255⟩ : S120), t259, ([] : List (S122))⟩ : S122)]) (wrap64 (x6_1 - 1)) s0_0 t262) else (none)) = some (r1, r2) := H
       have A39 := aM_ A390
       clear A390
       by_cases c40 : x5_1.length < 1099511627776
       rotate_left
       · rw [if_neg c40] at H
         exact absurd H (by simp)
       rw [if_pos c40] at H
       have LMc40 := aM_ c40
       clear c40
       obtain ⟨y263, hy263⟩ : ∃ y_ : List (S122), y_ = (x5_1 ++ [(⟨3, (⟨0, 0⟩ : S28), (⟨t251, t252, (⟨t253, t254⟩ : S28), t255⟩ : S120), t259, ([] : List (S122))⟩ : S122)]) := ⟨_, rfl⟩
       replace H : (spec_l4List.l0 kj10 a1 y263 (wrap64 (x6_1 - 1)) s0_0 t262) = some (r1, r2) := by first | (rw [hy263]; with_reducible exact H) | (have H2_ := (Option.bind_some _ _).symm.trans H; rw [hy263]; with_reducible exact H2_) | (have H2_ := (Option.bind_some _ _).symm.trans H; with_reducible exact H2_) | with_reducible exact H | (rw [hy263]; exact H) | exact H
       have Ny263 := aM_ hy263
       clear hy263
       have H' := aM_ H
       clear H
       go_wp2_with (first | ((with_reducible refine gate_callee (f := 58) rfl ?_); refine goesL_ (some 57) rfl rfl Tryz.func58 (by kernel_rfl) rfl #[.pointer (some ⟨g, 0, none⟩), .int .i64 3] rfl (by (try simp only [mA_, List.map_cons, List.map_nil]); first | done | rfl | (simp only [lD_, lT_]; rfl)) ?_; (with_reducible refine (spec_l12Rd_pick.calls kj10 g s0_0 t209 3 t249 t250 w0 _ ?side1 ?side2 A36.out).mono ?_); (case side1 => exact qI HI0); (case side2 => exact qS HB); rintro e w41 ⟨rfl, hi, hb, hk⟩; refine ⟨_, rfl, ?_⟩; have n0_ := aM_ (Kd.R_mono (Kd.R_keep (IsS98.apart (show IsS98 w0 _ g s0_0 t209 from qI HI0) (qR HO_5) (by decide)) hk (fun _ h => h.2)) (fun _ h => h.1)); have n1_ := aM_ (KeepBut.trans (qK HK) hk (.inl rfl)); have n2_ := aM_ (hb); have n3_ := aM_ (hi); clear HO_5 HK HB HI0; revert n0_ n1_ n2_ n3_; intro HO_5 HK HB HI0; (try clear hb); (try clear hb2); (try clear hk); (try clear hi)) | ((with_reducible refine gate_callee (f := 119) rfl ?_); refine goesL_ (some 61) rfl rfl Tryz.func119 (by kernel_rfl) rfl #[.pointer (some ⟨g, 0, none⟩), .int .i64 2] rfl (by (try simp only [mA_, List.map_cons, List.map_nil]); first | done | rfl | (simp only [lD_, lT_]; rfl)) ?_; (with_reducible refine (spec_l3Expr.calls kj10 g s0_0 t250 2 t251 t252 t253 t254 t255 t258 w0 _ ?side1 ?side2 A38.out).mono ?_); (case side1 => exact qI HI0); (case side2 => exact qS HB); rintro e w42 ⟨v256, rfl, ho0, hi, hb, hk⟩; refine ⟨_, rfl, ?_⟩; have n0_ := aM_ (Kd.R_mono (Kd.R_told (Kd.R_oldK (IsS98.apart (show IsS98 w0 _ g s0_0 t250 from qI HI0) (qR HO_5) (by decide)) hk) (Kd.R_base ho0)) (fun _ h_ => h_.1)); have n1_ := aM_ (Kd.R_lower ho0 (keep_size (w := w) (g := g) (row := none) (qK HK))); have n2_ := aM_ (KeepBut.trans (qK HK) hk (.inl rfl)); have n3_ := aM_ (hb); have n4_ := aM_ (hi); clear HO_5 HK HB HI0; revert n0_ n1_ n2_ n3_ n4_; intro HO_5 HO257 HK HB HI0; (try clear hb); (try clear hb2); (try clear hk); (try clear hi); (try clear ho0)) | ((with_reducible refine gate_callee (f := 84) rfl ?_); refine goesL_ (some 65) rfl rfl Tryz.func84 (by kernel_rfl) rfl #[.pointer (some ⟨g, 0, none⟩), .int .i64 (wrap64 (a1 - 1))] rfl (by (try simp only [mA_, List.map_cons, List.map_nil]); first | done | rfl | (simp only [lD_, lT_]; rfl)) ?_; (with_reducible refine (ih kj10 (by have := HK1.out; have := HJ6.out; have := HJ10.out; omega) g s0_0 t258 (wrap64 (a1 - 1)) t259 t262 w0 _ ?side1 ?side2 A39.out).mono ?_); (case side1 => exact qI HI0); (case side2 => exact qS HB); rintro e w43 ⟨v260, rfl, ho0, hi, hb, hk⟩; refine ⟨_, rfl, ?_⟩; have n0_ := aM_ (Kd.R_mono (Kd.R_told (Kd.R_oldK (IsS98.apart (show IsS98 w0 _ g s0_0 t258 from qI HI0) (qR HO_5) (by decide)) hk) (Kd.R_base ho0)) (fun _ h_ => h_.1)); have n1_ := aM_ (Kd.R_mono (Kd.R_keep (IsS98.apart (show IsS98 w0 _ g s0_0 t258 from qI HI0) (qR HO257) (by decide)) hk (fun _ h => h.2)) (fun _ h => h.1)); have n2_ := aM_ (Kd.R_lower (Kd.R_new' (Kd.R_new' ho0 (Kd.R_lt (qR HO_5))) (Kd.R_lt (qR HO257))) (keep_size (w := w) (g := g) (row := none) (qK HK))); have n3_ := aM_ (KeepBut.trans (qK HK) hk (.inl rfl)); have n4_ := aM_ (hb); have n5_ := aM_ (hi); clear HO_5 HO257 HK HB HI0; revert n0_ n1_ n2_ n3_ n4_ n5_; intro HO_5 HO257 HO261 HK HB HI0; (try clear hb); (try clear hb2); (try clear hk); (try clear hi); (try clear ho0); obtain ⟨Ao44, co44, eo44⟩ := Kd.R_slice HO261.out; subst eo44; obtain ⟨Ao45, co45, eo45⟩ := Kd.R_slice HO257.out; subst eo45) | ((with_reducible refine gate_builtin (b := .append) (xs := #[.tmp 59, .tmp 67]) rfl ?_); at_builtin; refine Kd.R_append k122 w.heap.size rfl (.tmp 59) (.tmp 67) 93 122 (.agg #[(.int .i64 0), (.int .i64 0), (.int .i64 0), (.int .i64 0), (.int .i64 0), (.int .i64 0), (.int .i64 0), (.slice none 0 0), (.slice none 0 0), (.slice none 0 0)]) 128 rfl Tryz.underlying93 info122 rfl (by decide) (by omega) u5 x5_1 (⟨3, (⟨0, 0⟩ : S28), (⟨t251, t252, (⟨t253, t254⟩ : S28), t255⟩ : S120), t259, ([] : List (S122))⟩ : S122) [.int .i64 3, .int .i64 0, .int .i64 0, .int .i64 t251, .int .i64 t252, .int .i64 t253, .int .i64 t254, .slice Ao45 t255.length co45, .slice Ao44 t259.length co44, .slice none 0 0] (fun _ => True) (fun k_ => ((fun _ => True)) k_ ∧ some k_ ≠ (u5 : Value).ownBlock) rfl rfl ?aP (fun _ hk => hk) ?aF ?aO (Below.refl _ _) ?aS ?aL ?_; (case aP => exact k122_mkM _ _ _ (⟨3, (⟨0, 0⟩ : S28), (⟨t251, t252, (⟨t253, t254⟩ : S28), t255⟩ : S120), t259, ([] : List (S122))⟩ : S122) (Kd.R_mono (Kd.R_apart' (HO257.out) (Kd.R_typed HO_5.out) (by decide)) (fun k_ hk => ⟨trivial, hk.2⟩)) (Kd.R_mono (HO261.out) (fun k_ hk => ⟨trivial, hk.1.2⟩)) (Kd.R_nil _ _ _ _ _)); (case aF => exact (fun _ _ => trivial)); (case aO => exact (qr (Kd.R_mono HO_5.out (fun _ hk => trivial)))); (case aS => exact (keep_size (w := w) (g := g) (row := none) (qK HK))); (case aL => have := LMc40.out; omega); intro v264 w46 ho hb hg hat; rw [← Ny263.out] at ho; have n0_ := aM_ (IsS98.grown (qI HI0) hg (IsS98.own_ne HI0.out HO_5.out (by decide))); have n1_ := aM_ (below_weaken (qS HB) HL.out hb); have n2_ := aM_ (KeepBut.trans (qK HK) (KeepBut.of_grown hg g) (Kd.R_base2 HO_5.out)); have n3_ := aM_ (ho); clear HI0 HB HK HO_5 HO257 HO261; have HI0 := n0_; have HB := n1_; have HK := n2_; have HO265 := n3_; clear n0_ n1_ n2_ n3_ ho hb hg hat))
       go_roundg kj10
       case measure => have := HK1.out; have := HJ6.out; have := HJ10.out; omega
       case rel => exact ⟨(y263), (wrap64 (x6_1 - 1)), (t262), qF, H', ⟨by have := HK1.out; have := HJ6.out; have := HJ10.out; omega⟩, ⟨by (with_reducible repeat (first | apply rA_ | apply rN_ | apply rD_)); exact HO265.out⟩, ⟨qI HI0⟩, ⟨qK HK⟩, ⟨qS HB⟩⟩
end Go.Proofs.YtjamfddhcigchaaGreatDoor.HFnCodeBent
