-- Made by a program of this session (hp.py) over the kit's print: functions told by hand stand beside printed ones. Lean checks it.
import Derived.Test.YtjamfddhcigchaaGreatDoorTFnCodeSameHFnCodeSamex5
import Derived.Test.YtjamfddhcigchaaGreatDoorTFnCodeSameHFnCodeSamex7
namespace Go.Proofs.YtjamfddhcigchaaGreatDoor.HFnCodeSame
open Go.RowKit Go.Proofs.YtjamfddhcigchaaGreatDoorW.PrintWords Go.Proofs.YtjamfddhcigchaaGreatDoorW.PrintLast Go.Proofs.YtjamfddhcigchaaGreatDoorW.PrintMore
attribute [local go_sem] max2_int min2_int max_two min_two max_three min_three max_four min_four
set_option linter.unusedVariables false
set_option linter.unusedSimpArgs false
attribute [local go_sem high] eqA28
mutual
def spec_l3Form.j0 : Nat → Int → Bool → Int → Int → Int → Int → List (S120) → Option (Bool)
  | 0, _, _, _, _, _, _, _ => none
  | k + 1, x1, x16, x267000, x267001, x267002, x267003, x267004 => if x16 = true then (some false) else (if x267000 = 1 then ((spec_NumCut.f x267001).bind fun t268 => (if t268 = x267001 then (spec_l3Form.j1 k x1 false x267000 x267001 x267002 x267003 x267004) else (spec_l3Form.j1 k x1 true x267000 x267001 x267002 x267003 x267004))) else (spec_l3Form.j1 k x1 (x267001 != 0) x267000 x267001 x267002 x267003 x267004))
def spec_l3Form.j1 : Nat → Int → Bool → Int → Int → Int → Int → List (S120) → Option (Bool)
  | 0, _, _, _, _, _, _, _ => none
  | k + 1, x1, x37, x267000, x267001, x267002, x267003, x267004 => if x37 = true then (some false) else (if x267000 = 2 then ((spec_AddrOk.f x267002 x267003).bind fun t269 => (if t269 = true then (spec_l3Form.j2 k x1 false x267000 x267001 x267002 x267003 x267004) else (spec_l3Form.j2 k x1 true x267000 x267001 x267002 x267003 x267004))) else (spec_l3Form.j2 k x1 (!(x267002 == 0) || (!(x267003 == 0))) x267000 x267001 x267002 x267003 x267004))
def spec_l3Form.j2 : Nat → Int → Bool → Int → Int → Int → Int → List (S120) → Option (Bool)
  | 0, _, _, _, _, _, _, _ => none
  | k + 1, x1, x57, x267000, x267001, x267002, x267003, x267004 => if x57 = true then (some false) else (spec_l3Form.l0 k x1 0 x267000 x267001 x267002 x267003 x267004)
def spec_l3Form.l0 : Nat → Int → Int → Int → Int → Int → Int → List (S120) → Option (Bool)
  | 0, _, _, _, _, _, _, _ => none
  | k + 1, x1, x5, x267000, x267001, x267002, x267003, x267004 => if x5 < (x267004.length : Int) then (if 0 ≤ x5 then ((spec_l3Form.f k ((rd_T120 x267004 x5).f0) ((rd_T120 x267004 x5).f1) ((rd_T120 x267004 x5).f2.f0) ((rd_T120 x267004 x5).f2.f1) ((rd_T120 x267004 x5).f3) (wrap64 (x1 - 1))).bind fun t271 => (if t271 = true then (spec_l3Form.l0 k x1 (wrap64 (x5 + 1)) x267000 x267001 x267002 x267003 x267004) else (some false))) else (none)) else (some true)
def spec_l3Form.f : Nat → Int → Int → Int → Int → List (S120) → Int → Option (Bool)
  | 0, _, _, _, _, _, _ => none
  | k + 1, a0_0, a0_1, a0_2, a0_3, l0_4, a1 => if a1 < 1 then (spec_l3Form.j0 k a1 true a0_0 a0_1 a0_2 a0_3 l0_4) else ((spec_l3Kids.f k a0_0).bind fun t267 => (spec_l3Form.j0 k a1 (t267 != (l0_4.length : Int)) a0_0 a0_1 a0_2 a0_3 l0_4))
end
set_option maxHeartbeats 8000000 in
set_option maxRecDepth 100000 in
theorem spec_l3Form.calls (k : Nat) : ∀ (a0_0 : Int) (a0_1 : Int) (a0_2 : Int) (a0_3 : Int) (A0_4 : Option Addr) (c0_4 : Nat) (l0_4 : List (S120)) (a1 : Int) (r : Bool) (w : World) (hr0_4 : Kd.C k120 w A0_4 l0_4.length l0_4) (hc0_4 : l0_4.length ≤ c0_4) (h : spec_l3Form.f k a0_0 a0_1 a0_2 a0_3 l0_4 a1 = some r),
    Calls Tryz.prog 136 #[.agg #[.int .i64 a0_0, .int .i64 a0_1, .int .i64 a0_2, .int .i64 a0_3, .slice A0_4 l0_4.length c0_4], .int .i64 a1] w fun e w' => e = .returned (.bool r) ∧ Below w.heap.size w w' := by
 induction k using Nat.strongRecOn with
 | _ k ih =>
 intro a0_0 a0_1 a0_2 a0_3 A0_4 c0_4 l0_4 a1 r w hr0_4 hc0_4 h
 cases k with
 | zero => exact absurd h (by simp [spec_l3Form.f])
 | succ k =>
 simp only [spec_l3Form.f] at h
 have hu120 := Tryz.underlying120
 have hu28 := Tryz.underlying28
 have HR0_4 := aM_ hr0_4
 have HC0_4 := aM_ hc0_4
 clear hr0_4 hc0_4
 have HB := aM_ (Below.refl w.heap.size w)
 have H : (if a1 < 1 then (spec_l3Form.j0 k a1 true a0_0 a0_1 a0_2 a0_3 l0_4) else ((spec_l3Kids.f k a0_0).bind fun t267 => (spec_l3Form.j0 k a1 (t267 != (l0_4.length : Int)) a0_0 a0_1 a0_2 a0_3 l0_4))) = some r := h
 clear h
 have HC3 := aM_ H
 clear H
 go_enter Tryz.func136, Tryz.ntmps136
 go_upto_region 1 with (first | ((with_reducible refine gate_dst (N := 2) rfl ?_); (try (refine gate_guard (by rfl) ?_; dsimp only)); refine box_event ?hg (N := 2) ?hd (cs := #[.int .i64 a0_0, .int .i64 a0_1, .int .i64 a0_2, .int .i64 a0_3, .slice A0_4 l0_4.length c0_4]) (t := 120) ?hr ?_; (case hd => rfl); (case hg => rfl); (case hr => first | (go_simp; done) | (go_simp; rfl)); intro gb266 hg w4 hbox hb; have n0_ := aM_ (bT_ (qB HB) hb); have n1_ := aM_ (hbox); have n2_ := aM_ ((by rw [hg]; exact (bZ_ (qB HB)) : w.heap.size ≤ gb266)); have n3_ := aM_ ((by rw [hg]; exact (bZ_ (qB HB)) : w.heap.size ≤ gb266)); clear HB; have HB := n0_; have BK266 := n1_; have GW266 := n2_; have GE266 := n3_; clear n0_ n1_ n2_ n3_ hb hbox hg))
 repeat (go_quiet (first | ((with_reducible refine gate_dst (N := 2) rfl ?_); (try (refine gate_guard (by rfl) ?_; dsimp only)); refine box_event ?hg (N := 2) ?hd (cs := #[.int .i64 a0_0, .int .i64 a0_1, .int .i64 a0_2, .int .i64 a0_3, .slice A0_4 l0_4.length c0_4]) (t := 120) ?hr ?_; (case hd => rfl); (case hg => rfl); (case hr => first | (go_simp; done) | (go_simp; rfl)); intro gb266 hg w4 hbox hb; have n0_ := aM_ (bT_ (qB HB) hb); have n1_ := aM_ (hbox); have n2_ := aM_ ((by rw [hg]; exact (bZ_ (qB HB)) : w.heap.size ≤ gb266)); have n3_ := aM_ ((by rw [hg]; exact (bZ_ (qB HB)) : w.heap.size ≤ gb266)); clear HB; have HB := n0_; have BK266 := n1_; have GW266 := n2_; have GE266 := n3_; clear n0_ n1_ n2_ n3_ hb hbox hg)); go_upto_region 1 with (first | ((with_reducible refine gate_dst (N := 2) rfl ?_); (try (refine gate_guard (by rfl) ?_; dsimp only)); refine box_event ?hg (N := 2) ?hd (cs := #[.int .i64 a0_0, .int .i64 a0_1, .int .i64 a0_2, .int .i64 a0_3, .slice A0_4 l0_4.length c0_4]) (t := 120) ?hr ?_; (case hd => rfl); (case hg => rfl); (case hr => first | (go_simp; done) | (go_simp; rfl)); intro gb266 hg w4 hbox hb; have n0_ := aM_ (bT_ (qB HB) hb); have n1_ := aM_ (hbox); have n2_ := aM_ ((by rw [hg]; exact (bZ_ (qB HB)) : w.heap.size ≤ gb266)); have n3_ := aM_ ((by rw [hg]; exact (bZ_ (qB HB)) : w.heap.size ≤ gb266)); clear HB; have HB := n0_; have BK266 := n1_; have GW266 := n2_; have GE266 := n3_; clear n0_ n1_ n2_ n3_ hb hbox hg)))
 (try simp only [Act.put, sA_, sB_, sC_])
 go_cut [16] (fun v16 wc => ∃ (kq : Nat) (x16_2 : Bool), v16 = .bool x16_2 ∧ Aside0 (spec_l3Form.j0 kq a1 x16_2 a0_0 a0_1 a0_2 a0_3 l0_4 = some r) ∧ Aside0 (kq ≤ k) ∧ Aside0 (wc.heap[gb266]? = some (.cells #[.int .i64 a0_0, .int .i64 a0_1, .int .i64 a0_2, .int .i64 a0_3, (.slice A0_4 l0_4.length c0_4)] 120 (0, 0))) ∧ Aside0 (Below w.heap.size w wc))
 case first =>
  have H := HC3.out
  clear HC3
  by_cases c5 : a1 < 1
  · rw [if_pos c5] at H
    have c5b0 : decide (a1 < 1) = true := dT_ c5
    clear c5
    (first | rw [c5b0] | (simp only [i64_w, i32_w]; rw [c5b0]) | skip)
    have H' := aM_ H
    clear H
    go_wp2
    repeat (go_quiet (fail); try go_wp2)
    go_meet
    case rel => exact ⟨_, (true), qF, H', ⟨by first | omega | exact Nat.le_refl _⟩, ⟨by (with_reducible repeat (first | refine kN_ ?_ _ | refine kD_ ?_ | refine kA_ ?_ _)); exact BK266.out⟩, ⟨qB HB⟩⟩
  rw [if_neg c5] at H
  have c5b0 : decide (a1 < 1) = false := dF_ c5
  clear c5
  (first | rw [c5b0] | (simp only [i64_w, i32_w]; rw [c5b0]) | skip)
  replace H := oB_ H
  obtain ⟨t267, A60, H⟩ := H
  have A6 := aM_ A60
  clear A60
  have H' := aM_ H
  clear H
  (obtain ⟨hcz7_0, hcz7_1, hcz7_2, hcz7_3, hcz7_4⟩ := cells5 BK266.out)
  (obtain ⟨hfz7_0, hfz7_1, hfz7_2, hfz7_3, hfz7_4⟩ := frozen5 BK266.out)
  go_wp2_with (first | (go_at_call 133; (with_reducible refine (spec_l3Kids.calls k a0_0 t267 _ A6.out).mono ?_); rintro e w' ⟨rfl, ⟨nd, rfl⟩⟩; (try first | exact ⟨rfl, _, World.drewN_drewN _ _ _⟩ | exact ⟨rfl, _, Eq.trans (World.drewN_drewN _ _ _) (congrArg (World.drewN _) (Nat.add_assoc _ _ _))⟩)))
  repeat (go_quiet (first | (go_at_call 133; (with_reducible refine (spec_l3Kids.calls k a0_0 t267 _ A6.out).mono ?_); rintro e w' ⟨rfl, ⟨nd, rfl⟩⟩; (try first | exact ⟨rfl, _, World.drewN_drewN _ _ _⟩ | exact ⟨rfl, _, Eq.trans (World.drewN_drewN _ _ _) (congrArg (World.drewN _) (Nat.add_assoc _ _ _))⟩))); try go_wp2_with (first | (go_at_call 133; (with_reducible refine (spec_l3Kids.calls k a0_0 t267 _ A6.out).mono ?_); rintro e w' ⟨rfl, ⟨nd, rfl⟩⟩; (try first | exact ⟨rfl, _, World.drewN_drewN _ _ _⟩ | exact ⟨rfl, _, Eq.trans (World.drewN_drewN _ _ _) (congrArg (World.drewN _) (Nat.add_assoc _ _ _))⟩))))
  go_meet
  case rel => exact ⟨_, ((t267 != (l0_4.length : Int))), qF, H', ⟨by first | omega | exact Nat.le_refl _⟩, ⟨by (with_reducible repeat (first | refine kN_ ?_ _ | refine kD_ ?_ | refine kA_ ?_ _)); exact BK266.out⟩, ⟨qB HB⟩⟩
 case rest =>
  clear HC3
  try clear c1
  try clear p2
  try clear c5
  try clear c5b0
  try clear hcz7_0
  try clear hcz7_1
  try clear hcz7_2
  try clear hcz7_3
  try clear hcz7_4
  try clear hfz7_0
  try clear hfz7_1
  try clear hfz7_2
  try clear hfz7_3
  try clear hfz7_4
  obtain ⟨kq, x16_2, rfl, HA, HJ2, BK266, HB⟩ := hcut
  cases kq with
  | zero => exact absurd HA.out (by simp [spec_l3Form.j0])
  | succ kj2 =>
   have H := HA.out
   clear HA
   simp only [spec_l3Form.j0] at H
   by_cases c8 : x16_2 = true
   · subst c8
     rw [if_pos rfl] at H
     obtain rfl := oI_ H
     go_wp2
     repeat (go_quiet (fail); try go_wp2)
     go_ret
     exact ⟨qE, qB HB⟩
   replace c8 := Bool.eq_false_iff.mpr c8
   subst c8
   rw [if_neg (show ¬ (false = true) by decide)] at H
   have HC9 := aM_ H
   clear H
   go_upto_region 3 with (fail)
   repeat (go_quiet (fail); go_upto_region 3 with (fail))
   go_cut [37] (fun v37 wc => ∃ (kq : Nat) (x37_8 : Bool), v37 = .bool x37_8 ∧ Aside0 (spec_l3Form.j1 kq a1 x37_8 a0_0 a0_1 a0_2 a0_3 l0_4 = some r) ∧ Aside0 (kq ≤ kj2) ∧ Aside0 (wc.heap[gb266]? = some (.cells #[.int .i64 a0_0, .int .i64 a0_1, .int .i64 a0_2, .int .i64 a0_3, (.slice A0_4 l0_4.length c0_4)] 120 (0, 0))) ∧ Aside0 (Below w.heap.size w wc))
   case first =>
    have H := HC9.out
    clear HC9
    by_cases c10 : a0_0 = 1
    rotate_left
    · rw [if_neg c10] at H
      have c10b0 : (a0_0 == 1) = false := beq_eq_false_iff_ne.mpr c10
      have c10b1 : (a0_0 != 1) = true := bne_iff_ne.mpr c10
      (first | rw [c10b0] | (simp only [i64_w, i32_w]; rw [c10b0]) | skip)
      have H' := aM_ H
      clear H
      (obtain ⟨hcz15_0, hcz15_1, hcz15_2, hcz15_3, hcz15_4⟩ := cells5 BK266.out)
      (obtain ⟨hfz15_0, hfz15_1, hfz15_2, hfz15_3, hfz15_4⟩ := frozen5 BK266.out)
      go_wp2
      repeat (go_quiet (fail); try go_wp2)
      go_meet
      case rel => exact ⟨_, ((a0_1 != 0)), qF, H', ⟨by have := HJ2.out; first | omega | exact Nat.le_refl _⟩, ⟨by (with_reducible repeat (first | refine kN_ ?_ _ | refine kD_ ?_ | refine kA_ ?_ _)); exact BK266.out⟩, ⟨qB HB⟩⟩
    rw [if_pos c10] at H
    have c10b0 : (a0_0 == 1) = true := beq_iff_eq.mpr c10
    have c10b1 : (a0_0 != 1) = false := bne_eq_false_iff_eq.mpr c10
    clear c10
    (first | rw [c10b0] | (simp only [i64_w, i32_w]; rw [c10b0]) | skip)
    replace H := oB_ H
    obtain ⟨t268, A110, H⟩ := H
    have A11 := aM_ A110
    clear A110
    by_cases c12 : t268 = a0_1
    rotate_left
    · rw [if_neg c12] at H
      have c12b0 : (t268 == a0_1) = false := beq_eq_false_iff_ne.mpr c12
      have c12b1 : (t268 != a0_1) = true := bne_iff_ne.mpr c12
      have H' := aM_ H
      clear H
      (obtain ⟨hcz14_0, hcz14_1, hcz14_2, hcz14_3, hcz14_4⟩ := cells5 BK266.out)
      (obtain ⟨hfz14_0, hfz14_1, hfz14_2, hfz14_3, hfz14_4⟩ := frozen5 BK266.out)
      go_wp2_with (first | (go_at_call 73; (with_reducible refine (spec_NumCut.calls a0_1 t268 _ A11.out).mono ?_); rintro e w' ⟨rfl, ⟨nd, rfl⟩⟩; (try first | exact ⟨rfl, _, World.drewN_drewN _ _ _⟩ | exact ⟨rfl, _, Eq.trans (World.drewN_drewN _ _ _) (congrArg (World.drewN _) (Nat.add_assoc _ _ _))⟩)))
      repeat (go_quiet (first | (go_at_call 73; (with_reducible refine (spec_NumCut.calls a0_1 t268 _ A11.out).mono ?_); rintro e w' ⟨rfl, ⟨nd, rfl⟩⟩; (try first | exact ⟨rfl, _, World.drewN_drewN _ _ _⟩ | exact ⟨rfl, _, Eq.trans (World.drewN_drewN _ _ _) (congrArg (World.drewN _) (Nat.add_assoc _ _ _))⟩))); try go_wp2_with (first | (go_at_call 73; (with_reducible refine (spec_NumCut.calls a0_1 t268 _ A11.out).mono ?_); rintro e w' ⟨rfl, ⟨nd, rfl⟩⟩; (try first | exact ⟨rfl, _, World.drewN_drewN _ _ _⟩ | exact ⟨rfl, _, Eq.trans (World.drewN_drewN _ _ _) (congrArg (World.drewN _) (Nat.add_assoc _ _ _))⟩))))
      go_meet
      case rel => exact ⟨_, (true), qF, H', ⟨by have := HJ2.out; first | omega | exact Nat.le_refl _⟩, ⟨by (with_reducible repeat (first | refine kN_ ?_ _ | refine kD_ ?_ | refine kA_ ?_ _)); exact BK266.out⟩, ⟨qB HB⟩⟩
    rw [if_pos c12] at H
    have c12b0 : (t268 == a0_1) = true := beq_iff_eq.mpr c12
    have c12b1 : (t268 != a0_1) = false := bne_eq_false_iff_eq.mpr c12
    clear c12
    have H' := aM_ H
    clear H
    (obtain ⟨hcz13_0, hcz13_1, hcz13_2, hcz13_3, hcz13_4⟩ := cells5 BK266.out)
    (obtain ⟨hfz13_0, hfz13_1, hfz13_2, hfz13_3, hfz13_4⟩ := frozen5 BK266.out)
    go_wp2_with (first | (go_at_call 73; (with_reducible refine (spec_NumCut.calls a0_1 t268 _ A11.out).mono ?_); rintro e w' ⟨rfl, ⟨nd, rfl⟩⟩; (try first | exact ⟨rfl, _, World.drewN_drewN _ _ _⟩ | exact ⟨rfl, _, Eq.trans (World.drewN_drewN _ _ _) (congrArg (World.drewN _) (Nat.add_assoc _ _ _))⟩)))
    repeat (go_quiet (first | (go_at_call 73; (with_reducible refine (spec_NumCut.calls a0_1 t268 _ A11.out).mono ?_); rintro e w' ⟨rfl, ⟨nd, rfl⟩⟩; (try first | exact ⟨rfl, _, World.drewN_drewN _ _ _⟩ | exact ⟨rfl, _, Eq.trans (World.drewN_drewN _ _ _) (congrArg (World.drewN _) (Nat.add_assoc _ _ _))⟩))); try go_wp2_with (first | (go_at_call 73; (with_reducible refine (spec_NumCut.calls a0_1 t268 _ A11.out).mono ?_); rintro e w' ⟨rfl, ⟨nd, rfl⟩⟩; (try first | exact ⟨rfl, _, World.drewN_drewN _ _ _⟩ | exact ⟨rfl, _, Eq.trans (World.drewN_drewN _ _ _) (congrArg (World.drewN _) (Nat.add_assoc _ _ _))⟩))))
    go_meet
    case rel => exact ⟨_, (false), qF, H', ⟨by have := HJ2.out; first | omega | exact Nat.le_refl _⟩, ⟨by (with_reducible repeat (first | refine kN_ ?_ _ | refine kD_ ?_ | refine kA_ ?_ _)); exact BK266.out⟩, ⟨qB HB⟩⟩
   case rest =>
    clear HC9
    try clear c1
    try clear p2
    try clear c5
    try clear c5b0
    try clear c8
    try clear c10
    try clear c10b0
    try clear c10b1
    try clear c12
    try clear c12b0
    try clear c12b1
    try clear c13
    try clear hcz13_0
    try clear hcz13_1
    try clear hcz13_2
    try clear hcz13_3
    try clear hcz13_4
    try clear hcz14_0
    try clear hcz14_1
    try clear hcz14_2
    try clear hcz14_3
    try clear hcz14_4
    try clear hcz15_0
    try clear hcz15_1
    try clear hcz15_2
    try clear hcz15_3
    try clear hcz15_4
    try clear hcz7_0
    try clear hcz7_1
    try clear hcz7_2
    try clear hcz7_3
    try clear hcz7_4
    try clear hfz13_0
    try clear hfz13_1
    try clear hfz13_2
    try clear hfz13_3
    try clear hfz13_4
    try clear hfz14_0
    try clear hfz14_1
    try clear hfz14_2
    try clear hfz14_3
    try clear hfz14_4
    try clear hfz15_0
    try clear hfz15_1
    try clear hfz15_2
    try clear hfz15_3
    try clear hfz15_4
    try clear hfz7_0
    try clear hfz7_1
    try clear hfz7_2
    try clear hfz7_3
    try clear hfz7_4
    try clear p2
    obtain ⟨kq, x37_8, rfl, HA, HJ8, BK266, HB⟩ := hcut
    cases kq with
    | zero => exact absurd HA.out (by simp [spec_l3Form.j1])
    | succ kj8 =>
     have H := HA.out
     clear HA
     simp only [spec_l3Form.j1] at H
     by_cases c16 : x37_8 = true
     · subst c16
       rw [if_pos rfl] at H
       obtain rfl := oI_ H
       go_wp2
       repeat (go_quiet (fail); try go_wp2)
       go_ret
       exact ⟨qE, qB HB⟩
     replace c16 := Bool.eq_false_iff.mpr c16
     subst c16
     rw [if_neg (show ¬ (false = true) by decide)] at H
     have HC17 := aM_ H
     clear H
     go_upto_region 5 with (fail)
     repeat (go_quiet (fail); go_upto_region 5 with (fail))
     go_cut [57] (fun v57 wc => ∃ (kq : Nat) (x57_16 : Bool), v57 = .bool x57_16 ∧ Aside0 (spec_l3Form.j2 kq a1 x57_16 a0_0 a0_1 a0_2 a0_3 l0_4 = some r) ∧ Aside0 (kq ≤ kj8) ∧ Aside0 (wc.heap[gb266]? = some (.cells #[.int .i64 a0_0, .int .i64 a0_1, .int .i64 a0_2, .int .i64 a0_3, (.slice A0_4 l0_4.length c0_4)] 120 (0, 0))) ∧ Aside0 (Below w.heap.size w wc))
     case first =>
      have H := HC17.out
      clear HC17
      by_cases c18 : a0_0 = 2
      rotate_left
      · rw [if_neg c18] at H
        have c18b0 : (a0_0 == 2) = false := beq_eq_false_iff_ne.mpr c18
        have c18b1 : (a0_0 != 2) = true := bne_iff_ne.mpr c18
        (first | rw [c18b0] | (simp only [i64_w, i32_w]; rw [c18b0]) | skip)
        have H' := aM_ H
        clear H
        (obtain ⟨hcz26_0, hcz26_1, hcz26_2, hcz26_3, hcz26_4⟩ := cells5 BK266.out)
        (obtain ⟨hfz26_0, hfz26_1, hfz26_2, hfz26_3, hfz26_4⟩ := frozen5 BK266.out)
        go_wp2
        repeat (go_quiet (fail); try go_wp2)
        go_meet
        case rel => exact ⟨_, ((!(a0_2 == 0) || (!(a0_3 == 0)))), qF, H', ⟨by have := HJ2.out; have := HJ8.out; first | omega | exact Nat.le_refl _⟩, ⟨by (with_reducible repeat (first | refine kN_ ?_ _ | refine kD_ ?_ | refine kA_ ?_ _)); exact BK266.out⟩, ⟨qB HB⟩⟩
      rw [if_pos c18] at H
      have c18b0 : (a0_0 == 2) = true := beq_iff_eq.mpr c18
      have c18b1 : (a0_0 != 2) = false := bne_eq_false_iff_eq.mpr c18
      clear c18
      (first | rw [c18b0] | (simp only [i64_w, i32_w]; rw [c18b0]) | skip)
      replace H := oB_ H
      obtain ⟨t269, A190, H⟩ := H
      have A19 := aM_ A190
      clear A190
      by_cases c20 : t269 = true
      rotate_left
      · replace c20 := Bool.eq_false_iff.mpr c20
        subst c20
        rw [if_neg (show ¬ (false = true) by decide)] at H
        have H' := aM_ H
        clear H
        (obtain ⟨hcz24_0, hcz24_1, hcz24_2, hcz24_3, hcz24_4⟩ := cells5 BK266.out)
        (obtain ⟨hfz24_0, hfz24_1, hfz24_2, hfz24_3, hfz24_4⟩ := frozen5 BK266.out)
        go_wp2_with (first | (go_at_call 74; (with_reducible refine (spec_AddrOk.calls a0_2 a0_3 false _ A19.out).mono ?_); rintro e w25 ⟨rfl, hb⟩; have n_ := aN2_ (blk_below (g := gb266) (o := .cells #[.int .i64 a0_0, .int .i64 a0_1, .int .i64 a0_2, .int .i64 a0_3, .slice A0_4 l0_4.length c0_4] 120 (0, 0)) qk hb) (bT_ (qB HB) hb); clear BK266 HB; obtain ⟨BK266, HB⟩ := n_))
        repeat (go_quiet (first | (go_at_call 74; (with_reducible refine (spec_AddrOk.calls a0_2 a0_3 false _ A19.out).mono ?_); rintro e w25 ⟨rfl, hb⟩; have n_ := aN2_ (blk_below (g := gb266) (o := .cells #[.int .i64 a0_0, .int .i64 a0_1, .int .i64 a0_2, .int .i64 a0_3, .slice A0_4 l0_4.length c0_4] 120 (0, 0)) qk hb) (bT_ (qB HB) hb); clear BK266 HB; obtain ⟨BK266, HB⟩ := n_)); try go_wp2_with (first | (go_at_call 74; (with_reducible refine (spec_AddrOk.calls a0_2 a0_3 false _ A19.out).mono ?_); rintro e w25 ⟨rfl, hb⟩; have n_ := aN2_ (blk_below (g := gb266) (o := .cells #[.int .i64 a0_0, .int .i64 a0_1, .int .i64 a0_2, .int .i64 a0_3, .slice A0_4 l0_4.length c0_4] 120 (0, 0)) qk hb) (bT_ (qB HB) hb); clear BK266 HB; obtain ⟨BK266, HB⟩ := n_)))
        go_meet
        case rel => exact ⟨_, (true), qF, H', ⟨by have := HJ2.out; have := HJ8.out; first | omega | exact Nat.le_refl _⟩, ⟨by (with_reducible repeat (first | refine kN_ ?_ _ | refine kD_ ?_ | refine kA_ ?_ _)); exact BK266.out⟩, ⟨qB HB⟩⟩
      subst c20
      rw [if_pos rfl] at H
      have H' := aM_ H
      clear H
      (obtain ⟨hcz21_0, hcz21_1, hcz21_2, hcz21_3, hcz21_4⟩ := cells5 BK266.out)
      (obtain ⟨hfz21_0, hfz21_1, hfz21_2, hfz21_3, hfz21_4⟩ := frozen5 BK266.out)
      go_wp2_with (first | (go_at_call 74; (with_reducible refine (spec_AddrOk.calls a0_2 a0_3 true _ A19.out).mono ?_); rintro e w22 ⟨rfl, hb⟩; have n_ := aN2_ (blk_below (g := gb266) (o := .cells #[.int .i64 a0_0, .int .i64 a0_1, .int .i64 a0_2, .int .i64 a0_3, .slice A0_4 l0_4.length c0_4] 120 (0, 0)) qk hb) (bT_ (qB HB) hb); clear BK266 HB; obtain ⟨BK266, HB⟩ := n_; (obtain ⟨hcz23_0, hcz23_1, hcz23_2, hcz23_3, hcz23_4⟩ := cells5 BK266.out); (obtain ⟨hfz23_0, hfz23_1, hfz23_2, hfz23_3, hfz23_4⟩ := frozen5 BK266.out)))
      repeat (go_quiet (first | (go_at_call 74; (with_reducible refine (spec_AddrOk.calls a0_2 a0_3 true _ A19.out).mono ?_); rintro e w22 ⟨rfl, hb⟩; have n_ := aN2_ (blk_below (g := gb266) (o := .cells #[.int .i64 a0_0, .int .i64 a0_1, .int .i64 a0_2, .int .i64 a0_3, .slice A0_4 l0_4.length c0_4] 120 (0, 0)) qk hb) (bT_ (qB HB) hb); clear BK266 HB; obtain ⟨BK266, HB⟩ := n_; (obtain ⟨hcz23_0, hcz23_1, hcz23_2, hcz23_3, hcz23_4⟩ := cells5 BK266.out); (obtain ⟨hfz23_0, hfz23_1, hfz23_2, hfz23_3, hfz23_4⟩ := frozen5 BK266.out))); try go_wp2_with (first | (go_at_call 74; (with_reducible refine (spec_AddrOk.calls a0_2 a0_3 true _ A19.out).mono ?_); rintro e w22 ⟨rfl, hb⟩; have n_ := aN2_ (blk_below (g := gb266) (o := .cells #[.int .i64 a0_0, .int .i64 a0_1, .int .i64 a0_2, .int .i64 a0_3, .slice A0_4 l0_4.length c0_4] 120 (0, 0)) qk hb) (bT_ (qB HB) hb); clear BK266 HB; obtain ⟨BK266, HB⟩ := n_; (obtain ⟨hcz23_0, hcz23_1, hcz23_2, hcz23_3, hcz23_4⟩ := cells5 BK266.out); (obtain ⟨hfz23_0, hfz23_1, hfz23_2, hfz23_3, hfz23_4⟩ := frozen5 BK266.out))))
      go_meet
      case rel => exact ⟨_, (false), qF, H', ⟨by have := HJ2.out; have := HJ8.out; first | omega | exact Nat.le_refl _⟩, ⟨by (with_reducible repeat (first | refine kN_ ?_ _ | refine kD_ ?_ | refine kA_ ?_ _)); exact BK266.out⟩, ⟨qB HB⟩⟩
     case rest =>
      clear HC17
      try clear c1
      try clear c2
      try clear p2
      try clear c5
      try clear c5b0
      try clear c8
      try clear c10
      try clear c10b0
      try clear c10b1
      try clear c12
      try clear c12b0
      try clear c12b1
      try clear c13
      try clear c16
      try clear c18
      try clear c18b0
      try clear c18b1
      try clear c20
      try clear hcz13_0
      try clear hcz13_1
      try clear hcz13_2
      try clear hcz13_3
      try clear hcz13_4
      try clear hcz14_0
      try clear hcz14_1
      try clear hcz14_2
      try clear hcz14_3
      try clear hcz14_4
      try clear hcz15_0
      try clear hcz15_1
      try clear hcz15_2
      try clear hcz15_3
      try clear hcz15_4
      try clear hcz21_0
      try clear hcz21_1
      try clear hcz21_2
      try clear hcz21_3
      try clear hcz21_4
      try clear hcz23_0
      try clear hcz23_1
      try clear hcz23_2
      try clear hcz23_3
      try clear hcz23_4
      try clear hcz24_0
      try clear hcz24_1
      try clear hcz24_2
      try clear hcz24_3
      try clear hcz24_4
      try clear hcz26_0
      try clear hcz26_1
      try clear hcz26_2
      try clear hcz26_3
      try clear hcz26_4
      try clear hcz7_0
      try clear hcz7_1
      try clear hcz7_2
      try clear hcz7_3
      try clear hcz7_4
      try clear hfz13_0
      try clear hfz13_1
      try clear hfz13_2
      try clear hfz13_3
      try clear hfz13_4
      try clear hfz14_0
      try clear hfz14_1
      try clear hfz14_2
      try clear hfz14_3
      try clear hfz14_4
      try clear hfz15_0
      try clear hfz15_1
      try clear hfz15_2
      try clear hfz15_3
      try clear hfz15_4
      try clear hfz21_0
      try clear hfz21_1
      try clear hfz21_2
      try clear hfz21_3
      try clear hfz21_4
      try clear hfz23_0
      try clear hfz23_1
      try clear hfz23_2
      try clear hfz23_3
      try clear hfz23_4
      try clear hfz24_0
      try clear hfz24_1
      try clear hfz24_2
      try clear hfz24_3
      try clear hfz24_4
      try clear hfz26_0
      try clear hfz26_1
      try clear hfz26_2
      try clear hfz26_3
      try clear hfz26_4
      try clear hfz7_0
      try clear hfz7_1
      try clear hfz7_2
      try clear hfz7_3
      try clear hfz7_4
      try clear p2
      obtain ⟨kq, x57_16, rfl, HA, HJ16, BK266, HB⟩ := hcut
      cases kq with
      | zero => exact absurd HA.out (by simp [spec_l3Form.j2])
      | succ kj16 =>
       have H := HA.out
       clear HA
       simp only [spec_l3Form.j2] at H
       by_cases c27 : x57_16 = true
       · subst c27
         rw [if_pos rfl] at H
         obtain rfl := oI_ H
         go_wp2
         repeat (go_quiet (fail); try go_wp2)
         go_ret
         exact ⟨qE, qB HB⟩
       replace c27 := Bool.eq_false_iff.mpr c27
       subst c27
       rw [if_neg (show ¬ (false = true) by decide)] at H
       have H' := aM_ H
       clear H
       go_wp2
       repeat (go_quiet (fail); try go_wp2)
       go_loopg [5] kj16 (fun kq v5 w' => ∃ (x5_4 : Int), v5 = .int .i64 x5_4 ∧ Aside0 (spec_l3Form.l0 kq a1 x5_4 a0_0 a0_1 a0_2 a0_3 l0_4 = some r) ∧ Aside0 (kq ≤ kj16) ∧ Aside0 (w'.heap[gb266]? = some (.cells #[.int .i64 a0_0, .int .i64 a0_1, .int .i64 a0_2, .int .i64 a0_3, (.slice A0_4 l0_4.length c0_4)] 120 (0, 0))) ∧ Aside0 (Below w.heap.size w w'))
       case atStart => exact ⟨(0), qF, H', ⟨Nat.le_refl _⟩, ⟨by (with_reducible repeat (first | refine kN_ ?_ _ | refine kD_ ?_ | refine kA_ ?_ _)); exact BK266.out⟩, ⟨qB HB⟩⟩
       case round =>
        clear H'
        try clear c1
        try clear c2
        try clear p2
        try clear c5
        try clear c5b0
        try clear c8
        try clear c10
        try clear c10b0
        try clear c10b1
        try clear c12
        try clear c12b0
        try clear c12b1
        try clear c13
        try clear c16
        try clear c18
        try clear c18b0
        try clear c18b1
        try clear c20
        try clear c27
        try clear hcz13_0
        try clear hcz13_1
        try clear hcz13_2
        try clear hcz13_3
        try clear hcz13_4
        try clear hcz14_0
        try clear hcz14_1
        try clear hcz14_2
        try clear hcz14_3
        try clear hcz14_4
        try clear hcz15_0
        try clear hcz15_1
        try clear hcz15_2
        try clear hcz15_3
        try clear hcz15_4
        try clear hcz21_0
        try clear hcz21_1
        try clear hcz21_2
        try clear hcz21_3
        try clear hcz21_4
        try clear hcz23_0
        try clear hcz23_1
        try clear hcz23_2
        try clear hcz23_3
        try clear hcz23_4
        try clear hcz24_0
        try clear hcz24_1
        try clear hcz24_2
        try clear hcz24_3
        try clear hcz24_4
        try clear hcz26_0
        try clear hcz26_1
        try clear hcz26_2
        try clear hcz26_3
        try clear hcz26_4
        try clear hcz7_0
        try clear hcz7_1
        try clear hcz7_2
        try clear hcz7_3
        try clear hcz7_4
        try clear hfz13_0
        try clear hfz13_1
        try clear hfz13_2
        try clear hfz13_3
        try clear hfz13_4
        try clear hfz14_0
        try clear hfz14_1
        try clear hfz14_2
        try clear hfz14_3
        try clear hfz14_4
        try clear hfz15_0
        try clear hfz15_1
        try clear hfz15_2
        try clear hfz15_3
        try clear hfz15_4
        try clear hfz21_0
        try clear hfz21_1
        try clear hfz21_2
        try clear hfz21_3
        try clear hfz21_4
        try clear hfz23_0
        try clear hfz23_1
        try clear hfz23_2
        try clear hfz23_3
        try clear hfz23_4
        try clear hfz24_0
        try clear hfz24_1
        try clear hfz24_2
        try clear hfz24_3
        try clear hfz24_4
        try clear hfz26_0
        try clear hfz26_1
        try clear hfz26_2
        try clear hfz26_3
        try clear hfz26_4
        try clear hfz7_0
        try clear hfz7_1
        try clear hfz7_2
        try clear hfz7_3
        try clear hfz7_4
        try clear p2
        obtain ⟨x5_4, rfl, HA, HK4, BK266, HB⟩ := hrel
        cases gk with
        | zero => exact absurd HA.out (by simp [spec_l3Form.l0])
        | succ k4 =>
         have H := HA.out
         clear HA
         simp only [spec_l3Form.l0] at H
         by_cases c28 : x5_4 < (l0_4.length : Int)
         rotate_left
         · rw [if_neg c28] at H
           have c28b0 : decide (x5_4 < (l0_4.length : Int)) = false := dF_ c28
           clear c28
           obtain rfl := oI_ H
           (obtain ⟨hcz36_0, hcz36_1, hcz36_2, hcz36_3, hcz36_4⟩ := cells5 BK266.out)
           (obtain ⟨hfz36_0, hfz36_1, hfz36_2, hfz36_3, hfz36_4⟩ := frozen5 BK266.out)
           go_wp2
           repeat (go_quiet (fail); try go_wp2)
           go_ret
           exact ⟨qE, qB HB⟩
         rw [if_pos c28] at H
         have c28b0 : decide (x5_4 < (l0_4.length : Int)) = true := dT_ c28
         clear c28
         by_cases c29 : 0 ≤ x5_4
         rotate_left
         · rw [if_neg c29] at H
           exact absurd H (by simp)
         rw [if_pos c29] at H
         have c29b0 : decide (0 ≤ x5_4) = true := dT_ c29
         clear c29
         replace H := oB_ H
         obtain ⟨t271, A300, H⟩ := H
         have A30 := aM_ A300
         clear A300
         by_cases c31 : t271 = true
         rotate_left
         · replace c31 := Bool.eq_false_iff.mpr c31
           subst c31
           rw [if_neg (show ¬ (false = true) by decide)] at H
           obtain rfl := oI_ H
           (obtain ⟨hcz34_0, hcz34_1, hcz34_2, hcz34_3, hcz34_4⟩ := cells5 BK266.out)
           (obtain ⟨hfz34_0, hfz34_1, hfz34_2, hfz34_3, hfz34_4⟩ := frozen5 BK266.out)
           have p270 : 0 ≤ (x5_4 : Int) := oD_ (by first | (with_reducible assumption) | assumption)
           have q270 : x5_4 < (l0_4.length : Int) := oD_ (by first | (with_reducible assumption) | assumption)
           obtain ⟨ad270, A270_4, c270_4, e270, hx270_0, hx270_1, hx270_2, hx270_3, hx270_4, hl270_4, hi270_4⟩ := at_T120 HR0_4.out x5_4 p270 q270
           cases e270
           replace hx270_0 := qc HB hx270_0
           replace hx270_1 := qc HB hx270_1
           replace hx270_2 := qc HB hx270_2
           replace hx270_3 := qc HB hx270_3
           replace hx270_4 := qc HB hx270_4
           have HR270_4 := aM_ hi270_4
           have HC270_4 := aM_ hl270_4
           clear hi270_4 hl270_4
           replace p270 := eq_true p270
           replace q270 := eq_true q270
           go_wp2_with (first | (go_at_call 136; (with_reducible refine (ih k4 (by have := HJ2.out; have := HJ8.out; have := HJ16.out; have := HK4.out; omega) ((rd_T120 l0_4 x5_4).f0) ((rd_T120 l0_4 x5_4).f1) ((rd_T120 l0_4 x5_4).f2.f0) ((rd_T120 l0_4 x5_4).f2.f1) _ _ ((rd_T120 l0_4 x5_4).f3) (wrap64 (a1 - 1)) false _ ?side1 ?side2 A30.out).mono ?_); (case side1 => exact qC (Kd.C_below HR270_4.out HB.out)); (case side2 => exact HC270_4.out); rintro e w35 ⟨rfl, hb⟩; have n_ := aN2_ (blk_below (g := gb266) (o := .cells #[.int .i64 a0_0, .int .i64 a0_1, .int .i64 a0_2, .int .i64 a0_3, .slice (some ad270) l0_4.length c0_4] 120 (0, 0)) qk hb) (bT_ (qB HB) hb); clear BK266 HB; obtain ⟨BK266, HB⟩ := n_))
           repeat (go_quiet (first | (go_at_call 136; (with_reducible refine (ih k4 (by have := HJ2.out; have := HJ8.out; have := HJ16.out; have := HK4.out; omega) ((rd_T120 l0_4 x5_4).f0) ((rd_T120 l0_4 x5_4).f1) ((rd_T120 l0_4 x5_4).f2.f0) ((rd_T120 l0_4 x5_4).f2.f1) _ _ ((rd_T120 l0_4 x5_4).f3) (wrap64 (a1 - 1)) false _ ?side1 ?side2 A30.out).mono ?_); (case side1 => exact qC (Kd.C_below HR270_4.out HB.out)); (case side2 => exact HC270_4.out); rintro e w35 ⟨rfl, hb⟩; have n_ := aN2_ (blk_below (g := gb266) (o := .cells #[.int .i64 a0_0, .int .i64 a0_1, .int .i64 a0_2, .int .i64 a0_3, .slice (some ad270) l0_4.length c0_4] 120 (0, 0)) qk hb) (bT_ (qB HB) hb); clear BK266 HB; obtain ⟨BK266, HB⟩ := n_)); try go_wp2_with (first | (go_at_call 136; (with_reducible refine (ih k4 (by have := HJ2.out; have := HJ8.out; have := HJ16.out; have := HK4.out; omega) ((rd_T120 l0_4 x5_4).f0) ((rd_T120 l0_4 x5_4).f1) ((rd_T120 l0_4 x5_4).f2.f0) ((rd_T120 l0_4 x5_4).f2.f1) _ _ ((rd_T120 l0_4 x5_4).f3) (wrap64 (a1 - 1)) false _ ?side1 ?side2 A30.out).mono ?_); (case side1 => exact qC (Kd.C_below HR270_4.out HB.out)); (case side2 => exact HC270_4.out); rintro e w35 ⟨rfl, hb⟩; have n_ := aN2_ (blk_below (g := gb266) (o := .cells #[.int .i64 a0_0, .int .i64 a0_1, .int .i64 a0_2, .int .i64 a0_3, .slice (some ad270) l0_4.length c0_4] 120 (0, 0)) qk hb) (bT_ (qB HB) hb); clear BK266 HB; obtain ⟨BK266, HB⟩ := n_)))
           go_ret
           exact ⟨qE, qB HB⟩
         subst c31
         rw [if_pos rfl] at H
         have H' := aM_ H
         clear H
         (obtain ⟨hcz32_0, hcz32_1, hcz32_2, hcz32_3, hcz32_4⟩ := cells5 BK266.out)
         (obtain ⟨hfz32_0, hfz32_1, hfz32_2, hfz32_3, hfz32_4⟩ := frozen5 BK266.out)
         have p270 : 0 ≤ (x5_4 : Int) := oD_ (by first | (with_reducible assumption) | assumption)
         have q270 : x5_4 < (l0_4.length : Int) := oD_ (by first | (with_reducible assumption) | assumption)
         obtain ⟨ad270, A270_4, c270_4, e270, hx270_0, hx270_1, hx270_2, hx270_3, hx270_4, hl270_4, hi270_4⟩ := at_T120 HR0_4.out x5_4 p270 q270
         cases e270
         replace hx270_0 := qc HB hx270_0
         replace hx270_1 := qc HB hx270_1
         replace hx270_2 := qc HB hx270_2
         replace hx270_3 := qc HB hx270_3
         replace hx270_4 := qc HB hx270_4
         have HR270_4 := aM_ hi270_4
         have HC270_4 := aM_ hl270_4
         clear hi270_4 hl270_4
         replace p270 := eq_true p270
         replace q270 := eq_true q270
         go_wp2_with (first | (go_at_call 136; (with_reducible refine (ih k4 (by have := HJ2.out; have := HJ8.out; have := HJ16.out; have := HK4.out; omega) ((rd_T120 l0_4 x5_4).f0) ((rd_T120 l0_4 x5_4).f1) ((rd_T120 l0_4 x5_4).f2.f0) ((rd_T120 l0_4 x5_4).f2.f1) _ _ ((rd_T120 l0_4 x5_4).f3) (wrap64 (a1 - 1)) true _ ?side1 ?side2 A30.out).mono ?_); (case side1 => exact qC (Kd.C_below HR270_4.out HB.out)); (case side2 => exact HC270_4.out); rintro e w33 ⟨rfl, hb⟩; have n_ := aN2_ (blk_below (g := gb266) (o := .cells #[.int .i64 a0_0, .int .i64 a0_1, .int .i64 a0_2, .int .i64 a0_3, .slice (some ad270) l0_4.length c0_4] 120 (0, 0)) qk hb) (bT_ (qB HB) hb); clear BK266 HB; obtain ⟨BK266, HB⟩ := n_))
         repeat (go_quiet (first | (go_at_call 136; (with_reducible refine (ih k4 (by have := HJ2.out; have := HJ8.out; have := HJ16.out; have := HK4.out; omega) ((rd_T120 l0_4 x5_4).f0) ((rd_T120 l0_4 x5_4).f1) ((rd_T120 l0_4 x5_4).f2.f0) ((rd_T120 l0_4 x5_4).f2.f1) _ _ ((rd_T120 l0_4 x5_4).f3) (wrap64 (a1 - 1)) true _ ?side1 ?side2 A30.out).mono ?_); (case side1 => exact qC (Kd.C_below HR270_4.out HB.out)); (case side2 => exact HC270_4.out); rintro e w33 ⟨rfl, hb⟩; have n_ := aN2_ (blk_below (g := gb266) (o := .cells #[.int .i64 a0_0, .int .i64 a0_1, .int .i64 a0_2, .int .i64 a0_3, .slice (some ad270) l0_4.length c0_4] 120 (0, 0)) qk hb) (bT_ (qB HB) hb); clear BK266 HB; obtain ⟨BK266, HB⟩ := n_)); try go_wp2_with (first | (go_at_call 136; (with_reducible refine (ih k4 (by have := HJ2.out; have := HJ8.out; have := HJ16.out; have := HK4.out; omega) ((rd_T120 l0_4 x5_4).f0) ((rd_T120 l0_4 x5_4).f1) ((rd_T120 l0_4 x5_4).f2.f0) ((rd_T120 l0_4 x5_4).f2.f1) _ _ ((rd_T120 l0_4 x5_4).f3) (wrap64 (a1 - 1)) true _ ?side1 ?side2 A30.out).mono ?_); (case side1 => exact qC (Kd.C_below HR270_4.out HB.out)); (case side2 => exact HC270_4.out); rintro e w33 ⟨rfl, hb⟩; have n_ := aN2_ (blk_below (g := gb266) (o := .cells #[.int .i64 a0_0, .int .i64 a0_1, .int .i64 a0_2, .int .i64 a0_3, .slice (some ad270) l0_4.length c0_4] 120 (0, 0)) qk hb) (bT_ (qB HB) hb); clear BK266 HB; obtain ⟨BK266, HB⟩ := n_)))
         go_roundg k4
         case measure => have := HJ2.out; have := HJ8.out; have := HJ16.out; have := HK4.out; omega
         case rel => exact ⟨(wrap64 (x5_4 + 1)), qF, H', ⟨by have := HJ2.out; have := HJ8.out; have := HJ16.out; have := HK4.out; omega⟩, ⟨by (with_reducible repeat (first | refine kN_ ?_ _ | refine kD_ ?_ | refine kA_ ?_ _)); exact BK266.out⟩, ⟨qB HB⟩⟩
end Go.Proofs.YtjamfddhcigchaaGreatDoor.HFnCodeSame
