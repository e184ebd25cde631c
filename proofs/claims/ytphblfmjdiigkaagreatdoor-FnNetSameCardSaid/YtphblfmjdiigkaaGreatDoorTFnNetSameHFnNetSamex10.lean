-- Made by a program of this session (hp.py) over the kit's print: functions told by hand stand beside printed ones. Lean checks it.
import Derived.Test.YtphblfmjdiigkaaGreatDoorTFnNetSameHFnNetSamex9
namespace Go.Proofs.YtphblfmjdiigkaaGreatDoor.HFnNetSame
open Go.RowKit Go.Proofs.YtphblfmjdiigkaaGreatDoorW.PrintWords Go.Proofs.YtphblfmjdiigkaaGreatDoorW.PrintLast Go.Proofs.YtphblfmjdiigkaaGreatDoorW.PrintMore
attribute [local go_sem] max2_int min2_int max_two min_two max_three min_three max_four min_four
set_option linter.unusedVariables false
set_option linter.unusedSimpArgs false
attribute [local go_sem high] eqA39
mutual
def spec_NetOk.j0 : Nat → Bool → List (S43) → List (S66) → Option (Bool)
  | 0, _, _, _ => none
  | k + 1, x16, x197000, x197001 => if x16 = true then (some false) else (spec_NetOk.l0 k 0 x197000 x197001)
def spec_NetOk.l0 : Nat → Int → List (S43) → List (S66) → Option (Bool)
  | 0, _, _, _ => none
  | k + 1, x3, x197000, x197001 => if x3 < (x197000.length : Int) then (if 0 ≤ x3 then ((spec_l7Wire.f k ((rd_T43 x197000 x3).f0) ((rd_T43 x197000 x3).f1) ((rd_T43 x197000 x3).f2.f0) ((rd_T43 x197000 x3).f2.f1) ((rd_T43 x197000 x3).f2.f2.f0) ((rd_T43 x197000 x3).f2.f2.f1) ((rd_T43 x197000 x3).f2.f3) ((rd_T43 x197000 x3).f3.f0) ((rd_T43 x197000 x3).f3.f1) ((rd_T43 x197000 x3).f3.f2.f0) ((rd_T43 x197000 x3).f3.f2.f1) ((rd_T43 x197000 x3).f3.f3) (x197000.length : Int)).bind fun t198 => (if t198 = true then (spec_NetOk.l0 k (wrap64 (x3 + 1)) x197000 x197001) else (some false))) else (none)) else (spec_NetOk.l1 k 0 x197000 x197001)
def spec_NetOk.l1 : Nat → Int → List (S43) → List (S66) → Option (Bool)
  | 0, _, _, _ => none
  | k + 1, x4, x197000, x197001 => if x4 < (x197001.length : Int) then (if 0 ≤ x4 then ((spec_AddrOk.f ((rd_T66 x197001 x4).f0.f0) ((rd_T66 x197001 x4).f0.f1)).bind fun t204 => (if t204 = true then (if ((rd_T66 x197001 x4).f0.f0) = 1 then (spec_NetOk.j3 k x4 true x197000 x197001 ((rd_T66 x197001 x4).f0.f0) ((rd_T66 x197001 x4).f0.f1) ((rd_T66 x197001 x4).f1)) else (if ((rd_T66 x197001 x4).f1) < 0 then (spec_NetOk.j3 k x4 true x197000 x197001 ((rd_T66 x197001 x4).f0.f0) ((rd_T66 x197001 x4).f0.f1) ((rd_T66 x197001 x4).f1)) else (spec_NetOk.j3 k x4 (decide (((rd_T66 x197001 x4).f1) ≥ (x197000.length : Int))) x197000 x197001 ((rd_T66 x197001 x4).f0.f0) ((rd_T66 x197001 x4).f0.f1) ((rd_T66 x197001 x4).f1)))) else (spec_NetOk.j3 k x4 true x197000 x197001 ((rd_T66 x197001 x4).f0.f0) ((rd_T66 x197001 x4).f0.f1) ((rd_T66 x197001 x4).f1)))) else (none)) else ((spec_l7Order.f k x197000).bind fun t199 => (some ((t199.length : Int) == (x197000.length : Int))))
def spec_NetOk.j3 : Nat → Int → Bool → List (S43) → List (S66) → Int → Int → Int → Option (Bool)
  | 0, _, _, _, _, _, _, _ => none
  | k + 1, x4, x68, x197000, x197001, x204000, x204001, x204002 => if x68 = true then (some false) else (spec_NetOk.l2 k x4 0 x197000 x197001 x204000 x204001 x204002)
def spec_NetOk.l2 : Nat → Int → Int → List (S43) → List (S66) → Int → Int → Int → Option (Bool)
  | 0, _, _, _, _, _, _, _ => none
  | k + 1, x4, x6, x197000, x197001, x204000, x204001, x204002 => if x6 < x4 then (if 0 ≤ x6 then (if x6 < (x197001.length : Int) then (if (((rd_T66 x197001 x6).f0.f0) == x204000 && (((rd_T66 x197001 x6).f0.f1) == x204001)) = true then (some false) else (spec_NetOk.l2 k x4 (wrap64 (x6 + 1)) x197000 x197001 x204000 x204001 x204002)) else (none)) else (none)) else (spec_NetOk.l1 k (wrap64 (x4 + 1)) x197000 x197001)
end
def spec_NetOk.f (k : Nat) (l0_0 : List (S43)) (l0_1 : List (S66)) : Option (Bool) := if (l0_0.length : Int) > 8 then (spec_NetOk.j0 k true l0_0 l0_1) else (spec_NetOk.j0 k (decide ((l0_1.length : Int) > 4)) l0_0 l0_1)
def spec_NetOk.T6 : Bool × List (List Nat × List Nat) := (true, [([], []), ([0], [0]), ([], []), ([1, 2], [1, 2]), ([3], [3]), ([], []), ([5], [5]), ([6], [6]), ([4, 7], [4, 7]), ([8], [8])])
def spec_NetOk.B6 : List Nat := [0, 1, 0, 7, 15, 0, 32, 96, 255, 511]
theorem spec_NetOk.tab6 : rtab .any (opsOf Tryz.f13 6) = spec_NetOk.T6 := by kernel_rfl
theorem spec_NetOk.bits6 : waitsOk spec_NetOk.T6.2 spec_NetOk.B6 = true := by kernel_rfl
def spec_NetOk.T17 : Bool × List (List Nat × List Nat) := (true, [([], []), ([0], [0]), ([], []), ([1, 2], [1, 2]), ([3], [3]), ([4], [4]), ([], []), ([6], [6]), ([5, 7], [5, 7])])
def spec_NetOk.B17 : List Nat := [0, 1, 0, 7, 15, 31, 0, 64, 255]
theorem spec_NetOk.tab17 : rtab .any (opsOf Tryz.f13 17) = spec_NetOk.T17 := by kernel_rfl
theorem spec_NetOk.bits17 : waitsOk spec_NetOk.T17.2 spec_NetOk.B17 = true := by kernel_rfl
def spec_NetOk.T19 : Bool × List (List Nat × List Nat) := (true, [([], []), ([0], [0]), ([1], [1]), ([2], [2]), ([], []), ([4], [4]), ([5], [5]), ([3, 6], [3, 6]), ([7, 2, 0, 1, 2, 3, 4, 5, 6, 7], [7])])
def spec_NetOk.B19 : List Nat := [0, 1, 3, 7, 0, 16, 48, 127, 255]
theorem spec_NetOk.tab19 : rtab .any (opsOf Tryz.f13 19) = spec_NetOk.T19 := by kernel_rfl
theorem spec_NetOk.bits19 : waitsOk spec_NetOk.T19.2 spec_NetOk.B19 = true := by kernel_rfl
set_option maxHeartbeats 8000000 in
set_option maxRecDepth 100000 in
theorem spec_NetOk.calls (k : Nat) (A0_0 : Option Addr) (c0_0 : Nat) (l0_0 : List (S43)) (A0_1 : Option Addr) (c0_1 : Nat) (l0_1 : List (S66)) (r : Bool) (w : World) (hr0_0 : Kd.C k43 w A0_0 l0_0.length l0_0) (hc0_0 : l0_0.length ≤ c0_0) (hr0_1 : Kd.C k66 w A0_1 l0_1.length l0_1) (hc0_1 : l0_1.length ≤ c0_1) (h : spec_NetOk.f k l0_0 l0_1 = some r) :
    Calls Tryz.prog 13 #[.agg #[.slice A0_0 l0_0.length c0_0, .slice A0_1 l0_1.length c0_1]] w fun e w' => e = .returned (.bool r) ∧ Below w.heap.size w w' := by
 have hu31 := Tryz.underlying31
 have hu43 := Tryz.underlying43
 have hu66 := Tryz.underlying66
 have hu39 := Tryz.underlying39
 have HR0_0 := aM_ hr0_0
 have HC0_0 := aM_ hc0_0
 clear hr0_0 hc0_0
 have HR0_1 := aM_ hr0_1
 have HC0_1 := aM_ hc0_1
 clear hr0_1 hc0_1
 have HB := aM_ (Below.refl w.heap.size w)
 have H : (if (l0_0.length : Int) > 8 then (spec_NetOk.j0 k true l0_0 l0_1) else (spec_NetOk.j0 k (decide ((l0_1.length : Int) > 4)) l0_0 l0_1)) = some r := h
 clear h
 have HC2 := aM_ H
 clear H
 go_enter Tryz.func13, Tryz.ntmps13
 go_upto_region 1 with (first | ((with_reducible refine gate_dst (N := 1) rfl ?_); (try (refine gate_guard (by rfl) ?_; dsimp only)); refine box_event ?hg (N := 1) ?hd (cs := #[.slice A0_0 l0_0.length c0_0, .slice A0_1 l0_1.length c0_1]) (t := 31) ?hr ?_; (case hd => rfl); (case hg => rfl); (case hr => first | (go_simp; done) | (go_simp; rfl)); intro gb196 hg w3 hbox hb; have n0_ := aM_ (bT_ (by repeat (first | (with_reducible first | exact HB.out | apply bA_ | apply bN_ | apply b1_) | exact HB.out)) hb); have n1_ := aM_ (hbox); have n2_ := aM_ ((by rw [hg]; exact (bZ_ (by repeat (first | (with_reducible first | exact HB.out | apply bA_ | apply bN_ | apply b1_) | exact HB.out))) : w.heap.size ≤ gb196)); have n3_ := aM_ ((by rw [hg]; exact (bZ_ (by repeat (first | (with_reducible first | exact HB.out | apply bA_ | apply bN_ | apply b1_) | exact HB.out))) : w.heap.size ≤ gb196)); clear HB; have HB := n0_; have BK196 := n1_; have GW196 := n2_; have GE196 := n3_; clear n0_ n1_ n2_ n3_ hb hbox hg))
 (try simp only [Act.put, sA_, sB_, sC_])
 go_cut [16] (fun v16 wc => ∃ (kq : Nat) (x16_1 : Bool), v16 = .bool x16_1 ∧ Aside0 (spec_NetOk.j0 kq x16_1 l0_0 l0_1 = some r) ∧ Aside0 (kq ≤ k) ∧ Aside0 (wc.heap[gb196]? = some (.cells #[(.slice A0_0 l0_0.length c0_0), (.slice A0_1 l0_1.length c0_1)] 31 (0, 0))) ∧ Aside0 (Below w.heap.size w wc))
 case first =>
  have H := HC2.out
  clear HC2
  by_cases c4 : (l0_0.length : Int) > 8
  · rw [if_pos c4] at H
    have c4b0 : decide (8 < (l0_0.length : Int)) = true := dT_ c4
    have c4b1 : decide (8 < l0_0.length) = true := dT_ (by omega)
    clear c4
    (first | rw [c4b0] | (simp only [i64_w, i32_w]; rw [c4b0]) | skip)
    have H' := aM_ H
    clear H
    (obtain ⟨hcz5_0, hcz5_1⟩ := cells2 BK196.out)
    (obtain ⟨hfz5_0, hfz5_1⟩ := frozen2 BK196.out)
    go_wp2
    go_meet
    case rel => exact ⟨_, (true), (by first | rfl | (simp; done) | (simp [*]; done)), H', ⟨by first | omega | exact Nat.le_refl _⟩, ⟨by (with_reducible repeat (first | refine kN_ ?_ _ | refine kD_ ?_ | refine kA_ ?_ _)); exact BK196.out⟩, ⟨by repeat (first | (with_reducible first | exact HB.out | apply bA_ | apply bN_ | apply b1_ | refine bS_ ?_ GE196.out) | exact HB.out)⟩⟩
  rw [if_neg c4] at H
  have c4b0 : decide (8 < (l0_0.length : Int)) = false := dF_ c4
  have c4b1 : decide (8 < l0_0.length) = false := dF_ (by omega)
  clear c4
  (first | rw [c4b0] | (simp only [i64_w, i32_w]; rw [c4b0]) | skip)
  have H' := aM_ H
  clear H
  (obtain ⟨hcz6_0, hcz6_1⟩ := cells2 BK196.out)
  (obtain ⟨hfz6_0, hfz6_1⟩ := frozen2 BK196.out)
  go_wp2
  go_meet
  case rel => exact ⟨_, (decide ((l0_1.length : Int) > 4)), (by first | rfl | (simp; done) | (simp [*]; done)), H', ⟨by first | omega | exact Nat.le_refl _⟩, ⟨by (with_reducible repeat (first | refine kN_ ?_ _ | refine kD_ ?_ | refine kA_ ?_ _)); exact BK196.out⟩, ⟨by repeat (first | (with_reducible first | exact HB.out | apply bA_ | apply bN_ | apply b1_ | refine bS_ ?_ GE196.out) | exact HB.out)⟩⟩
 case rest =>
  clear HC2
  try clear c1
  try clear p2
  try clear c4
  try clear c4b0
  try clear c4b1
  try clear hcz5_0
  try clear hcz5_1
  try clear hcz6_0
  try clear hcz6_1
  try clear hfz5_0
  try clear hfz5_1
  try clear hfz6_0
  try clear hfz6_1
  obtain ⟨kq, x16_1, rfl, HA, HJ1, BK196, HB⟩ := hcut
  cases kq with
  | zero => exact absurd HA.out (by simp [spec_NetOk.j0])
  | succ kj1 =>
   have H := HA.out
   clear HA
   simp only [spec_NetOk.j0] at H
   by_cases c7 : x16_1 = true
   · subst c7
     have H1 : (some false) = some r := by rw [if_pos rfl] at H; exact H
     clear H
     have H := H1
     clear H1
     obtain rfl := oI_ H
     go_wp2
     go_ret
     exact ⟨by first | rfl | (simp [errW_none, errW_some] <;> rfl) | (simp [*, errW_none, errW_some] <;> rfl), by repeat (first | (with_reducible first | exact HB.out | apply bA_ | apply bN_ | apply b1_ | refine bS_ ?_ GE196.out) | exact HB.out)⟩
   replace c7 := Bool.eq_false_iff.mpr c7
   subst c7
   have H1 : (spec_NetOk.l0 kj1 0 l0_0 l0_1) = some r := by rw [if_neg (show ¬ (false = true) by decide)] at H; exact H
   clear H
   have H := H1
   clear H1
   have H' := aM_ H
   clear H
   go_wp2
   go_loopg [3] kj1 (fun kq v3 w' => ∃ (x3_2 : Int), v3 = .int .i64 x3_2 ∧ Aside0 (spec_NetOk.l0 kq x3_2 l0_0 l0_1 = some r) ∧ Aside0 (kq ≤ kj1) ∧ Aside0 (w'.heap[gb196]? = some (.cells #[(.slice A0_0 l0_0.length c0_0), (.slice A0_1 l0_1.length c0_1)] 31 (0, 0))) ∧ Aside0 (Below w.heap.size w w'))
   case atStart => exact ⟨(0), (by first | rfl | (simp; done) | (simp [*]; done)), H', ⟨Nat.le_refl _⟩, ⟨by (with_reducible repeat (first | refine kN_ ?_ _ | refine kD_ ?_ | refine kA_ ?_ _)); exact BK196.out⟩, ⟨by repeat (first | (with_reducible first | exact HB.out | apply bA_ | apply bN_ | apply b1_ | refine bS_ ?_ GE196.out) | exact HB.out)⟩⟩
   case round =>
    clear H'
    try clear c1
    try clear p2
    try clear c4
    try clear c4b0
    try clear c4b1
    try clear c7
    try clear hcz5_0
    try clear hcz5_1
    try clear hcz6_0
    try clear hcz6_1
    try clear hfz5_0
    try clear hfz5_1
    try clear hfz6_0
    try clear hfz6_1
    try clear p2
    obtain ⟨x3_2, rfl, HA, HK2, BK196, HB⟩ := hrel
    cases gk with
    | zero => exact absurd HA.out (by simp [spec_NetOk.l0])
    | succ k2 =>
     have H := HA.out
     clear HA
     simp only [spec_NetOk.l0] at H
     by_cases c8 : x3_2 < (l0_0.length : Int)
     · rw [if_pos c8] at H
       have c8b0 : decide (x3_2 < (l0_0.length : Int)) = true := dT_ c8
       clear c8
       by_cases c9 : 0 ≤ x3_2
       rotate_left
       · rw [if_neg c9] at H
         exact absurd H (by simp)
       rw [if_pos c9] at H
       have c9b0 : decide (0 ≤ x3_2) = true := dT_ c9
       clear c9
       replace H := Option.bind_eq_some_iff.mp H
       obtain ⟨t198, A100, H⟩ := H
       replace H : (if t198 = true then (spec_NetOk.l0 k2 (wrap64 (x3_2 + 1)) l0_0 l0_1) else (some false)) = some r := H
       have A10 := aM_ A100
       clear A100
       by_cases c11 : t198 = true
       rotate_left
       · replace c11 := Bool.eq_false_iff.mpr c11
         subst c11
         have H1 : (some false) = some r := by rw [if_neg (show ¬ (false = true) by decide)] at H; exact H
         clear H
         have H := H1
         clear H1
         obtain rfl := oI_ H
         (obtain ⟨hcz15_0, hcz15_1⟩ := cells2 BK196.out)
         (obtain ⟨hfz15_0, hfz15_1⟩ := frozen2 BK196.out)
         try go_wp2
         have n0_ := aM_ (kD_ BK196.out)
         have n1_ := aM_ (b1_ HB.out)
         clear BK196 HB
         revert n0_ n1_
         intro BK196 HB
         have p197 : 0 ≤ (x3_2 : Int) := oD_ (by first | (with_reducible assumption) | assumption)
         have q197 : x3_2 < (l0_0.length : Int) := oD_ (by first | (with_reducible assumption) | assumption)
         obtain ⟨ad197, e197, hx197_0, hx197_1, hx197_2, hx197_3, hx197_4, hx197_5, hx197_6, hx197_7, hx197_8, hx197_9, hx197_10, hx197_11⟩ := at_T43 HR0_0.out x3_2 p197 q197
         have hw197_11 := hx197_11
         have hw197_10 := hx197_10
         have hw197_9 := hx197_9
         have hw197_8 := hx197_8
         have hw197_7 := hx197_7
         have hw197_6 := hx197_6
         have hw197_5 := hx197_5
         have hw197_4 := hx197_4
         have hw197_3 := hx197_3
         have hw197_2 := hx197_2
         have hw197_1 := hx197_1
         have hw197_0 := hx197_0
         cases e197
         replace hx197_0 := (HB.out.cell (bL_ w _ hx197_0)).trans hx197_0
         replace hx197_1 := (HB.out.cell (bL_ w _ hx197_1)).trans hx197_1
         replace hx197_2 := (HB.out.cell (bL_ w _ hx197_2)).trans hx197_2
         replace hx197_3 := (HB.out.cell (bL_ w _ hx197_3)).trans hx197_3
         replace hx197_4 := (HB.out.cell (bL_ w _ hx197_4)).trans hx197_4
         replace hx197_5 := (HB.out.cell (bL_ w _ hx197_5)).trans hx197_5
         replace hx197_6 := (HB.out.cell (bL_ w _ hx197_6)).trans hx197_6
         replace hx197_7 := (HB.out.cell (bL_ w _ hx197_7)).trans hx197_7
         replace hx197_8 := (HB.out.cell (bL_ w _ hx197_8)).trans hx197_8
         replace hx197_9 := (HB.out.cell (bL_ w _ hx197_9)).trans hx197_9
         replace hx197_10 := (HB.out.cell (bL_ w _ hx197_10)).trans hx197_10
         replace hx197_11 := (HB.out.cell (bL_ w _ hx197_11)).trans hx197_11
         replace p197 := eq_true p197
         replace q197 := eq_true q197
         refine start_ (n := 10) (S := fun w' => w'.cell? ⟨gb196, 0, none⟩ = some (.slice (some ad197) l0_0.length c0_0) ∧ w'.cell? ⟨gb196, 1, none⟩ = some (.slice A0_1 l0_1.length c0_1) ∧ w'.cell? (ad197.add ((x3_2).toNat * 12)) = some (.int .i64 ((rd_T43 l0_0 x3_2).f0)) ∧ w'.cell? ⟨(ad197.add ((x3_2).toNat * 12)).block, (ad197.add ((x3_2).toNat * 12)).off + 1, none⟩ = some (.int .i64 ((rd_T43 l0_0 x3_2).f1)) ∧ w'.cell? ⟨(ad197.add ((x3_2).toNat * 12)).block, (ad197.add ((x3_2).toNat * 12)).off + 2, none⟩ = some (.int .i64 ((rd_T43 l0_0 x3_2).f2.f0)) ∧ w'.cell? ⟨(ad197.add ((x3_2).toNat * 12)).block, (ad197.add ((x3_2).toNat * 12)).off + 3, none⟩ = some (.int .i64 ((rd_T43 l0_0 x3_2).f2.f1)) ∧ w'.cell? ⟨(ad197.add ((x3_2).toNat * 12)).block, (ad197.add ((x3_2).toNat * 12)).off + 4, none⟩ = some (.int .i64 ((rd_T43 l0_0 x3_2).f2.f2.f0)) ∧ w'.cell? ⟨(ad197.add ((x3_2).toNat * 12)).block, (ad197.add ((x3_2).toNat * 12)).off + 5, none⟩ = some (.int .i64 ((rd_T43 l0_0 x3_2).f2.f2.f1)) ∧ w'.cell? ⟨(ad197.add ((x3_2).toNat * 12)).block, (ad197.add ((x3_2).toNat * 12)).off + 6, none⟩ = some (.bool ((rd_T43 l0_0 x3_2).f2.f3)) ∧ w'.cell? ⟨(ad197.add ((x3_2).toNat * 12)).block, (ad197.add ((x3_2).toNat * 12)).off + 7, none⟩ = some (.int .i64 ((rd_T43 l0_0 x3_2).f3.f0)) ∧ w'.cell? ⟨(ad197.add ((x3_2).toNat * 12)).block, (ad197.add ((x3_2).toNat * 12)).off + 8, none⟩ = some (.int .i64 ((rd_T43 l0_0 x3_2).f3.f1)) ∧ w'.cell? ⟨(ad197.add ((x3_2).toNat * 12)).block, (ad197.add ((x3_2).toNat * 12)).off + 9, none⟩ = some (.int .i64 ((rd_T43 l0_0 x3_2).f3.f2.f0)) ∧ w'.cell? ⟨(ad197.add ((x3_2).toNat * 12)).block, (ad197.add ((x3_2).toNat * 12)).off + 10, none⟩ = some (.int .i64 ((rd_T43 l0_0 x3_2).f3.f2.f1)) ∧ w'.cell? ⟨(ad197.add ((x3_2).toNat * 12)).block, (ad197.add ((x3_2).toNat * 12)).off + 11, none⟩ = some (.bool ((rd_T43 l0_0 x3_2).f3.f3))) (ds := []) #[F_, F_, F_, F_, F_, F_, F_, F_, F_, F_] (by kernel_rfl) rfl rfl ⟨(kC_ BK196.out 0).trans rfl, (kC_ BK196.out 1).trans rfl, ((HB.out.cell (bL_ w _ hw197_0)).trans hw197_0), ((HB.out.cell (bL_ w _ hw197_1)).trans hw197_1), ((HB.out.cell (bL_ w _ hw197_2)).trans hw197_2), ((HB.out.cell (bL_ w _ hw197_3)).trans hw197_3), ((HB.out.cell (bL_ w _ hw197_4)).trans hw197_4), ((HB.out.cell (bL_ w _ hw197_5)).trans hw197_5), ((HB.out.cell (bL_ w _ hw197_6)).trans hw197_6), ((HB.out.cell (bL_ w _ hw197_7)).trans hw197_7), ((HB.out.cell (bL_ w _ hw197_8)).trans hw197_8), ((HB.out.cell (bL_ w _ hw197_9)).trans hw197_9), ((HB.out.cell (bL_ w _ hw197_10)).trans hw197_10), ((HB.out.cell (bL_ w _ hw197_11)).trans hw197_11)⟩ (fun hHeld => ?_); refine with_tabW spec_NetOk.tab6 spec_NetOk.bits6 (fun HT_ HW_ => ?_)
         generalize wr.drew = w16 at BK196 HB hx197_0 hx197_1 hx197_10 hx197_11 hx197_2 hx197_3 hx197_4 hx197_5 hx197_6 hx197_7 hx197_8 hx197_9 hHeld ⊢
         refine pure_ (i := 0) (N := some 24) (v := ?_) (a' := ?_) #[T_, F_, F_, F_, F_, F_, F_, F_, F_, F_] rfl rfl (any_of HT_.out (by kernel_rfl)) (fun _ _ _ h => h) (Or.inl ⟨by rfl, ?_⟩) ?_ ?_
         rotate_left
         · intro w'
           go_simp
           with_reducible rfl
         rotate_left
         · simp only [Act.put, sA_, sB_, sC_, i64_w, i32_w]
           rfl
         refine pure_ (i := 2) (N := some 26) (v := ?_) (a' := ?_) #[T_, F_, T_, F_, F_, F_, F_, F_, F_, F_] rfl rfl (any_of HT_.out (by kernel_rfl)) (fun _ _ _ h => h) (Or.inl ⟨by rfl, ?_⟩) ?_ ?_
         rotate_left
         · intro w'
           go_simp
           with_reducible rfl
         rotate_left
         · simp only [Act.put, sA_, sB_, sC_, i64_w, i32_w]
           rfl
         refine pure_ (i := 5) (N := some 29) (v := ?_) (a' := ?_) #[T_, F_, T_, F_, F_, T_, F_, F_, F_, F_] rfl rfl (any_of HT_.out (by kernel_rfl)) (fun _ _ _ h => h) (Or.inl ⟨by rfl, ?_⟩) ?_ ?_
         rotate_left
         · intro w'
           go_simp
           with_reducible rfl
         rotate_left
         · simp only [Act.put, sA_, sB_, sC_, i64_w, i32_w]
           rfl
         refine take_ (i := 1) (N := some 25) (v := ?_) (a' := ?_) #[T_, T_, T_, F_, F_, T_, F_, F_, F_, F_] rfl rfl (take_ofW HT_.out HW_.out (by kernel_rfl)) (fun _ _ _ h => h) (Or.inl ⟨by rfl, ?_⟩) hHeld ?_ ?_
         rotate_left
         · rintro w' ⟨s0, s1, s2, s3, s4, s5, s6, s7, s8, s9, s10, s11, s12, s13⟩
           go_simp
           with_reducible rfl
         rotate_left
         · simp only [Act.put, sA_, sB_, sC_, i64_w, i32_w]
           rfl
         refine pure_ (i := 3) (N := some 27) (v := ?_) (a' := ?_) #[T_, T_, T_, T_, F_, T_, F_, F_, F_, F_] rfl rfl (any_of HT_.out (by kernel_rfl)) (fun _ _ _ h => h) (Or.inl ⟨by rfl, ?_⟩) ?_ ?_
         rotate_left
         · intro w'
           go_simp
           with_reducible rfl
         rotate_left
         · simp only [Act.put, sA_, sB_, sC_, i64_w, i32_w]
           rfl
         refine take_ (i := 4) (N := some 28) (v := ?_) (a' := ?_) #[T_, T_, T_, T_, T_, T_, F_, F_, F_, F_] rfl rfl (take_ofW HT_.out HW_.out (by kernel_rfl)) (fun _ _ _ h => h) (Or.inl ⟨by rfl, ?_⟩) hHeld ?_ ?_
         rotate_left
         · rintro w' ⟨s0, s1, s2, s3, s4, s5, s6, s7, s8, s9, s10, s11, s12, s13⟩
           go_simp
           with_reducible rfl
         rotate_left
         · simp only [Act.put, sA_, sB_, sC_, i64_w, i32_w]
           rfl
         refine take_ (i := 6) (N := some 30) (v := ?_) (a' := ?_) #[T_, T_, T_, T_, T_, T_, T_, F_, F_, F_] rfl rfl (take_ofW HT_.out HW_.out (by kernel_rfl)) (fun _ _ _ h => h) (Or.inl ⟨by rfl, ?_⟩) hHeld ?_ ?_
         rotate_left
         · rintro w' ⟨s0, s1, s2, s3, s4, s5, s6, s7, s8, s9, s10, s11, s12, s13⟩
           go_simp
           with_reducible rfl
         rotate_left
         · simp only [Act.put, sA_, sB_, sC_, i64_w, i32_w]
           rfl
         refine pure_ (i := 7) (N := some 31) (v := ?_) (a' := ?_) #[T_, T_, T_, T_, T_, T_, T_, T_, F_, F_] rfl rfl (any_of HT_.out (by kernel_rfl)) (fun _ _ _ h => h) (Or.inl ⟨by rfl, ?_⟩) ?_ ?_
         rotate_left
         · intro w'
           go_simp
           with_reducible rfl
         rotate_left
         · simp only [Act.put, sA_, sB_, sC_, i64_w, i32_w]
           rfl
         refine one_ (i := 8) (N := some 32) #[T_, T_, T_, T_, T_, T_, T_, T_, T_, F_] rfl rfl (one_of HT_.out (by kernel_rfl)) (by decide) (fun K hK => ?_)
         refine goes_ Tryz.func36 (by kernel_rfl) rfl #[.agg #[.int .i64 ((rd_T43 l0_0 x3_2).f0), .int .i64 ((rd_T43 l0_0 x3_2).f1), .int .i64 ((rd_T43 l0_0 x3_2).f2.f0), .int .i64 ((rd_T43 l0_0 x3_2).f2.f1), .int .i64 ((rd_T43 l0_0 x3_2).f2.f2.f0), .int .i64 ((rd_T43 l0_0 x3_2).f2.f2.f1), .bool ((rd_T43 l0_0 x3_2).f2.f3), .int .i64 ((rd_T43 l0_0 x3_2).f3.f0), .int .i64 ((rd_T43 l0_0 x3_2).f3.f1), .int .i64 ((rd_T43 l0_0 x3_2).f3.f2.f0), .int .i64 ((rd_T43 l0_0 x3_2).f3.f2.f1), .bool ((rd_T43 l0_0 x3_2).f3.f3)], .int .i64 (l0_0.length : Int)] (by rfl) rfl rfl (by (try simp only [mA_, List.map_cons, List.map_nil]); first | done | rfl | (simp only [lD_, lT_]; rfl)) ?_
         with_reducible refine (spec_l7Wire.calls k2 ((rd_T43 l0_0 x3_2).f0) ((rd_T43 l0_0 x3_2).f1) ((rd_T43 l0_0 x3_2).f2.f0) ((rd_T43 l0_0 x3_2).f2.f1) ((rd_T43 l0_0 x3_2).f2.f2.f0) ((rd_T43 l0_0 x3_2).f2.f2.f1) ((rd_T43 l0_0 x3_2).f2.f3) ((rd_T43 l0_0 x3_2).f3.f0) ((rd_T43 l0_0 x3_2).f3.f1) ((rd_T43 l0_0 x3_2).f3.f2.f0) ((rd_T43 l0_0 x3_2).f3.f2.f1) ((rd_T43 l0_0 x3_2).f3.f3) (l0_0.length : Int) false _ A10.out).mono ?_
         rintro e w17 ⟨rfl, hb⟩
         refine ⟨_, rfl, ?_⟩
         have n0_ := aM_ (blk_below (g := gb196) (o := .cells #[.slice (some ad197) l0_0.length c0_0, .slice A0_1 l0_1.length c0_1] 31 (0, 0)) (by (with_reducible repeat (first | refine kN_ ?_ _ | refine kD_ ?_ | refine kA_ ?_ _)); exact BK196.out) hb)
         have n1_ := aM_ (bT_ (by repeat (first | (with_reducible first | exact HB.out | apply bA_ | apply bN_ | apply b1_ | refine bS_ ?_ GE196.out) | exact HB.out)) hb)
         clear BK196 HB
         revert n0_ n1_
         intro BK196 HB
         (try clear hb)
         (try clear hb2)
         (try clear hk)
         (try clear hi)
         refine hK.out _ _ ⟨(kC_ BK196.out 0).trans rfl, (kC_ BK196.out 1).trans rfl, ((HB.out.cell (bL_ w _ hw197_0)).trans hw197_0), ((HB.out.cell (bL_ w _ hw197_1)).trans hw197_1), ((HB.out.cell (bL_ w _ hw197_2)).trans hw197_2), ((HB.out.cell (bL_ w _ hw197_3)).trans hw197_3), ((HB.out.cell (bL_ w _ hw197_4)).trans hw197_4), ((HB.out.cell (bL_ w _ hw197_5)).trans hw197_5), ((HB.out.cell (bL_ w _ hw197_6)).trans hw197_6), ((HB.out.cell (bL_ w _ hw197_7)).trans hw197_7), ((HB.out.cell (bL_ w _ hw197_8)).trans hw197_8), ((HB.out.cell (bL_ w _ hw197_9)).trans hw197_9), ((HB.out.cell (bL_ w _ hw197_10)).trans hw197_10), ((HB.out.cell (bL_ w _ hw197_11)).trans hw197_11)⟩ (fun hHeld => ?_)
         clear hK K
         refine norm_ (a' := ?_) ?_ ?_
         rotate_left
         · show Act.put _ (some 32) _ = _
           simp only [Act.put, sA_, sB_, sC_, i64_w, i32_w]
           rfl
         refine pure_ (i := 9) (N := some 33) (v := ?_) (a' := ?_) #[T_, T_, T_, T_, T_, T_, T_, T_, T_, T_] rfl rfl (any_of HT_.out (by kernel_rfl)) (fun _ _ _ h => h) (Or.inl ⟨by rfl, ?_⟩) ?_ ?_
         rotate_left
         · intro w'
           go_simp
           with_reducible rfl
         rotate_left
         · simp only [Act.put, sA_, sB_, sC_, i64_w, i32_w]
           rfl
         refine done_ (done_of HT_.out (by kernel_rfl)) ?_
         try go_wp2
         go_ret
         exact ⟨by first | rfl | (simp [errW_none, errW_some] <;> rfl) | (simp [*, errW_none, errW_some] <;> rfl), by repeat (first | (with_reducible first | exact HB.out | apply bA_ | apply bN_ | apply b1_ | refine bS_ ?_ GE196.out) | exact HB.out)⟩
       subst c11
       have H1 : (spec_NetOk.l0 k2 (wrap64 (x3_2 + 1)) l0_0 l0_1) = some r := by rw [if_pos rfl] at H; exact H
       clear H
       have H := H1
       clear H1
       have H' := aM_ H
       clear H
       (obtain ⟨hcz12_0, hcz12_1⟩ := cells2 BK196.out)
       (obtain ⟨hfz12_0, hfz12_1⟩ := frozen2 BK196.out)
       try go_wp2
       have n0_ := aM_ (kD_ BK196.out)
       have n1_ := aM_ (b1_ HB.out)
       clear BK196 HB
       revert n0_ n1_
       intro BK196 HB
       have p197 : 0 ≤ (x3_2 : Int) := oD_ (by first | (with_reducible assumption) | assumption)
       have q197 : x3_2 < (l0_0.length : Int) := oD_ (by first | (with_reducible assumption) | assumption)
       obtain ⟨ad197, e197, hx197_0, hx197_1, hx197_2, hx197_3, hx197_4, hx197_5, hx197_6, hx197_7, hx197_8, hx197_9, hx197_10, hx197_11⟩ := at_T43 HR0_0.out x3_2 p197 q197
       have hw197_11 := hx197_11
       have hw197_10 := hx197_10
       have hw197_9 := hx197_9
       have hw197_8 := hx197_8
       have hw197_7 := hx197_7
       have hw197_6 := hx197_6
       have hw197_5 := hx197_5
       have hw197_4 := hx197_4
       have hw197_3 := hx197_3
       have hw197_2 := hx197_2
       have hw197_1 := hx197_1
       have hw197_0 := hx197_0
       cases e197
       replace hx197_0 := (HB.out.cell (bL_ w _ hx197_0)).trans hx197_0
       replace hx197_1 := (HB.out.cell (bL_ w _ hx197_1)).trans hx197_1
       replace hx197_2 := (HB.out.cell (bL_ w _ hx197_2)).trans hx197_2
       replace hx197_3 := (HB.out.cell (bL_ w _ hx197_3)).trans hx197_3
       replace hx197_4 := (HB.out.cell (bL_ w _ hx197_4)).trans hx197_4
       replace hx197_5 := (HB.out.cell (bL_ w _ hx197_5)).trans hx197_5
       replace hx197_6 := (HB.out.cell (bL_ w _ hx197_6)).trans hx197_6
       replace hx197_7 := (HB.out.cell (bL_ w _ hx197_7)).trans hx197_7
       replace hx197_8 := (HB.out.cell (bL_ w _ hx197_8)).trans hx197_8
       replace hx197_9 := (HB.out.cell (bL_ w _ hx197_9)).trans hx197_9
       replace hx197_10 := (HB.out.cell (bL_ w _ hx197_10)).trans hx197_10
       replace hx197_11 := (HB.out.cell (bL_ w _ hx197_11)).trans hx197_11
       replace p197 := eq_true p197
       replace q197 := eq_true q197
       refine start_ (n := 10) (S := fun w' => w'.cell? ⟨gb196, 0, none⟩ = some (.slice (some ad197) l0_0.length c0_0) ∧ w'.cell? ⟨gb196, 1, none⟩ = some (.slice A0_1 l0_1.length c0_1) ∧ w'.cell? (ad197.add ((x3_2).toNat * 12)) = some (.int .i64 ((rd_T43 l0_0 x3_2).f0)) ∧ w'.cell? ⟨(ad197.add ((x3_2).toNat * 12)).block, (ad197.add ((x3_2).toNat * 12)).off + 1, none⟩ = some (.int .i64 ((rd_T43 l0_0 x3_2).f1)) ∧ w'.cell? ⟨(ad197.add ((x3_2).toNat * 12)).block, (ad197.add ((x3_2).toNat * 12)).off + 2, none⟩ = some (.int .i64 ((rd_T43 l0_0 x3_2).f2.f0)) ∧ w'.cell? ⟨(ad197.add ((x3_2).toNat * 12)).block, (ad197.add ((x3_2).toNat * 12)).off + 3, none⟩ = some (.int .i64 ((rd_T43 l0_0 x3_2).f2.f1)) ∧ w'.cell? ⟨(ad197.add ((x3_2).toNat * 12)).block, (ad197.add ((x3_2).toNat * 12)).off + 4, none⟩ = some (.int .i64 ((rd_T43 l0_0 x3_2).f2.f2.f0)) ∧ w'.cell? ⟨(ad197.add ((x3_2).toNat * 12)).block, (ad197.add ((x3_2).toNat * 12)).off + 5, none⟩ = some (.int .i64 ((rd_T43 l0_0 x3_2).f2.f2.f1)) ∧ w'.cell? ⟨(ad197.add ((x3_2).toNat * 12)).block, (ad197.add ((x3_2).toNat * 12)).off + 6, none⟩ = some (.bool ((rd_T43 l0_0 x3_2).f2.f3)) ∧ w'.cell? ⟨(ad197.add ((x3_2).toNat * 12)).block, (ad197.add ((x3_2).toNat * 12)).off + 7, none⟩ = some (.int .i64 ((rd_T43 l0_0 x3_2).f3.f0)) ∧ w'.cell? ⟨(ad197.add ((x3_2).toNat * 12)).block, (ad197.add ((x3_2).toNat * 12)).off + 8, none⟩ = some (.int .i64 ((rd_T43 l0_0 x3_2).f3.f1)) ∧ w'.cell? ⟨(ad197.add ((x3_2).toNat * 12)).block, (ad197.add ((x3_2).toNat * 12)).off + 9, none⟩ = some (.int .i64 ((rd_T43 l0_0 x3_2).f3.f2.f0)) ∧ w'.cell? ⟨(ad197.add ((x3_2).toNat * 12)).block, (ad197.add ((x3_2).toNat * 12)).off + 10, none⟩ = some (.int .i64 ((rd_T43 l0_0 x3_2).f3.f2.f1)) ∧ w'.cell? ⟨(ad197.add ((x3_2).toNat * 12)).block, (ad197.add ((x3_2).toNat * 12)).off + 11, none⟩ = some (.bool ((rd_T43 l0_0 x3_2).f3.f3))) (ds := []) #[F_, F_, F_, F_, F_, F_, F_, F_, F_, F_] (by kernel_rfl) rfl rfl ⟨(kC_ BK196.out 0).trans rfl, (kC_ BK196.out 1).trans rfl, ((HB.out.cell (bL_ w _ hw197_0)).trans hw197_0), ((HB.out.cell (bL_ w _ hw197_1)).trans hw197_1), ((HB.out.cell (bL_ w _ hw197_2)).trans hw197_2), ((HB.out.cell (bL_ w _ hw197_3)).trans hw197_3), ((HB.out.cell (bL_ w _ hw197_4)).trans hw197_4), ((HB.out.cell (bL_ w _ hw197_5)).trans hw197_5), ((HB.out.cell (bL_ w _ hw197_6)).trans hw197_6), ((HB.out.cell (bL_ w _ hw197_7)).trans hw197_7), ((HB.out.cell (bL_ w _ hw197_8)).trans hw197_8), ((HB.out.cell (bL_ w _ hw197_9)).trans hw197_9), ((HB.out.cell (bL_ w _ hw197_10)).trans hw197_10), ((HB.out.cell (bL_ w _ hw197_11)).trans hw197_11)⟩ (fun hHeld => ?_); refine with_tabW spec_NetOk.tab6 spec_NetOk.bits6 (fun HT_ HW_ => ?_)
       generalize wr.drew = w13 at BK196 HB hx197_0 hx197_1 hx197_10 hx197_11 hx197_2 hx197_3 hx197_4 hx197_5 hx197_6 hx197_7 hx197_8 hx197_9 hHeld ⊢
       refine pure_ (i := 0) (N := some 24) (v := ?_) (a' := ?_) #[T_, F_, F_, F_, F_, F_, F_, F_, F_, F_] rfl rfl (any_of HT_.out (by kernel_rfl)) (fun _ _ _ h => h) (Or.inl ⟨by rfl, ?_⟩) ?_ ?_
       rotate_left
       · intro w'
         go_simp
         with_reducible rfl
       rotate_left
       · simp only [Act.put, sA_, sB_, sC_, i64_w, i32_w]
         rfl
       refine pure_ (i := 2) (N := some 26) (v := ?_) (a' := ?_) #[T_, F_, T_, F_, F_, F_, F_, F_, F_, F_] rfl rfl (any_of HT_.out (by kernel_rfl)) (fun _ _ _ h => h) (Or.inl ⟨by rfl, ?_⟩) ?_ ?_
       rotate_left
       · intro w'
         go_simp
         with_reducible rfl
       rotate_left
       · simp only [Act.put, sA_, sB_, sC_, i64_w, i32_w]
         rfl
       refine pure_ (i := 5) (N := some 29) (v := ?_) (a' := ?_) #[T_, F_, T_, F_, F_, T_, F_, F_, F_, F_] rfl rfl (any_of HT_.out (by kernel_rfl)) (fun _ _ _ h => h) (Or.inl ⟨by rfl, ?_⟩) ?_ ?_
       rotate_left
       · intro w'
         go_simp
         with_reducible rfl
       rotate_left
       · simp only [Act.put, sA_, sB_, sC_, i64_w, i32_w]
         rfl
       refine take_ (i := 1) (N := some 25) (v := ?_) (a' := ?_) #[T_, T_, T_, F_, F_, T_, F_, F_, F_, F_] rfl rfl (take_ofW HT_.out HW_.out (by kernel_rfl)) (fun _ _ _ h => h) (Or.inl ⟨by rfl, ?_⟩) hHeld ?_ ?_
       rotate_left
       · rintro w' ⟨s0, s1, s2, s3, s4, s5, s6, s7, s8, s9, s10, s11, s12, s13⟩
         go_simp
         with_reducible rfl
       rotate_left
       · simp only [Act.put, sA_, sB_, sC_, i64_w, i32_w]
         rfl
       refine pure_ (i := 3) (N := some 27) (v := ?_) (a' := ?_) #[T_, T_, T_, T_, F_, T_, F_, F_, F_, F_] rfl rfl (any_of HT_.out (by kernel_rfl)) (fun _ _ _ h => h) (Or.inl ⟨by rfl, ?_⟩) ?_ ?_
       rotate_left
       · intro w'
         go_simp
         with_reducible rfl
       rotate_left
       · simp only [Act.put, sA_, sB_, sC_, i64_w, i32_w]
         rfl
       refine take_ (i := 4) (N := some 28) (v := ?_) (a' := ?_) #[T_, T_, T_, T_, T_, T_, F_, F_, F_, F_] rfl rfl (take_ofW HT_.out HW_.out (by kernel_rfl)) (fun _ _ _ h => h) (Or.inl ⟨by rfl, ?_⟩) hHeld ?_ ?_
       rotate_left
       · rintro w' ⟨s0, s1, s2, s3, s4, s5, s6, s7, s8, s9, s10, s11, s12, s13⟩
         go_simp
         with_reducible rfl
       rotate_left
       · simp only [Act.put, sA_, sB_, sC_, i64_w, i32_w]
         rfl
       refine take_ (i := 6) (N := some 30) (v := ?_) (a' := ?_) #[T_, T_, T_, T_, T_, T_, T_, F_, F_, F_] rfl rfl (take_ofW HT_.out HW_.out (by kernel_rfl)) (fun _ _ _ h => h) (Or.inl ⟨by rfl, ?_⟩) hHeld ?_ ?_
       rotate_left
       · rintro w' ⟨s0, s1, s2, s3, s4, s5, s6, s7, s8, s9, s10, s11, s12, s13⟩
         go_simp
         with_reducible rfl
       rotate_left
       · simp only [Act.put, sA_, sB_, sC_, i64_w, i32_w]
         rfl
       refine pure_ (i := 7) (N := some 31) (v := ?_) (a' := ?_) #[T_, T_, T_, T_, T_, T_, T_, T_, F_, F_] rfl rfl (any_of HT_.out (by kernel_rfl)) (fun _ _ _ h => h) (Or.inl ⟨by rfl, ?_⟩) ?_ ?_
       rotate_left
       · intro w'
         go_simp
         with_reducible rfl
       rotate_left
       · simp only [Act.put, sA_, sB_, sC_, i64_w, i32_w]
         rfl
       refine one_ (i := 8) (N := some 32) #[T_, T_, T_, T_, T_, T_, T_, T_, T_, F_] rfl rfl (one_of HT_.out (by kernel_rfl)) (by decide) (fun K hK => ?_)
       refine goes_ Tryz.func36 (by kernel_rfl) rfl #[.agg #[.int .i64 ((rd_T43 l0_0 x3_2).f0), .int .i64 ((rd_T43 l0_0 x3_2).f1), .int .i64 ((rd_T43 l0_0 x3_2).f2.f0), .int .i64 ((rd_T43 l0_0 x3_2).f2.f1), .int .i64 ((rd_T43 l0_0 x3_2).f2.f2.f0), .int .i64 ((rd_T43 l0_0 x3_2).f2.f2.f1), .bool ((rd_T43 l0_0 x3_2).f2.f3), .int .i64 ((rd_T43 l0_0 x3_2).f3.f0), .int .i64 ((rd_T43 l0_0 x3_2).f3.f1), .int .i64 ((rd_T43 l0_0 x3_2).f3.f2.f0), .int .i64 ((rd_T43 l0_0 x3_2).f3.f2.f1), .bool ((rd_T43 l0_0 x3_2).f3.f3)], .int .i64 (l0_0.length : Int)] (by rfl) rfl rfl (by (try simp only [mA_, List.map_cons, List.map_nil]); first | done | rfl | (simp only [lD_, lT_]; rfl)) ?_
       with_reducible refine (spec_l7Wire.calls k2 ((rd_T43 l0_0 x3_2).f0) ((rd_T43 l0_0 x3_2).f1) ((rd_T43 l0_0 x3_2).f2.f0) ((rd_T43 l0_0 x3_2).f2.f1) ((rd_T43 l0_0 x3_2).f2.f2.f0) ((rd_T43 l0_0 x3_2).f2.f2.f1) ((rd_T43 l0_0 x3_2).f2.f3) ((rd_T43 l0_0 x3_2).f3.f0) ((rd_T43 l0_0 x3_2).f3.f1) ((rd_T43 l0_0 x3_2).f3.f2.f0) ((rd_T43 l0_0 x3_2).f3.f2.f1) ((rd_T43 l0_0 x3_2).f3.f3) (l0_0.length : Int) true _ A10.out).mono ?_
       rintro e w14 ⟨rfl, hb⟩
       refine ⟨_, rfl, ?_⟩
       have n0_ := aM_ (blk_below (g := gb196) (o := .cells #[.slice (some ad197) l0_0.length c0_0, .slice A0_1 l0_1.length c0_1] 31 (0, 0)) (by (with_reducible repeat (first | refine kN_ ?_ _ | refine kD_ ?_ | refine kA_ ?_ _)); exact BK196.out) hb)
       have n1_ := aM_ (bT_ (by repeat (first | (with_reducible first | exact HB.out | apply bA_ | apply bN_ | apply b1_ | refine bS_ ?_ GE196.out) | exact HB.out)) hb)
       clear BK196 HB
       revert n0_ n1_
       intro BK196 HB
       (try clear hb)
       (try clear hb2)
       (try clear hk)
       (try clear hi)
       refine hK.out _ _ ⟨(kC_ BK196.out 0).trans rfl, (kC_ BK196.out 1).trans rfl, ((HB.out.cell (bL_ w _ hw197_0)).trans hw197_0), ((HB.out.cell (bL_ w _ hw197_1)).trans hw197_1), ((HB.out.cell (bL_ w _ hw197_2)).trans hw197_2), ((HB.out.cell (bL_ w _ hw197_3)).trans hw197_3), ((HB.out.cell (bL_ w _ hw197_4)).trans hw197_4), ((HB.out.cell (bL_ w _ hw197_5)).trans hw197_5), ((HB.out.cell (bL_ w _ hw197_6)).trans hw197_6), ((HB.out.cell (bL_ w _ hw197_7)).trans hw197_7), ((HB.out.cell (bL_ w _ hw197_8)).trans hw197_8), ((HB.out.cell (bL_ w _ hw197_9)).trans hw197_9), ((HB.out.cell (bL_ w _ hw197_10)).trans hw197_10), ((HB.out.cell (bL_ w _ hw197_11)).trans hw197_11)⟩ (fun hHeld => ?_)
       clear hK K
       refine norm_ (a' := ?_) ?_ ?_
       rotate_left
       · show Act.put _ (some 32) _ = _
         simp only [Act.put, sA_, sB_, sC_, i64_w, i32_w]
         rfl
       refine pure_ (i := 9) (N := some 33) (v := ?_) (a' := ?_) #[T_, T_, T_, T_, T_, T_, T_, T_, T_, T_] rfl rfl (any_of HT_.out (by kernel_rfl)) (fun _ _ _ h => h) (Or.inl ⟨by rfl, ?_⟩) ?_ ?_
       rotate_left
       · intro w'
         go_simp
         with_reducible rfl
       rotate_left
       · simp only [Act.put, sA_, sB_, sC_, i64_w, i32_w]
         rfl
       refine done_ (done_of HT_.out (by kernel_rfl)) ?_
       try go_wp2
       go_roundg k2
       case measure => have := HJ1.out; have := HK2.out; omega
       case rel => exact ⟨(wrap64 (x3_2 + 1)), (by first | rfl | (simp; done) | (simp [*]; done)), H', ⟨by have := HJ1.out; have := HK2.out; omega⟩, ⟨by (with_reducible repeat (first | refine kN_ ?_ _ | refine kD_ ?_ | refine kA_ ?_ _)); exact BK196.out⟩, ⟨by repeat (first | (with_reducible first | exact HB.out | apply bA_ | apply bN_ | apply b1_ | refine bS_ ?_ GE196.out) | exact HB.out)⟩⟩
     rw [if_neg c8] at H
     have c8b0 : decide (x3_2 < (l0_0.length : Int)) = false := dF_ c8
     clear c8
     have H' := aM_ H
     clear H
     (obtain ⟨hcz18_0, hcz18_1⟩ := cells2 BK196.out)
     (obtain ⟨hfz18_0, hfz18_1⟩ := frozen2 BK196.out)
     go_wp2
     go_loopg [4] k2 (fun kq v4 w' => ∃ (x4_3 : Int), v4 = .int .i64 x4_3 ∧ Aside0 (spec_NetOk.l1 kq x4_3 l0_0 l0_1 = some r) ∧ Aside0 (kq ≤ k2) ∧ Aside0 (w'.heap[gb196]? = some (.cells #[(.slice A0_0 l0_0.length c0_0), (.slice A0_1 l0_1.length c0_1)] 31 (0, 0))) ∧ Aside0 (Below w.heap.size w w'))
     case atStart => exact ⟨(0), (by first | rfl | (simp; done) | (simp [*]; done)), H', ⟨Nat.le_refl _⟩, ⟨by (with_reducible repeat (first | refine kN_ ?_ _ | refine kD_ ?_ | refine kA_ ?_ _)); exact BK196.out⟩, ⟨by repeat (first | (with_reducible first | exact HB.out | apply bA_ | apply bN_ | apply b1_ | refine bS_ ?_ GE196.out) | exact HB.out)⟩⟩
     case round =>
      clear H'
      try clear c1
      try clear p1
      try clear q1
      try clear hx1
      try clear p2
      try clear c3
      try clear c4
      try clear c4b0
      try clear c4b1
      try clear p6
      try clear c7
      try clear c8
      try clear c8b0
      try clear c9
      try clear c9b0
      try clear c11
      try clear c13
      try clear hcz12_0
      try clear hcz12_1
      try clear hcz15_0
      try clear hcz15_1
      try clear hcz18_0
      try clear hcz18_1
      try clear hcz5_0
      try clear hcz5_1
      try clear hcz6_0
      try clear hcz6_1
      try clear hfz12_0
      try clear hfz12_1
      try clear hfz15_0
      try clear hfz15_1
      try clear hfz18_0
      try clear hfz18_1
      try clear hfz5_0
      try clear hfz5_1
      try clear hfz6_0
      try clear hfz6_1
      try clear hx197_0
      try clear hx197_1
      try clear hx197_10
      try clear hx197_11
      try clear hx197_2
      try clear hx197_3
      try clear hx197_4
      try clear hx197_5
      try clear hx197_6
      try clear hx197_7
      try clear hx197_8
      try clear hx197_9
      try clear p197
      try clear p2
      try clear q197
      obtain ⟨x4_3, rfl, HA, HK3, BK196, HB⟩ := hrel
      cases gk with
      | zero => exact absurd HA.out (by simp [spec_NetOk.l1])
      | succ k3 =>
       have H := HA.out
       clear HA
       simp only [spec_NetOk.l1] at H
       by_cases c19 : x4_3 < (l0_1.length : Int)
       rotate_left
       · rw [if_neg c19] at H
         have c19b0 : decide (x4_3 < (l0_1.length : Int)) = false := dF_ c19
         clear c19
         replace H := Option.bind_eq_some_iff.mp H
         obtain ⟨t199, A530, H⟩ := H
         replace H : (some ((t199.length : Int) == (l0_0.length : Int))) = some r := H
         have A53 := aM_ A530
         clear A530
         obtain rfl := oI_ H
         (obtain ⟨hcz54_0, hcz54_1⟩ := cells2 BK196.out)
         (obtain ⟨hfz54_0, hfz54_1⟩ := frozen2 BK196.out)
         try go_wp2
         have n0_ := aM_ (kD_ BK196.out)
         have n1_ := aM_ (b1_ HB.out)
         clear BK196 HB
         revert n0_ n1_
         intro BK196 HB
         refine start_ (n := 9) (S := fun w' => w'.cell? ⟨gb196, 0, none⟩ = some (.slice A0_0 l0_0.length c0_0) ∧ w'.cell? ⟨gb196, 1, none⟩ = some (.slice A0_1 l0_1.length c0_1)) (ds := []) #[F_, F_, F_, F_, F_, F_, F_, F_, F_] (by kernel_rfl) rfl rfl ⟨(kC_ BK196.out 0).trans rfl, (kC_ BK196.out 1).trans rfl⟩ (fun hHeld => ?_); refine with_tabW spec_NetOk.tab19 spec_NetOk.bits19 (fun HT_ HW_ => ?_)
         generalize wr.drew = w55 at BK196 HB hHeld ⊢
         refine pure_ (i := 0) (N := some 83) (v := ?_) (a' := ?_) #[T_, F_, F_, F_, F_, F_, F_, F_, F_] rfl rfl (any_of HT_.out (by kernel_rfl)) (fun _ _ _ h => h) (Or.inl ⟨by rfl, ?_⟩) ?_ ?_
         rotate_left
         · intro w'
           go_simp
           with_reducible rfl
         rotate_left
         · simp only [Act.put, sA_, sB_, sC_, i64_w, i32_w]
           rfl
         refine pure_ (i := 4) (N := some 87) (v := ?_) (a' := ?_) #[T_, F_, F_, F_, T_, F_, F_, F_, F_] rfl rfl (any_of HT_.out (by kernel_rfl)) (fun _ _ _ h => h) (Or.inl ⟨by rfl, ?_⟩) ?_ ?_
         rotate_left
         · intro w'
           go_simp
           with_reducible rfl
         rotate_left
         · simp only [Act.put, sA_, sB_, sC_, i64_w, i32_w]
           rfl
         refine take_ (i := 1) (N := some 84) (v := ?_) (a' := ?_) #[T_, T_, F_, F_, T_, F_, F_, F_, F_] rfl rfl (take_ofW HT_.out HW_.out (by kernel_rfl)) (fun _ _ _ h => h) (Or.inl ⟨by rfl, ?_⟩) hHeld ?_ ?_
         rotate_left
         · rintro w' ⟨s0, s1⟩
           go_simp
           with_reducible rfl
         rotate_left
         · simp only [Act.put, sA_, sB_, sC_, i64_w, i32_w]
           rfl
         refine take_ (i := 5) (N := some 88) (v := ?_) (a' := ?_) #[T_, T_, F_, F_, T_, T_, F_, F_, F_] rfl rfl (take_ofW HT_.out HW_.out (by kernel_rfl)) (fun _ _ _ h => h) (Or.inl ⟨by rfl, ?_⟩) hHeld ?_ ?_
         rotate_left
         · rintro w' ⟨s0, s1⟩
           go_simp
           with_reducible rfl
         rotate_left
         · simp only [Act.put, sA_, sB_, sC_, i64_w, i32_w]
           rfl
         refine pure_ (i := 6) (N := some 89) (v := ?_) (a' := ?_) #[T_, T_, F_, F_, T_, T_, T_, F_, F_] rfl rfl (any_of HT_.out (by kernel_rfl)) (fun _ _ _ h => h) (Or.inl ⟨by rfl, ?_⟩) ?_ ?_
         rotate_left
         · intro w'
           go_simp
           with_reducible rfl
         rotate_left
         · simp only [Act.put, sA_, sB_, sC_, i64_w, i32_w]
           rfl
         refine one_ (i := 2) (N := some 85) #[T_, T_, T_, F_, T_, T_, T_, F_, F_] rfl rfl (one_of HT_.out (by kernel_rfl)) (by decide) (fun K hK => ?_)
         refine goes_ Tryz.func38 (by kernel_rfl) rfl #[.slice A0_0 l0_0.length c0_0] (by rfl) rfl rfl (by (try simp only [mA_, List.map_cons, List.map_nil]); first | done | rfl | (simp only [lD_, lT_]; rfl)) ?_
         with_reducible refine (spec_l7Order.calls k3 _ _ l0_0 t199 _ ?side1 ?side2 A53.out).mono ?_
         (case side1 => repeat (first | exact (Kd.C_below HR0_0.out HB.out) | (with_reducible refine Kd.C_alloc ?_ _) | (with_reducible refine Kd.C_drewN ?_ _) | (with_reducible refine Kd.C_drew ?_)))
         (case side2 => exact HC0_0.out)
         rintro e w56 ⟨v200, rfl, ho0, hb⟩
         refine ⟨_, rfl, ?_⟩
         have n0_ := aM_ (Kd.R_lower ho0 (bZ_ (by repeat (first | (with_reducible first | exact HB.out | apply bA_ | apply bN_ | apply b1_ | refine bS_ ?_ GE196.out) | exact HB.out))))
         have n1_ := aM_ (blk_below (g := gb196) (o := .cells #[.slice A0_0 l0_0.length c0_0, .slice A0_1 l0_1.length c0_1] 31 (0, 0)) (by (with_reducible repeat (first | refine kN_ ?_ _ | refine kD_ ?_ | refine kA_ ?_ _)); exact BK196.out) hb)
         have n2_ := aM_ (bT_ (by repeat (first | (with_reducible first | exact HB.out | apply bA_ | apply bN_ | apply b1_ | refine bS_ ?_ GE196.out) | exact HB.out)) hb)
         clear BK196 HB
         revert n0_ n1_ n2_
         intro HO201 BK196 HB
         (try clear hb)
         (try clear hb2)
         (try clear hk)
         (try clear hi)
         (try clear ho0)
         obtain ⟨Ao57, co57, eo57⟩ := Kd.R_slice HO201.out
         (first | subst eo57 | (injection eo57 with f1_ f2_ f3_; have f4_ := f1_.symm; have f5_ := f3_.symm; clear f1_ f2_ f3_; subst f4_; subst f5_))
         refine hK.out _ _ ⟨(kC_ BK196.out 0).trans rfl, (kC_ BK196.out 1).trans rfl⟩ (fun hHeld => ?_)
         clear hK K
         refine norm_ (a' := ?_) ?_ ?_
         rotate_left
         · show Act.put _ (some 85) _ = _
           simp only [Act.put, sA_, sB_, sC_, i64_w, i32_w]
           rfl
         refine pure_ (i := 3) (N := some 86) (v := ?_) (a' := ?_) #[T_, T_, T_, T_, T_, T_, T_, F_, F_] rfl rfl (any_of HT_.out (by kernel_rfl)) (fun _ _ _ h => h) (Or.inl ⟨by rfl, ?_⟩) ?_ ?_
         rotate_left
         · intro w'
           go_simp
           with_reducible rfl
         rotate_left
         · simp only [Act.put, sA_, sB_, sC_, i64_w, i32_w]
           rfl
         refine pure_ (i := 7) (N := some 90) (v := ?_) (a' := ?_) #[T_, T_, T_, T_, T_, T_, T_, T_, F_] rfl rfl (any_of HT_.out (by kernel_rfl)) (fun _ _ _ h => h) (Or.inl ⟨by rfl, ?_⟩) ?_ ?_
         rotate_left
         · intro w'
           go_simp
           with_reducible rfl
         rotate_left
         · simp only [Act.put, sA_, sB_, sC_, i64_w, i32_w]
           rfl
         refine pure_ (i := 8) (N := some 2) (v := ?_) (a' := ?_) #[T_, T_, T_, T_, T_, T_, T_, T_, T_] rfl rfl (any_of HT_.out (by kernel_rfl)) (fun _ _ _ h => h) (Or.inl ⟨by rfl, ?_⟩) ?_ ?_
         rotate_left
         · intro w'
           go_simp
           with_reducible rfl
         rotate_left
         · simp only [Act.put, sA_, sB_, sC_, i64_w, i32_w]
           rfl
         refine done_ (done_of HT_.out (by kernel_rfl)) ?_
         try go_wp2
         go_ret
         exact ⟨by first | rfl | (simp [errW_none, errW_some] <;> rfl) | (simp [*, errW_none, errW_some] <;> rfl), by repeat (first | (with_reducible first | exact HB.out | apply bA_ | apply bN_ | apply b1_ | refine bS_ ?_ GE196.out) | exact HB.out)⟩
       rw [if_pos c19] at H
       have c19b0 : decide (x4_3 < (l0_1.length : Int)) = true := dT_ c19
       clear c19
       by_cases c20 : 0 ≤ x4_3
       rotate_left
       · rw [if_neg c20] at H
         exact absurd H (by simp)
       rw [if_pos c20] at H
       have c20b0 : decide (0 ≤ x4_3) = true := dT_ c20
       clear c20
       have HC21 := aM_ H
       clear H
       (obtain ⟨hcz22_0, hcz22_1⟩ := cells2 BK196.out)
       (obtain ⟨hfz22_0, hfz22_1⟩ := frozen2 BK196.out)
       have p202 : 0 ≤ (x4_3 : Int) := oD_ (by first | (with_reducible assumption) | assumption)
       have q202 : x4_3 < (l0_1.length : Int) := oD_ (by first | (with_reducible assumption) | assumption)
       obtain ⟨ad202, e202, hx202_0, hx202_1, hx202_2⟩ := at_T66 HR0_1.out x4_3 p202 q202
       cases e202
       replace hx202_0 := (HB.out.cell (bL_ w _ hx202_0)).trans hx202_0
       replace hx202_1 := (HB.out.cell (bL_ w _ hx202_1)).trans hx202_1
       replace hx202_2 := (HB.out.cell (bL_ w _ hx202_2)).trans hx202_2
       replace p202 := eq_true p202
       replace q202 := eq_true q202
       go_upto_region 12 with (first | ((with_reducible refine gate_dst (N := 5) rfl ?_); (try (refine gate_guard (by rfl) ?_; dsimp only)); refine box_event ?hg (N := 5) ?hd (cs := #[.int .i64 0, .int .i64 0, .int .i64 0]) (t := 66) ?hr ?_; (case hd => rfl); (case hg => rfl); (case hr => first | (go_simp; done) | (go_simp; rfl)); intro gb203 hg w23 hbox hb; have n0_ := aM_ (blk_below (g := gb196) (o := .cells #[.slice A0_0 l0_0.length c0_0, .slice (some ad202) l0_1.length c0_1] 31 (0, 0)) (by (with_reducible repeat (first | refine kN_ ?_ _ | refine kD_ ?_ | refine kA_ ?_ _)); exact BK196.out) hb); have n1_ := aM_ (bT_ (by repeat (first | (with_reducible first | exact HB.out | apply bA_ | apply bN_ | apply b1_ | refine bS_ ?_ GE196.out) | exact HB.out)) hb); have n2_ := aM_ (hbox); have n3_ := aM_ ((by rw [hg]; exact (bZ_ (by repeat (first | (with_reducible first | exact HB.out | apply bA_ | apply bN_ | apply b1_ | refine bS_ ?_ GE196.out) | exact HB.out))) : w.heap.size ≤ gb203)); have n4_ := aM_ ((by rw [hg]; exact (bZ_ (by repeat (first | (with_reducible first | exact HB.out | apply bA_ | apply bN_ | apply b1_ | refine bS_ ?_ GE196.out) | exact HB.out))) : w.heap.size ≤ gb203)); have n5_ := aM_ ((by rw [hg]; exact Nat.ne_of_lt (blk_lt (g := gb196) (o := .cells #[.slice A0_0 l0_0.length c0_0, .slice (some ad202) l0_1.length c0_1] 31 (0, 0)) (by (with_reducible repeat (first | refine kN_ ?_ _ | refine kD_ ?_ | refine kA_ ?_ _)); exact BK196.out)) : gb196 ≠ gb203)); have n6_ := aM_ ((by rw [hg]; exact Nat.ne_of_gt (blk_lt (g := gb196) (o := .cells #[.slice A0_0 l0_0.length c0_0, .slice (some ad202) l0_1.length c0_1] 31 (0, 0)) (by (with_reducible repeat (first | refine kN_ ?_ _ | refine kD_ ?_ | refine kA_ ?_ _)); exact BK196.out)) : gb203 ≠ gb196)); clear BK196 HB; have BK196 := n0_; have HB := n1_; have BK203 := n2_; have GW203 := n3_; have GE203 := n4_; have NB196_203 := n5_; have NB203_196 := n6_; clear n0_ n1_ n2_ n3_ n4_ n5_ n6_ hb hbox hg; have hnb24 := NB203_196.out; have hnc24 := NB196_203.out; (obtain ⟨hcz25_0, hcz25_1, hcz25_2⟩ := cells3 BK203.out); (obtain ⟨hfz25_0, hfz25_1, hfz25_2⟩ := frozen3 BK203.out)))
       (try simp only [Act.put, sA_, sB_, sC_])
       go_cut [68] (fun v68 wc => ∃ (kq : Nat) (x68_20 : Bool), v68 = .bool x68_20 ∧ Aside0 (spec_NetOk.j3 kq x4_3 x68_20 l0_0 l0_1 ((rd_T66 l0_1 x4_3).f0.f0) ((rd_T66 l0_1 x4_3).f0.f1) ((rd_T66 l0_1 x4_3).f1) = some r) ∧ Aside0 (kq ≤ k3) ∧ Aside0 (wc.heap[gb196]? = some (.cells #[(.slice A0_0 l0_0.length c0_0), (.slice (some ad202) l0_1.length c0_1)] 31 (0, 0))) ∧ Aside0 (wc.heap[gb203]? = some (.cells #[.int .i64 ((rd_T66 l0_1 x4_3).f0.f0), .int .i64 ((rd_T66 l0_1 x4_3).f0.f1), .int .i64 ((rd_T66 l0_1 x4_3).f1)] 66 (0, 0))) ∧ Aside0 (Below w.heap.size w wc))
       case first =>
        have H := HC21.out
        clear HC21
        replace H := Option.bind_eq_some_iff.mp H
        obtain ⟨t204, A260, H⟩ := H
        replace H : (if t204 = true then (if ((rd_T66 l0_1 x4_3).f0.f0) = 1 then (spec_NetOk.j3 k3 x4_3 true l0_0 l0_1 ((rd_T66 l0_1 x4_3).f0.f0) ((rd_T66 l0_1 x4_3).f0.f1) ((rd_T66 l0_1 x4_3).f1)) else (if ((rd_T66 l0_1 x4_3).f1) < 0 then (spec_NetOk.j3 k3 x4_3 true l0_0 l0_1 ((rd_T66 l0_1 x4_3).f0.f0) ((rd_T66 l0_1 x4_3).f0.f1) ((rd_T66 l0_1 x4_3).f1)) else (spec_NetOk.j3 k3 x4_3 (decide (((rd_T66 l0_1 x4_3).f1) ≥ (l0_0.length : Int))) l0_0 l0_1 ((rd_T66 l0_1 x4_3).f0.f0) ((rd_T66 l0_1 x4_3).f0.f1) ((rd_T66 l0_1 x4_3).f1)))) else (spec_NetOk.j3 k3 x4_3 true l0_0 l0_1 ((rd_T66 l0_1 x4_3).f0.f0) ((rd_T66 l0_1 x4_3).f0.f1) ((rd_T66 l0_1 x4_3).f1))) = some r := H
        have A26 := aM_ A260
        clear A260
        by_cases c27 : t204 = true
        rotate_left
        · replace c27 := Bool.eq_false_iff.mpr c27
          subst c27
          have H1 : (spec_NetOk.j3 k3 x4_3 true l0_0 l0_1 ((rd_T66 l0_1 x4_3).f0.f0) ((rd_T66 l0_1 x4_3).f0.f1) ((rd_T66 l0_1 x4_3).f1)) = some r := by rw [if_neg (show ¬ (false = true) by decide)] at H; exact H
          clear H
          have H := H1
          clear H1
          have H' := aM_ H
          clear H
          have hnb43 := NB203_196.out
          have hnc43 := NB196_203.out
          (obtain ⟨hcz44_0, hcz44_1, hcz44_2⟩ := cells3 BK203.out)
          (obtain ⟨hfz44_0, hfz44_1, hfz44_2⟩ := frozen3 BK203.out)
          go_wp2_with (first | ((with_reducible refine gate_callee (f := 37) rfl ?_); refine goesL_ (some 48) rfl rfl Tryz.func37 (by kernel_rfl) rfl #[.agg #[.int .i64 ((rd_T66 l0_1 x4_3).f0.f0), .int .i64 ((rd_T66 l0_1 x4_3).f0.f1)]] rfl (by (try simp only [mA_, List.map_cons, List.map_nil]); first | done | rfl | (simp only [lD_, lT_]; rfl)) ?_; (with_reducible refine (spec_AddrOk.calls ((rd_T66 l0_1 x4_3).f0.f0) ((rd_T66 l0_1 x4_3).f0.f1) false _ A26.out).mono ?_); rintro e w45 ⟨rfl, hb⟩; refine ⟨_, rfl, ?_⟩; have n0_ := aM_ (blk_below (g := gb196) (o := .cells #[.slice A0_0 l0_0.length c0_0, .slice (some ad202) l0_1.length c0_1] 31 (0, 0)) (by (with_reducible repeat (first | refine kN_ ?_ _ | refine kD_ ?_ | refine kA_ ?_ _)); refine blk_far ?_ NB196_203.out _; (with_reducible repeat (first | refine kN_ ?_ _ | refine kD_ ?_ | refine kA_ ?_ _)); refine blk_far ?_ NB196_203.out _; (with_reducible repeat (first | refine kN_ ?_ _ | refine kD_ ?_ | refine kA_ ?_ _)); refine blk_far ?_ NB196_203.out _; (with_reducible repeat (first | refine kN_ ?_ _ | refine kD_ ?_ | refine kA_ ?_ _)); exact BK196.out) hb); have n1_ := aM_ (blk_below (g := gb203) (o := .cells #[.int .i64 ((rd_T66 l0_1 x4_3).f0.f0), .int .i64 ((rd_T66 l0_1 x4_3).f0.f1), .int .i64 ((rd_T66 l0_1 x4_3).f1)] 66 (0, 0)) (by (with_reducible repeat (first | refine kN_ ?_ _ | refine kD_ ?_ | refine kA_ ?_ _)); refine kP_ (cs := #[.int .i64 ((rd_T66 l0_1 x4_3).f0.f0), .int .i64 ((rd_T66 l0_1 x4_3).f0.f1), .int .i64 0]) ?_ 2 _ rfl; (with_reducible repeat (first | refine kN_ ?_ _ | refine kD_ ?_ | refine kA_ ?_ _)); refine kP_ (cs := #[.int .i64 ((rd_T66 l0_1 x4_3).f0.f0), .int .i64 0, .int .i64 0]) ?_ 1 _ rfl; (with_reducible repeat (first | refine kN_ ?_ _ | refine kD_ ?_ | refine kA_ ?_ _)); refine kP_ (cs := #[.int .i64 0, .int .i64 0, .int .i64 0]) ?_ 0 _ rfl; (with_reducible repeat (first | refine kN_ ?_ _ | refine kD_ ?_ | refine kA_ ?_ _)); exact BK203.out) hb); have n2_ := aM_ (bT_ (by repeat (first | (with_reducible first | exact HB.out | apply bA_ | apply bN_ | apply b1_ | refine bS_ ?_ GE196.out | refine bS_ ?_ GE203.out) | exact HB.out)) hb); clear BK196 BK203 HB; revert n0_ n1_ n2_; intro BK196 BK203 HB; (try clear hb); (try clear hb2); (try clear hk); (try clear hi)))
          go_meet
          case rel => exact ⟨_, (true), (by first | rfl | (simp; done) | (simp [*]; done)), H', ⟨by have := HJ1.out; have := HK2.out; have := HK3.out; first | omega | exact Nat.le_refl _⟩, ⟨by (with_reducible repeat (first | refine kN_ ?_ _ | refine kD_ ?_ | refine kA_ ?_ _)); exact BK196.out⟩, ⟨by (with_reducible repeat (first | refine kN_ ?_ _ | refine kD_ ?_ | refine kA_ ?_ _)); exact BK203.out⟩, ⟨by repeat (first | (with_reducible first | exact HB.out | apply bA_ | apply bN_ | apply b1_ | refine bS_ ?_ GE196.out | refine bS_ ?_ GE203.out) | exact HB.out)⟩⟩
        subst c27
        have H1 : (if ((rd_T66 l0_1 x4_3).f0.f0) = 1 then (spec_NetOk.j3 k3 x4_3 true l0_0 l0_1 ((rd_T66 l0_1 x4_3).f0.f0) ((rd_T66 l0_1 x4_3).f0.f1) ((rd_T66 l0_1 x4_3).f1)) else (if ((rd_T66 l0_1 x4_3).f1) < 0 then (spec_NetOk.j3 k3 x4_3 true l0_0 l0_1 ((rd_T66 l0_1 x4_3).f0.f0) ((rd_T66 l0_1 x4_3).f0.f1) ((rd_T66 l0_1 x4_3).f1)) else (spec_NetOk.j3 k3 x4_3 (decide (((rd_T66 l0_1 x4_3).f1) ≥ (l0_0.length : Int))) l0_0 l0_1 ((rd_T66 l0_1 x4_3).f0.f0) ((rd_T66 l0_1 x4_3).f0.f1) ((rd_T66 l0_1 x4_3).f1)))) = some r := by rw [if_pos rfl] at H; exact H
        clear H
        have H := H1
        clear H1
        by_cases c28 : ((rd_T66 l0_1 x4_3).f0.f0) = 1
        · rw [if_pos c28] at H
          have c28b0 : (((rd_T66 l0_1 x4_3).f0.f0) == 1) = true := beq_iff_eq.mpr c28
          have c28b1 : (((rd_T66 l0_1 x4_3).f0.f0) != 1) = false := bne_eq_false_iff_eq.mpr c28
          clear c28
          (first | rw [c28b0] | (simp only [i64_w, i32_w]; rw [c28b0]) | skip)
          have H' := aM_ H
          clear H
          have hnb29 := NB203_196.out
          have hnc29 := NB196_203.out
          (obtain ⟨hcz30_0, hcz30_1, hcz30_2⟩ := cells3 BK203.out)
          (obtain ⟨hfz30_0, hfz30_1, hfz30_2⟩ := frozen3 BK203.out)
          go_wp2_with (first | ((with_reducible refine gate_callee (f := 37) rfl ?_); refine goesL_ (some 48) rfl rfl Tryz.func37 (by kernel_rfl) rfl #[.agg #[.int .i64 ((rd_T66 l0_1 x4_3).f0.f0), .int .i64 ((rd_T66 l0_1 x4_3).f0.f1)]] rfl (by (try simp only [mA_, List.map_cons, List.map_nil]); first | done | rfl | (simp only [lD_, lT_]; rfl)) ?_; (with_reducible refine (spec_AddrOk.calls ((rd_T66 l0_1 x4_3).f0.f0) ((rd_T66 l0_1 x4_3).f0.f1) true _ A26.out).mono ?_); rintro e w31 ⟨rfl, hb⟩; refine ⟨_, rfl, ?_⟩; have n0_ := aM_ (blk_below (g := gb196) (o := .cells #[.slice A0_0 l0_0.length c0_0, .slice (some ad202) l0_1.length c0_1] 31 (0, 0)) (by (with_reducible repeat (first | refine kN_ ?_ _ | refine kD_ ?_ | refine kA_ ?_ _)); refine blk_far ?_ NB196_203.out _; (with_reducible repeat (first | refine kN_ ?_ _ | refine kD_ ?_ | refine kA_ ?_ _)); refine blk_far ?_ NB196_203.out _; (with_reducible repeat (first | refine kN_ ?_ _ | refine kD_ ?_ | refine kA_ ?_ _)); refine blk_far ?_ NB196_203.out _; (with_reducible repeat (first | refine kN_ ?_ _ | refine kD_ ?_ | refine kA_ ?_ _)); exact BK196.out) hb); have n1_ := aM_ (blk_below (g := gb203) (o := .cells #[.int .i64 ((rd_T66 l0_1 x4_3).f0.f0), .int .i64 ((rd_T66 l0_1 x4_3).f0.f1), .int .i64 ((rd_T66 l0_1 x4_3).f1)] 66 (0, 0)) (by (with_reducible repeat (first | refine kN_ ?_ _ | refine kD_ ?_ | refine kA_ ?_ _)); refine kP_ (cs := #[.int .i64 ((rd_T66 l0_1 x4_3).f0.f0), .int .i64 ((rd_T66 l0_1 x4_3).f0.f1), .int .i64 0]) ?_ 2 _ rfl; (with_reducible repeat (first | refine kN_ ?_ _ | refine kD_ ?_ | refine kA_ ?_ _)); refine kP_ (cs := #[.int .i64 ((rd_T66 l0_1 x4_3).f0.f0), .int .i64 0, .int .i64 0]) ?_ 1 _ rfl; (with_reducible repeat (first | refine kN_ ?_ _ | refine kD_ ?_ | refine kA_ ?_ _)); refine kP_ (cs := #[.int .i64 0, .int .i64 0, .int .i64 0]) ?_ 0 _ rfl; (with_reducible repeat (first | refine kN_ ?_ _ | refine kD_ ?_ | refine kA_ ?_ _)); exact BK203.out) hb); have n2_ := aM_ (bT_ (by repeat (first | (with_reducible first | exact HB.out | apply bA_ | apply bN_ | apply b1_ | refine bS_ ?_ GE196.out | refine bS_ ?_ GE203.out) | exact HB.out)) hb); clear BK196 BK203 HB; revert n0_ n1_ n2_; intro BK196 BK203 HB; (try clear hb); (try clear hb2); (try clear hk); (try clear hi); (obtain ⟨hcz32_0, hcz32_1, hcz32_2⟩ := cells3 BK203.out); (obtain ⟨hfz32_0, hfz32_1, hfz32_2⟩ := frozen3 BK203.out)))
          go_meet
          case rel => exact ⟨_, (true), (by first | rfl | (simp; done) | (simp [*]; done)), H', ⟨by have := HJ1.out; have := HK2.out; have := HK3.out; first | omega | exact Nat.le_refl _⟩, ⟨by (with_reducible repeat (first | refine kN_ ?_ _ | refine kD_ ?_ | refine kA_ ?_ _)); exact BK196.out⟩, ⟨by (with_reducible repeat (first | refine kN_ ?_ _ | refine kD_ ?_ | refine kA_ ?_ _)); exact BK203.out⟩, ⟨by repeat (first | (with_reducible first | exact HB.out | apply bA_ | apply bN_ | apply b1_ | refine bS_ ?_ GE196.out | refine bS_ ?_ GE203.out) | exact HB.out)⟩⟩
        rw [if_neg c28] at H
        have c28b0 : (((rd_T66 l0_1 x4_3).f0.f0) == 1) = false := beq_eq_false_iff_ne.mpr c28
        have c28b1 : (((rd_T66 l0_1 x4_3).f0.f0) != 1) = true := bne_iff_ne.mpr c28
        (first | rw [c28b0] | (simp only [i64_w, i32_w]; rw [c28b0]) | skip)
        by_cases c33 : ((rd_T66 l0_1 x4_3).f1) < 0
        · rw [if_pos c33] at H
          have c33b0 : decide (((rd_T66 l0_1 x4_3).f1) < 0) = true := dT_ c33
          clear c33
          have H' := aM_ H
          clear H
          have hnb34 := NB203_196.out
          have hnc34 := NB196_203.out
          (obtain ⟨hcz35_0, hcz35_1, hcz35_2⟩ := cells3 BK203.out)
          (obtain ⟨hfz35_0, hfz35_1, hfz35_2⟩ := frozen3 BK203.out)
          go_wp2_with (first | ((with_reducible refine gate_callee (f := 37) rfl ?_); refine goesL_ (some 48) rfl rfl Tryz.func37 (by kernel_rfl) rfl #[.agg #[.int .i64 ((rd_T66 l0_1 x4_3).f0.f0), .int .i64 ((rd_T66 l0_1 x4_3).f0.f1)]] rfl (by (try simp only [mA_, List.map_cons, List.map_nil]); first | done | rfl | (simp only [lD_, lT_]; rfl)) ?_; (with_reducible refine (spec_AddrOk.calls ((rd_T66 l0_1 x4_3).f0.f0) ((rd_T66 l0_1 x4_3).f0.f1) true _ A26.out).mono ?_); rintro e w36 ⟨rfl, hb⟩; refine ⟨_, rfl, ?_⟩; have n0_ := aM_ (blk_below (g := gb196) (o := .cells #[.slice A0_0 l0_0.length c0_0, .slice (some ad202) l0_1.length c0_1] 31 (0, 0)) (by (with_reducible repeat (first | refine kN_ ?_ _ | refine kD_ ?_ | refine kA_ ?_ _)); refine blk_far ?_ NB196_203.out _; (with_reducible repeat (first | refine kN_ ?_ _ | refine kD_ ?_ | refine kA_ ?_ _)); refine blk_far ?_ NB196_203.out _; (with_reducible repeat (first | refine kN_ ?_ _ | refine kD_ ?_ | refine kA_ ?_ _)); refine blk_far ?_ NB196_203.out _; (with_reducible repeat (first | refine kN_ ?_ _ | refine kD_ ?_ | refine kA_ ?_ _)); exact BK196.out) hb); have n1_ := aM_ (blk_below (g := gb203) (o := .cells #[.int .i64 ((rd_T66 l0_1 x4_3).f0.f0), .int .i64 ((rd_T66 l0_1 x4_3).f0.f1), .int .i64 ((rd_T66 l0_1 x4_3).f1)] 66 (0, 0)) (by (with_reducible repeat (first | refine kN_ ?_ _ | refine kD_ ?_ | refine kA_ ?_ _)); refine kP_ (cs := #[.int .i64 ((rd_T66 l0_1 x4_3).f0.f0), .int .i64 ((rd_T66 l0_1 x4_3).f0.f1), .int .i64 0]) ?_ 2 _ rfl; (with_reducible repeat (first | refine kN_ ?_ _ | refine kD_ ?_ | refine kA_ ?_ _)); refine kP_ (cs := #[.int .i64 ((rd_T66 l0_1 x4_3).f0.f0), .int .i64 0, .int .i64 0]) ?_ 1 _ rfl; (with_reducible repeat (first | refine kN_ ?_ _ | refine kD_ ?_ | refine kA_ ?_ _)); refine kP_ (cs := #[.int .i64 0, .int .i64 0, .int .i64 0]) ?_ 0 _ rfl; (with_reducible repeat (first | refine kN_ ?_ _ | refine kD_ ?_ | refine kA_ ?_ _)); exact BK203.out) hb); have n2_ := aM_ (bT_ (by repeat (first | (with_reducible first | exact HB.out | apply bA_ | apply bN_ | apply b1_ | refine bS_ ?_ GE196.out | refine bS_ ?_ GE203.out) | exact HB.out)) hb); clear BK196 BK203 HB; revert n0_ n1_ n2_; intro BK196 BK203 HB; (try clear hb); (try clear hb2); (try clear hk); (try clear hi); (obtain ⟨hcz37_0, hcz37_1, hcz37_2⟩ := cells3 BK203.out); (obtain ⟨hfz37_0, hfz37_1, hfz37_2⟩ := frozen3 BK203.out)))
          go_meet
          case rel => exact ⟨_, (true), (by first | rfl | (simp; done) | (simp [*]; done)), H', ⟨by have := HJ1.out; have := HK2.out; have := HK3.out; first | omega | exact Nat.le_refl _⟩, ⟨by (with_reducible repeat (first | refine kN_ ?_ _ | refine kD_ ?_ | refine kA_ ?_ _)); exact BK196.out⟩, ⟨by (with_reducible repeat (first | refine kN_ ?_ _ | refine kD_ ?_ | refine kA_ ?_ _)); exact BK203.out⟩, ⟨by repeat (first | (with_reducible first | exact HB.out | apply bA_ | apply bN_ | apply b1_ | refine bS_ ?_ GE196.out | refine bS_ ?_ GE203.out) | exact HB.out)⟩⟩
        rw [if_neg c33] at H
        have c33b0 : decide (((rd_T66 l0_1 x4_3).f1) < 0) = false := dF_ c33
        clear c33
        have H' := aM_ H
        clear H
        have hnb38 := NB203_196.out
        have hnc38 := NB196_203.out
        (obtain ⟨hcz39_0, hcz39_1, hcz39_2⟩ := cells3 BK203.out)
        (obtain ⟨hfz39_0, hfz39_1, hfz39_2⟩ := frozen3 BK203.out)
        go_wp2_with (first | ((with_reducible refine gate_callee (f := 37) rfl ?_); refine goesL_ (some 48) rfl rfl Tryz.func37 (by kernel_rfl) rfl #[.agg #[.int .i64 ((rd_T66 l0_1 x4_3).f0.f0), .int .i64 ((rd_T66 l0_1 x4_3).f0.f1)]] rfl (by (try simp only [mA_, List.map_cons, List.map_nil]); first | done | rfl | (simp only [lD_, lT_]; rfl)) ?_; (with_reducible refine (spec_AddrOk.calls ((rd_T66 l0_1 x4_3).f0.f0) ((rd_T66 l0_1 x4_3).f0.f1) true _ A26.out).mono ?_); rintro e w40 ⟨rfl, hb⟩; refine ⟨_, rfl, ?_⟩; have n0_ := aM_ (blk_below (g := gb196) (o := .cells #[.slice A0_0 l0_0.length c0_0, .slice (some ad202) l0_1.length c0_1] 31 (0, 0)) (by (with_reducible repeat (first | refine kN_ ?_ _ | refine kD_ ?_ | refine kA_ ?_ _)); refine blk_far ?_ NB196_203.out _; (with_reducible repeat (first | refine kN_ ?_ _ | refine kD_ ?_ | refine kA_ ?_ _)); refine blk_far ?_ NB196_203.out _; (with_reducible repeat (first | refine kN_ ?_ _ | refine kD_ ?_ | refine kA_ ?_ _)); refine blk_far ?_ NB196_203.out _; (with_reducible repeat (first | refine kN_ ?_ _ | refine kD_ ?_ | refine kA_ ?_ _)); exact BK196.out) hb); have n1_ := aM_ (blk_below (g := gb203) (o := .cells #[.int .i64 ((rd_T66 l0_1 x4_3).f0.f0), .int .i64 ((rd_T66 l0_1 x4_3).f0.f1), .int .i64 ((rd_T66 l0_1 x4_3).f1)] 66 (0, 0)) (by (with_reducible repeat (first | refine kN_ ?_ _ | refine kD_ ?_ | refine kA_ ?_ _)); refine kP_ (cs := #[.int .i64 ((rd_T66 l0_1 x4_3).f0.f0), .int .i64 ((rd_T66 l0_1 x4_3).f0.f1), .int .i64 0]) ?_ 2 _ rfl; (with_reducible repeat (first | refine kN_ ?_ _ | refine kD_ ?_ | refine kA_ ?_ _)); refine kP_ (cs := #[.int .i64 ((rd_T66 l0_1 x4_3).f0.f0), .int .i64 0, .int .i64 0]) ?_ 1 _ rfl; (with_reducible repeat (first | refine kN_ ?_ _ | refine kD_ ?_ | refine kA_ ?_ _)); refine kP_ (cs := #[.int .i64 0, .int .i64 0, .int .i64 0]) ?_ 0 _ rfl; (with_reducible repeat (first | refine kN_ ?_ _ | refine kD_ ?_ | refine kA_ ?_ _)); exact BK203.out) hb); have n2_ := aM_ (bT_ (by repeat (first | (with_reducible first | exact HB.out | apply bA_ | apply bN_ | apply b1_ | refine bS_ ?_ GE196.out | refine bS_ ?_ GE203.out) | exact HB.out)) hb); clear BK196 BK203 HB; revert n0_ n1_ n2_; intro BK196 BK203 HB; (try clear hb); (try clear hb2); (try clear hk); (try clear hi); (obtain ⟨hcz41_0, hcz41_1, hcz41_2⟩ := cells3 BK203.out); (obtain ⟨hfz41_0, hfz41_1, hfz41_2⟩ := frozen3 BK203.out); (obtain ⟨hcz42_0, hcz42_1⟩ := cells2 BK196.out); (obtain ⟨hfz42_0, hfz42_1⟩ := frozen2 BK196.out)))
        go_meet
        case rel => exact ⟨_, (decide (((rd_T66 l0_1 x4_3).f1) ≥ (l0_0.length : Int))), (by first | rfl | (simp; done) | (simp [*]; done)), H', ⟨by have := HJ1.out; have := HK2.out; have := HK3.out; first | omega | exact Nat.le_refl _⟩, ⟨by (with_reducible repeat (first | refine kN_ ?_ _ | refine kD_ ?_ | refine kA_ ?_ _)); exact BK196.out⟩, ⟨by (with_reducible repeat (first | refine kN_ ?_ _ | refine kD_ ?_ | refine kA_ ?_ _)); exact BK203.out⟩, ⟨by repeat (first | (with_reducible first | exact HB.out | apply bA_ | apply bN_ | apply b1_ | refine bS_ ?_ GE196.out | refine bS_ ?_ GE203.out) | exact HB.out)⟩⟩
       case rest =>
        clear HC21
        try clear c1
        try clear p1
        try clear q1
        try clear hx1
        try clear c2
        try clear p2
        try clear q2
        try clear hx2
        try clear c3
        try clear c4
        try clear c4b0
        try clear c4b1
        try clear p6
        try clear c7
        try clear c8
        try clear c8b0
        try clear c9
        try clear c9b0
        try clear c11
        try clear c13
        try clear c19
        try clear c19b0
        try clear p19
        try clear q19
        try clear hx19
        try clear c20
        try clear c20b0
        try clear p20
        try clear q20
        try clear hx20
        try clear c24
        try clear c27
        try clear c28
        try clear c28b0
        try clear c28b1
        try clear c29
        try clear c33
        try clear c33b0
        try clear c34
        try clear c36
        try clear c37
        try clear c38
        try clear c43
        try clear hcz12_0
        try clear hcz12_1
        try clear hcz15_0
        try clear hcz15_1
        try clear hcz18_0
        try clear hcz18_1
        try clear hcz22_0
        try clear hcz22_1
        try clear hcz25_0
        try clear hcz25_1
        try clear hcz25_2
        try clear hcz30_0
        try clear hcz30_1
        try clear hcz30_2
        try clear hcz32_0
        try clear hcz32_1
        try clear hcz32_2
        try clear hcz35_0
        try clear hcz35_1
        try clear hcz35_2
        try clear hcz37_0
        try clear hcz37_1
        try clear hcz37_2
        try clear hcz39_0
        try clear hcz39_1
        try clear hcz39_2
        try clear hcz41_0
        try clear hcz41_1
        try clear hcz41_2
        try clear hcz42_0
        try clear hcz42_1
        try clear hcz44_0
        try clear hcz44_1
        try clear hcz44_2
        try clear hcz5_0
        try clear hcz5_1
        try clear hcz6_0
        try clear hcz6_1
        try clear hfz12_0
        try clear hfz12_1
        try clear hfz15_0
        try clear hfz15_1
        try clear hfz18_0
        try clear hfz18_1
        try clear hfz22_0
        try clear hfz22_1
        try clear hfz25_0
        try clear hfz25_1
        try clear hfz25_2
        try clear hfz30_0
        try clear hfz30_1
        try clear hfz30_2
        try clear hfz32_0
        try clear hfz32_1
        try clear hfz32_2
        try clear hfz35_0
        try clear hfz35_1
        try clear hfz35_2
        try clear hfz37_0
        try clear hfz37_1
        try clear hfz37_2
        try clear hfz39_0
        try clear hfz39_1
        try clear hfz39_2
        try clear hfz41_0
        try clear hfz41_1
        try clear hfz41_2
        try clear hfz42_0
        try clear hfz42_1
        try clear hfz44_0
        try clear hfz44_1
        try clear hfz44_2
        try clear hfz5_0
        try clear hfz5_1
        try clear hfz6_0
        try clear hfz6_1
        try clear hx197_0
        try clear hx197_1
        try clear hx197_10
        try clear hx197_11
        try clear hx197_2
        try clear hx197_3
        try clear hx197_4
        try clear hx197_5
        try clear hx197_6
        try clear hx197_7
        try clear hx197_8
        try clear hx197_9
        try clear hx202_0
        try clear hx202_1
        try clear hx202_2
        try clear p1
        try clear p197
        try clear p2
        try clear p202
        try clear p6
        try clear q1
        try clear q197
        try clear q202
        obtain ⟨kq, x68_20, rfl, HA, HJ20, BK196, BK203, HB⟩ := hcut
        cases kq with
        | zero => exact absurd HA.out (by simp [spec_NetOk.j3])
        | succ kj20 =>
         have H := HA.out
         clear HA
         simp only [spec_NetOk.j3] at H
         by_cases c46 : x68_20 = true
         · subst c46
           have H1 : (some false) = some r := by rw [if_pos rfl] at H; exact H
           clear H
           have H := H1
           clear H1
           obtain rfl := oI_ H
           go_wp2
           go_ret
           exact ⟨by first | rfl | (simp [errW_none, errW_some] <;> rfl) | (simp [*, errW_none, errW_some] <;> rfl), by repeat (first | (with_reducible first | exact HB.out | apply bA_ | apply bN_ | apply b1_ | refine bS_ ?_ GE196.out | refine bS_ ?_ GE203.out) | exact HB.out)⟩
         replace c46 := Bool.eq_false_iff.mpr c46
         subst c46
         have H1 : (spec_NetOk.l2 kj20 x4_3 0 l0_0 l0_1 ((rd_T66 l0_1 x4_3).f0.f0) ((rd_T66 l0_1 x4_3).f0.f1) ((rd_T66 l0_1 x4_3).f1)) = some r := by rw [if_neg (show ¬ (false = true) by decide)] at H; exact H
         clear H
         have H := H1
         clear H1
         have H' := aM_ H
         clear H
         go_wp2
         go_loopg [6] kj20 (fun kq v6 w' => ∃ (x6_5 : Int), v6 = .int .i64 x6_5 ∧ Aside0 (spec_NetOk.l2 kq x4_3 x6_5 l0_0 l0_1 ((rd_T66 l0_1 x4_3).f0.f0) ((rd_T66 l0_1 x4_3).f0.f1) ((rd_T66 l0_1 x4_3).f1) = some r) ∧ Aside0 (kq ≤ kj20) ∧ Aside0 (w'.heap[gb196]? = some (.cells #[(.slice A0_0 l0_0.length c0_0), (.slice (some ad202) l0_1.length c0_1)] 31 (0, 0))) ∧ Aside0 (w'.heap[gb203]? = some (.cells #[.int .i64 ((rd_T66 l0_1 x4_3).f0.f0), .int .i64 ((rd_T66 l0_1 x4_3).f0.f1), .int .i64 ((rd_T66 l0_1 x4_3).f1)] 66 (0, 0))) ∧ Aside0 (Below w.heap.size w w'))
         case atStart => exact ⟨(0), (by first | rfl | (simp; done) | (simp [*]; done)), H', ⟨Nat.le_refl _⟩, ⟨by (with_reducible repeat (first | refine kN_ ?_ _ | refine kD_ ?_ | refine kA_ ?_ _)); exact BK196.out⟩, ⟨by (with_reducible repeat (first | refine kN_ ?_ _ | refine kD_ ?_ | refine kA_ ?_ _)); exact BK203.out⟩, ⟨by repeat (first | (with_reducible first | exact HB.out | apply bA_ | apply bN_ | apply b1_ | refine bS_ ?_ GE196.out | refine bS_ ?_ GE203.out) | exact HB.out)⟩⟩
         case round =>
          clear H'
          try clear c1
          try clear p1
          try clear q1
          try clear hx1
          try clear c2
          try clear p2
          try clear q2
          try clear hx2
          try clear c3
          try clear c4
          try clear c4b0
          try clear c4b1
          try clear p6
          try clear c7
          try clear c8
          try clear c8b0
          try clear c9
          try clear c9b0
          try clear c11
          try clear c13
          try clear c19
          try clear c19b0
          try clear p19
          try clear q19
          try clear hx19
          try clear c20
          try clear c20b0
          try clear p20
          try clear q20
          try clear hx20
          try clear c24
          try clear c27
          try clear c28
          try clear c28b0
          try clear c28b1
          try clear c29
          try clear c33
          try clear c33b0
          try clear c34
          try clear c36
          try clear c37
          try clear c38
          try clear c43
          try clear c46
          try clear hcz12_0
          try clear hcz12_1
          try clear hcz15_0
          try clear hcz15_1
          try clear hcz18_0
          try clear hcz18_1
          try clear hcz22_0
          try clear hcz22_1
          try clear hcz25_0
          try clear hcz25_1
          try clear hcz25_2
          try clear hcz30_0
          try clear hcz30_1
          try clear hcz30_2
          try clear hcz32_0
          try clear hcz32_1
          try clear hcz32_2
          try clear hcz35_0
          try clear hcz35_1
          try clear hcz35_2
          try clear hcz37_0
          try clear hcz37_1
          try clear hcz37_2
          try clear hcz39_0
          try clear hcz39_1
          try clear hcz39_2
          try clear hcz41_0
          try clear hcz41_1
          try clear hcz41_2
          try clear hcz42_0
          try clear hcz42_1
          try clear hcz44_0
          try clear hcz44_1
          try clear hcz44_2
          try clear hcz5_0
          try clear hcz5_1
          try clear hcz6_0
          try clear hcz6_1
          try clear hfz12_0
          try clear hfz12_1
          try clear hfz15_0
          try clear hfz15_1
          try clear hfz18_0
          try clear hfz18_1
          try clear hfz22_0
          try clear hfz22_1
          try clear hfz25_0
          try clear hfz25_1
          try clear hfz25_2
          try clear hfz30_0
          try clear hfz30_1
          try clear hfz30_2
          try clear hfz32_0
          try clear hfz32_1
          try clear hfz32_2
          try clear hfz35_0
          try clear hfz35_1
          try clear hfz35_2
          try clear hfz37_0
          try clear hfz37_1
          try clear hfz37_2
          try clear hfz39_0
          try clear hfz39_1
          try clear hfz39_2
          try clear hfz41_0
          try clear hfz41_1
          try clear hfz41_2
          try clear hfz42_0
          try clear hfz42_1
          try clear hfz44_0
          try clear hfz44_1
          try clear hfz44_2
          try clear hfz5_0
          try clear hfz5_1
          try clear hfz6_0
          try clear hfz6_1
          try clear hx197_0
          try clear hx197_1
          try clear hx197_10
          try clear hx197_11
          try clear hx197_2
          try clear hx197_3
          try clear hx197_4
          try clear hx197_5
          try clear hx197_6
          try clear hx197_7
          try clear hx197_8
          try clear hx197_9
          try clear hx202_0
          try clear hx202_1
          try clear hx202_2
          try clear p1
          try clear p19
          try clear p197
          try clear p2
          try clear p20
          try clear p202
          try clear p6
          try clear q1
          try clear q19
          try clear q197
          try clear q2
          try clear q20
          try clear q202
          obtain ⟨x6_5, rfl, HA, HK5, BK196, BK203, HB⟩ := hrel
          cases gk with
          | zero => exact absurd HA.out (by simp [spec_NetOk.l2])
          | succ k5 =>
           have H := HA.out
           clear HA
           simp only [spec_NetOk.l2] at H
           by_cases c47 : x6_5 < x4_3
           rotate_left
           · rw [if_neg c47] at H
             have c47b0 : decide (x6_5 < x4_3) = false := dF_ c47
             clear c47
             have H' := aM_ H
             clear H
             go_wp2
             go_roundg k5
             case measure => have := HJ1.out; have := HK2.out; have := HK3.out; have := HJ20.out; have := HK5.out; omega
             case rel => exact ⟨(wrap64 (x4_3 + 1)), (by first | rfl | (simp; done) | (simp [*]; done)), H', ⟨by have := HJ1.out; have := HK2.out; have := HK3.out; have := HJ20.out; have := HK5.out; omega⟩, ⟨by (with_reducible repeat (first | refine kN_ ?_ _ | refine kD_ ?_ | refine kA_ ?_ _)); exact BK196.out⟩, ⟨by repeat (first | (with_reducible first | exact HB.out | apply bA_ | apply bN_ | apply b1_ | refine bS_ ?_ GE196.out | refine bS_ ?_ GE203.out) | exact HB.out)⟩⟩
           rw [if_pos c47] at H
           have c47b0 : decide (x6_5 < x4_3) = true := dT_ c47
           clear c47
           by_cases c48 : 0 ≤ x6_5
           rotate_left
           · rw [if_neg c48] at H
             exact absurd H (by simp)
           rw [if_pos c48] at H
           have c48b0 : decide (0 ≤ x6_5) = true := dT_ c48
           clear c48
           by_cases c49 : x6_5 < (l0_1.length : Int)
           rotate_left
           · rw [if_neg c49] at H
             exact absurd H (by simp)
           rw [if_pos c49] at H
           have c49b0 : decide (x6_5 < (l0_1.length : Int)) = true := dT_ c49
           clear c49
           by_cases c50 : (((rd_T66 l0_1 x6_5).f0.f0) == ((rd_T66 l0_1 x4_3).f0.f0) && (((rd_T66 l0_1 x6_5).f0.f1) == ((rd_T66 l0_1 x4_3).f0.f1))) = true
           · rw [if_pos c50] at H
             have c50b0 : (((rd_T66 l0_1 x6_5).f0.f0) == ((rd_T66 l0_1 x4_3).f0.f0) && (((rd_T66 l0_1 x6_5).f0.f1) == ((rd_T66 l0_1 x4_3).f0.f1))) = true := c50
             (try (have c50b1 : decide (((rd_T66 l0_1 x6_5).f0.f0) = ((rd_T66 l0_1 x4_3).f0.f0) && (((rd_T66 l0_1 x6_5).f0.f1) == ((rd_T66 l0_1 x4_3).f0.f1))) = true := by simpa using c50))
             (try (have c50b2 : (((rd_T66 l0_1 x6_5).f0.f0) == ((rd_T66 l0_1 x4_3).f0.f0) && (((rd_T66 l0_1 x6_5).f0.f1) == ((rd_T66 l0_1 x4_3).f0.f1))) = true := by simpa using c50))
             clear c50
             obtain rfl := oI_ H
             try go_wp2
             have n0_ := aM_ (kD_ BK196.out)
             have n1_ := aM_ (kD_ BK203.out)
             have n2_ := aM_ (b1_ HB.out)
             clear BK196 BK203 HB
             revert n0_ n1_ n2_
             intro BK196 BK203 HB
             have p205 : 0 ≤ (x6_5 : Int) := oD_ (by first | (with_reducible assumption) | assumption)
             have q205 : x6_5 < (l0_1.length : Int) := oD_ (by first | (with_reducible assumption) | assumption)
             obtain ⟨ad205, e205, hx205_0, hx205_1, hx205_2⟩ := at_T66 HR0_1.out x6_5 p205 q205
             have hw205_2 := hx205_2
             have hw205_1 := hx205_1
             have hw205_0 := hx205_0
             obtain rfl : ad202 = ad205 := (by injection e205)
             replace hx205_0 := (HB.out.cell (bL_ w _ hx205_0)).trans hx205_0
             replace hx205_1 := (HB.out.cell (bL_ w _ hx205_1)).trans hx205_1
             replace hx205_2 := (HB.out.cell (bL_ w _ hx205_2)).trans hx205_2
             replace p205 := eq_true p205
             replace q205 := eq_true q205
             refine start_ (n := 9) (S := fun w' => w'.cell? ⟨gb196, 0, none⟩ = some (.slice A0_0 l0_0.length c0_0) ∧ w'.cell? ⟨gb196, 1, none⟩ = some (.slice (some ad202) l0_1.length c0_1) ∧ w'.cell? ⟨gb203, 0, none⟩ = some (.int .i64 ((rd_T66 l0_1 x4_3).f0.f0)) ∧ w'.cell? ⟨gb203, 1, none⟩ = some (.int .i64 ((rd_T66 l0_1 x4_3).f0.f1)) ∧ w'.cell? ⟨gb203, 2, none⟩ = some (.int .i64 ((rd_T66 l0_1 x4_3).f1)) ∧ w'.cell? (ad202.add ((x6_5).toNat * 3)) = some (.int .i64 ((rd_T66 l0_1 x6_5).f0.f0)) ∧ w'.cell? ⟨(ad202.add ((x6_5).toNat * 3)).block, (ad202.add ((x6_5).toNat * 3)).off + 1, none⟩ = some (.int .i64 ((rd_T66 l0_1 x6_5).f0.f1)) ∧ w'.cell? ⟨(ad202.add ((x6_5).toNat * 3)).block, (ad202.add ((x6_5).toNat * 3)).off + 2, none⟩ = some (.int .i64 ((rd_T66 l0_1 x6_5).f1))) (ds := []) #[F_, F_, F_, F_, F_, F_, F_, F_, F_] (by kernel_rfl) rfl rfl ⟨(kC_ BK196.out 0).trans rfl, (kC_ BK196.out 1).trans rfl, (kC_ BK203.out 0).trans rfl, (kC_ BK203.out 1).trans rfl, (kC_ BK203.out 2).trans rfl, ((HB.out.cell (bL_ w _ hw205_0)).trans hw205_0), ((HB.out.cell (bL_ w _ hw205_1)).trans hw205_1), ((HB.out.cell (bL_ w _ hw205_2)).trans hw205_2)⟩ (fun hHeld => ?_); refine with_tabW spec_NetOk.tab17 spec_NetOk.bits17 (fun HT_ HW_ => ?_)
             generalize wr.drew = w51 at BK196 BK203 HB hx205_0 hx205_1 hx205_2 hHeld ⊢
             refine pure_ (i := 0) (N := some 74) (v := ?_) (a' := ?_) #[T_, F_, F_, F_, F_, F_, F_, F_, F_] rfl rfl (any_of HT_.out (by kernel_rfl)) (fun _ _ _ h => h) (Or.inl ⟨by rfl, ?_⟩) ?_ ?_
             rotate_left
             · intro w'
               go_simp
               with_reducible rfl
             rotate_left
             · simp only [Act.put, sA_, sB_, sC_, i64_w, i32_w]
               rfl
             refine pure_ (i := 2) (N := some 76) (v := ?_) (a' := ?_) #[T_, F_, T_, F_, F_, F_, F_, F_, F_] rfl rfl (any_of HT_.out (by kernel_rfl)) (fun _ _ _ h => h) (Or.inl ⟨by rfl, ?_⟩) ?_ ?_
             rotate_left
             · intro w'
               go_simp
               with_reducible rfl
             rotate_left
             · simp only [Act.put, sA_, sB_, sC_, i64_w, i32_w]
               rfl
             refine pure_ (i := 6) (N := some 80) (v := ?_) (a' := ?_) #[T_, F_, T_, F_, F_, F_, T_, F_, F_] rfl rfl (any_of HT_.out (by kernel_rfl)) (fun _ _ _ h => h) (Or.inl ⟨by rfl, ?_⟩) ?_ ?_
             rotate_left
             · intro w'
               go_simp
               with_reducible rfl
             rotate_left
             · simp only [Act.put, sA_, sB_, sC_, i64_w, i32_w]
               rfl
             refine take_ (i := 1) (N := some 75) (v := ?_) (a' := ?_) #[T_, T_, T_, F_, F_, F_, T_, F_, F_] rfl rfl (take_ofW HT_.out HW_.out (by kernel_rfl)) (fun _ _ _ h => h) (Or.inl ⟨by rfl, ?_⟩) hHeld ?_ ?_
             rotate_left
             · rintro w' ⟨s0, s1, s2, s3, s4, s5, s6, s7⟩
               go_simp
               with_reducible rfl
             rotate_left
             · simp only [Act.put, sA_, sB_, sC_, i64_w, i32_w]
               rfl
             refine pure_ (i := 3) (N := some 77) (v := ?_) (a' := ?_) #[T_, T_, T_, T_, F_, F_, T_, F_, F_] rfl rfl (any_of HT_.out (by kernel_rfl)) (fun _ _ _ h => h) (Or.inl ⟨by rfl, ?_⟩) ?_ ?_
             rotate_left
             · intro w'
               go_simp
               with_reducible rfl
             rotate_left
             · simp only [Act.put, sA_, sB_, sC_, i64_w, i32_w]
               rfl
             refine pure_ (i := 4) (N := some 78) (v := ?_) (a' := ?_) #[T_, T_, T_, T_, T_, F_, T_, F_, F_] rfl rfl (any_of HT_.out (by kernel_rfl)) (fun _ _ _ h => h) (Or.inl ⟨by rfl, ?_⟩) ?_ ?_
             rotate_left
             · intro w'
               go_simp
               with_reducible rfl
             rotate_left
             · simp only [Act.put, sA_, sB_, sC_, i64_w, i32_w]
               rfl
             refine take_ (i := 5) (N := some 79) (v := ?_) (a' := ?_) #[T_, T_, T_, T_, T_, T_, T_, F_, F_] rfl rfl (take_ofW HT_.out HW_.out (by kernel_rfl)) (fun _ _ _ h => h) (Or.inl ⟨by rfl, ?_⟩) hHeld ?_ ?_
             rotate_left
             · rintro w' ⟨s0, s1, s2, s3, s4, s5, s6, s7⟩
               go_simp
               with_reducible rfl
             rotate_left
             · simp only [Act.put, sA_, sB_, sC_, i64_w, i32_w]
               rfl
             refine take_ (i := 7) (N := some 81) (v := ?_) (a' := ?_) #[T_, T_, T_, T_, T_, T_, T_, T_, F_] rfl rfl (take_ofW HT_.out HW_.out (by kernel_rfl)) (fun _ _ _ h => h) (Or.inl ⟨by rfl, ?_⟩) hHeld ?_ ?_
             rotate_left
             · rintro w' ⟨s0, s1, s2, s3, s4, s5, s6, s7⟩
               go_simp
               with_reducible rfl
             rotate_left
             · simp only [Act.put, sA_, sB_, sC_, i64_w, i32_w]
               rfl
             refine pure_ (i := 8) (N := some 82) (v := ?_) (a' := ?_) #[T_, T_, T_, T_, T_, T_, T_, T_, T_] rfl rfl (any_of HT_.out (by kernel_rfl)) (fun _ _ _ h => h) (Or.inl ⟨by rfl, ?_⟩) ?_ ?_
             rotate_left
             · intro w'
               go_simp
               with_reducible rfl
             rotate_left
             · simp only [Act.put, sA_, sB_, sC_, i64_w, i32_w]
               rfl
             refine done_ (done_of HT_.out (by kernel_rfl)) ?_
             try go_wp2
             go_ret
             exact ⟨by first | rfl | (simp [errW_none, errW_some] <;> rfl) | (simp [*, errW_none, errW_some] <;> rfl), by repeat (first | (with_reducible first | exact HB.out | apply bA_ | apply bN_ | apply b1_ | refine bS_ ?_ GE196.out | refine bS_ ?_ GE203.out) | exact HB.out)⟩
           rw [if_neg c50] at H
           have c50b0 : (((rd_T66 l0_1 x6_5).f0.f0) == ((rd_T66 l0_1 x4_3).f0.f0) && (((rd_T66 l0_1 x6_5).f0.f1) == ((rd_T66 l0_1 x4_3).f0.f1))) = false := by simpa using c50
           (try (have c50b1 : decide (((rd_T66 l0_1 x6_5).f0.f0) = ((rd_T66 l0_1 x4_3).f0.f0) && (((rd_T66 l0_1 x6_5).f0.f1) == ((rd_T66 l0_1 x4_3).f0.f1))) = false := by simpa using c50))
           (try (have c50b2 : (((rd_T66 l0_1 x6_5).f0.f0) == ((rd_T66 l0_1 x4_3).f0.f0) && (((rd_T66 l0_1 x6_5).f0.f1) == ((rd_T66 l0_1 x4_3).f0.f1))) = false := by simpa using c50))
           (try (have c50b3 : ¬ (((rd_T66 l0_1 x6_5).f0.f0) = ((rd_T66 l0_1 x4_3).f0.f0) && (((rd_T66 l0_1 x6_5).f0.f1) == ((rd_T66 l0_1 x4_3).f0.f1))) := by simpa using c50))
           clear c50
           have H' := aM_ H
           clear H
           try go_wp2
           have n0_ := aM_ (kD_ BK196.out)
           have n1_ := aM_ (kD_ BK203.out)
           have n2_ := aM_ (b1_ HB.out)
           clear BK196 BK203 HB
           revert n0_ n1_ n2_
           intro BK196 BK203 HB
           have p205 : 0 ≤ (x6_5 : Int) := oD_ (by first | (with_reducible assumption) | assumption)
           have q205 : x6_5 < (l0_1.length : Int) := oD_ (by first | (with_reducible assumption) | assumption)
           obtain ⟨ad205, e205, hx205_0, hx205_1, hx205_2⟩ := at_T66 HR0_1.out x6_5 p205 q205
           have hw205_2 := hx205_2
           have hw205_1 := hx205_1
           have hw205_0 := hx205_0
           obtain rfl : ad202 = ad205 := (by injection e205)
           replace hx205_0 := (HB.out.cell (bL_ w _ hx205_0)).trans hx205_0
           replace hx205_1 := (HB.out.cell (bL_ w _ hx205_1)).trans hx205_1
           replace hx205_2 := (HB.out.cell (bL_ w _ hx205_2)).trans hx205_2
           replace p205 := eq_true p205
           replace q205 := eq_true q205
           refine start_ (n := 9) (S := fun w' => w'.cell? ⟨gb196, 0, none⟩ = some (.slice A0_0 l0_0.length c0_0) ∧ w'.cell? ⟨gb196, 1, none⟩ = some (.slice (some ad202) l0_1.length c0_1) ∧ w'.cell? ⟨gb203, 0, none⟩ = some (.int .i64 ((rd_T66 l0_1 x4_3).f0.f0)) ∧ w'.cell? ⟨gb203, 1, none⟩ = some (.int .i64 ((rd_T66 l0_1 x4_3).f0.f1)) ∧ w'.cell? ⟨gb203, 2, none⟩ = some (.int .i64 ((rd_T66 l0_1 x4_3).f1)) ∧ w'.cell? (ad202.add ((x6_5).toNat * 3)) = some (.int .i64 ((rd_T66 l0_1 x6_5).f0.f0)) ∧ w'.cell? ⟨(ad202.add ((x6_5).toNat * 3)).block, (ad202.add ((x6_5).toNat * 3)).off + 1, none⟩ = some (.int .i64 ((rd_T66 l0_1 x6_5).f0.f1)) ∧ w'.cell? ⟨(ad202.add ((x6_5).toNat * 3)).block, (ad202.add ((x6_5).toNat * 3)).off + 2, none⟩ = some (.int .i64 ((rd_T66 l0_1 x6_5).f1))) (ds := []) #[F_, F_, F_, F_, F_, F_, F_, F_, F_] (by kernel_rfl) rfl rfl ⟨(kC_ BK196.out 0).trans rfl, (kC_ BK196.out 1).trans rfl, (kC_ BK203.out 0).trans rfl, (kC_ BK203.out 1).trans rfl, (kC_ BK203.out 2).trans rfl, ((HB.out.cell (bL_ w _ hw205_0)).trans hw205_0), ((HB.out.cell (bL_ w _ hw205_1)).trans hw205_1), ((HB.out.cell (bL_ w _ hw205_2)).trans hw205_2)⟩ (fun hHeld => ?_); refine with_tabW spec_NetOk.tab17 spec_NetOk.bits17 (fun HT_ HW_ => ?_)
           generalize wr.drew = w52 at BK196 BK203 HB hx205_0 hx205_1 hx205_2 hHeld ⊢
           refine pure_ (i := 0) (N := some 74) (v := ?_) (a' := ?_) #[T_, F_, F_, F_, F_, F_, F_, F_, F_] rfl rfl (any_of HT_.out (by kernel_rfl)) (fun _ _ _ h => h) (Or.inl ⟨by rfl, ?_⟩) ?_ ?_
           rotate_left
           · intro w'
             go_simp
             with_reducible rfl
           rotate_left
           · simp only [Act.put, sA_, sB_, sC_, i64_w, i32_w]
             rfl
           refine pure_ (i := 2) (N := some 76) (v := ?_) (a' := ?_) #[T_, F_, T_, F_, F_, F_, F_, F_, F_] rfl rfl (any_of HT_.out (by kernel_rfl)) (fun _ _ _ h => h) (Or.inl ⟨by rfl, ?_⟩) ?_ ?_
           rotate_left
           · intro w'
             go_simp
             with_reducible rfl
           rotate_left
           · simp only [Act.put, sA_, sB_, sC_, i64_w, i32_w]
             rfl
           refine pure_ (i := 6) (N := some 80) (v := ?_) (a' := ?_) #[T_, F_, T_, F_, F_, F_, T_, F_, F_] rfl rfl (any_of HT_.out (by kernel_rfl)) (fun _ _ _ h => h) (Or.inl ⟨by rfl, ?_⟩) ?_ ?_
           rotate_left
           · intro w'
             go_simp
             with_reducible rfl
           rotate_left
           · simp only [Act.put, sA_, sB_, sC_, i64_w, i32_w]
             rfl
           refine take_ (i := 1) (N := some 75) (v := ?_) (a' := ?_) #[T_, T_, T_, F_, F_, F_, T_, F_, F_] rfl rfl (take_ofW HT_.out HW_.out (by kernel_rfl)) (fun _ _ _ h => h) (Or.inl ⟨by rfl, ?_⟩) hHeld ?_ ?_
           rotate_left
           · rintro w' ⟨s0, s1, s2, s3, s4, s5, s6, s7⟩
             go_simp
             with_reducible rfl
           rotate_left
           · simp only [Act.put, sA_, sB_, sC_, i64_w, i32_w]
             rfl
           refine pure_ (i := 3) (N := some 77) (v := ?_) (a' := ?_) #[T_, T_, T_, T_, F_, F_, T_, F_, F_] rfl rfl (any_of HT_.out (by kernel_rfl)) (fun _ _ _ h => h) (Or.inl ⟨by rfl, ?_⟩) ?_ ?_
           rotate_left
           · intro w'
             go_simp
             with_reducible rfl
           rotate_left
           · simp only [Act.put, sA_, sB_, sC_, i64_w, i32_w]
             rfl
           refine pure_ (i := 4) (N := some 78) (v := ?_) (a' := ?_) #[T_, T_, T_, T_, T_, F_, T_, F_, F_] rfl rfl (any_of HT_.out (by kernel_rfl)) (fun _ _ _ h => h) (Or.inl ⟨by rfl, ?_⟩) ?_ ?_
           rotate_left
           · intro w'
             go_simp
             with_reducible rfl
           rotate_left
           · simp only [Act.put, sA_, sB_, sC_, i64_w, i32_w]
             rfl
           refine take_ (i := 5) (N := some 79) (v := ?_) (a' := ?_) #[T_, T_, T_, T_, T_, T_, T_, F_, F_] rfl rfl (take_ofW HT_.out HW_.out (by kernel_rfl)) (fun _ _ _ h => h) (Or.inl ⟨by rfl, ?_⟩) hHeld ?_ ?_
           rotate_left
           · rintro w' ⟨s0, s1, s2, s3, s4, s5, s6, s7⟩
             go_simp
             with_reducible rfl
           rotate_left
           · simp only [Act.put, sA_, sB_, sC_, i64_w, i32_w]
             rfl
           refine take_ (i := 7) (N := some 81) (v := ?_) (a' := ?_) #[T_, T_, T_, T_, T_, T_, T_, T_, F_] rfl rfl (take_ofW HT_.out HW_.out (by kernel_rfl)) (fun _ _ _ h => h) (Or.inl ⟨by rfl, ?_⟩) hHeld ?_ ?_
           rotate_left
           · rintro w' ⟨s0, s1, s2, s3, s4, s5, s6, s7⟩
             go_simp
             with_reducible rfl
           rotate_left
           · simp only [Act.put, sA_, sB_, sC_, i64_w, i32_w]
             rfl
           refine pure_ (i := 8) (N := some 82) (v := ?_) (a' := ?_) #[T_, T_, T_, T_, T_, T_, T_, T_, T_] rfl rfl (any_of HT_.out (by kernel_rfl)) (fun _ _ _ h => h) (Or.inl ⟨by rfl, ?_⟩) ?_ ?_
           rotate_left
           · intro w'
             go_simp
             with_reducible rfl
           rotate_left
           · simp only [Act.put, sA_, sB_, sC_, i64_w, i32_w]
             rfl
           refine done_ (done_of HT_.out (by kernel_rfl)) ?_
           try go_wp2
           go_roundg k5
           case measure => have := HJ1.out; have := HK2.out; have := HK3.out; have := HJ20.out; have := HK5.out; omega
           case rel => exact ⟨(wrap64 (x6_5 + 1)), (by first | rfl | (simp; done) | (simp [*]; done)), H', ⟨by have := HJ1.out; have := HK2.out; have := HK3.out; have := HJ20.out; have := HK5.out; omega⟩, ⟨by (with_reducible repeat (first | refine kN_ ?_ _ | refine kD_ ?_ | refine kA_ ?_ _)); exact BK196.out⟩, ⟨by (with_reducible repeat (first | refine kN_ ?_ _ | refine kD_ ?_ | refine kA_ ?_ _)); exact BK203.out⟩, ⟨by repeat (first | (with_reducible first | exact HB.out | apply bA_ | apply bN_ | apply b1_ | refine bS_ ?_ GE196.out | refine bS_ ?_ GE203.out) | exact HB.out)⟩⟩
end Go.Proofs.YtphblfmjdiigkaaGreatDoor.HFnNetSame
