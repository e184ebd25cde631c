-- Made by a program of this session (hp.py) over the kit's print: functions told by hand stand beside printed ones. Lean checks it.
import Derived.Test.YtphblfmjdiigkaaGreatDoorTFnNetSameHFnNetSamex5
namespace Go.Proofs.YtphblfmjdiigkaaGreatDoor.HFnNetSame
open Go.RowKit Go.Proofs.YtphblfmjdiigkaaGreatDoorW.PrintWords Go.Proofs.YtphblfmjdiigkaaGreatDoorW.PrintLast Go.Proofs.YtphblfmjdiigkaaGreatDoorW.PrintMore
attribute [local go_sem] max2_int min2_int max_two min_two max_three min_three max_four min_four
set_option linter.unusedVariables false
set_option linter.unusedSimpArgs false
attribute [local go_sem high] eqA43 eqA66
mutual
def spec_NetSame.j0 : Nat → Bool → List (S43) → List (S66) → List (S43) → List (S66) → Option (Bool)
  | 0, _, _, _, _, _ => none
  | k + 1, x22, x399000, x399001, x400000, x400001 => if x22 = true then (some false) else (spec_NetSame.l0 k 0 x399000 x399001 x400000 x400001)
def spec_NetSame.l0 : Nat → Int → List (S43) → List (S66) → List (S43) → List (S66) → Option (Bool)
  | 0, _, _, _, _, _ => none
  | k + 1, x5, x399000, x399001, x400000, x400001 => if x5 < (x399000.length : Int) then (if 0 ≤ x5 then (if x5 < (x400000.length : Int) then (if (!(((rd_T43 x399000 x5).f0) == ((rd_T43 x400000 x5).f0)) || (!(((rd_T43 x399000 x5).f1) == ((rd_T43 x400000 x5).f1)) || ((!(((rd_T43 x399000 x5).f2.f0) == ((rd_T43 x400000 x5).f2.f0)) || (!(((rd_T43 x399000 x5).f2.f1) == ((rd_T43 x400000 x5).f2.f1)) || ((!(((rd_T43 x399000 x5).f2.f2.f0) == ((rd_T43 x400000 x5).f2.f2.f0)) || (!(((rd_T43 x399000 x5).f2.f2.f1) == ((rd_T43 x400000 x5).f2.f2.f1)))) || (!(((rd_T43 x399000 x5).f2.f3) == ((rd_T43 x400000 x5).f2.f3)))))) || ((!(((rd_T43 x399000 x5).f3.f0) == ((rd_T43 x400000 x5).f3.f0)) || (!(((rd_T43 x399000 x5).f3.f1) == ((rd_T43 x400000 x5).f3.f1)) || ((!(((rd_T43 x399000 x5).f3.f2.f0) == ((rd_T43 x400000 x5).f3.f2.f0)) || (!(((rd_T43 x399000 x5).f3.f2.f1) == ((rd_T43 x400000 x5).f3.f2.f1)))) || (!(((rd_T43 x399000 x5).f3.f3) == ((rd_T43 x400000 x5).f3.f3)))))))))) = true then (some false) else (spec_NetSame.l0 k (wrap64 (x5 + 1)) x399000 x399001 x400000 x400001)) else (none)) else (none)) else (spec_NetSame.l1 k 0 x399000 x399001 x400000 x400001)
def spec_NetSame.l1 : Nat → Int → List (S43) → List (S66) → List (S43) → List (S66) → Option (Bool)
  | 0, _, _, _, _, _ => none
  | k + 1, x6, x399000, x399001, x400000, x400001 => if x6 < (x399001.length : Int) then (if 0 ≤ x6 then (if x6 < (x400001.length : Int) then (if ((!(((rd_T66 x399001 x6).f0.f0) == ((rd_T66 x400001 x6).f0.f0)) || (!(((rd_T66 x399001 x6).f0.f1) == ((rd_T66 x400001 x6).f0.f1)))) || (!(((rd_T66 x399001 x6).f1) == ((rd_T66 x400001 x6).f1)))) = true then (some false) else (spec_NetSame.l1 k (wrap64 (x6 + 1)) x399000 x399001 x400000 x400001)) else (none)) else (none)) else (some true)
end
def spec_NetSame.f (k : Nat) (l0_0 : List (S43)) (l0_1 : List (S66)) (l1_0 : List (S43)) (l1_1 : List (S66)) : Option (Bool) := if (l0_0.length : Int) = (l1_0.length : Int) then (spec_NetSame.j0 k ((l0_1.length : Int) != (l1_1.length : Int)) l0_0 l0_1 l1_0 l1_1) else (spec_NetSame.j0 k true l0_0 l0_1 l1_0 l1_1)
set_option maxHeartbeats 8000000 in
set_option maxRecDepth 100000 in
theorem spec_NetSame.calls (k : Nat) (A0_0 : Option Addr) (c0_0 : Nat) (l0_0 : List (S43)) (A0_1 : Option Addr) (c0_1 : Nat) (l0_1 : List (S66)) (A1_0 : Option Addr) (c1_0 : Nat) (l1_0 : List (S43)) (A1_1 : Option Addr) (c1_1 : Nat) (l1_1 : List (S66)) (r : Bool) (w : World) (hr0_0 : Kd.C k43 w A0_0 l0_0.length l0_0) (hc0_0 : l0_0.length ≤ c0_0) (hr0_1 : Kd.C k66 w A0_1 l0_1.length l0_1) (hc0_1 : l0_1.length ≤ c0_1) (hr1_0 : Kd.C k43 w A1_0 l1_0.length l1_0) (hc1_0 : l1_0.length ≤ c1_0) (hr1_1 : Kd.C k66 w A1_1 l1_1.length l1_1) (hc1_1 : l1_1.length ≤ c1_1) (h : spec_NetSame.f k l0_0 l0_1 l1_0 l1_1 = some r) :
    Calls Tryz.prog 17 #[.agg #[.slice A0_0 l0_0.length c0_0, .slice A0_1 l0_1.length c0_1], .agg #[.slice A1_0 l1_0.length c1_0, .slice A1_1 l1_1.length c1_1]] w fun e w' => e = .returned (.bool r) ∧ Below w.heap.size w w' := by
 have hu31 := Tryz.underlying31
 have hu43 := Tryz.underlying43
 have hu66 := Tryz.underlying66
 have HR0_0 := aM_ hr0_0
 have HC0_0 := aM_ hc0_0
 clear hr0_0 hc0_0
 have HR0_1 := aM_ hr0_1
 have HC0_1 := aM_ hc0_1
 clear hr0_1 hc0_1
 have HR1_0 := aM_ hr1_0
 have HC1_0 := aM_ hc1_0
 clear hr1_0 hc1_0
 have HR1_1 := aM_ hr1_1
 have HC1_1 := aM_ hc1_1
 clear hr1_1 hc1_1
 have HB := aM_ (Below.refl w.heap.size w)
 have H : (if (l0_0.length : Int) = (l1_0.length : Int) then (spec_NetSame.j0 k ((l0_1.length : Int) != (l1_1.length : Int)) l0_0 l0_1 l1_0 l1_1) else (spec_NetSame.j0 k true l0_0 l0_1 l1_0 l1_1)) = some r := h
 clear h
 have HC3 := aM_ H
 clear H
 go_enter Tryz.func17, Tryz.ntmps17
 go_upto_region 1 with (first | ((with_reducible refine gate_dst (N := 2) rfl ?_); (try (refine gate_guard (by rfl) ?_; dsimp only)); refine box_event ?hg (N := 2) ?hd (cs := #[.slice A0_0 l0_0.length c0_0, .slice A0_1 l0_1.length c0_1]) (t := 31) ?hr ?_; (case hd => rfl); (case hg => rfl); (case hr => first | (go_simp; done) | (go_simp; rfl)); intro gb398 hg w4 hbox hb; have n0_ := aM_ (bT_ (by repeat (first | (with_reducible first | exact HB.out | apply bA_ | apply bN_ | apply b1_) | exact HB.out)) hb); have n1_ := aM_ (hbox); have n2_ := aM_ ((by rw [hg]; exact (bZ_ (by repeat (first | (with_reducible first | exact HB.out | apply bA_ | apply bN_ | apply b1_) | exact HB.out))) : w.heap.size ≤ gb398)); have n3_ := aM_ ((by rw [hg]; exact (bZ_ (by repeat (first | (with_reducible first | exact HB.out | apply bA_ | apply bN_ | apply b1_) | exact HB.out))) : w.heap.size ≤ gb398)); clear HB; have HB := n0_; have BK398 := n1_; have GW398 := n2_; have GE398 := n3_; clear n0_ n1_ n2_ n3_ hb hbox hg) | ((with_reducible refine gate_dst (N := 3) rfl ?_); (try (refine gate_guard (by rfl) ?_; dsimp only)); refine box_event ?hg (N := 3) ?hd (cs := #[.slice A1_0 l1_0.length c1_0, .slice A1_1 l1_1.length c1_1]) (t := 31) ?hr ?_; (case hd => rfl); (case hg => rfl); (case hr => first | (go_simp; done) | (go_simp; rfl)); intro gb399 hg w5 hbox hb; have n0_ := aM_ (blk_below (g := gb398) (o := .cells #[.slice A0_0 l0_0.length c0_0, .slice A0_1 l0_1.length c0_1] 31 (0, 0)) (by (with_reducible repeat (first | refine kN_ ?_ _ | refine kD_ ?_ | refine kA_ ?_ _)); exact BK398.out) hb); have n1_ := aM_ (bT_ (by repeat (first | (with_reducible first | exact HB.out | apply bA_ | apply bN_ | apply b1_ | refine bS_ ?_ GE398.out) | exact HB.out)) hb); have n2_ := aM_ (hbox); have n3_ := aM_ ((by rw [hg]; exact (bZ_ (by repeat (first | (with_reducible first | exact HB.out | apply bA_ | apply bN_ | apply b1_ | refine bS_ ?_ GE398.out) | exact HB.out))) : w.heap.size ≤ gb399)); have n4_ := aM_ ((by rw [hg]; exact (bZ_ (by repeat (first | (with_reducible first | exact HB.out | apply bA_ | apply bN_ | apply b1_ | refine bS_ ?_ GE398.out) | exact HB.out))) : w.heap.size ≤ gb399)); have n5_ := aM_ ((by rw [hg]; exact Nat.ne_of_lt (blk_lt (g := gb398) (o := .cells #[.slice A0_0 l0_0.length c0_0, .slice A0_1 l0_1.length c0_1] 31 (0, 0)) (by (with_reducible repeat (first | refine kN_ ?_ _ | refine kD_ ?_ | refine kA_ ?_ _)); exact BK398.out)) : gb398 ≠ gb399)); have n6_ := aM_ ((by rw [hg]; exact Nat.ne_of_gt (blk_lt (g := gb398) (o := .cells #[.slice A0_0 l0_0.length c0_0, .slice A0_1 l0_1.length c0_1] 31 (0, 0)) (by (with_reducible repeat (first | refine kN_ ?_ _ | refine kD_ ?_ | refine kA_ ?_ _)); exact BK398.out)) : gb399 ≠ gb398)); clear BK398 HB; have BK398 := n0_; have HB := n1_; have BK399 := n2_; have GW399 := n3_; have GE399 := n4_; have NB398_399 := n5_; have NB399_398 := n6_; clear n0_ n1_ n2_ n3_ n4_ n5_ n6_ hb hbox hg))
 repeat (go_quiet (first | ((with_reducible refine gate_dst (N := 2) rfl ?_); (try (refine gate_guard (by rfl) ?_; dsimp only)); refine box_event ?hg (N := 2) ?hd (cs := #[.slice A0_0 l0_0.length c0_0, .slice A0_1 l0_1.length c0_1]) (t := 31) ?hr ?_; (case hd => rfl); (case hg => rfl); (case hr => first | (go_simp; done) | (go_simp; rfl)); intro gb398 hg w4 hbox hb; have n0_ := aM_ (bT_ (by repeat (first | (with_reducible first | exact HB.out | apply bA_ | apply bN_ | apply b1_) | exact HB.out)) hb); have n1_ := aM_ (hbox); have n2_ := aM_ ((by rw [hg]; exact (bZ_ (by repeat (first | (with_reducible first | exact HB.out | apply bA_ | apply bN_ | apply b1_) | exact HB.out))) : w.heap.size ≤ gb398)); have n3_ := aM_ ((by rw [hg]; exact (bZ_ (by repeat (first | (with_reducible first | exact HB.out | apply bA_ | apply bN_ | apply b1_) | exact HB.out))) : w.heap.size ≤ gb398)); clear HB; have HB := n0_; have BK398 := n1_; have GW398 := n2_; have GE398 := n3_; clear n0_ n1_ n2_ n3_ hb hbox hg) | ((with_reducible refine gate_dst (N := 3) rfl ?_); (try (refine gate_guard (by rfl) ?_; dsimp only)); refine box_event ?hg (N := 3) ?hd (cs := #[.slice A1_0 l1_0.length c1_0, .slice A1_1 l1_1.length c1_1]) (t := 31) ?hr ?_; (case hd => rfl); (case hg => rfl); (case hr => first | (go_simp; done) | (go_simp; rfl)); intro gb399 hg w5 hbox hb; have n0_ := aM_ (blk_below (g := gb398) (o := .cells #[.slice A0_0 l0_0.length c0_0, .slice A0_1 l0_1.length c0_1] 31 (0, 0)) (by (with_reducible repeat (first | refine kN_ ?_ _ | refine kD_ ?_ | refine kA_ ?_ _)); exact BK398.out) hb); have n1_ := aM_ (bT_ (by repeat (first | (with_reducible first | exact HB.out | apply bA_ | apply bN_ | apply b1_ | refine bS_ ?_ GE398.out) | exact HB.out)) hb); have n2_ := aM_ (hbox); have n3_ := aM_ ((by rw [hg]; exact (bZ_ (by repeat (first | (with_reducible first | exact HB.out | apply bA_ | apply bN_ | apply b1_ | refine bS_ ?_ GE398.out) | exact HB.out))) : w.heap.size ≤ gb399)); have n4_ := aM_ ((by rw [hg]; exact (bZ_ (by repeat (first | (with_reducible first | exact HB.out | apply bA_ | apply bN_ | apply b1_ | refine bS_ ?_ GE398.out) | exact HB.out))) : w.heap.size ≤ gb399)); have n5_ := aM_ ((by rw [hg]; exact Nat.ne_of_lt (blk_lt (g := gb398) (o := .cells #[.slice A0_0 l0_0.length c0_0, .slice A0_1 l0_1.length c0_1] 31 (0, 0)) (by (with_reducible repeat (first | refine kN_ ?_ _ | refine kD_ ?_ | refine kA_ ?_ _)); exact BK398.out)) : gb398 ≠ gb399)); have n6_ := aM_ ((by rw [hg]; exact Nat.ne_of_gt (blk_lt (g := gb398) (o := .cells #[.slice A0_0 l0_0.length c0_0, .slice A0_1 l0_1.length c0_1] 31 (0, 0)) (by (with_reducible repeat (first | refine kN_ ?_ _ | refine kD_ ?_ | refine kA_ ?_ _)); exact BK398.out)) : gb399 ≠ gb398)); clear BK398 HB; have BK398 := n0_; have HB := n1_; have BK399 := n2_; have GW399 := n3_; have GE399 := n4_; have NB398_399 := n5_; have NB399_398 := n6_; clear n0_ n1_ n2_ n3_ n4_ n5_ n6_ hb hbox hg)); go_upto_region 1 with (first | ((with_reducible refine gate_dst (N := 2) rfl ?_); (try (refine gate_guard (by rfl) ?_; dsimp only)); refine box_event ?hg (N := 2) ?hd (cs := #[.slice A0_0 l0_0.length c0_0, .slice A0_1 l0_1.length c0_1]) (t := 31) ?hr ?_; (case hd => rfl); (case hg => rfl); (case hr => first | (go_simp; done) | (go_simp; rfl)); intro gb398 hg w4 hbox hb; have n0_ := aM_ (bT_ (by repeat (first | (with_reducible first | exact HB.out | apply bA_ | apply bN_ | apply b1_) | exact HB.out)) hb); have n1_ := aM_ (hbox); have n2_ := aM_ ((by rw [hg]; exact (bZ_ (by repeat (first | (with_reducible first | exact HB.out | apply bA_ | apply bN_ | apply b1_) | exact HB.out))) : w.heap.size ≤ gb398)); have n3_ := aM_ ((by rw [hg]; exact (bZ_ (by repeat (first | (with_reducible first | exact HB.out | apply bA_ | apply bN_ | apply b1_) | exact HB.out))) : w.heap.size ≤ gb398)); clear HB; have HB := n0_; have BK398 := n1_; have GW398 := n2_; have GE398 := n3_; clear n0_ n1_ n2_ n3_ hb hbox hg) | ((with_reducible refine gate_dst (N := 3) rfl ?_); (try (refine gate_guard (by rfl) ?_; dsimp only)); refine box_event ?hg (N := 3) ?hd (cs := #[.slice A1_0 l1_0.length c1_0, .slice A1_1 l1_1.length c1_1]) (t := 31) ?hr ?_; (case hd => rfl); (case hg => rfl); (case hr => first | (go_simp; done) | (go_simp; rfl)); intro gb399 hg w5 hbox hb; have n0_ := aM_ (blk_below (g := gb398) (o := .cells #[.slice A0_0 l0_0.length c0_0, .slice A0_1 l0_1.length c0_1] 31 (0, 0)) (by (with_reducible repeat (first | refine kN_ ?_ _ | refine kD_ ?_ | refine kA_ ?_ _)); exact BK398.out) hb); have n1_ := aM_ (bT_ (by repeat (first | (with_reducible first | exact HB.out | apply bA_ | apply bN_ | apply b1_ | refine bS_ ?_ GE398.out) | exact HB.out)) hb); have n2_ := aM_ (hbox); have n3_ := aM_ ((by rw [hg]; exact (bZ_ (by repeat (first | (with_reducible first | exact HB.out | apply bA_ | apply bN_ | apply b1_ | refine bS_ ?_ GE398.out) | exact HB.out))) : w.heap.size ≤ gb399)); have n4_ := aM_ ((by rw [hg]; exact (bZ_ (by repeat (first | (with_reducible first | exact HB.out | apply bA_ | apply bN_ | apply b1_ | refine bS_ ?_ GE398.out) | exact HB.out))) : w.heap.size ≤ gb399)); have n5_ := aM_ ((by rw [hg]; exact Nat.ne_of_lt (blk_lt (g := gb398) (o := .cells #[.slice A0_0 l0_0.length c0_0, .slice A0_1 l0_1.length c0_1] 31 (0, 0)) (by (with_reducible repeat (first | refine kN_ ?_ _ | refine kD_ ?_ | refine kA_ ?_ _)); exact BK398.out)) : gb398 ≠ gb399)); have n6_ := aM_ ((by rw [hg]; exact Nat.ne_of_gt (blk_lt (g := gb398) (o := .cells #[.slice A0_0 l0_0.length c0_0, .slice A0_1 l0_1.length c0_1] 31 (0, 0)) (by (with_reducible repeat (first | refine kN_ ?_ _ | refine kD_ ?_ | refine kA_ ?_ _)); exact BK398.out)) : gb399 ≠ gb398)); clear BK398 HB; have BK398 := n0_; have HB := n1_; have BK399 := n2_; have GW399 := n3_; have GE399 := n4_; have NB398_399 := n5_; have NB399_398 := n6_; clear n0_ n1_ n2_ n3_ n4_ n5_ n6_ hb hbox hg)))
 (try simp only [Act.put, sA_, sB_, sC_])
 go_cut [22] (fun v22 wc => ∃ (kq : Nat) (x22_2 : Bool), v22 = .bool x22_2 ∧ Aside0 (spec_NetSame.j0 kq x22_2 l0_0 l0_1 l1_0 l1_1 = some r) ∧ Aside0 (kq ≤ k) ∧ Aside0 (wc.heap[gb398]? = some (.cells #[(.slice A0_0 l0_0.length c0_0), (.slice A0_1 l0_1.length c0_1)] 31 (0, 0))) ∧ Aside0 (wc.heap[gb399]? = some (.cells #[(.slice A1_0 l1_0.length c1_0), (.slice A1_1 l1_1.length c1_1)] 31 (0, 0))) ∧ Aside0 (Below w.heap.size w wc))
 case first =>
  have H := HC3.out
  clear HC3
  by_cases c6 : (l0_0.length : Int) = (l1_0.length : Int)
  rotate_left
  · rw [if_neg c6] at H
    have c6b0 : ((l0_0.length : Int) == (l1_0.length : Int)) = false := beq_eq_false_iff_ne.mpr c6
    have c6b1 : ((l0_0.length : Int) != (l1_0.length : Int)) = true := bne_iff_ne.mpr c6
    have c6b2 : (l0_0.length == l1_0.length) = false := by first | simpa using c6 | (simp at c6 ⊢; omega)
    (first | rw [c6b0] | (simp only [i64_w, i32_w]; rw [c6b0]) | skip)
    have H' := aM_ H
    clear H
    have hnb10 := NB398_399.out
    have hnc10 := NB399_398.out
    (obtain ⟨hcz11_0, hcz11_1⟩ := cells2 BK398.out)
    (obtain ⟨hfz11_0, hfz11_1⟩ := frozen2 BK398.out)
    (obtain ⟨hcz12_0, hcz12_1⟩ := cells2 BK399.out)
    (obtain ⟨hfz12_0, hfz12_1⟩ := frozen2 BK399.out)
    go_wp2
    repeat (go_quiet (fail); try go_wp2)
    go_meet
    case rel => exact ⟨_, (true), (by first | rfl | (simp; done) | (simp [*]; done)), H', ⟨by first | omega | exact Nat.le_refl _⟩, ⟨by (with_reducible repeat (first | refine kN_ ?_ _ | refine kD_ ?_ | refine kA_ ?_ _)); exact BK398.out⟩, ⟨by (with_reducible repeat (first | refine kN_ ?_ _ | refine kD_ ?_ | refine kA_ ?_ _)); exact BK399.out⟩, ⟨by repeat (first | (with_reducible first | exact HB.out | apply bA_ | apply bN_ | apply b1_ | refine bS_ ?_ GE398.out | refine bS_ ?_ GE399.out) | exact HB.out)⟩⟩
  rw [if_pos c6] at H
  have c6b0 : ((l0_0.length : Int) == (l1_0.length : Int)) = true := beq_iff_eq.mpr c6
  have c6b1 : ((l0_0.length : Int) != (l1_0.length : Int)) = false := bne_eq_false_iff_eq.mpr c6
  have c6b2 : (l0_0.length == l1_0.length) = true := by first | simpa using c6 | (simp at c6 ⊢; omega)
  clear c6
  (first | rw [c6b0] | (simp only [i64_w, i32_w]; rw [c6b0]) | skip)
  have H' := aM_ H
  clear H
  have hnb7 := NB398_399.out
  have hnc7 := NB399_398.out
  (obtain ⟨hcz8_0, hcz8_1⟩ := cells2 BK398.out)
  (obtain ⟨hfz8_0, hfz8_1⟩ := frozen2 BK398.out)
  (obtain ⟨hcz9_0, hcz9_1⟩ := cells2 BK399.out)
  (obtain ⟨hfz9_0, hfz9_1⟩ := frozen2 BK399.out)
  go_wp2
  repeat (go_quiet (fail); try go_wp2)
  go_meet
  case rel => exact ⟨_, (((l0_1.length : Int) != (l1_1.length : Int))), (by first | rfl | (simp; done) | (simp [*]; done)), H', ⟨by first | omega | exact Nat.le_refl _⟩, ⟨by (with_reducible repeat (first | refine kN_ ?_ _ | refine kD_ ?_ | refine kA_ ?_ _)); exact BK398.out⟩, ⟨by (with_reducible repeat (first | refine kN_ ?_ _ | refine kD_ ?_ | refine kA_ ?_ _)); exact BK399.out⟩, ⟨by repeat (first | (with_reducible first | exact HB.out | apply bA_ | apply bN_ | apply b1_ | refine bS_ ?_ GE398.out | refine bS_ ?_ GE399.out) | exact HB.out)⟩⟩
 case rest =>
  clear HC3
  try clear c1
  try clear p2
  try clear c6
  try clear c6b0
  try clear c6b1
  try clear c6b2
  try clear c7
  try clear c10
  try clear hcz11_0
  try clear hcz11_1
  try clear hcz12_0
  try clear hcz12_1
  try clear hcz8_0
  try clear hcz8_1
  try clear hcz9_0
  try clear hcz9_1
  try clear hfz11_0
  try clear hfz11_1
  try clear hfz12_0
  try clear hfz12_1
  try clear hfz8_0
  try clear hfz8_1
  try clear hfz9_0
  try clear hfz9_1
  obtain ⟨kq, x22_2, rfl, HA, HJ2, BK398, BK399, HB⟩ := hcut
  cases kq with
  | zero => exact absurd HA.out (by simp [spec_NetSame.j0])
  | succ kj2 =>
   have H := HA.out
   clear HA
   simp only [spec_NetSame.j0] at H
   by_cases c13 : x22_2 = true
   · subst c13
     have H1 : (some false) = some r := by rw [if_pos rfl] at H; exact H
     clear H
     have H := H1
     clear H1
     obtain rfl := oI_ H
     go_wp2
     repeat (go_quiet (fail); try go_wp2)
     go_ret
     exact ⟨by first | rfl | (simp [errW_none, errW_some] <;> rfl) | (simp [*, errW_none, errW_some] <;> rfl), by repeat (first | (with_reducible first | exact HB.out | apply bA_ | apply bN_ | apply b1_ | refine bS_ ?_ GE398.out | refine bS_ ?_ GE399.out) | exact HB.out)⟩
   replace c13 := Bool.eq_false_iff.mpr c13
   subst c13
   have H1 : (spec_NetSame.l0 kj2 0 l0_0 l0_1 l1_0 l1_1) = some r := by rw [if_neg (show ¬ (false = true) by decide)] at H; exact H
   clear H
   have H := H1
   clear H1
   have H' := aM_ H
   clear H
   go_wp2
   repeat (go_quiet (fail); try go_wp2)
   go_loopg [5] kj2 (fun kq v5 w' => ∃ (x5_2 : Int), v5 = .int .i64 x5_2 ∧ Aside0 (spec_NetSame.l0 kq x5_2 l0_0 l0_1 l1_0 l1_1 = some r) ∧ Aside0 (kq ≤ kj2) ∧ Aside0 (w'.heap[gb398]? = some (.cells #[(.slice A0_0 l0_0.length c0_0), (.slice A0_1 l0_1.length c0_1)] 31 (0, 0))) ∧ Aside0 (w'.heap[gb399]? = some (.cells #[(.slice A1_0 l1_0.length c1_0), (.slice A1_1 l1_1.length c1_1)] 31 (0, 0))) ∧ Aside0 (Below w.heap.size w w'))
   case atStart => exact ⟨(0), (by first | rfl | (simp; done) | (simp [*]; done)), H', ⟨Nat.le_refl _⟩, ⟨by (with_reducible repeat (first | refine kN_ ?_ _ | refine kD_ ?_ | refine kA_ ?_ _)); exact BK398.out⟩, ⟨by (with_reducible repeat (first | refine kN_ ?_ _ | refine kD_ ?_ | refine kA_ ?_ _)); exact BK399.out⟩, ⟨by repeat (first | (with_reducible first | exact HB.out | apply bA_ | apply bN_ | apply b1_ | refine bS_ ?_ GE398.out | refine bS_ ?_ GE399.out) | exact HB.out)⟩⟩
   case round =>
    clear H'
    try clear c1
    try clear p2
    try clear c6
    try clear c6b0
    try clear c6b1
    try clear c6b2
    try clear c7
    try clear c10
    try clear c13
    try clear hcz11_0
    try clear hcz11_1
    try clear hcz12_0
    try clear hcz12_1
    try clear hcz8_0
    try clear hcz8_1
    try clear hcz9_0
    try clear hcz9_1
    try clear hfz11_0
    try clear hfz11_1
    try clear hfz12_0
    try clear hfz12_1
    try clear hfz8_0
    try clear hfz8_1
    try clear hfz9_0
    try clear hfz9_1
    try clear p2
    obtain ⟨x5_2, rfl, HA, HK2, BK398, BK399, HB⟩ := hrel
    cases gk with
    | zero => exact absurd HA.out (by simp [spec_NetSame.l0])
    | succ k2 =>
     have H := HA.out
     clear HA
     simp only [spec_NetSame.l0] at H
     by_cases c14 : x5_2 < (l0_0.length : Int)
     rotate_left
     · rw [if_neg c14] at H
       have c14b0 : decide (x5_2 < (l0_0.length : Int)) = false := dF_ c14
       clear c14
       have H' := aM_ H
       clear H
       have hnb24 := NB398_399.out
       have hnc24 := NB399_398.out
       (obtain ⟨hcz25_0, hcz25_1⟩ := cells2 BK398.out)
       (obtain ⟨hfz25_0, hfz25_1⟩ := frozen2 BK398.out)
       go_wp2
       repeat (go_quiet (fail); try go_wp2)
       go_loopg [6] k2 (fun kq v6 w' => ∃ (x6_3 : Int), v6 = .int .i64 x6_3 ∧ Aside0 (spec_NetSame.l1 kq x6_3 l0_0 l0_1 l1_0 l1_1 = some r) ∧ Aside0 (kq ≤ k2) ∧ Aside0 (w'.heap[gb398]? = some (.cells #[(.slice A0_0 l0_0.length c0_0), (.slice A0_1 l0_1.length c0_1)] 31 (0, 0))) ∧ Aside0 (w'.heap[gb399]? = some (.cells #[(.slice A1_0 l1_0.length c1_0), (.slice A1_1 l1_1.length c1_1)] 31 (0, 0))) ∧ Aside0 (Below w.heap.size w w'))
       case atStart => exact ⟨(0), (by first | rfl | (simp; done) | (simp [*]; done)), H', ⟨Nat.le_refl _⟩, ⟨by (with_reducible repeat (first | refine kN_ ?_ _ | refine kD_ ?_ | refine kA_ ?_ _)); exact BK398.out⟩, ⟨by (with_reducible repeat (first | refine kN_ ?_ _ | refine kD_ ?_ | refine kA_ ?_ _)); exact BK399.out⟩, ⟨by repeat (first | (with_reducible first | exact HB.out | apply bA_ | apply bN_ | apply b1_ | refine bS_ ?_ GE398.out | refine bS_ ?_ GE399.out) | exact HB.out)⟩⟩
       case round =>
        clear H'
        try clear c1
        try clear c2
        try clear p2
        try clear p4
        try clear q4
        try clear hx4
        try clear c6
        try clear c6b0
        try clear c6b1
        try clear c6b2
        try clear p6
        try clear c7
        try clear c10
        try clear c13
        try clear c14
        try clear c14b0
        try clear c15
        try clear c15b0
        try clear c16
        try clear c16b0
        try clear c17
        try clear c17b0
        try clear c18
        try clear c21
        try clear c24
        try clear hcz11_0
        try clear hcz11_1
        try clear hcz12_0
        try clear hcz12_1
        try clear hcz19_0
        try clear hcz19_1
        try clear hcz20_0
        try clear hcz20_1
        try clear hcz22_0
        try clear hcz22_1
        try clear hcz23_0
        try clear hcz23_1
        try clear hcz25_0
        try clear hcz25_1
        try clear hcz8_0
        try clear hcz8_1
        try clear hcz9_0
        try clear hcz9_1
        try clear hfz11_0
        try clear hfz11_1
        try clear hfz12_0
        try clear hfz12_1
        try clear hfz19_0
        try clear hfz19_1
        try clear hfz20_0
        try clear hfz20_1
        try clear hfz22_0
        try clear hfz22_1
        try clear hfz23_0
        try clear hfz23_1
        try clear hfz25_0
        try clear hfz25_1
        try clear hfz8_0
        try clear hfz8_1
        try clear hfz9_0
        try clear hfz9_1
        try clear hx400_0
        try clear hx400_1
        try clear hx400_10
        try clear hx400_11
        try clear hx400_2
        try clear hx400_3
        try clear hx400_4
        try clear hx400_5
        try clear hx400_6
        try clear hx400_7
        try clear hx400_8
        try clear hx400_9
        try clear hx401_0
        try clear hx401_1
        try clear hx401_10
        try clear hx401_11
        try clear hx401_2
        try clear hx401_3
        try clear hx401_4
        try clear hx401_5
        try clear hx401_6
        try clear hx401_7
        try clear hx401_8
        try clear hx401_9
        try clear p2
        try clear p400
        try clear p401
        try clear q400
        try clear q401
        obtain ⟨x6_3, rfl, HA, HK3, BK398, BK399, HB⟩ := hrel
        cases gk with
        | zero => exact absurd HA.out (by simp [spec_NetSame.l1])
        | succ k3 =>
         have H := HA.out
         clear HA
         simp only [spec_NetSame.l1] at H
         by_cases c26 : x6_3 < (l0_1.length : Int)
         rotate_left
         · rw [if_neg c26] at H
           have c26b0 : decide (x6_3 < (l0_1.length : Int)) = false := dF_ c26
           clear c26
           obtain rfl := oI_ H
           have hnb36 := NB398_399.out
           have hnc36 := NB399_398.out
           (obtain ⟨hcz37_0, hcz37_1⟩ := cells2 BK398.out)
           (obtain ⟨hfz37_0, hfz37_1⟩ := frozen2 BK398.out)
           go_wp2
           repeat (go_quiet (fail); try go_wp2)
           go_ret
           exact ⟨by first | rfl | (simp [errW_none, errW_some] <;> rfl) | (simp [*, errW_none, errW_some] <;> rfl), by repeat (first | (with_reducible first | exact HB.out | apply bA_ | apply bN_ | apply b1_ | refine bS_ ?_ GE398.out | refine bS_ ?_ GE399.out) | exact HB.out)⟩
         rw [if_pos c26] at H
         have c26b0 : decide (x6_3 < (l0_1.length : Int)) = true := dT_ c26
         clear c26
         by_cases c27 : 0 ≤ x6_3
         rotate_left
         · rw [if_neg c27] at H
           exact absurd H (by simp)
         rw [if_pos c27] at H
         have c27b0 : decide (0 ≤ x6_3) = true := dT_ c27
         clear c27
         by_cases c28 : x6_3 < (l1_1.length : Int)
         rotate_left
         · rw [if_neg c28] at H
           exact absurd H (by simp)
         rw [if_pos c28] at H
         have c28b0 : decide (x6_3 < (l1_1.length : Int)) = true := dT_ c28
         clear c28
         by_cases c29 : ((!(((rd_T66 l0_1 x6_3).f0.f0) == ((rd_T66 l1_1 x6_3).f0.f0)) || (!(((rd_T66 l0_1 x6_3).f0.f1) == ((rd_T66 l1_1 x6_3).f0.f1)))) || (!(((rd_T66 l0_1 x6_3).f1) == ((rd_T66 l1_1 x6_3).f1)))) = true
         · rw [if_pos c29] at H
           have c29b0 : ((!(((rd_T66 l0_1 x6_3).f0.f0) == ((rd_T66 l1_1 x6_3).f0.f0)) || (!(((rd_T66 l0_1 x6_3).f0.f1) == ((rd_T66 l1_1 x6_3).f0.f1)))) || (!(((rd_T66 l0_1 x6_3).f1) == ((rd_T66 l1_1 x6_3).f1)))) = true := c29
           clear c29
           obtain rfl := oI_ H
           have hnb30 := NB398_399.out
           have hnc30 := NB399_398.out
           (obtain ⟨hcz31_0, hcz31_1⟩ := cells2 BK398.out)
           (obtain ⟨hfz31_0, hfz31_1⟩ := frozen2 BK398.out)
           have p402 : 0 ≤ (x6_3 : Int) := oD_ (by first | (with_reducible assumption) | assumption)
           have q402 : x6_3 < (l0_1.length : Int) := oD_ (by first | (with_reducible assumption) | assumption)
           obtain ⟨ad402, e402, hx402_0, hx402_1, hx402_2⟩ := at_T66 HR0_1.out x6_3 p402 q402
           cases e402
           replace hx402_0 := (HB.out.cell (bL_ w _ hx402_0)).trans hx402_0
           replace hx402_1 := (HB.out.cell (bL_ w _ hx402_1)).trans hx402_1
           replace hx402_2 := (HB.out.cell (bL_ w _ hx402_2)).trans hx402_2
           replace p402 := eq_true p402
           replace q402 := eq_true q402
           (obtain ⟨hcz32_0, hcz32_1⟩ := cells2 BK399.out)
           (obtain ⟨hfz32_0, hfz32_1⟩ := frozen2 BK399.out)
           have p403 : 0 ≤ (x6_3 : Int) := oD_ (by first | (with_reducible assumption) | assumption)
           have q403 : x6_3 < (l1_1.length : Int) := oD_ (by first | (with_reducible assumption) | assumption)
           obtain ⟨ad403, e403, hx403_0, hx403_1, hx403_2⟩ := at_T66 HR1_1.out x6_3 p403 q403
           cases e403
           replace hx403_0 := (HB.out.cell (bL_ w _ hx403_0)).trans hx403_0
           replace hx403_1 := (HB.out.cell (bL_ w _ hx403_1)).trans hx403_1
           replace hx403_2 := (HB.out.cell (bL_ w _ hx403_2)).trans hx403_2
           replace p403 := eq_true p403
           replace q403 := eq_true q403
           go_wp2
           repeat (go_quiet (fail); try go_wp2)
           go_ret
           exact ⟨by first | rfl | (simp [errW_none, errW_some] <;> rfl) | (simp [*, errW_none, errW_some] <;> rfl), by repeat (first | (with_reducible first | exact HB.out | apply bA_ | apply bN_ | apply b1_ | refine bS_ ?_ GE398.out | refine bS_ ?_ GE399.out) | exact HB.out)⟩
         rw [if_neg c29] at H
         have c29b0 : ((!(((rd_T66 l0_1 x6_3).f0.f0) == ((rd_T66 l1_1 x6_3).f0.f0)) || (!(((rd_T66 l0_1 x6_3).f0.f1) == ((rd_T66 l1_1 x6_3).f0.f1)))) || (!(((rd_T66 l0_1 x6_3).f1) == ((rd_T66 l1_1 x6_3).f1)))) = false := by simpa using c29
         clear c29
         have H' := aM_ H
         clear H
         have hnb33 := NB398_399.out
         have hnc33 := NB399_398.out
         (obtain ⟨hcz34_0, hcz34_1⟩ := cells2 BK398.out)
         (obtain ⟨hfz34_0, hfz34_1⟩ := frozen2 BK398.out)
         have p402 : 0 ≤ (x6_3 : Int) := oD_ (by first | (with_reducible assumption) | assumption)
         have q402 : x6_3 < (l0_1.length : Int) := oD_ (by first | (with_reducible assumption) | assumption)
         obtain ⟨ad402, e402, hx402_0, hx402_1, hx402_2⟩ := at_T66 HR0_1.out x6_3 p402 q402
         cases e402
         replace hx402_0 := (HB.out.cell (bL_ w _ hx402_0)).trans hx402_0
         replace hx402_1 := (HB.out.cell (bL_ w _ hx402_1)).trans hx402_1
         replace hx402_2 := (HB.out.cell (bL_ w _ hx402_2)).trans hx402_2
         replace p402 := eq_true p402
         replace q402 := eq_true q402
         (obtain ⟨hcz35_0, hcz35_1⟩ := cells2 BK399.out)
         (obtain ⟨hfz35_0, hfz35_1⟩ := frozen2 BK399.out)
         have p403 : 0 ≤ (x6_3 : Int) := oD_ (by first | (with_reducible assumption) | assumption)
         have q403 : x6_3 < (l1_1.length : Int) := oD_ (by first | (with_reducible assumption) | assumption)
         obtain ⟨ad403, e403, hx403_0, hx403_1, hx403_2⟩ := at_T66 HR1_1.out x6_3 p403 q403
         cases e403
         replace hx403_0 := (HB.out.cell (bL_ w _ hx403_0)).trans hx403_0
         replace hx403_1 := (HB.out.cell (bL_ w _ hx403_1)).trans hx403_1
         replace hx403_2 := (HB.out.cell (bL_ w _ hx403_2)).trans hx403_2
         replace p403 := eq_true p403
         replace q403 := eq_true q403
         go_wp2
         repeat (go_quiet (fail); try go_wp2)
         go_roundg k3
         case measure => have := HJ2.out; have := HK2.out; have := HK3.out; omega
         case rel => exact ⟨(wrap64 (x6_3 + 1)), (by first | rfl | (simp; done) | (simp [*]; done)), H', ⟨by have := HJ2.out; have := HK2.out; have := HK3.out; omega⟩, ⟨by (with_reducible repeat (first | refine kN_ ?_ _ | refine kD_ ?_ | refine kA_ ?_ _)); exact BK398.out⟩, ⟨by (with_reducible repeat (first | refine kN_ ?_ _ | refine kD_ ?_ | refine kA_ ?_ _)); exact BK399.out⟩, ⟨by repeat (first | (with_reducible first | exact HB.out | apply bA_ | apply bN_ | apply b1_ | refine bS_ ?_ GE398.out | refine bS_ ?_ GE399.out) | exact HB.out)⟩⟩
     rw [if_pos c14] at H
     have c14b0 : decide (x5_2 < (l0_0.length : Int)) = true := dT_ c14
     clear c14
     by_cases c15 : 0 ≤ x5_2
     rotate_left
     · rw [if_neg c15] at H
       exact absurd H (by simp)
     rw [if_pos c15] at H
     have c15b0 : decide (0 ≤ x5_2) = true := dT_ c15
     clear c15
     by_cases c16 : x5_2 < (l1_0.length : Int)
     rotate_left
     · rw [if_neg c16] at H
       exact absurd H (by simp)
     rw [if_pos c16] at H
     have c16b0 : decide (x5_2 < (l1_0.length : Int)) = true := dT_ c16
     clear c16
     by_cases c17 : (!(((rd_T43 l0_0 x5_2).f0) == ((rd_T43 l1_0 x5_2).f0)) || (!(((rd_T43 l0_0 x5_2).f1) == ((rd_T43 l1_0 x5_2).f1)) || ((!(((rd_T43 l0_0 x5_2).f2.f0) == ((rd_T43 l1_0 x5_2).f2.f0)) || (!(((rd_T43 l0_0 x5_2).f2.f1) == ((rd_T43 l1_0 x5_2).f2.f1)) || ((!(((rd_T43 l0_0 x5_2).f2.f2.f0) == ((rd_T43 l1_0 x5_2).f2.f2.f0)) || (!(((rd_T43 l0_0 x5_2).f2.f2.f1) == ((rd_T43 l1_0 x5_2).f2.f2.f1)))) || (!(((rd_T43 l0_0 x5_2).f2.f3) == ((rd_T43 l1_0 x5_2).f2.f3)))))) || ((!(((rd_T43 l0_0 x5_2).f3.f0) == ((rd_T43 l1_0 x5_2).f3.f0)) || (!(((rd_T43 l0_0 x5_2).f3.f1) == ((rd_T43 l1_0 x5_2).f3.f1)) || ((!(((rd_T43 l0_0 x5_2).f3.f2.f0) == ((rd_T43 l1_0 x5_2).f3.f2.f0)) || (!(((rd_T43 l0_0 x5_2).f3.f2.f1) == ((rd_T43 l1_0 x5_2).f3.f2.f1)))) || (!(((rd_T43 l0_0 x5_2).f3.f3) == ((rd_T43 l1_0 x5_2).f3.f3)))))))))) = true
     · rw [if_pos c17] at H
       have c17b0 : (!(((rd_T43 l0_0 x5_2).f0) == ((rd_T43 l1_0 x5_2).f0)) || (!(((rd_T43 l0_0 x5_2).f1) == ((rd_T43 l1_0 x5_2).f1)) || ((!(((rd_T43 l0_0 x5_2).f2.f0) == ((rd_T43 l1_0 x5_2).f2.f0)) || (!(((rd_T43 l0_0 x5_2).f2.f1) == ((rd_T43 l1_0 x5_2).f2.f1)) || ((!(((rd_T43 l0_0 x5_2).f2.f2.f0) == ((rd_T43 l1_0 x5_2).f2.f2.f0)) || (!(((rd_T43 l0_0 x5_2).f2.f2.f1) == ((rd_T43 l1_0 x5_2).f2.f2.f1)))) || (!(((rd_T43 l0_0 x5_2).f2.f3) == ((rd_T43 l1_0 x5_2).f2.f3)))))) || ((!(((rd_T43 l0_0 x5_2).f3.f0) == ((rd_T43 l1_0 x5_2).f3.f0)) || (!(((rd_T43 l0_0 x5_2).f3.f1) == ((rd_T43 l1_0 x5_2).f3.f1)) || ((!(((rd_T43 l0_0 x5_2).f3.f2.f0) == ((rd_T43 l1_0 x5_2).f3.f2.f0)) || (!(((rd_T43 l0_0 x5_2).f3.f2.f1) == ((rd_T43 l1_0 x5_2).f3.f2.f1)))) || (!(((rd_T43 l0_0 x5_2).f3.f3) == ((rd_T43 l1_0 x5_2).f3.f3)))))))))) = true := c17
       clear c17
       obtain rfl := oI_ H
       have hnb18 := NB398_399.out
       have hnc18 := NB399_398.out
       (obtain ⟨hcz19_0, hcz19_1⟩ := cells2 BK398.out)
       (obtain ⟨hfz19_0, hfz19_1⟩ := frozen2 BK398.out)
       have p400 : 0 ≤ (x5_2 : Int) := oD_ (by first | (with_reducible assumption) | assumption)
       have q400 : x5_2 < (l0_0.length : Int) := oD_ (by first | (with_reducible assumption) | assumption)
       obtain ⟨ad400, e400, hx400_0, hx400_1, hx400_2, hx400_3, hx400_4, hx400_5, hx400_6, hx400_7, hx400_8, hx400_9, hx400_10, hx400_11⟩ := at_T43 HR0_0.out x5_2 p400 q400
       cases e400
       replace hx400_0 := (HB.out.cell (bL_ w _ hx400_0)).trans hx400_0
       replace hx400_1 := (HB.out.cell (bL_ w _ hx400_1)).trans hx400_1
       replace hx400_2 := (HB.out.cell (bL_ w _ hx400_2)).trans hx400_2
       replace hx400_3 := (HB.out.cell (bL_ w _ hx400_3)).trans hx400_3
       replace hx400_4 := (HB.out.cell (bL_ w _ hx400_4)).trans hx400_4
       replace hx400_5 := (HB.out.cell (bL_ w _ hx400_5)).trans hx400_5
       replace hx400_6 := (HB.out.cell (bL_ w _ hx400_6)).trans hx400_6
       replace hx400_7 := (HB.out.cell (bL_ w _ hx400_7)).trans hx400_7
       replace hx400_8 := (HB.out.cell (bL_ w _ hx400_8)).trans hx400_8
       replace hx400_9 := (HB.out.cell (bL_ w _ hx400_9)).trans hx400_9
       replace hx400_10 := (HB.out.cell (bL_ w _ hx400_10)).trans hx400_10
       replace hx400_11 := (HB.out.cell (bL_ w _ hx400_11)).trans hx400_11
       replace p400 := eq_true p400
       replace q400 := eq_true q400
       (obtain ⟨hcz20_0, hcz20_1⟩ := cells2 BK399.out)
       (obtain ⟨hfz20_0, hfz20_1⟩ := frozen2 BK399.out)
       have p401 : 0 ≤ (x5_2 : Int) := oD_ (by first | (with_reducible assumption) | assumption)
       have q401 : x5_2 < (l1_0.length : Int) := oD_ (by first | (with_reducible assumption) | assumption)
       obtain ⟨ad401, e401, hx401_0, hx401_1, hx401_2, hx401_3, hx401_4, hx401_5, hx401_6, hx401_7, hx401_8, hx401_9, hx401_10, hx401_11⟩ := at_T43 HR1_0.out x5_2 p401 q401
       cases e401
       replace hx401_0 := (HB.out.cell (bL_ w _ hx401_0)).trans hx401_0
       replace hx401_1 := (HB.out.cell (bL_ w _ hx401_1)).trans hx401_1
       replace hx401_2 := (HB.out.cell (bL_ w _ hx401_2)).trans hx401_2
       replace hx401_3 := (HB.out.cell (bL_ w _ hx401_3)).trans hx401_3
       replace hx401_4 := (HB.out.cell (bL_ w _ hx401_4)).trans hx401_4
       replace hx401_5 := (HB.out.cell (bL_ w _ hx401_5)).trans hx401_5
       replace hx401_6 := (HB.out.cell (bL_ w _ hx401_6)).trans hx401_6
       replace hx401_7 := (HB.out.cell (bL_ w _ hx401_7)).trans hx401_7
       replace hx401_8 := (HB.out.cell (bL_ w _ hx401_8)).trans hx401_8
       replace hx401_9 := (HB.out.cell (bL_ w _ hx401_9)).trans hx401_9
       replace hx401_10 := (HB.out.cell (bL_ w _ hx401_10)).trans hx401_10
       replace hx401_11 := (HB.out.cell (bL_ w _ hx401_11)).trans hx401_11
       replace p401 := eq_true p401
       replace q401 := eq_true q401
       go_wp2
       repeat (go_quiet (fail); try go_wp2)
       go_ret
       exact ⟨by first | rfl | (simp [errW_none, errW_some] <;> rfl) | (simp [*, errW_none, errW_some] <;> rfl), by repeat (first | (with_reducible first | exact HB.out | apply bA_ | apply bN_ | apply b1_ | refine bS_ ?_ GE398.out | refine bS_ ?_ GE399.out) | exact HB.out)⟩
     rw [if_neg c17] at H
     have c17b0 : (!(((rd_T43 l0_0 x5_2).f0) == ((rd_T43 l1_0 x5_2).f0)) || (!(((rd_T43 l0_0 x5_2).f1) == ((rd_T43 l1_0 x5_2).f1)) || ((!(((rd_T43 l0_0 x5_2).f2.f0) == ((rd_T43 l1_0 x5_2).f2.f0)) || (!(((rd_T43 l0_0 x5_2).f2.f1) == ((rd_T43 l1_0 x5_2).f2.f1)) || ((!(((rd_T43 l0_0 x5_2).f2.f2.f0) == ((rd_T43 l1_0 x5_2).f2.f2.f0)) || (!(((rd_T43 l0_0 x5_2).f2.f2.f1) == ((rd_T43 l1_0 x5_2).f2.f2.f1)))) || (!(((rd_T43 l0_0 x5_2).f2.f3) == ((rd_T43 l1_0 x5_2).f2.f3)))))) || ((!(((rd_T43 l0_0 x5_2).f3.f0) == ((rd_T43 l1_0 x5_2).f3.f0)) || (!(((rd_T43 l0_0 x5_2).f3.f1) == ((rd_T43 l1_0 x5_2).f3.f1)) || ((!(((rd_T43 l0_0 x5_2).f3.f2.f0) == ((rd_T43 l1_0 x5_2).f3.f2.f0)) || (!(((rd_T43 l0_0 x5_2).f3.f2.f1) == ((rd_T43 l1_0 x5_2).f3.f2.f1)))) || (!(((rd_T43 l0_0 x5_2).f3.f3) == ((rd_T43 l1_0 x5_2).f3.f3)))))))))) = false := by simpa using c17
     clear c17
     have H' := aM_ H
     clear H
     have hnb21 := NB398_399.out
     have hnc21 := NB399_398.out
     (obtain ⟨hcz22_0, hcz22_1⟩ := cells2 BK398.out)
     (obtain ⟨hfz22_0, hfz22_1⟩ := frozen2 BK398.out)
     have p400 : 0 ≤ (x5_2 : Int) := oD_ (by first | (with_reducible assumption) | assumption)
     have q400 : x5_2 < (l0_0.length : Int) := oD_ (by first | (with_reducible assumption) | assumption)
     obtain ⟨ad400, e400, hx400_0, hx400_1, hx400_2, hx400_3, hx400_4, hx400_5, hx400_6, hx400_7, hx400_8, hx400_9, hx400_10, hx400_11⟩ := at_T43 HR0_0.out x5_2 p400 q400
     cases e400
     replace hx400_0 := (HB.out.cell (bL_ w _ hx400_0)).trans hx400_0
     replace hx400_1 := (HB.out.cell (bL_ w _ hx400_1)).trans hx400_1
     replace hx400_2 := (HB.out.cell (bL_ w _ hx400_2)).trans hx400_2
     replace hx400_3 := (HB.out.cell (bL_ w _ hx400_3)).trans hx400_3
     replace hx400_4 := (HB.out.cell (bL_ w _ hx400_4)).trans hx400_4
     replace hx400_5 := (HB.out.cell (bL_ w _ hx400_5)).trans hx400_5
     replace hx400_6 := (HB.out.cell (bL_ w _ hx400_6)).trans hx400_6
     replace hx400_7 := (HB.out.cell (bL_ w _ hx400_7)).trans hx400_7
     replace hx400_8 := (HB.out.cell (bL_ w _ hx400_8)).trans hx400_8
     replace hx400_9 := (HB.out.cell (bL_ w _ hx400_9)).trans hx400_9
     replace hx400_10 := (HB.out.cell (bL_ w _ hx400_10)).trans hx400_10
     replace hx400_11 := (HB.out.cell (bL_ w _ hx400_11)).trans hx400_11
     replace p400 := eq_true p400
     replace q400 := eq_true q400
     (obtain ⟨hcz23_0, hcz23_1⟩ := cells2 BK399.out)
     (obtain ⟨hfz23_0, hfz23_1⟩ := frozen2 BK399.out)
     have p401 : 0 ≤ (x5_2 : Int) := oD_ (by first | (with_reducible assumption) | assumption)
     have q401 : x5_2 < (l1_0.length : Int) := oD_ (by first | (with_reducible assumption) | assumption)
     obtain ⟨ad401, e401, hx401_0, hx401_1, hx401_2, hx401_3, hx401_4, hx401_5, hx401_6, hx401_7, hx401_8, hx401_9, hx401_10, hx401_11⟩ := at_T43 HR1_0.out x5_2 p401 q401
     cases e401
     replace hx401_0 := (HB.out.cell (bL_ w _ hx401_0)).trans hx401_0
     replace hx401_1 := (HB.out.cell (bL_ w _ hx401_1)).trans hx401_1
     replace hx401_2 := (HB.out.cell (bL_ w _ hx401_2)).trans hx401_2
     replace hx401_3 := (HB.out.cell (bL_ w _ hx401_3)).trans hx401_3
     replace hx401_4 := (HB.out.cell (bL_ w _ hx401_4)).trans hx401_4
     replace hx401_5 := (HB.out.cell (bL_ w _ hx401_5)).trans hx401_5
     replace hx401_6 := (HB.out.cell (bL_ w _ hx401_6)).trans hx401_6
     replace hx401_7 := (HB.out.cell (bL_ w _ hx401_7)).trans hx401_7
     replace hx401_8 := (HB.out.cell (bL_ w _ hx401_8)).trans hx401_8
     replace hx401_9 := (HB.out.cell (bL_ w _ hx401_9)).trans hx401_9
     replace hx401_10 := (HB.out.cell (bL_ w _ hx401_10)).trans hx401_10
     replace hx401_11 := (HB.out.cell (bL_ w _ hx401_11)).trans hx401_11
     replace p401 := eq_true p401
     replace q401 := eq_true q401
     go_wp2
     repeat (go_quiet (fail); try go_wp2)
     go_roundg k2
     case measure => have := HJ2.out; have := HK2.out; omega
     case rel => exact ⟨(wrap64 (x5_2 + 1)), (by first | rfl | (simp; done) | (simp [*]; done)), H', ⟨by have := HJ2.out; have := HK2.out; omega⟩, ⟨by (with_reducible repeat (first | refine kN_ ?_ _ | refine kD_ ?_ | refine kA_ ?_ _)); exact BK398.out⟩, ⟨by (with_reducible repeat (first | refine kN_ ?_ _ | refine kD_ ?_ | refine kA_ ?_ _)); exact BK399.out⟩, ⟨by repeat (first | (with_reducible first | exact HB.out | apply bA_ | apply bN_ | apply b1_ | refine bS_ ?_ GE398.out | refine bS_ ?_ GE399.out) | exact HB.out)⟩⟩
end Go.Proofs.YtphblfmjdiigkaaGreatDoor.HFnNetSame
