-- Made by a program of this session (hp.py) over the kit's print: functions told by hand stand beside printed ones. Lean checks it.
import Derived.Test.YtphblfmjdiigkaaGreatDoorTFnNetSameHFnNetSamex5
namespace Go.Proofs.YtphblfmjdiigkaaGreatDoor.HFnNetSame
open Go.RowKit Go.Proofs.YtphblfmjdiigkaaGreatDoorW.PrintWords Go.Proofs.YtphblfmjdiigkaaGreatDoorW.PrintLast Go.Proofs.YtphblfmjdiigkaaGreatDoorW.PrintMore
attribute [local go_sem] max2_int min2_int max_two min_two max_three min_three max_four min_four
set_option linter.unusedVariables false
set_option linter.unusedSimpArgs false
mutual
def impl_Net_order.l0 : Nat → List Int → List (S43) → Int → Int → List (S43) → List (S66) → Option (List Int)
  | 0, _, _, _, _, _, _ => none
  | k + 1, x3, x16, x17, x18, x123000, x123001 => if x18 < x17 then (if 0 ≤ x18 then (if x18 < (x16.length : Int) then (impl_Net_order.l1 k x3 x18 x16 x17 x18 (x123000.length : Int) 0 x123000 x123001 ((rd_T43 x16 x18).f0) ((rd_T43 x16 x18).f1) ((rd_T43 x16 x18).f2.f0) ((rd_T43 x16 x18).f2.f1) ((rd_T43 x16 x18).f2.f2.f0) ((rd_T43 x16 x18).f2.f2.f1) ((rd_T43 x16 x18).f2.f3) ((rd_T43 x16 x18).f3.f0) ((rd_T43 x16 x18).f3.f1) ((rd_T43 x16 x18).f3.f2.f0) ((rd_T43 x16 x18).f3.f2.f1) ((rd_T43 x16 x18).f3.f3)) else (none)) else (none)) else (impl_Net_order.l2 k x3 ([] : List Int) x123000 x123001)
def impl_Net_order.l1 : Nat → List Int → Int → List (S43) → Int → Int → Int → Int → List (S43) → List (S66) → Int → Int → Int → Int → Int → Int → Bool → Int → Int → Int → Int → Bool → Option (List Int)
  | 0, _, _, _, _, _, _, _, _, _, _, _, _, _, _, _, _, _, _, _, _, _ => none
  | k + 1, x3, x4, x16, x17, x18, x25, x26, x123000, x123001, x128000, x128001, x128002, x128003, x128004, x128005, x128006, x128007, x128008, x128009, x128010, x128011 => if x26 < x25 then (if 0 ≤ x4 then (if x4 < (x3.length : Int) then ((impl_Wire_waits.f k x128000 x128001 x128002 x128003 x128004 x128005 x128006 x128007 x128008 x128009 x128010 x128011 x26).bind fun t129 => (impl_Net_order.l1 k (x3.set (x4 : Int).toNat (wrap64 ((rd x3 x4) + t129))) x4 x16 x17 x18 x25 (wrap64 (x26 + 1)) x123000 x123001 x128000 x128001 x128002 x128003 x128004 x128005 x128006 x128007 x128008 x128009 x128010 x128011)) else (none)) else (none)) else (impl_Net_order.l0 k x3 x16 x17 (wrap64 (x18 + 1)) x123000 x123001)
def impl_Net_order.l2 : Nat → List Int → List Int → List (S43) → List (S66) → Option (List Int)
  | 0, _, _, _, _ => none
  | k + 1, x3, x7, x123000, x123001 => (slices_Index_int_int.f k x3 0).bind fun t131 => (if t131 < 0 then (some x7) else (if x7.length < 17592186044416 then (if 0 ≤ t131 then (if t131 < (x3.length : Int) then (impl_Net_order.l3 k (x3.set (t131 : Int).toNat (-1)) (x7 ++ [t131]) t131 x123000 (x123000.length : Int) 0 x123000 x123001) else (none)) else (none)) else (none)))
def impl_Net_order.l3 : Nat → List Int → List Int → Int → List (S43) → Int → Int → List (S43) → List (S66) → Option (List Int)
  | 0, _, _, _, _, _, _, _, _ => none
  | k + 1, x3, x7, x8, x53, x54, x55, x123000, x123001 => if x55 < x54 then (if 0 ≤ x55 then (if x55 < (x53.length : Int) then (if x55 < (x3.length : Int) then ((impl_Wire_waits.f k ((rd_T43 x53 x55).f0) ((rd_T43 x53 x55).f1) ((rd_T43 x53 x55).f2.f0) ((rd_T43 x53 x55).f2.f1) ((rd_T43 x53 x55).f2.f2.f0) ((rd_T43 x53 x55).f2.f2.f1) ((rd_T43 x53 x55).f2.f3) ((rd_T43 x53 x55).f3.f0) ((rd_T43 x53 x55).f3.f1) ((rd_T43 x53 x55).f3.f2.f0) ((rd_T43 x53 x55).f3.f2.f1) ((rd_T43 x53 x55).f3.f3) x8).bind fun t139 => (impl_Net_order.l3 k (x3.set (x55 : Int).toNat (wrap64 ((rd x3 x55) - t139))) x7 x8 x53 x54 (wrap64 (x55 + 1)) x123000 x123001)) else (none)) else (none)) else (none)) else (impl_Net_order.l2 k x3 x7 x123000 x123001)
end
def impl_Net_order.f (k : Nat) (l0_0 : List (S43)) (l0_1 : List (S66)) : Option (List Int) := if 0 ≤ (l0_0.length : Int) then (if ((l0_0.length : Int) : Int).toNat ≤ 35184372088832 then (impl_Net_order.l0 k (List.replicate ((l0_0.length : Int) : Int).toNat 0) l0_0 (l0_0.length : Int) 0 l0_0 l0_1) else (none)) else (none)
def impl_Net_order.T8 : Bool × List (List Nat × List Nat) := (true, [([], []), ([], []), ([0, 1], [0, 1]), ([2], [2]), ([], []), ([], []), ([4, 5], [4, 5]), ([3, 6], [3, 6]), ([0, 1, 0, 1, 2, 3, 4, 5, 6, 7], [0, 1]), ([8, 7, 6, 0, 1, 2, 3, 4, 5, 6, 7], [7, 8])])
def impl_Net_order.B8 : List Nat := [0, 0, 3, 7, 0, 0, 48, 127, 255, 511]
theorem impl_Net_order.tab8 : rtab .any (opsOf Tryz.f52 8) = impl_Net_order.T8 := by kernel_rfl
theorem impl_Net_order.bits8 : waitsOk impl_Net_order.T8.2 impl_Net_order.B8 = true := by kernel_rfl
def impl_Net_order.T20 : Bool × List (List Nat × List Nat) := (true, [([], []), ([], []), ([0, 1], [0, 1]), ([2], [2]), ([], []), ([], []), ([4, 5], [4, 5]), ([3, 6], [3, 6]), ([0, 1, 0, 1, 2, 3, 4, 5, 6, 7], [0, 1]), ([8, 7, 6, 0, 1, 2, 3, 4, 5, 6, 7], [7, 8])])
def impl_Net_order.B20 : List Nat := [0, 0, 3, 7, 0, 0, 48, 127, 255, 511]
theorem impl_Net_order.tab20 : rtab .any (opsOf Tryz.f52 20) = impl_Net_order.T20 := by kernel_rfl
theorem impl_Net_order.bits20 : waitsOk impl_Net_order.T20.2 impl_Net_order.B20 = true := by kernel_rfl
set_option maxHeartbeats 8000000 in
set_option maxRecDepth 100000 in
theorem impl_Net_order.calls (k : Nat) (A0_0 : Option Addr) (c0_0 : Nat) (l0_0 : List (S43)) (A0_1 : Option Addr) (c0_1 : Nat) (l0_1 : List (S66)) (r : List Int) (w : World) (hr0_0 : Kd.C k43 w A0_0 l0_0.length l0_0) (hc0_0 : l0_0.length ≤ c0_0) (hr0_1 : Kd.C k66 w A0_1 l0_1.length l0_1) (hc0_1 : l0_1.length ≤ c0_1) (h : impl_Net_order.f k l0_0 l0_1 = some r) :
    Calls Tryz.prog 52 #[.agg #[.slice A0_0 l0_0.length c0_0, .slice A0_1 l0_1.length c0_1]] w fun e w' => ∃ v0_ : Value, e = .returned (v0_) ∧ Kd.R (Kd.int .i64) 3 w' w.heap.size (fun _ => True) v0_ r ∧ Below w.heap.size w w' := by
 have hu31 := Tryz.underlying31
 have hu43 := Tryz.underlying43
 have HR0_0 := aM_ hr0_0
 have HC0_0 := aM_ hc0_0
 clear hr0_0 hc0_0
 have HR0_1 := aM_ hr0_1
 have HC0_1 := aM_ hc0_1
 clear hr0_1 hc0_1
 have HB := aM_ (Below.refl w.heap.size w)
 have H : (if 0 ≤ (l0_0.length : Int) then (if ((l0_0.length : Int) : Int).toNat ≤ 35184372088832 then (impl_Net_order.l0 k (List.replicate ((l0_0.length : Int) : Int).toNat 0) l0_0 (l0_0.length : Int) 0 l0_0 l0_1) else (none)) else (none)) = some r := h
 clear h
 by_cases c2 : 0 ≤ (l0_0.length : Int)
 rotate_left
 · rw [if_neg c2] at H
   exact absurd H (by simp)
 rw [if_pos c2] at H
 have c2b0 := eq_true c2
 have c2b1 : decide (0 ≤ (l0_0.length : Int)) = true := dT_ c2
 clear c2
 by_cases c3 : ((l0_0.length : Int) : Int).toNat ≤ 35184372088832
 rotate_left
 · rw [if_neg c3] at H
   exact absurd H (by simp)
 rw [if_pos c3] at H
 have c3b0 := eq_true c3
 have c3b1 : decide (((l0_0.length : Int) : Int).toNat ≤ 35184372088832) = true := dT_ c3
 clear c3
 obtain ⟨y123, hy123⟩ : ∃ y_ : List Int, y_ = (List.replicate ((l0_0.length : Int) : Int).toNat 0) := ⟨_, rfl⟩
 replace H : (impl_Net_order.l0 k y123 l0_0 (l0_0.length : Int) 0 l0_0 l0_1) = some r := by first | (rw [hy123]; with_reducible exact H) | (have H2_ := (Option.bind_some _ _).symm.trans H; rw [hy123]; with_reducible exact H2_) | (have H2_ := (Option.bind_some _ _).symm.trans H; with_reducible exact H2_) | with_reducible exact H | (rw [hy123]; exact H) | exact H
 have Ny123 := aM_ hy123
 clear hy123
 have H' := aM_ H
 clear H
 go_enter Tryz.func52, Tryz.ntmps52
 go_wp2_with (first | ((with_reducible refine gate_dst (N := 1) rfl ?_); refine box_event ?hg (N := 1) ?hd (cs := #[.slice A0_0 l0_0.length c0_0, .slice A0_1 l0_1.length c0_1]) (t := 31) ?hr ?_; (case hd => rfl); (case hg => rfl); (case hr => first | (go_simp; done) | (go_simp; rfl)); intro gb122 hg w4 hbox hb; have n0_ := aM_ (bT_ (by repeat (first | (with_reducible first | exact HB.out | apply bA_ | apply bN_ | apply b1_) | exact HB.out)) hb); have n1_ := aM_ (hbox); have n2_ := aM_ ((by rw [hg]; exact (bZ_ (by repeat (first | (with_reducible first | exact HB.out | apply bA_ | apply bN_ | apply b1_) | exact HB.out))) : w.heap.size ≤ gb122)); have n3_ := aM_ ((by rw [hg]; exact (bZ_ (by repeat (first | (with_reducible first | exact HB.out | apply bA_ | apply bN_ | apply b1_) | exact HB.out))) : w.heap.size ≤ gb122)); clear HB; have HB := n0_; have BK122 := n1_; have GW122 := n2_; have GE122 := n3_; clear n0_ n1_ n2_ n3_ hb hbox hg; (obtain ⟨hcz5_0, hcz5_1⟩ := cells2 BK122.out); (obtain ⟨hfz5_0, hfz5_1⟩ := frozen2 BK122.out)) | ((with_reducible refine gate_dst (N := 14) rfl ?_); refine Kd.R_make (Kd.int .i64) _ 3 rfl (N := 14) rfl 75 _ _ rfl (l0_0.length : Int) rfl rfl Tryz.underlying75 (.int .i64 0) 8 info3 rfl (by decide) (by omega) 0 (ok := fun _ => True) (okp := fun _ => True) rfl (fun _ hk => hk) trivial (oD_ (by first | (with_reducible assumption) | assumption)) (Nat.le_trans (Nat.mul_le_mul_right _ (oD_ (by first | (with_reducible assumption) | assumption) : (l0_0.length : Int).toNat ≤ 35184372088832)) (by omega)) (Below.refl _ _) (Nat.le_refl _) ?_; intro v124 w6 ho7 hb hg_ hnew_; clear hg_ hnew_; (first | rw [← Ny123.out] at ho7 | (simp only [Int.reduceToNat] at ho7; rw [← Ny123.out] at ho7)); have n0_ := aM_ (Kd.R_lower ho7 (bZ_ (by repeat (first | (with_reducible first | exact HB.out | apply bA_ | apply bN_ | apply b1_ | refine bS_ ?_ GE122.out) | exact HB.out)))); have n1_ := aM_ (blk_below (g := gb122) (o := .cells #[.slice A0_0 l0_0.length c0_0, .slice A0_1 l0_1.length c0_1] 31 (0, 0)) (by (with_reducible repeat (first | refine kN_ ?_ _ | refine kD_ ?_ | refine kA_ ?_ _)); exact BK122.out) hb); have n2_ := aM_ (bT_ (by repeat (first | (with_reducible first | exact HB.out | apply bA_ | apply bN_ | apply b1_ | refine bS_ ?_ GE122.out) | exact HB.out)) hb); clear BK122 HB; have HO125 := n0_; have BK122 := n1_; have HB := n2_; clear n0_ n1_ n2_ hb ho7; (obtain ⟨hcz8_0, hcz8_1⟩ := cells2 BK122.out); (obtain ⟨hfz8_0, hfz8_1⟩ := frozen2 BK122.out)))
 go_loopg [18] k (fun kq v18 w' => ∃ (x3_1 : List Int) (x18_1 : Int), v18 = .int .i64 x18_1 ∧ Aside0 (impl_Net_order.l0 kq x3_1 l0_0 (l0_0.length : Int) x18_1 l0_0 l0_1 = some r) ∧ Aside0 (kq ≤ k) ∧ Aside0 (Kd.R (Kd.int .i64) 3 w' w.heap.size (fun _ => True) v124 x3_1) ∧ Aside0 (w'.heap[gb122]? = some (.cells #[(.slice A0_0 l0_0.length c0_0), (.slice A0_1 l0_1.length c0_1)] 31 (0, 0))) ∧ Aside0 (Below w.heap.size w w'))
 case atStart => exact ⟨(y123), (0), (by first | rfl | (simp; done) | (simp [*]; done)), H', ⟨Nat.le_refl _⟩, ⟨by (with_reducible repeat (first | apply rN_ | apply rD_)); exact HO125.out⟩, ⟨by (with_reducible repeat (first | refine kN_ ?_ _ | refine kD_ ?_ | refine kA_ ?_ _)); exact BK122.out⟩, ⟨by repeat (first | (with_reducible first | exact HB.out | apply bA_ | apply bN_ | apply b1_ | refine bS_ ?_ GE122.out) | exact HB.out)⟩⟩
 case round =>
  clear H'
  try clear c2
  try clear c2b0
  try clear c2b1
  try clear p2
  try clear c3
  try clear c3b0
  try clear c3b1
  try clear c5
  try clear hcz5_0
  try clear hcz5_1
  try clear hcz8_0
  try clear hcz8_1
  try clear hfz5_0
  try clear hfz5_1
  try clear hfz8_0
  try clear hfz8_1
  obtain ⟨x3_1, x18_1, rfl, HA, HK1, HO_3, BK122, HB⟩ := hrel
  cases gk with
  | zero => exact absurd HA.out (by simp [impl_Net_order.l0])
  | succ k1 =>
   have H := HA.out
   clear HA
   simp only [impl_Net_order.l0] at H
   by_cases c9 : x18_1 < (l0_0.length : Int)
   · rw [if_pos c9] at H
     have c9b0 : decide (x18_1 < (l0_0.length : Int)) = true := dT_ c9
     clear c9
     by_cases c10 : 0 ≤ x18_1
     rotate_left
     · rw [if_neg c10] at H
       exact absurd H (by simp)
     rw [if_pos c10] at H
     have c10b0 : decide (0 ≤ x18_1) = true := dT_ c10
     clear c10
     by_cases c11 : x18_1 < (l0_0.length : Int)
     rotate_left
     · rw [if_neg c11] at H
       exact absurd H (by simp)
     rw [if_pos c11] at H
     have c11b0 : decide (x18_1 < (l0_0.length : Int)) = true := dT_ c11
     clear c11
     have H' := aM_ H
     clear H
     have p126 : 0 ≤ (x18_1 : Int) := oD_ (by first | (with_reducible assumption) | assumption)
     have q126 : x18_1 < (l0_0.length : Int) := oD_ (by first | (with_reducible assumption) | assumption)
     obtain ⟨ad126, e126, hx126_0, hx126_1, hx126_2, hx126_3, hx126_4, hx126_5, hx126_6, hx126_7, hx126_8, hx126_9, hx126_10, hx126_11⟩ := at_T43 HR0_0.out x18_1 p126 q126
     cases e126
     replace hx126_0 := (HB.out.cell (bL_ w _ hx126_0)).trans hx126_0
     replace hx126_1 := (HB.out.cell (bL_ w _ hx126_1)).trans hx126_1
     replace hx126_2 := (HB.out.cell (bL_ w _ hx126_2)).trans hx126_2
     replace hx126_3 := (HB.out.cell (bL_ w _ hx126_3)).trans hx126_3
     replace hx126_4 := (HB.out.cell (bL_ w _ hx126_4)).trans hx126_4
     replace hx126_5 := (HB.out.cell (bL_ w _ hx126_5)).trans hx126_5
     replace hx126_6 := (HB.out.cell (bL_ w _ hx126_6)).trans hx126_6
     replace hx126_7 := (HB.out.cell (bL_ w _ hx126_7)).trans hx126_7
     replace hx126_8 := (HB.out.cell (bL_ w _ hx126_8)).trans hx126_8
     replace hx126_9 := (HB.out.cell (bL_ w _ hx126_9)).trans hx126_9
     replace hx126_10 := (HB.out.cell (bL_ w _ hx126_10)).trans hx126_10
     replace hx126_11 := (HB.out.cell (bL_ w _ hx126_11)).trans hx126_11
     replace p126 := eq_true p126
     replace q126 := eq_true q126
     go_wp2_with (first | ((with_reducible refine gate_dst (N := 5) rfl ?_); refine box_event ?hg (N := 5) ?hd (cs := #[.int .i64 0, .int .i64 0, .int .i64 0, .int .i64 0, .int .i64 0, .int .i64 0, .bool false, .int .i64 0, .int .i64 0, .int .i64 0, .int .i64 0, .bool false]) (t := 43) ?hr ?_; (case hd => rfl); (case hg => rfl); (case hr => first | (go_simp; done) | (go_simp; rfl)); intro gb127 hg w12 hbox hb; have n0_ := aM_ (Kd.R_below (by (with_reducible repeat (first | apply rN_ | apply rD_)); exact HO_3.out) hb); have n1_ := aM_ (blk_below (g := gb122) (o := .cells #[.slice (some ad126) l0_0.length c0_0, .slice A0_1 l0_1.length c0_1] 31 (0, 0)) (by (with_reducible repeat (first | refine kN_ ?_ _ | refine kD_ ?_ | refine kA_ ?_ _)); exact BK122.out) hb); have n2_ := aM_ (bT_ (by repeat (first | (with_reducible first | exact HB.out | apply bA_ | apply bN_ | apply b1_ | refine bS_ ?_ GE122.out) | exact HB.out)) hb); have n3_ := aM_ (hbox); have n4_ := aM_ ((by rw [hg]; exact (bZ_ (by repeat (first | (with_reducible first | exact HB.out | apply bA_ | apply bN_ | apply b1_ | refine bS_ ?_ GE122.out) | exact HB.out))) : w.heap.size ≤ gb127)); have n5_ := aM_ ((by rw [hg]; exact (bZ_ (by repeat (first | (with_reducible first | exact HB.out | apply bA_ | apply bN_ | apply b1_ | refine bS_ ?_ GE122.out) | exact HB.out))) : w.heap.size ≤ gb127)); have n6_ := aM_ ((by rw [hg]; exact Nat.ne_of_lt (blk_lt (g := gb122) (o := .cells #[.slice (some ad126) l0_0.length c0_0, .slice A0_1 l0_1.length c0_1] 31 (0, 0)) (by (with_reducible repeat (first | refine kN_ ?_ _ | refine kD_ ?_ | refine kA_ ?_ _)); exact BK122.out)) : gb122 ≠ gb127)); have n7_ := aM_ ((by rw [hg]; exact Nat.ne_of_gt (blk_lt (g := gb122) (o := .cells #[.slice (some ad126) l0_0.length c0_0, .slice A0_1 l0_1.length c0_1] 31 (0, 0)) (by (with_reducible repeat (first | refine kN_ ?_ _ | refine kD_ ?_ | refine kA_ ?_ _)); exact BK122.out)) : gb127 ≠ gb122)); clear HO_3 BK122 HB; have HO_3 := n0_; have BK122 := n1_; have HB := n2_; have BK127 := n3_; have GW127 := n4_; have GE127 := n5_; have NB122_127 := n6_; have NB127_122 := n7_; clear n0_ n1_ n2_ n3_ n4_ n5_ n6_ n7_ hb hbox hg; have hnb13 := NB127_122.out; have hnc13 := NB122_127.out; (obtain ⟨hcz14_0, hcz14_1, hcz14_2, hcz14_3, hcz14_4, hcz14_5, hcz14_6, hcz14_7, hcz14_8, hcz14_9, hcz14_10, hcz14_11⟩ := cells12 BK127.out); (obtain ⟨hfz14_0, hfz14_1, hfz14_2, hfz14_3, hfz14_4, hfz14_5, hfz14_6, hfz14_7, hfz14_8, hfz14_9, hfz14_10, hfz14_11⟩ := frozen12 BK127.out); (obtain ⟨hcz15_0, hcz15_1⟩ := cells2 BK122.out); (obtain ⟨hfz15_0, hfz15_1⟩ := frozen2 BK122.out)))
     go_loopg [26] k1 (fun kq v26 w' => ∃ (x3_2 : List Int) (x26_2 : Int), v26 = .int .i64 x26_2 ∧ Aside0 (impl_Net_order.l1 kq x3_2 x18_1 l0_0 (l0_0.length : Int) x18_1 (l0_0.length : Int) x26_2 l0_0 l0_1 ((rd_T43 l0_0 x18_1).f0) ((rd_T43 l0_0 x18_1).f1) ((rd_T43 l0_0 x18_1).f2.f0) ((rd_T43 l0_0 x18_1).f2.f1) ((rd_T43 l0_0 x18_1).f2.f2.f0) ((rd_T43 l0_0 x18_1).f2.f2.f1) ((rd_T43 l0_0 x18_1).f2.f3) ((rd_T43 l0_0 x18_1).f3.f0) ((rd_T43 l0_0 x18_1).f3.f1) ((rd_T43 l0_0 x18_1).f3.f2.f0) ((rd_T43 l0_0 x18_1).f3.f2.f1) ((rd_T43 l0_0 x18_1).f3.f3) = some r) ∧ Aside0 (kq ≤ k1) ∧ Aside0 (Kd.R (Kd.int .i64) 3 w' w.heap.size (fun _ => True) v124 x3_2) ∧ Aside0 (w'.heap[gb122]? = some (.cells #[(.slice (some ad126) l0_0.length c0_0), (.slice A0_1 l0_1.length c0_1)] 31 (0, 0))) ∧ Aside0 (w'.heap[gb127]? = some (.cells #[.int .i64 ((rd_T43 l0_0 x18_1).f0), .int .i64 ((rd_T43 l0_0 x18_1).f1), .int .i64 ((rd_T43 l0_0 x18_1).f2.f0), .int .i64 ((rd_T43 l0_0 x18_1).f2.f1), .int .i64 ((rd_T43 l0_0 x18_1).f2.f2.f0), .int .i64 ((rd_T43 l0_0 x18_1).f2.f2.f1), .bool ((rd_T43 l0_0 x18_1).f2.f3), .int .i64 ((rd_T43 l0_0 x18_1).f3.f0), .int .i64 ((rd_T43 l0_0 x18_1).f3.f1), .int .i64 ((rd_T43 l0_0 x18_1).f3.f2.f0), .int .i64 ((rd_T43 l0_0 x18_1).f3.f2.f1), .bool ((rd_T43 l0_0 x18_1).f3.f3)] 43 (0, 0))) ∧ Aside0 (Below w.heap.size w w'))
     case atStart => exact ⟨(x3_1), (0), (by first | rfl | (simp; done) | (simp [*]; done)), H', ⟨Nat.le_refl _⟩, ⟨by (with_reducible repeat (first | apply rN_ | apply rD_)); exact Kd.R_mono (rF_ (p := ⟨gb127, 11, none⟩) (rF_ (p := ⟨gb127, 10, none⟩) (rF_ (p := ⟨gb127, 9, none⟩) (rF_ (p := ⟨gb127, 8, none⟩) (rF_ (p := ⟨gb127, 7, none⟩) (rF_ (p := ⟨gb127, 6, none⟩) (rF_ (p := ⟨gb127, 5, none⟩) (rF_ (p := ⟨gb127, 4, none⟩) (rF_ (p := ⟨gb127, 3, none⟩) (rF_ (p := ⟨gb127, 2, none⟩) (rF_ (p := ⟨gb127, 1, none⟩) (rF_ (p := ⟨gb127, 0, none⟩) (Kd.R_types HO_3.out BK127.out (by decide)) (fun _ hk => hk.2) (.int .i64 ((rd_T43 l0_0 x18_1).f0))) (fun _ hk => hk.2) (.int .i64 ((rd_T43 l0_0 x18_1).f1))) (fun _ hk => hk.2) (.int .i64 ((rd_T43 l0_0 x18_1).f2.f0))) (fun _ hk => hk.2) (.int .i64 ((rd_T43 l0_0 x18_1).f2.f1))) (fun _ hk => hk.2) (.int .i64 ((rd_T43 l0_0 x18_1).f2.f2.f0))) (fun _ hk => hk.2) (.int .i64 ((rd_T43 l0_0 x18_1).f2.f2.f1))) (fun _ hk => hk.2) (.bool ((rd_T43 l0_0 x18_1).f2.f3))) (fun _ hk => hk.2) (.int .i64 ((rd_T43 l0_0 x18_1).f3.f0))) (fun _ hk => hk.2) (.int .i64 ((rd_T43 l0_0 x18_1).f3.f1))) (fun _ hk => hk.2) (.int .i64 ((rd_T43 l0_0 x18_1).f3.f2.f0))) (fun _ hk => hk.2) (.int .i64 ((rd_T43 l0_0 x18_1).f3.f2.f1))) (fun _ hk => hk.2) (.bool ((rd_T43 l0_0 x18_1).f3.f3))) (fun _ hk => trivial)⟩, ⟨by (with_reducible repeat (first | refine kN_ ?_ _ | refine kD_ ?_ | refine kA_ ?_ _)); refine blk_far ?_ NB122_127.out _; (with_reducible repeat (first | refine kN_ ?_ _ | refine kD_ ?_ | refine kA_ ?_ _)); refine blk_far ?_ NB122_127.out _; (with_reducible repeat (first | refine kN_ ?_ _ | refine kD_ ?_ | refine kA_ ?_ _)); refine blk_far ?_ NB122_127.out _; (with_reducible repeat (first | refine kN_ ?_ _ | refine kD_ ?_ | refine kA_ ?_ _)); refine blk_far ?_ NB122_127.out _; (with_reducible repeat (first | refine kN_ ?_ _ | refine kD_ ?_ | refine kA_ ?_ _)); refine blk_far ?_ NB122_127.out _; (with_reducible repeat (first | refine kN_ ?_ _ | refine kD_ ?_ | refine kA_ ?_ _)); refine blk_far ?_ NB122_127.out _; (with_reducible repeat (first | refine kN_ ?_ _ | refine kD_ ?_ | refine kA_ ?_ _)); refine blk_far ?_ NB122_127.out _; (with_reducible repeat (first | refine kN_ ?_ _ | refine kD_ ?_ | refine kA_ ?_ _)); refine blk_far ?_ NB122_127.out _; (with_reducible repeat (first | refine kN_ ?_ _ | refine kD_ ?_ | refine kA_ ?_ _)); refine blk_far ?_ NB122_127.out _; (with_reducible repeat (first | refine kN_ ?_ _ | refine kD_ ?_ | refine kA_ ?_ _)); refine blk_far ?_ NB122_127.out _; (with_reducible repeat (first | refine kN_ ?_ _ | refine kD_ ?_ | refine kA_ ?_ _)); refine blk_far ?_ NB122_127.out _; (with_reducible repeat (first | refine kN_ ?_ _ | refine kD_ ?_ | refine kA_ ?_ _)); refine blk_far ?_ NB122_127.out _; (with_reducible repeat (first | refine kN_ ?_ _ | refine kD_ ?_ | refine kA_ ?_ _)); exact BK122.out⟩, ⟨by (with_reducible repeat (first | refine kN_ ?_ _ | refine kD_ ?_ | refine kA_ ?_ _)); refine kP_ (cs := #[.int .i64 ((rd_T43 l0_0 x18_1).f0), .int .i64 ((rd_T43 l0_0 x18_1).f1), .int .i64 ((rd_T43 l0_0 x18_1).f2.f0), .int .i64 ((rd_T43 l0_0 x18_1).f2.f1), .int .i64 ((rd_T43 l0_0 x18_1).f2.f2.f0), .int .i64 ((rd_T43 l0_0 x18_1).f2.f2.f1), .bool ((rd_T43 l0_0 x18_1).f2.f3), .int .i64 ((rd_T43 l0_0 x18_1).f3.f0), .int .i64 ((rd_T43 l0_0 x18_1).f3.f1), .int .i64 ((rd_T43 l0_0 x18_1).f3.f2.f0), .int .i64 ((rd_T43 l0_0 x18_1).f3.f2.f1), .bool false]) ?_ 11 _ rfl; (with_reducible repeat (first | refine kN_ ?_ _ | refine kD_ ?_ | refine kA_ ?_ _)); refine kP_ (cs := #[.int .i64 ((rd_T43 l0_0 x18_1).f0), .int .i64 ((rd_T43 l0_0 x18_1).f1), .int .i64 ((rd_T43 l0_0 x18_1).f2.f0), .int .i64 ((rd_T43 l0_0 x18_1).f2.f1), .int .i64 ((rd_T43 l0_0 x18_1).f2.f2.f0), .int .i64 ((rd_T43 l0_0 x18_1).f2.f2.f1), .bool ((rd_T43 l0_0 x18_1).f2.f3), .int .i64 ((rd_T43 l0_0 x18_1).f3.f0), .int .i64 ((rd_T43 l0_0 x18_1).f3.f1), .int .i64 ((rd_T43 l0_0 x18_1).f3.f2.f0), .int .i64 0, .bool false]) ?_ 10 _ rfl; (with_reducible repeat (first | refine kN_ ?_ _ | refine kD_ ?_ | refine kA_ ?_ _)); refine kP_ (cs := #[.int .i64 ((rd_T43 l0_0 x18_1).f0), .int .i64 ((rd_T43 l0_0 x18_1).f1), .int .i64 ((rd_T43 l0_0 x18_1).f2.f0), .int .i64 ((rd_T43 l0_0 x18_1).f2.f1), .int .i64 ((rd_T43 l0_0 x18_1).f2.f2.f0), .int .i64 ((rd_T43 l0_0 x18_1).f2.f2.f1), .bool ((rd_T43 l0_0 x18_1).f2.f3), .int .i64 ((rd_T43 l0_0 x18_1).f3.f0), .int .i64 ((rd_T43 l0_0 x18_1).f3.f1), .int .i64 0, .int .i64 0, .bool false]) ?_ 9 _ rfl; (with_reducible repeat (first | refine kN_ ?_ _ | refine kD_ ?_ | refine kA_ ?_ _)); refine kP_ (cs := #[.int .i64 ((rd_T43 l0_0 x18_1).f0), .int .i64 ((rd_T43 l0_0 x18_1).f1), .int .i64 ((rd_T43 l0_0 x18_1).f2.f0), .int .i64 ((rd_T43 l0_0 x18_1).f2.f1), .int .i64 ((rd_T43 l0_0 x18_1).f2.f2.f0), .int .i64 ((rd_T43 l0_0 x18_1).f2.f2.f1), .bool ((rd_T43 l0_0 x18_1).f2.f3), .int .i64 ((rd_T43 l0_0 x18_1).f3.f0), .int .i64 0, .int .i64 0, .int .i64 0, .bool false]) ?_ 8 _ rfl; (with_reducible repeat (first | refine kN_ ?_ _ | refine kD_ ?_ | refine kA_ ?_ _)); refine kP_ (cs := #[.int .i64 ((rd_T43 l0_0 x18_1).f0), .int .i64 ((rd_T43 l0_0 x18_1).f1), .int .i64 ((rd_T43 l0_0 x18_1).f2.f0), .int .i64 ((rd_T43 l0_0 x18_1).f2.f1), .int .i64 ((rd_T43 l0_0 x18_1).f2.f2.f0), .int .i64 ((rd_T43 l0_0 x18_1).f2.f2.f1), .bool ((rd_T43 l0_0 x18_1).f2.f3), .int .i64 0, .int .i64 0, .int .i64 0, .int .i64 0, .bool false]) ?_ 7 _ rfl; (with_reducible repeat (first | refine kN_ ?_ _ | refine kD_ ?_ | refine kA_ ?_ _)); refine kP_ (cs := #[.int .i64 ((rd_T43 l0_0 x18_1).f0), .int .i64 ((rd_T43 l0_0 x18_1).f1), .int .i64 ((rd_T43 l0_0 x18_1).f2.f0), .int .i64 ((rd_T43 l0_0 x18_1).f2.f1), .int .i64 ((rd_T43 l0_0 x18_1).f2.f2.f0), .int .i64 ((rd_T43 l0_0 x18_1).f2.f2.f1), .bool false, .int .i64 0, .int .i64 0, .int .i64 0, .int .i64 0, .bool false]) ?_ 6 _ rfl; (with_reducible repeat (first | refine kN_ ?_ _ | refine kD_ ?_ | refine kA_ ?_ _)); refine kP_ (cs := #[.int .i64 ((rd_T43 l0_0 x18_1).f0), .int .i64 ((rd_T43 l0_0 x18_1).f1), .int .i64 ((rd_T43 l0_0 x18_1).f2.f0), .int .i64 ((rd_T43 l0_0 x18_1).f2.f1), .int .i64 ((rd_T43 l0_0 x18_1).f2.f2.f0), .int .i64 0, .bool false, .int .i64 0, .int .i64 0, .int .i64 0, .int .i64 0, .bool false]) ?_ 5 _ rfl; (with_reducible repeat (first | refine kN_ ?_ _ | refine kD_ ?_ | refine kA_ ?_ _)); refine kP_ (cs := #[.int .i64 ((rd_T43 l0_0 x18_1).f0), .int .i64 ((rd_T43 l0_0 x18_1).f1), .int .i64 ((rd_T43 l0_0 x18_1).f2.f0), .int .i64 ((rd_T43 l0_0 x18_1).f2.f1), .int .i64 0, .int .i64 0, .bool false, .int .i64 0, .int .i64 0, .int .i64 0, .int .i64 0, .bool false]) ?_ 4 _ rfl; (with_reducible repeat (first | refine kN_ ?_ _ | refine kD_ ?_ | refine kA_ ?_ _)); refine kP_ (cs := #[.int .i64 ((rd_T43 l0_0 x18_1).f0), .int .i64 ((rd_T43 l0_0 x18_1).f1), .int .i64 ((rd_T43 l0_0 x18_1).f2.f0), .int .i64 0, .int .i64 0, .int .i64 0, .bool false, .int .i64 0, .int .i64 0, .int .i64 0, .int .i64 0, .bool false]) ?_ 3 _ rfl; (with_reducible repeat (first | refine kN_ ?_ _ | refine kD_ ?_ | refine kA_ ?_ _)); refine kP_ (cs := #[.int .i64 ((rd_T43 l0_0 x18_1).f0), .int .i64 ((rd_T43 l0_0 x18_1).f1), .int .i64 0, .int .i64 0, .int .i64 0, .int .i64 0, .bool false, .int .i64 0, .int .i64 0, .int .i64 0, .int .i64 0, .bool false]) ?_ 2 _ rfl; (with_reducible repeat (first | refine kN_ ?_ _ | refine kD_ ?_ | refine kA_ ?_ _)); refine kP_ (cs := #[.int .i64 ((rd_T43 l0_0 x18_1).f0), .int .i64 0, .int .i64 0, .int .i64 0, .int .i64 0, .int .i64 0, .bool false, .int .i64 0, .int .i64 0, .int .i64 0, .int .i64 0, .bool false]) ?_ 1 _ rfl; (with_reducible repeat (first | refine kN_ ?_ _ | refine kD_ ?_ | refine kA_ ?_ _)); refine kP_ (cs := #[.int .i64 0, .int .i64 0, .int .i64 0, .int .i64 0, .int .i64 0, .int .i64 0, .bool false, .int .i64 0, .int .i64 0, .int .i64 0, .int .i64 0, .bool false]) ?_ 0 _ rfl; (with_reducible repeat (first | refine kN_ ?_ _ | refine kD_ ?_ | refine kA_ ?_ _)); exact BK127.out⟩, ⟨by repeat (first | (with_reducible first | exact HB.out | apply bA_ | apply bN_ | apply b1_ | refine bS_ ?_ GE122.out | refine bS_ ?_ GE127.out) | exact HB.out)⟩⟩
     case round =>
      clear H'
      try clear c1
      try clear p1
      try clear q1
      try clear hx1
      try clear c2
      try clear c2b0
      try clear c2b1
      try clear p2
      try clear c3
      try clear c3b0
      try clear c3b1
      try clear c5
      try clear c9
      try clear c9b0
      try clear c10
      try clear c10b0
      try clear c11
      try clear c11b0
      try clear p12
      try clear q12
      try clear hx12
      try clear c13
      try clear hcz14_0
      try clear hcz14_1
      try clear hcz14_10
      try clear hcz14_11
      try clear hcz14_2
      try clear hcz14_3
      try clear hcz14_4
      try clear hcz14_5
      try clear hcz14_6
      try clear hcz14_7
      try clear hcz14_8
      try clear hcz14_9
      try clear hcz15_0
      try clear hcz15_1
      try clear hcz5_0
      try clear hcz5_1
      try clear hcz8_0
      try clear hcz8_1
      try clear hfz14_0
      try clear hfz14_1
      try clear hfz14_10
      try clear hfz14_11
      try clear hfz14_2
      try clear hfz14_3
      try clear hfz14_4
      try clear hfz14_5
      try clear hfz14_6
      try clear hfz14_7
      try clear hfz14_8
      try clear hfz14_9
      try clear hfz15_0
      try clear hfz15_1
      try clear hfz5_0
      try clear hfz5_1
      try clear hfz8_0
      try clear hfz8_1
      try clear hx126_0
      try clear hx126_1
      try clear hx126_10
      try clear hx126_11
      try clear hx126_2
      try clear hx126_3
      try clear hx126_4
      try clear hx126_5
      try clear hx126_6
      try clear hx126_7
      try clear hx126_8
      try clear hx126_9
      try clear p126
      try clear p2
      try clear q126
      obtain ⟨x3_2, x26_2, rfl, HA, HK2, HO_3, BK122, BK127, HB⟩ := hrel
      cases gk with
      | zero => exact absurd HA.out (by simp [impl_Net_order.l1])
      | succ k2 =>
       have H := HA.out
       clear HA
       simp only [impl_Net_order.l1] at H
       by_cases c16 : x26_2 < (l0_0.length : Int)
       rotate_left
       · rw [if_neg c16] at H
         have c16b0 : decide (x26_2 < (l0_0.length : Int)) = false := dF_ c16
         clear c16
         have H' := aM_ H
         clear H
         go_wp2
         go_roundg k2
         case measure => have := HK1.out; have := HK2.out; omega
         case rel => exact ⟨(x3_2), (wrap64 (x18_1 + 1)), (by first | rfl | (simp; done) | (simp [*]; done)), H', ⟨by have := HK1.out; have := HK2.out; omega⟩, ⟨by (with_reducible repeat (first | apply rN_ | apply rD_)); exact HO_3.out⟩, ⟨by (with_reducible repeat (first | refine kN_ ?_ _ | refine kD_ ?_ | refine kA_ ?_ _)); exact BK122.out⟩, ⟨by repeat (first | (with_reducible first | exact HB.out | apply bA_ | apply bN_ | apply b1_ | refine bS_ ?_ GE122.out | refine bS_ ?_ GE127.out) | exact HB.out)⟩⟩
       rw [if_pos c16] at H
       have c16b0 : decide (x26_2 < (l0_0.length : Int)) = true := dT_ c16
       clear c16
       by_cases c17 : 0 ≤ x18_1
       rotate_left
       · rw [if_neg c17] at H
         exact absurd H (by simp)
       rw [if_pos c17] at H
       have c17b0 : decide (0 ≤ x18_1) = true := dT_ c17
       clear c17
       by_cases c18 : x18_1 < (x3_2.length : Int)
       rotate_left
       · rw [if_neg c18] at H
         exact absurd H (by simp)
       rw [if_pos c18] at H
       have c18b0 : decide (x18_1 < (x3_2.length : Int)) = true := dT_ c18
       clear c18
       replace H := Option.bind_eq_some_iff.mp H
       obtain ⟨t129, A190, H⟩ := H
       replace H : (impl_Net_order.l1 k2 (x3_2.set (x18_1 : Int).toNat (wrap64 ((rd x3_2 x18_1) + t129))) x18_1 l0_0 (l0_0.length : Int) x18_1 (l0_0.length : Int) (wrap64 (x26_2 + 1)) l0_0 l0_1 ((rd_T43 l0_0 x18_1).f0) ((rd_T43 l0_0 x18_1).f1) ((rd_T43 l0_0 x18_1).f2.f0) ((rd_T43 l0_0 x18_1).f2.f1) ((rd_T43 l0_0 x18_1).f2.f2.f0) ((rd_T43 l0_0 x18_1).f2.f2.f1) ((rd_T43 l0_0 x18_1).f2.f3) ((rd_T43 l0_0 x18_1).f3.f0) ((rd_T43 l0_0 x18_1).f3.f1) ((rd_T43 l0_0 x18_1).f3.f2.f0) ((rd_T43 l0_0 x18_1).f3.f2.f1) ((rd_T43 l0_0 x18_1).f3.f3)) = some r := H
       have A19 := aM_ A190
       clear A190
       obtain ⟨y130, hy130⟩ : ∃ y_ : List Int, y_ = (x3_2.set (x18_1 : Int).toNat (wrap64 ((rd x3_2 x18_1) + t129))) := ⟨_, rfl⟩
       replace H : (impl_Net_order.l1 k2 y130 x18_1 l0_0 (l0_0.length : Int) x18_1 (l0_0.length : Int) (wrap64 (x26_2 + 1)) l0_0 l0_1 ((rd_T43 l0_0 x18_1).f0) ((rd_T43 l0_0 x18_1).f1) ((rd_T43 l0_0 x18_1).f2.f0) ((rd_T43 l0_0 x18_1).f2.f1) ((rd_T43 l0_0 x18_1).f2.f2.f0) ((rd_T43 l0_0 x18_1).f2.f2.f1) ((rd_T43 l0_0 x18_1).f2.f3) ((rd_T43 l0_0 x18_1).f3.f0) ((rd_T43 l0_0 x18_1).f3.f1) ((rd_T43 l0_0 x18_1).f3.f2.f0) ((rd_T43 l0_0 x18_1).f3.f2.f1) ((rd_T43 l0_0 x18_1).f3.f3)) = some r := by first | (rw [hy130]; with_reducible exact H) | (have H2_ := (Option.bind_some _ _).symm.trans H; rw [hy130]; with_reducible exact H2_) | (have H2_ := (Option.bind_some _ _).symm.trans H; with_reducible exact H2_) | with_reducible exact H | (rw [hy130]; exact H) | exact H
       have Ny130 := aM_ hy130
       clear hy130
       have H' := aM_ H
       clear H
       try go_wp2
       have n0_ := aM_ (rD_ HO_3.out)
       have n1_ := aM_ (kD_ BK122.out)
       have n2_ := aM_ (kD_ BK127.out)
       have n3_ := aM_ (b1_ HB.out)
       clear HO_3 BK122 BK127 HB
       revert n0_ n1_ n2_ n3_
       intro HO_3 BK122 BK127 HB
       obtain ⟨Ao22, co22, eo22⟩ := Kd.R_slice HO_3.out
       (first | subst eo22 | (injection eo22 with f1_ f2_ f3_; have f4_ := f1_.symm; have f5_ := f3_.symm; clear f1_ f2_ f3_; subst f4_; subst f5_))
       have p128 : 0 ≤ (x18_1 : Int) := oD_ (by first | (with_reducible assumption) | assumption)
       have q128 : x18_1 < (x3_2.length : Int) := oD_ (by first | (with_reducible assumption) | assumption)
       obtain ⟨ad128, e128, hx128_0⟩ := Kd.at_int (Kd.R_reads' HO_3.out).2.2 x18_1 p128 q128
       cases e128
       replace p128 := eq_true p128
       replace q128 := eq_true q128
       refine start_ (n := 10) (S := fun w' => w'.cell? ⟨gb127, 0, none⟩ = some (.int .i64 ((rd_T43 l0_0 x18_1).f0)) ∧ w'.cell? ⟨gb127, 1, none⟩ = some (.int .i64 ((rd_T43 l0_0 x18_1).f1)) ∧ w'.cell? ⟨gb127, 2, none⟩ = some (.int .i64 ((rd_T43 l0_0 x18_1).f2.f0)) ∧ w'.cell? ⟨gb127, 3, none⟩ = some (.int .i64 ((rd_T43 l0_0 x18_1).f2.f1)) ∧ w'.cell? ⟨gb127, 4, none⟩ = some (.int .i64 ((rd_T43 l0_0 x18_1).f2.f2.f0)) ∧ w'.cell? ⟨gb127, 5, none⟩ = some (.int .i64 ((rd_T43 l0_0 x18_1).f2.f2.f1)) ∧ w'.cell? ⟨gb127, 6, none⟩ = some (.bool ((rd_T43 l0_0 x18_1).f2.f3)) ∧ w'.cell? ⟨gb127, 7, none⟩ = some (.int .i64 ((rd_T43 l0_0 x18_1).f3.f0)) ∧ w'.cell? ⟨gb127, 8, none⟩ = some (.int .i64 ((rd_T43 l0_0 x18_1).f3.f1)) ∧ w'.cell? ⟨gb127, 9, none⟩ = some (.int .i64 ((rd_T43 l0_0 x18_1).f3.f2.f0)) ∧ w'.cell? ⟨gb127, 10, none⟩ = some (.int .i64 ((rd_T43 l0_0 x18_1).f3.f2.f1)) ∧ w'.cell? ⟨gb127, 11, none⟩ = some (.bool ((rd_T43 l0_0 x18_1).f3.f3)) ∧ w'.cell? (ad128.add (x18_1).toNat) = some (.int .i64 (rd x3_2 x18_1))) (ds := [9]) #[F_, F_, F_, F_, F_, F_, F_, F_, F_, F_] (by kernel_rfl) rfl rfl ⟨(kC_ BK127.out 0).trans rfl, (kC_ BK127.out 1).trans rfl, (kC_ BK127.out 2).trans rfl, (kC_ BK127.out 3).trans rfl, (kC_ BK127.out 4).trans rfl, (kC_ BK127.out 5).trans rfl, (kC_ BK127.out 6).trans rfl, (kC_ BK127.out 7).trans rfl, (kC_ BK127.out 8).trans rfl, (kC_ BK127.out 9).trans rfl, (kC_ BK127.out 10).trans rfl, (kC_ BK127.out 11).trans rfl, hx128_0⟩ (fun hHeld => ?_); refine with_tabW impl_Net_order.tab8 impl_Net_order.bits8 (fun HT_ HW_ => ?_)
       generalize wr.drew = w21 at HO_3 BK122 BK127 HB hx128_0 hHeld ⊢
       refine pure_ (i := 0) (N := some 29) (v := ?_) (a' := ?_) #[T_, F_, F_, F_, F_, F_, F_, F_, F_, F_] rfl rfl (any_of HT_.out (by kernel_rfl)) (fun _ _ _ h => h) (Or.inl ⟨by rfl, ?_⟩) ?_ ?_
       rotate_left
       · intro w'
         go_simp
         with_reducible rfl
       rotate_left
       · simp only [Act.put, sA_, sB_, sC_, i64_w, i32_w]
         rfl
       refine pure_ (i := 1) (N := some 30) (v := ?_) (a' := ?_) #[T_, T_, F_, F_, F_, F_, F_, F_, F_, F_] rfl rfl (any_of HT_.out (by kernel_rfl)) (fun _ _ _ h => h) (Or.inl ⟨by rfl, ?_⟩) ?_ ?_
       rotate_left
       · intro w'
         go_simp
         with_reducible rfl
       rotate_left
       · simp only [Act.put, sA_, sB_, sC_, i64_w, i32_w]
         rfl
       refine pure_ (i := 2) (N := some 31) (v := ?_) (a' := ?_) #[T_, T_, T_, F_, F_, F_, F_, F_, F_, F_] rfl rfl (any_of HT_.out (by kernel_rfl)) (fun _ _ _ h => h) (Or.inl ⟨by rfl, ?_⟩) ?_ ?_
       rotate_left
       · intro w'
         go_simp
         with_reducible rfl
       rotate_left
       · simp only [Act.put, sA_, sB_, sC_, i64_w, i32_w]
         rfl
       refine pure_ (i := 5) (N := some 34) (v := ?_) (a' := ?_) #[T_, T_, T_, F_, F_, T_, F_, F_, F_, F_] rfl rfl (any_of HT_.out (by kernel_rfl)) (fun _ _ _ h => h) (Or.inl ⟨by rfl, ?_⟩) ?_ ?_
       rotate_left
       · intro w'
         go_simp
         with_reducible rfl
       rotate_left
       · simp only [Act.put, sA_, sB_, sC_, i64_w, i32_w]
         rfl
       refine take_ (i := 3) (N := some 32) (v := ?_) (a' := ?_) #[T_, T_, T_, T_, F_, T_, F_, F_, F_, F_] rfl rfl (take_ofW HT_.out HW_.out (by kernel_rfl)) (fun _ _ _ h => h) (Or.inl ⟨by rfl, ?_⟩) hHeld ?_ ?_
       rotate_left
       · rintro w' ⟨s0, s1, s2, s3, s4, s5, s6, s7, s8, s9, s10, s11, s12⟩
         go_simp
         with_reducible rfl
       rotate_left
       · simp only [Act.put, sA_, sB_, sC_, i64_w, i32_w]
         rfl
       refine take_ (i := 4) (N := some 33) (v := ?_) (a' := ?_) #[T_, T_, T_, T_, T_, T_, F_, F_, F_, F_] rfl rfl (take_ofW HT_.out HW_.out (by kernel_rfl)) (fun _ _ _ h => h) (Or.inl ⟨by rfl, ?_⟩) hHeld ?_ ?_
       rotate_left
       · rintro w' ⟨s0, s1, s2, s3, s4, s5, s6, s7, s8, s9, s10, s11, s12⟩
         go_simp
         with_reducible rfl
       rotate_left
       · simp only [Act.put, sA_, sB_, sC_, i64_w, i32_w]
         rfl
       refine one_ (i := 6) (N := some 35) #[T_, T_, T_, T_, T_, T_, T_, F_, F_, F_] rfl rfl (one_of HT_.out (by kernel_rfl)) (by decide) (fun K hK => ?_)
       refine goes_ Tryz.func83 (by kernel_rfl) rfl #[.agg #[.int .i64 ((rd_T43 l0_0 x18_1).f0), .int .i64 ((rd_T43 l0_0 x18_1).f1), .int .i64 ((rd_T43 l0_0 x18_1).f2.f0), .int .i64 ((rd_T43 l0_0 x18_1).f2.f1), .int .i64 ((rd_T43 l0_0 x18_1).f2.f2.f0), .int .i64 ((rd_T43 l0_0 x18_1).f2.f2.f1), .bool ((rd_T43 l0_0 x18_1).f2.f3), .int .i64 ((rd_T43 l0_0 x18_1).f3.f0), .int .i64 ((rd_T43 l0_0 x18_1).f3.f1), .int .i64 ((rd_T43 l0_0 x18_1).f3.f2.f0), .int .i64 ((rd_T43 l0_0 x18_1).f3.f2.f1), .bool ((rd_T43 l0_0 x18_1).f3.f3)], .int .i64 x26_2] (by rfl) rfl rfl (by (try simp only [mA_, List.map_cons, List.map_nil]); first | done | rfl | (simp only [lD_, lT_]; rfl)) ?_
       with_reducible refine (impl_Wire_waits.calls k2 ((rd_T43 l0_0 x18_1).f0) ((rd_T43 l0_0 x18_1).f1) ((rd_T43 l0_0 x18_1).f2.f0) ((rd_T43 l0_0 x18_1).f2.f1) ((rd_T43 l0_0 x18_1).f2.f2.f0) ((rd_T43 l0_0 x18_1).f2.f2.f1) ((rd_T43 l0_0 x18_1).f2.f3) ((rd_T43 l0_0 x18_1).f3.f0) ((rd_T43 l0_0 x18_1).f3.f1) ((rd_T43 l0_0 x18_1).f3.f2.f0) ((rd_T43 l0_0 x18_1).f3.f2.f1) ((rd_T43 l0_0 x18_1).f3.f3) x26_2 t129 _ A19.out).mono ?_
       rintro e w23 ⟨rfl, hb⟩
       have HS12_ := (hb.cell (bL_ _ _ (hHeld.2.2.2.2.2.2.2.2.2.2.2.2))).trans (hHeld.2.2.2.2.2.2.2.2.2.2.2.2)
       refine ⟨_, rfl, ?_⟩
       have n0_ := aM_ (Kd.R_below (by (with_reducible repeat (first | apply rN_ | apply rD_)); exact HO_3.out) hb)
       have n1_ := aM_ (blk_below (g := gb122) (o := .cells #[.slice (some ad126) l0_0.length c0_0, .slice A0_1 l0_1.length c0_1] 31 (0, 0)) (by (with_reducible repeat (first | refine kN_ ?_ _ | refine kD_ ?_ | refine kA_ ?_ _)); exact BK122.out) hb)
       have n2_ := aM_ (blk_below (g := gb127) (o := .cells #[.int .i64 ((rd_T43 l0_0 x18_1).f0), .int .i64 ((rd_T43 l0_0 x18_1).f1), .int .i64 ((rd_T43 l0_0 x18_1).f2.f0), .int .i64 ((rd_T43 l0_0 x18_1).f2.f1), .int .i64 ((rd_T43 l0_0 x18_1).f2.f2.f0), .int .i64 ((rd_T43 l0_0 x18_1).f2.f2.f1), .bool ((rd_T43 l0_0 x18_1).f2.f3), .int .i64 ((rd_T43 l0_0 x18_1).f3.f0), .int .i64 ((rd_T43 l0_0 x18_1).f3.f1), .int .i64 ((rd_T43 l0_0 x18_1).f3.f2.f0), .int .i64 ((rd_T43 l0_0 x18_1).f3.f2.f1), .bool ((rd_T43 l0_0 x18_1).f3.f3)] 43 (0, 0)) (by (with_reducible repeat (first | refine kN_ ?_ _ | refine kD_ ?_ | refine kA_ ?_ _)); exact BK127.out) hb)
       have n3_ := aM_ (bT_ (by repeat (first | (with_reducible first | exact HB.out | apply bA_ | apply bN_ | apply b1_ | refine bS_ ?_ GE122.out | refine bS_ ?_ GE127.out) | exact HB.out)) hb)
       clear HO_3 BK122 BK127 HB
       revert n0_ n1_ n2_ n3_
       intro HO_3 BK122 BK127 HB
       (try clear hb)
       (try clear hb2)
       (try clear hk)
       (try clear hi)
       have p20 : 0 ≤ (x18_1 : Int) := oD_ (by first | (with_reducible assumption) | assumption)
       have q20 : (x18_1 : Int) < ((x3_2.length : Int) : Int) := oD_ (by first | (with_reducible assumption) | assumption)
       obtain ⟨go20, co20, eo20, gb20, gl20, cl20, HG20⟩ := Kd.R_form HO_3.out (by omega)
       (first | cases eo20 | (injection eo20 with ea_ en_ ec_; (first | subst ea_ | (injection ea_ with ea_; subst ea_)); subst ec_; clear en_))
       have GB20 := aM_ gb20
       have GG20 := aM_ HG20
       clear gb20 gl20 HG20
       (first | simp only [add_plain] at hx128_0 | skip)
       obtain ⟨hx20_0, hf20_0⟩ := Kd.R_celln 0 HO_3.out (x18_1 : Int) p20 q20
       replace p20 := eq_true p20
       replace q20 := eq_true q20
       have HP24 := Kd.R_putn HO_3.out (x18_1 : Int) (wrap64 ((rd x3_2 x18_1) + t129))
       rw [← Ny130.out] at HP24
       have HQ24 := aM_ HP24
       clear HP24
       refine hK.out _ _ ⟨(kC_ BK127.out 0).trans rfl, (kC_ BK127.out 1).trans rfl, (kC_ BK127.out 2).trans rfl, (kC_ BK127.out 3).trans rfl, (kC_ BK127.out 4).trans rfl, (kC_ BK127.out 5).trans rfl, (kC_ BK127.out 6).trans rfl, (kC_ BK127.out 7).trans rfl, (kC_ BK127.out 8).trans rfl, (kC_ BK127.out 9).trans rfl, (kC_ BK127.out 10).trans rfl, (kC_ BK127.out 11).trans rfl, HS12_⟩ (fun hHeld => ?_)
       clear hK K
       refine norm_ (a' := ?_) ?_ ?_
       rotate_left
       · show Act.put _ (some 35) _ = _
         simp only [Act.put, sA_, sB_, sC_, i64_w, i32_w]
         rfl
       refine pure_ (i := 7) (N := some 36) (v := ?_) (a' := ?_) #[T_, T_, T_, T_, T_, T_, T_, T_, F_, F_] rfl rfl (any_of HT_.out (by kernel_rfl)) (fun _ _ _ h => h) (Or.inl ⟨by rfl, ?_⟩) ?_ ?_
       rotate_left
       · intro w'
         go_simp
         with_reducible rfl
       rotate_left
       · simp only [Act.put, sA_, sB_, sC_, i64_w, i32_w]
         rfl
       refine pure_ (i := 8) (N := some 37) (v := ?_) (a' := ?_) #[T_, T_, T_, T_, T_, T_, T_, T_, T_, F_] rfl rfl (any_of HT_.out (by kernel_rfl)) (fun _ _ _ h => h) (Or.inl ⟨by rfl, ?_⟩) ?_ ?_
       rotate_left
       · intro w'
         go_simp
         with_reducible rfl
       rotate_left
       · simp only [Act.put, sA_, sB_, sC_, i64_w, i32_w]
         rfl
       refine last_ (i := 9) (N := none) #[T_, T_, T_, T_, T_, T_, T_, T_, T_, T_] rfl rfl (one_of HT_.out (by kernel_rfl)) (by decide) (fun K hK => ?_)
       refine skip_ (w1 := ?_) (by rfl) rfl ?_ ?_
       rotate_left
       · go_simp
         rfl
       refine hK.out _ _ ?_
       clear hK K
       refine done_ (done_of HT_.out (by kernel_rfl)) ?_
       try go_wp2
       go_roundg k2
       case measure => have := HK1.out; have := HK2.out; omega
       case rel => exact ⟨(y130), (wrap64 (x26_2 + 1)), (by first | rfl | (simp; done) | (simp [*]; done)), H', ⟨by have := HK1.out; have := HK2.out; omega⟩, ⟨by (with_reducible repeat (first | apply rN_ | apply rD_)); exact HQ24.out⟩, ⟨by (with_reducible repeat (first | refine kN_ ?_ _ | refine kD_ ?_ | refine kA_ ?_ _)); refine blk_far ?_ (by have h_ := Kd.R_ne HO_3.out BK122.out (by decide); intro e_; exact h_ (by rw [e_]; rfl)) _; (with_reducible repeat (first | refine kN_ ?_ _ | refine kD_ ?_ | refine kA_ ?_ _)); exact BK122.out⟩, ⟨by (with_reducible repeat (first | refine kN_ ?_ _ | refine kD_ ?_ | refine kA_ ?_ _)); refine blk_far ?_ (by have h_ := Kd.R_ne HO_3.out BK127.out (by decide); intro e_; exact h_ (by rw [e_]; rfl)) _; (with_reducible repeat (first | refine kN_ ?_ _ | refine kD_ ?_ | refine kA_ ?_ _)); exact BK127.out⟩, ⟨by repeat (first | (with_reducible first | exact HB.out | apply bA_ | apply bN_ | apply b1_ | refine bS_ ?_ GB20.out | refine bS_ ?_ GE122.out | refine bS_ ?_ GE127.out) | exact HB.out)⟩⟩
   rw [if_neg c9] at H
   have c9b0 : decide (x18_1 < (l0_0.length : Int)) = false := dF_ c9
   clear c9
   have H' := aM_ H
   clear H
   go_wp2
   go_loopg [7] k1 (fun kq v7 w' => ∃ (x3_2 : List Int) (x7_2 : List Int), Aside0 (impl_Net_order.l2 kq x3_2 x7_2 l0_0 l0_1 = some r) ∧ Aside0 (kq ≤ k1) ∧ Aside0 (Kd.R (Kd.int .i64) 3 w' w.heap.size (fun k_ => some k_ ≠ (v7 : Value).ownBlock) v124 x3_2) ∧ Aside0 (Kd.R (Kd.int .i64) 3 w' w.heap.size (fun k_ => some k_ ≠ (v124 : Value).ownBlock) v7 x7_2) ∧ Aside0 (w'.heap[gb122]? = some (.cells #[(.slice A0_0 l0_0.length c0_0), (.slice A0_1 l0_1.length c0_1)] 31 (0, 0))) ∧ Aside0 (Below w.heap.size w w'))
   case atStart => exact ⟨(x3_1), (([] : List Int)), H', ⟨Nat.le_refl _⟩, ⟨by (with_reducible repeat (first | apply rN_ | apply rD_)); exact Kd.R_mono HO_3.out (fun _ hk => (by simp [Value.ownBlock]))⟩, ⟨by first | exact Kd.R_nil _ _ _ _ _ | exact Kd.N_nil _ _ _ _ _ | exact Kd.V_nil _ _ _ _ _ | exact Kd.Q_nil _ _ _ _ _ | exact Kd.S_nil _ _ _ _ _⟩, ⟨by (with_reducible repeat (first | refine kN_ ?_ _ | refine kD_ ?_ | refine kA_ ?_ _)); exact BK122.out⟩, ⟨by repeat (first | (with_reducible first | exact HB.out | apply bA_ | apply bN_ | apply b1_ | refine bS_ ?_ GE122.out) | exact HB.out)⟩⟩
   case round =>
    clear H'
    try clear c1
    try clear p1
    try clear q1
    try clear hx1
    try clear c2
    try clear c2b0
    try clear c2b1
    try clear p2
    try clear q2
    try clear hx2
    try clear hf2
    try clear c3
    try clear c3b0
    try clear c3b1
    try clear c5
    try clear p6
    try clear c8
    try clear c9
    try clear c9b0
    try clear c10
    try clear c10b0
    try clear c11
    try clear c11b0
    try clear p12
    try clear q12
    try clear hx12
    try clear c13
    try clear c16
    try clear c16b0
    try clear c17
    try clear c17b0
    try clear c18
    try clear c18b0
    try clear p20
    try clear q20
    try clear hx20
    try clear hf20
    try clear hcz14_0
    try clear hcz14_1
    try clear hcz14_10
    try clear hcz14_11
    try clear hcz14_2
    try clear hcz14_3
    try clear hcz14_4
    try clear hcz14_5
    try clear hcz14_6
    try clear hcz14_7
    try clear hcz14_8
    try clear hcz14_9
    try clear hcz15_0
    try clear hcz15_1
    try clear hcz5_0
    try clear hcz5_1
    try clear hcz8_0
    try clear hcz8_1
    try clear hfz14_0
    try clear hfz14_1
    try clear hfz14_10
    try clear hfz14_11
    try clear hfz14_2
    try clear hfz14_3
    try clear hfz14_4
    try clear hfz14_5
    try clear hfz14_6
    try clear hfz14_7
    try clear hfz14_8
    try clear hfz14_9
    try clear hfz15_0
    try clear hfz15_1
    try clear hfz5_0
    try clear hfz5_1
    try clear hfz8_0
    try clear hfz8_1
    try clear hx126_0
    try clear hx126_1
    try clear hx126_10
    try clear hx126_11
    try clear hx126_2
    try clear hx126_3
    try clear hx126_4
    try clear hx126_5
    try clear hx126_6
    try clear hx126_7
    try clear hx126_8
    try clear hx126_9
    try clear hx128_0
    try clear hx20_0
    try clear p1
    try clear p12
    try clear p126
    try clear p128
    try clear p2
    try clear p20
    try clear q1
    try clear q12
    try clear q126
    try clear q128
    try clear q20
    obtain ⟨x3_2, x7_2, HA, HK2, HO_3, HO_7, BK122, HB⟩ := hrel
    cases gk with
    | zero => exact absurd HA.out (by simp [impl_Net_order.l2])
    | succ k2 =>
     have H := HA.out
     clear HA
     simp only [impl_Net_order.l2] at H
     replace H := Option.bind_eq_some_iff.mp H
     obtain ⟨t131, A250, H⟩ := H
     replace H : (if t131 < 0 then (some x7_2) else (if x7_2.length < 17592186044416 then (if 0 ≤ t131 then (if t131 < (x3_2.length : Int) then (impl_Net_order.l3 k2 (x3_2.set (t131 : Int).toNat (-1)) (x7_2 ++ [t131]) t131 l0_0 (l0_0.length : Int) 0 l0_0 l0_1) else (none)) else (none)) else (none))) = some r := H
     have A25 := aM_ A250
     clear A250
     by_cases c26 : t131 < 0
     · rw [if_pos c26] at H
       have c26b0 : decide (t131 < 0) = true := dT_ c26
       clear c26
       obtain rfl := oI_ H
       obtain ⟨Ao27, co27, eo27⟩ := Kd.R_slice HO_3.out
       subst eo27
       go_wp2_with (first | ((with_reducible refine gate_callee (f := 84) rfl ?_); refine goesL_ (some 41) rfl rfl Tryz.func84 (by kernel_rfl) rfl #[.slice Ao27 x3_2.length co27, .int .i64 0] rfl (by (try simp only [mA_, List.map_cons, List.map_nil]); first | done | rfl | (simp only [lD_, lT_]; rfl)) ?_; (with_reducible refine (slices_Index_int_int.calls k2 _ _ x3_2 0 t131 _ ?side1 ?side2 A25.out).mono ?_); (case side1 => repeat (first | exact (Kd.R_reads' HO_3.out).2.2 | (with_reducible refine Kd.C_alloc ?_ _) | (with_reducible refine Kd.C_drewN ?_ _) | (with_reducible refine Kd.C_drew ?_))); (case side2 => exact (Kd.R_reads' HO_3.out).2.1); rintro e w' ⟨rfl, ⟨nd, rfl⟩⟩; refine ⟨_, rfl, ?_⟩))
       go_ret
       exact ⟨_, by first | rfl | (simp [errW_none, errW_some] <;> rfl) | (simp [*, errW_none, errW_some] <;> rfl), by (with_reducible repeat (first | apply rN_ | apply rD_)); exact Kd.R_mono HO_7.out (fun _ hk => trivial), by repeat (first | (with_reducible first | exact HB.out | apply bA_ | apply bN_ | apply b1_ | refine bS_ ?_ GE122.out) | exact HB.out)⟩
     rw [if_neg c26] at H
     have c26b0 : decide (t131 < 0) = false := dF_ c26
     clear c26
     by_cases c28 : x7_2.length < 17592186044416
     rotate_left
     · rw [if_neg c28] at H
       exact absurd H (by simp)
     rw [if_pos c28] at H
     have LMc28 := aM_ c28
     clear c28
     obtain ⟨y132, hy132⟩ : ∃ y_ : List Int, y_ = (x7_2 ++ [t131]) := ⟨_, rfl⟩
     replace H : (if 0 ≤ t131 then (if t131 < (x3_2.length : Int) then (impl_Net_order.l3 k2 (x3_2.set (t131 : Int).toNat (-1)) y132 t131 l0_0 (l0_0.length : Int) 0 l0_0 l0_1) else (none)) else (none)) = some r := by first | (rw [hy132]; with_reducible exact H) | (have H2_ := (Option.bind_some _ _).symm.trans H; rw [hy132]; with_reducible exact H2_) | (have H2_ := (Option.bind_some _ _).symm.trans H; with_reducible exact H2_) | with_reducible exact H | (rw [hy132]; exact H) | exact H
     have Ny132 := aM_ hy132
     clear hy132
     by_cases c29 : 0 ≤ t131
     rotate_left
     · rw [if_neg c29] at H
       exact absurd H (by simp)
     rw [if_pos c29] at H
     have c29b0 : decide (0 ≤ t131) = true := dT_ c29
     clear c29
     by_cases c30 : t131 < (x3_2.length : Int)
     rotate_left
     · rw [if_neg c30] at H
       exact absurd H (by simp)
     rw [if_pos c30] at H
     have c30b0 : decide (t131 < (x3_2.length : Int)) = true := dT_ c30
     clear c30
     obtain ⟨y135, hy135⟩ : ∃ y_ : List Int, y_ = (x3_2.set (t131 : Int).toNat (-1)) := ⟨_, rfl⟩
     replace H : (impl_Net_order.l3 k2 y135 y132 t131 l0_0 (l0_0.length : Int) 0 l0_0 l0_1) = some r := by first | (rw [hy135]; with_reducible exact H) | (have H2_ := (Option.bind_some _ _).symm.trans H; rw [hy135]; with_reducible exact H2_) | (have H2_ := (Option.bind_some _ _).symm.trans H; with_reducible exact H2_) | with_reducible exact H | (rw [hy135]; exact H) | exact H
     have Ny135 := aM_ hy135
     clear hy135
     have H' := aM_ H
     clear H
     obtain ⟨Ao32, co32, eo32⟩ := Kd.R_slice HO_3.out
     subst eo32
     go_wp2_with (first | ((with_reducible refine gate_callee (f := 84) rfl ?_); refine goesL_ (some 41) rfl rfl Tryz.func84 (by kernel_rfl) rfl #[.slice Ao32 x3_2.length co32, .int .i64 0] rfl (by (try simp only [mA_, List.map_cons, List.map_nil]); first | done | rfl | (simp only [lD_, lT_]; rfl)) ?_; (with_reducible refine (slices_Index_int_int.calls k2 _ _ x3_2 0 t131 _ ?side1 ?side2 A25.out).mono ?_); (case side1 => repeat (first | exact (Kd.R_reads' HO_3.out).2.2 | (with_reducible refine Kd.C_alloc ?_ _) | (with_reducible refine Kd.C_drewN ?_ _) | (with_reducible refine Kd.C_drew ?_))); (case side2 => exact (Kd.R_reads' HO_3.out).2.1); rintro e w' ⟨rfl, ⟨nd, rfl⟩⟩; refine ⟨_, rfl, ?_⟩; (try (rw [drewN_self wr]; generalize hq_ : World.drewN wr _ = wr; have n0_ : Aside0 (Kd.R (Kd.int .i64) 3 wr w.heap.size (fun k_ => some k_ ≠ (u7 : Value).ownBlock) (.slice Ao32 x3_2.length co32) x3_2) := ⟨by rw [← hq_]; exact (by (with_reducible repeat (first | apply rN_ | apply rD_)); exact HO_3.out)⟩; have n1_ : Aside0 (Kd.R (Kd.int .i64) 3 wr w.heap.size (fun k_ => some k_ ≠ (.slice Ao32 x3_2.length co32 : Value).ownBlock) u7 x7_2) := ⟨by rw [← hq_]; exact (by (with_reducible repeat (first | apply rN_ | apply rD_)); exact HO_7.out)⟩; have n2_ : Aside0 (wr.heap[gb122]? = some (.cells #[.slice A0_0 l0_0.length c0_0, .slice A0_1 l0_1.length c0_1] 31 (0, 0))) := ⟨by rw [← hq_]; exact (by (with_reducible repeat (first | refine kN_ ?_ _ | refine kD_ ?_ | refine kA_ ?_ _)); exact BK122.out)⟩; have n3_ : Aside0 (Below w.heap.size w wr) := ⟨by rw [← hq_]; exact (by repeat (first | (with_reducible first | exact HB.out | apply bA_ | apply bN_ | apply b1_ | refine bS_ ?_ GE122.out) | exact HB.out))⟩; clear HO_3 HO_7 BK122 HB hq_; revert n0_ n1_ n2_ n3_; intro HO_3 HO_7 BK122 HB))) | ((with_reducible refine gate_builtin (b := .append) (xs := #[.tmp 45, .tmp 47]) rfl ?_); at_builtin; refine Kd.R_append (Kd.int .i64) (w0 := w) w.heap.size rfl (.tmp 45) (.tmp 47) 75 3 (.int .i64 0) 8 rfl Tryz.underlying75 info3 rfl (by decide) (by omega) u7 x7_2 t131 [.int .i64 t131] (fun k_ => some k_ ≠ (.slice Ao32 x3_2.length co32 : Value).ownBlock) (fun _ => False) rfl rfl ?aP (fun _ hk => hk.elim) ?aF ?aO ?aB ?aS ?aL ?_; (case aP => exact rfl); (case aB => exact (by repeat (first | (with_reducible first | exact HB.out | apply bA_ | apply bN_ | apply b1_ | refine bS_ ?_ GE122.out) | exact HB.out))); (case aF => exact (fun k_ hk => Kd.fresh' (Kd.R_lt (by (with_reducible repeat (first | apply rN_ | apply rD_)); exact HO_3.out)) k_ hk)); (case aO => exact (by (with_reducible repeat (first | apply rN_ | apply rD_)); exact HO_7.out)); (case aS => exact (bZ_ (by repeat (first | (with_reducible first | exact HB.out | apply bA_ | apply bN_ | apply b1_ | refine bS_ ?_ GE122.out) | exact HB.out)))); (case aL => have := LMc28.out; omega); intro v133 w33 ho hb hg hat; rw [← Ny132.out] at ho; have n0_ := aM_ (Kd.R_after (ok := (fun _ => True)) (by (with_reducible repeat (first | apply rN_ | apply rD_)); exact Kd.R_mono HO_3.out (fun _ hk => ⟨trivial, hk⟩)) hg hat); have n1_ := aM_ (blk_grown (g := gb122) (o := .cells #[.slice A0_0 l0_0.length c0_0, .slice A0_1 l0_1.length c0_1] 31 (0, 0)) (by (with_reducible repeat (first | refine kN_ ?_ _ | refine kD_ ?_ | refine kA_ ?_ _)); exact BK122.out) hg (Kd.R_ne HO_7.out BK122.out (by decide))); have n2_ := aM_ (hb); have n3_ := aM_ (ho); clear HO_3 BK122 HB HO_7; have HO_3 := n0_; have BK122 := n1_; have HB := n2_; have HO134 := n3_; clear n0_ n1_ n2_ n3_ ho hb hg hat; have p31 : 0 ≤ (t131 : Int) := oD_ (by first | (with_reducible assumption) | assumption); have q31 : (t131 : Int) < ((x3_2.length : Int) : Int) := oD_ (by first | (with_reducible assumption) | assumption); obtain ⟨go31, co31, eo31, gb31, gl31, cl31, HG31⟩ := Kd.R_form HO_3.out (by omega); (first | cases eo31 | (injection eo31 with ea_ en_ ec_; (first | subst ea_ | (injection ea_ with ea_; subst ea_)); subst ec_; clear en_)); have GB31 := aM_ gb31; have GG31 := aM_ HG31; clear gb31 gl31 HG31; obtain ⟨hx31_0, hf31_0⟩ := Kd.R_celln 0 HO_3.out (t131 : Int) p31 q31; replace p31 := eq_true p31; replace q31 := eq_true q31; have n_ := aM_ (Kd.R_mono (ok' := (fun k_ => some k_ ≠ (v133 : Value).ownBlock)) HO_3.out (fun k_ hk => hk.2)); clear HO_3; have HO_3 := n_; clear n_; obtain ⟨hy34_, hz34_⟩ := Kd.R_celln 0 HO_3.out (t131 : Int) (oD_ (by first | (with_reducible assumption) | assumption)) (oD_ (by first | (with_reducible assumption) | assumption)); have HP34 := Kd.R_putg HO_3.out (t131 : Int) (-1)) | ((with_reducible refine gate_store (t := 3) (p := 51) rfl ?_); refine store_event (t := 3) (p := 51) (v := ?vo_w35) (w1 := (w33.setCell ⟨go31, (t131 : Int).toNat, none⟩ (.int .i64 (-1)))) ?hg ?ho ?hn ?hr ?_; (case ho => rfl); (case hg => rfl); (case hn => rfl); (case hr => first | (go_simp; done) | (go_simp; rfl)); intro w35 hw; have hg : w33.grownBy w35 (some go31) := (by rw [hw]; exact HP34.2); have hp_ : Kd.R (Kd.int .i64) 3 w35 w.heap.size (fun k_ => some k_ ≠ (v133 : Value).ownBlock) (.slice (some ⟨go31, 0, none⟩) x3_2.length co32) y135 := (by rw [hw, Ny135.out]; exact HP34.1); clear HP34; have n0_ := aM_ (hp_); have n1_ := aM_ (blk_grown (g := gb122) (o := .cells #[.slice A0_0 l0_0.length c0_0, .slice A0_1 l0_1.length c0_1] 31 (0, 0)) (by (with_reducible repeat (first | refine kN_ ?_ _ | refine kD_ ?_ | refine kA_ ?_ _)); exact BK122.out) hg (Kd.R_ne HO_3.out BK122.out (by decide))); have n2_ := aM_ (Kd.R_after (v := (.slice (some ⟨go31, 0, none⟩) x3_2.length co32)) (v1 := (.slice (some ⟨go31, 0, none⟩) x3_2.length co32)) (ok := (fun _ => True)) (by (with_reducible repeat (first | apply rN_ | apply rD_)); exact Kd.R_mono HO134.out (fun _ hk => ⟨trivial, hk⟩)) hg (.inl rfl)); have n3_ := aM_ ((by rw [hw]; exact bS_ (HB.out) GB31.out : Below w.heap.size w w35)); clear HO_3 BK122 HO134 HB; have HO_3 := n0_; have BK122 := n1_; have HO134 := n2_; have HB := n3_; clear n0_ n1_ n2_ n3_ hg hw hp_; (obtain ⟨hcz36_0, hcz36_1⟩ := cells2 BK122.out); (obtain ⟨hfz36_0, hfz36_1⟩ := frozen2 BK122.out)))
     go_loopg [55] k2 (fun kq v55 w' => ∃ (x3_3 : List Int) (x55_3 : Int), v55 = .int .i64 x55_3 ∧ Aside0 (impl_Net_order.l3 kq x3_3 y132 t131 l0_0 (l0_0.length : Int) x55_3 l0_0 l0_1 = some r) ∧ Aside0 (kq ≤ k2) ∧ Aside0 (Kd.R (Kd.int .i64) 3 w' w.heap.size (fun k_ => some k_ ≠ (v133 : Value).ownBlock) (.slice (some ⟨go31, 0, none⟩) x3_2.length co32) x3_3) ∧ Aside0 (Kd.R (Kd.int .i64) 3 w' w.heap.size (fun k_ => some k_ ≠ ((.slice (some ⟨go31, 0, none⟩) x3_2.length co32) : Value).ownBlock) v133 y132) ∧ Aside0 (w'.heap[gb122]? = some (.cells #[(.slice A0_0 l0_0.length c0_0), (.slice A0_1 l0_1.length c0_1)] 31 (0, 0))) ∧ Aside0 (Below w.heap.size w w'))
     case atStart => exact ⟨(y135), (0), (by first | rfl | (simp; done) | (simp [*]; done)), H', ⟨Nat.le_refl _⟩, ⟨by (with_reducible repeat (first | apply rN_ | apply rD_)); exact HO_3.out⟩, ⟨by (with_reducible repeat (first | apply rN_ | apply rD_)); exact Kd.R_mono HO134.out (fun _ hk => hk.2)⟩, ⟨by (with_reducible repeat (first | refine kN_ ?_ _ | refine kD_ ?_ | refine kA_ ?_ _)); exact BK122.out⟩, ⟨by repeat (first | (with_reducible first | exact HB.out | apply bA_ | apply bN_ | apply b1_ | refine bS_ ?_ GE122.out) | exact HB.out)⟩⟩
     case round =>
      clear H'
      try clear c1
      try clear p1
      try clear q1
      try clear hx1
      try clear c2
      try clear c2b0
      try clear c2b1
      try clear p2
      try clear q2
      try clear hx2
      try clear hf2
      try clear c3
      try clear c3b0
      try clear c3b1
      try clear p3
      try clear q3
      try clear hx3
      try clear hf3
      try clear c5
      try clear p6
      try clear c8
      try clear c9
      try clear c9b0
      try clear c10
      try clear c10b0
      try clear c11
      try clear c11b0
      try clear p12
      try clear q12
      try clear hx12
      try clear c13
      try clear c16
      try clear c16b0
      try clear c17
      try clear c17b0
      try clear c18
      try clear c18b0
      try clear p20
      try clear q20
      try clear hx20
      try clear hf20
      try clear c26
      try clear c26b0
      try clear c28
      try clear c29
      try clear c29b0
      try clear c30
      try clear c30b0
      try clear p31
      try clear q31
      try clear hx31
      try clear hf31
      try clear hcz14_0
      try clear hcz14_1
      try clear hcz14_10
      try clear hcz14_11
      try clear hcz14_2
      try clear hcz14_3
      try clear hcz14_4
      try clear hcz14_5
      try clear hcz14_6
      try clear hcz14_7
      try clear hcz14_8
      try clear hcz14_9
      try clear hcz15_0
      try clear hcz15_1
      try clear hcz36_0
      try clear hcz36_1
      try clear hcz5_0
      try clear hcz5_1
      try clear hcz8_0
      try clear hcz8_1
      try clear hfz14_0
      try clear hfz14_1
      try clear hfz14_10
      try clear hfz14_11
      try clear hfz14_2
      try clear hfz14_3
      try clear hfz14_4
      try clear hfz14_5
      try clear hfz14_6
      try clear hfz14_7
      try clear hfz14_8
      try clear hfz14_9
      try clear hfz15_0
      try clear hfz15_1
      try clear hfz36_0
      try clear hfz36_1
      try clear hfz5_0
      try clear hfz5_1
      try clear hfz8_0
      try clear hfz8_1
      try clear hx126_0
      try clear hx126_1
      try clear hx126_10
      try clear hx126_11
      try clear hx126_2
      try clear hx126_3
      try clear hx126_4
      try clear hx126_5
      try clear hx126_6
      try clear hx126_7
      try clear hx126_8
      try clear hx126_9
      try clear hx128_0
      try clear hx20_0
      try clear hx31_0
      try clear p1
      try clear p12
      try clear p126
      try clear p128
      try clear p2
      try clear p20
      try clear p31
      try clear p6
      try clear q1
      try clear q12
      try clear q126
      try clear q128
      try clear q2
      try clear q20
      try clear q31
      obtain ⟨x3_3, x55_3, rfl, HA, HK3, HO_3, HO_7, BK122, HB⟩ := hrel
      have hl3_3 := (Kd.R_reads' HO_3.out).1
      rw [hl3_3] at HO_3
      (try simp only [hl3_3])
      (try simp only [hl3_3] at BK122)
      (try simp only [hl3_3] at HO_7)
      cases gk with
      | zero => exact absurd HA.out (by simp [impl_Net_order.l3])
      | succ k3 =>
       have H := HA.out
       clear HA
       simp only [impl_Net_order.l3] at H
       by_cases c37 : x55_3 < (l0_0.length : Int)
       rotate_left
       · rw [if_neg c37] at H
         have c37b0 : decide (x55_3 < (l0_0.length : Int)) = false := dF_ c37
         clear c37
         have H' := aM_ H
         clear H
         go_wp2
         (try simp only [← hl3_3])
         go_roundg k3
         case measure => have := HK1.out; have := HK2.out; have := HK3.out; omega
         case rel => exact ⟨(x3_3), (y132), H', ⟨by have := HK1.out; have := HK2.out; have := HK3.out; omega⟩, ⟨by (try simp only [hl3_3]); (with_reducible repeat (first | apply rN_ | apply rD_)); exact HO_3.out⟩, ⟨by (try simp only [hl3_3]); (with_reducible repeat (first | apply rN_ | apply rD_)); exact HO_7.out⟩, ⟨by (try simp only [hl3_3]); (with_reducible repeat (first | refine kN_ ?_ _ | refine kD_ ?_ | refine kA_ ?_ _)); exact BK122.out⟩, ⟨by repeat (first | (with_reducible first | exact HB.out | apply bA_ | apply bN_ | apply b1_ | refine bS_ ?_ GE122.out) | exact HB.out)⟩⟩
       rw [if_pos c37] at H
       have c37b0 : decide (x55_3 < (l0_0.length : Int)) = true := dT_ c37
       clear c37
       by_cases c38 : 0 ≤ x55_3
       rotate_left
       · rw [if_neg c38] at H
         exact absurd H (by simp)
       rw [if_pos c38] at H
       have c38b0 : decide (0 ≤ x55_3) = true := dT_ c38
       clear c38
       by_cases c39 : x55_3 < (l0_0.length : Int)
       rotate_left
       · rw [if_neg c39] at H
         exact absurd H (by simp)
       rw [if_pos c39] at H
       have c39b0 : decide (x55_3 < (l0_0.length : Int)) = true := dT_ c39
       clear c39
       by_cases c40 : x55_3 < (x3_3.length : Int)
       rotate_left
       · rw [if_neg c40] at H
         exact absurd H (by simp)
       rw [if_pos c40] at H
       have c40b0 : decide (x55_3 < (x3_3.length : Int)) = true := dT_ c40
       clear c40
       replace H := Option.bind_eq_some_iff.mp H
       obtain ⟨t139, A410, H⟩ := H
       replace H : (impl_Net_order.l3 k3 (x3_3.set (x55_3 : Int).toNat (wrap64 ((rd x3_3 x55_3) - t139))) y132 t131 l0_0 (l0_0.length : Int) (wrap64 (x55_3 + 1)) l0_0 l0_1) = some r := H
       have A41 := aM_ A410
       clear A410
       obtain ⟨y140, hy140⟩ : ∃ y_ : List Int, y_ = (x3_3.set (x55_3 : Int).toNat (wrap64 ((rd x3_3 x55_3) - t139))) := ⟨_, rfl⟩
       replace H : (impl_Net_order.l3 k3 y140 y132 t131 l0_0 (l0_0.length : Int) (wrap64 (x55_3 + 1)) l0_0 l0_1) = some r := by first | (rw [hy140]; with_reducible exact H) | (have H2_ := (Option.bind_some _ _).symm.trans H; rw [hy140]; with_reducible exact H2_) | (have H2_ := (Option.bind_some _ _).symm.trans H; with_reducible exact H2_) | with_reducible exact H | (rw [hy140]; exact H) | exact H
       have Ny140 := aM_ hy140
       clear hy140
       have H' := aM_ H
       clear H
       have p136 : 0 ≤ (x55_3 : Int) := oD_ (by first | (with_reducible assumption) | assumption)
       have q136 : x55_3 < (l0_0.length : Int) := oD_ (by first | (with_reducible assumption) | assumption)
       obtain ⟨ad136, e136, hx136_0, hx136_1, hx136_2, hx136_3, hx136_4, hx136_5, hx136_6, hx136_7, hx136_8, hx136_9, hx136_10, hx136_11⟩ := at_T43 HR0_0.out x55_3 p136 q136
       cases e136
       replace hx136_0 := (HB.out.cell (bL_ w _ hx136_0)).trans hx136_0
       replace hx136_1 := (HB.out.cell (bL_ w _ hx136_1)).trans hx136_1
       replace hx136_2 := (HB.out.cell (bL_ w _ hx136_2)).trans hx136_2
       replace hx136_3 := (HB.out.cell (bL_ w _ hx136_3)).trans hx136_3
       replace hx136_4 := (HB.out.cell (bL_ w _ hx136_4)).trans hx136_4
       replace hx136_5 := (HB.out.cell (bL_ w _ hx136_5)).trans hx136_5
       replace hx136_6 := (HB.out.cell (bL_ w _ hx136_6)).trans hx136_6
       replace hx136_7 := (HB.out.cell (bL_ w _ hx136_7)).trans hx136_7
       replace hx136_8 := (HB.out.cell (bL_ w _ hx136_8)).trans hx136_8
       replace hx136_9 := (HB.out.cell (bL_ w _ hx136_9)).trans hx136_9
       replace hx136_10 := (HB.out.cell (bL_ w _ hx136_10)).trans hx136_10
       replace hx136_11 := (HB.out.cell (bL_ w _ hx136_11)).trans hx136_11
       replace p136 := eq_true p136
       replace q136 := eq_true q136
       try go_wp2_with (first | ((with_reducible refine gate_dst (N := 10) rfl ?_); refine box_event ?hg (N := 10) ?hd (cs := #[.int .i64 0, .int .i64 0, .int .i64 0, .int .i64 0, .int .i64 0, .int .i64 0, .bool false, .int .i64 0, .int .i64 0, .int .i64 0, .int .i64 0, .bool false]) (t := 43) ?hr ?_; (case hd => rfl); (case hg => rfl); (case hr => first | (go_simp; done) | (go_simp; rfl)); intro gb137 hg w43 hbox hb; have n0_ := aM_ (Kd.R_below (by (with_reducible repeat (first | apply rN_ | apply rD_)); exact HO_3.out) hb); have n1_ := aM_ (Kd.R_below (by (with_reducible repeat (first | apply rN_ | apply rD_)); exact HO_7.out) hb); have n2_ := aM_ (blk_below (g := gb122) (o := .cells #[.slice (some ad136) l0_0.length c0_0, .slice A0_1 l0_1.length c0_1] 31 (0, 0)) (by (with_reducible repeat (first | refine kN_ ?_ _ | refine kD_ ?_ | refine kA_ ?_ _)); exact BK122.out) hb); have n3_ := aM_ (bT_ (by repeat (first | (with_reducible first | exact HB.out | apply bA_ | apply bN_ | apply b1_ | refine bS_ ?_ GE122.out) | exact HB.out)) hb); have n4_ := aM_ (hbox); have n5_ := aM_ ((by rw [hg]; exact (bZ_ (by repeat (first | (with_reducible first | exact HB.out | apply bA_ | apply bN_ | apply b1_ | refine bS_ ?_ GE122.out) | exact HB.out))) : w.heap.size ≤ gb137)); have n6_ := aM_ ((by rw [hg]; exact (bZ_ (by repeat (first | (with_reducible first | exact HB.out | apply bA_ | apply bN_ | apply b1_ | refine bS_ ?_ GE122.out) | exact HB.out))) : w.heap.size ≤ gb137)); have n7_ := aM_ ((by rw [hg]; exact Nat.ne_of_lt (blk_lt (g := gb122) (o := .cells #[.slice (some ad136) l0_0.length c0_0, .slice A0_1 l0_1.length c0_1] 31 (0, 0)) (by (with_reducible repeat (first | refine kN_ ?_ _ | refine kD_ ?_ | refine kA_ ?_ _)); exact BK122.out)) : gb122 ≠ gb137)); have n8_ := aM_ ((by rw [hg]; exact Nat.ne_of_gt (blk_lt (g := gb122) (o := .cells #[.slice (some ad136) l0_0.length c0_0, .slice A0_1 l0_1.length c0_1] 31 (0, 0)) (by (with_reducible repeat (first | refine kN_ ?_ _ | refine kD_ ?_ | refine kA_ ?_ _)); exact BK122.out)) : gb137 ≠ gb122)); clear HO_3 HO_7 BK122 HB; have HO_3 := n0_; have HO_7 := n1_; have BK122 := n2_; have HB := n3_; have BK137 := n4_; have GW137 := n5_; have GE137 := n6_; have NB122_137 := n7_; have NB137_122 := n8_; clear n0_ n1_ n2_ n3_ n4_ n5_ n6_ n7_ n8_ hb hbox hg; have hnb44 := NB137_122.out; have hnc44 := NB122_137.out; (obtain ⟨hcz45_0, hcz45_1, hcz45_2, hcz45_3, hcz45_4, hcz45_5, hcz45_6, hcz45_7, hcz45_8, hcz45_9, hcz45_10, hcz45_11⟩ := cells12 BK137.out); (obtain ⟨hfz45_0, hfz45_1, hfz45_2, hfz45_3, hfz45_4, hfz45_5, hfz45_6, hfz45_7, hfz45_8, hfz45_9, hfz45_10, hfz45_11⟩ := frozen12 BK137.out)))
       have n0_ : Aside0 (Kd.R (Kd.int .i64) 3 ((((((((((((w43.setCell ⟨gb137, 0, none⟩ (.int .i64 ((rd_T43 l0_0 x55_3).f0))).setCell ⟨gb137, 1, none⟩ (.int .i64 ((rd_T43 l0_0 x55_3).f1))).setCell ⟨gb137, 2, none⟩ (.int .i64 ((rd_T43 l0_0 x55_3).f2.f0))).setCell ⟨gb137, 3, none⟩ (.int .i64 ((rd_T43 l0_0 x55_3).f2.f1))).setCell ⟨gb137, 4, none⟩ (.int .i64 ((rd_T43 l0_0 x55_3).f2.f2.f0))).setCell ⟨gb137, 5, none⟩ (.int .i64 ((rd_T43 l0_0 x55_3).f2.f2.f1))).setCell ⟨gb137, 6, none⟩ (.bool ((rd_T43 l0_0 x55_3).f2.f3))).setCell ⟨gb137, 7, none⟩ (.int .i64 ((rd_T43 l0_0 x55_3).f3.f0))).setCell ⟨gb137, 8, none⟩ (.int .i64 ((rd_T43 l0_0 x55_3).f3.f1))).setCell ⟨gb137, 9, none⟩ (.int .i64 ((rd_T43 l0_0 x55_3).f3.f2.f0))).setCell ⟨gb137, 10, none⟩ (.int .i64 ((rd_T43 l0_0 x55_3).f3.f2.f1))).setCell ⟨gb137, 11, none⟩ (.bool ((rd_T43 l0_0 x55_3).f3.f3))) w.heap.size (fun k_ => some k_ ≠ (v133 : Value).ownBlock) (.slice (some ⟨go31, 0, none⟩) x3_3.length co32) x3_3) := ⟨by (with_reducible repeat (first | apply rN_ | apply rD_)); exact Kd.R_mono (rF_ (p := ⟨gb137, 11, none⟩) (rF_ (p := ⟨gb137, 10, none⟩) (rF_ (p := ⟨gb137, 9, none⟩) (rF_ (p := ⟨gb137, 8, none⟩) (rF_ (p := ⟨gb137, 7, none⟩) (rF_ (p := ⟨gb137, 6, none⟩) (rF_ (p := ⟨gb137, 5, none⟩) (rF_ (p := ⟨gb137, 4, none⟩) (rF_ (p := ⟨gb137, 3, none⟩) (rF_ (p := ⟨gb137, 2, none⟩) (rF_ (p := ⟨gb137, 1, none⟩) (rF_ (p := ⟨gb137, 0, none⟩) (Kd.R_types HO_3.out BK137.out (by decide)) (fun _ hk => hk.2) (.int .i64 ((rd_T43 l0_0 x55_3).f0))) (fun _ hk => hk.2) (.int .i64 ((rd_T43 l0_0 x55_3).f1))) (fun _ hk => hk.2) (.int .i64 ((rd_T43 l0_0 x55_3).f2.f0))) (fun _ hk => hk.2) (.int .i64 ((rd_T43 l0_0 x55_3).f2.f1))) (fun _ hk => hk.2) (.int .i64 ((rd_T43 l0_0 x55_3).f2.f2.f0))) (fun _ hk => hk.2) (.int .i64 ((rd_T43 l0_0 x55_3).f2.f2.f1))) (fun _ hk => hk.2) (.bool ((rd_T43 l0_0 x55_3).f2.f3))) (fun _ hk => hk.2) (.int .i64 ((rd_T43 l0_0 x55_3).f3.f0))) (fun _ hk => hk.2) (.int .i64 ((rd_T43 l0_0 x55_3).f3.f1))) (fun _ hk => hk.2) (.int .i64 ((rd_T43 l0_0 x55_3).f3.f2.f0))) (fun _ hk => hk.2) (.int .i64 ((rd_T43 l0_0 x55_3).f3.f2.f1))) (fun _ hk => hk.2) (.bool ((rd_T43 l0_0 x55_3).f3.f3))) (fun _ hk => hk.1)⟩
       have n1_ : Aside0 (Kd.R (Kd.int .i64) 3 ((((((((((((w43.setCell ⟨gb137, 0, none⟩ (.int .i64 ((rd_T43 l0_0 x55_3).f0))).setCell ⟨gb137, 1, none⟩ (.int .i64 ((rd_T43 l0_0 x55_3).f1))).setCell ⟨gb137, 2, none⟩ (.int .i64 ((rd_T43 l0_0 x55_3).f2.f0))).setCell ⟨gb137, 3, none⟩ (.int .i64 ((rd_T43 l0_0 x55_3).f2.f1))).setCell ⟨gb137, 4, none⟩ (.int .i64 ((rd_T43 l0_0 x55_3).f2.f2.f0))).setCell ⟨gb137, 5, none⟩ (.int .i64 ((rd_T43 l0_0 x55_3).f2.f2.f1))).setCell ⟨gb137, 6, none⟩ (.bool ((rd_T43 l0_0 x55_3).f2.f3))).setCell ⟨gb137, 7, none⟩ (.int .i64 ((rd_T43 l0_0 x55_3).f3.f0))).setCell ⟨gb137, 8, none⟩ (.int .i64 ((rd_T43 l0_0 x55_3).f3.f1))).setCell ⟨gb137, 9, none⟩ (.int .i64 ((rd_T43 l0_0 x55_3).f3.f2.f0))).setCell ⟨gb137, 10, none⟩ (.int .i64 ((rd_T43 l0_0 x55_3).f3.f2.f1))).setCell ⟨gb137, 11, none⟩ (.bool ((rd_T43 l0_0 x55_3).f3.f3))) w.heap.size (fun k_ => some k_ ≠ (.slice (some ⟨go31, 0, none⟩) x3_3.length co32 : Value).ownBlock) v133 y132) := ⟨by (with_reducible repeat (first | apply rN_ | apply rD_)); exact Kd.R_mono (rF_ (p := ⟨gb137, 11, none⟩) (rF_ (p := ⟨gb137, 10, none⟩) (rF_ (p := ⟨gb137, 9, none⟩) (rF_ (p := ⟨gb137, 8, none⟩) (rF_ (p := ⟨gb137, 7, none⟩) (rF_ (p := ⟨gb137, 6, none⟩) (rF_ (p := ⟨gb137, 5, none⟩) (rF_ (p := ⟨gb137, 4, none⟩) (rF_ (p := ⟨gb137, 3, none⟩) (rF_ (p := ⟨gb137, 2, none⟩) (rF_ (p := ⟨gb137, 1, none⟩) (rF_ (p := ⟨gb137, 0, none⟩) (Kd.R_types HO_7.out BK137.out (by decide)) (fun _ hk => hk.2) (.int .i64 ((rd_T43 l0_0 x55_3).f0))) (fun _ hk => hk.2) (.int .i64 ((rd_T43 l0_0 x55_3).f1))) (fun _ hk => hk.2) (.int .i64 ((rd_T43 l0_0 x55_3).f2.f0))) (fun _ hk => hk.2) (.int .i64 ((rd_T43 l0_0 x55_3).f2.f1))) (fun _ hk => hk.2) (.int .i64 ((rd_T43 l0_0 x55_3).f2.f2.f0))) (fun _ hk => hk.2) (.int .i64 ((rd_T43 l0_0 x55_3).f2.f2.f1))) (fun _ hk => hk.2) (.bool ((rd_T43 l0_0 x55_3).f2.f3))) (fun _ hk => hk.2) (.int .i64 ((rd_T43 l0_0 x55_3).f3.f0))) (fun _ hk => hk.2) (.int .i64 ((rd_T43 l0_0 x55_3).f3.f1))) (fun _ hk => hk.2) (.int .i64 ((rd_T43 l0_0 x55_3).f3.f2.f0))) (fun _ hk => hk.2) (.int .i64 ((rd_T43 l0_0 x55_3).f3.f2.f1))) (fun _ hk => hk.2) (.bool ((rd_T43 l0_0 x55_3).f3.f3))) (fun _ hk => hk.1)⟩
       have n2_ : Aside0 (((((((((((((w43.setCell ⟨gb137, 0, none⟩ (.int .i64 ((rd_T43 l0_0 x55_3).f0))).setCell ⟨gb137, 1, none⟩ (.int .i64 ((rd_T43 l0_0 x55_3).f1))).setCell ⟨gb137, 2, none⟩ (.int .i64 ((rd_T43 l0_0 x55_3).f2.f0))).setCell ⟨gb137, 3, none⟩ (.int .i64 ((rd_T43 l0_0 x55_3).f2.f1))).setCell ⟨gb137, 4, none⟩ (.int .i64 ((rd_T43 l0_0 x55_3).f2.f2.f0))).setCell ⟨gb137, 5, none⟩ (.int .i64 ((rd_T43 l0_0 x55_3).f2.f2.f1))).setCell ⟨gb137, 6, none⟩ (.bool ((rd_T43 l0_0 x55_3).f2.f3))).setCell ⟨gb137, 7, none⟩ (.int .i64 ((rd_T43 l0_0 x55_3).f3.f0))).setCell ⟨gb137, 8, none⟩ (.int .i64 ((rd_T43 l0_0 x55_3).f3.f1))).setCell ⟨gb137, 9, none⟩ (.int .i64 ((rd_T43 l0_0 x55_3).f3.f2.f0))).setCell ⟨gb137, 10, none⟩ (.int .i64 ((rd_T43 l0_0 x55_3).f3.f2.f1))).setCell ⟨gb137, 11, none⟩ (.bool ((rd_T43 l0_0 x55_3).f3.f3))).heap[gb122]? = some (.cells #[.slice (some ad136) l0_0.length c0_0, .slice A0_1 l0_1.length c0_1] 31 (0, 0))) := ⟨by (with_reducible repeat (first | refine kN_ ?_ _ | refine kD_ ?_ | refine kA_ ?_ _)); refine blk_far ?_ NB122_137.out _; (with_reducible repeat (first | refine kN_ ?_ _ | refine kD_ ?_ | refine kA_ ?_ _)); refine blk_far ?_ NB122_137.out _; (with_reducible repeat (first | refine kN_ ?_ _ | refine kD_ ?_ | refine kA_ ?_ _)); refine blk_far ?_ NB122_137.out _; (with_reducible repeat (first | refine kN_ ?_ _ | refine kD_ ?_ | refine kA_ ?_ _)); refine blk_far ?_ NB122_137.out _; (with_reducible repeat (first | refine kN_ ?_ _ | refine kD_ ?_ | refine kA_ ?_ _)); refine blk_far ?_ NB122_137.out _; (with_reducible repeat (first | refine kN_ ?_ _ | refine kD_ ?_ | refine kA_ ?_ _)); refine blk_far ?_ NB122_137.out _; (with_reducible repeat (first | refine kN_ ?_ _ | refine kD_ ?_ | refine kA_ ?_ _)); refine blk_far ?_ NB122_137.out _; (with_reducible repeat (first | refine kN_ ?_ _ | refine kD_ ?_ | refine kA_ ?_ _)); refine blk_far ?_ NB122_137.out _; (with_reducible repeat (first | refine kN_ ?_ _ | refine kD_ ?_ | refine kA_ ?_ _)); refine blk_far ?_ NB122_137.out _; (with_reducible repeat (first | refine kN_ ?_ _ | refine kD_ ?_ | refine kA_ ?_ _)); refine blk_far ?_ NB122_137.out _; (with_reducible repeat (first | refine kN_ ?_ _ | refine kD_ ?_ | refine kA_ ?_ _)); refine blk_far ?_ NB122_137.out _; (with_reducible repeat (first | refine kN_ ?_ _ | refine kD_ ?_ | refine kA_ ?_ _)); refine blk_far ?_ NB122_137.out _; (with_reducible repeat (first | refine kN_ ?_ _ | refine kD_ ?_ | refine kA_ ?_ _)); exact BK122.out⟩
       have n3_ : Aside0 (((((((((((((w43.setCell ⟨gb137, 0, none⟩ (.int .i64 ((rd_T43 l0_0 x55_3).f0))).setCell ⟨gb137, 1, none⟩ (.int .i64 ((rd_T43 l0_0 x55_3).f1))).setCell ⟨gb137, 2, none⟩ (.int .i64 ((rd_T43 l0_0 x55_3).f2.f0))).setCell ⟨gb137, 3, none⟩ (.int .i64 ((rd_T43 l0_0 x55_3).f2.f1))).setCell ⟨gb137, 4, none⟩ (.int .i64 ((rd_T43 l0_0 x55_3).f2.f2.f0))).setCell ⟨gb137, 5, none⟩ (.int .i64 ((rd_T43 l0_0 x55_3).f2.f2.f1))).setCell ⟨gb137, 6, none⟩ (.bool ((rd_T43 l0_0 x55_3).f2.f3))).setCell ⟨gb137, 7, none⟩ (.int .i64 ((rd_T43 l0_0 x55_3).f3.f0))).setCell ⟨gb137, 8, none⟩ (.int .i64 ((rd_T43 l0_0 x55_3).f3.f1))).setCell ⟨gb137, 9, none⟩ (.int .i64 ((rd_T43 l0_0 x55_3).f3.f2.f0))).setCell ⟨gb137, 10, none⟩ (.int .i64 ((rd_T43 l0_0 x55_3).f3.f2.f1))).setCell ⟨gb137, 11, none⟩ (.bool ((rd_T43 l0_0 x55_3).f3.f3))).heap[gb137]? = some (.cells #[.int .i64 ((rd_T43 l0_0 x55_3).f0), .int .i64 ((rd_T43 l0_0 x55_3).f1), .int .i64 ((rd_T43 l0_0 x55_3).f2.f0), .int .i64 ((rd_T43 l0_0 x55_3).f2.f1), .int .i64 ((rd_T43 l0_0 x55_3).f2.f2.f0), .int .i64 ((rd_T43 l0_0 x55_3).f2.f2.f1), .bool ((rd_T43 l0_0 x55_3).f2.f3), .int .i64 ((rd_T43 l0_0 x55_3).f3.f0), .int .i64 ((rd_T43 l0_0 x55_3).f3.f1), .int .i64 ((rd_T43 l0_0 x55_3).f3.f2.f0), .int .i64 ((rd_T43 l0_0 x55_3).f3.f2.f1), .bool ((rd_T43 l0_0 x55_3).f3.f3)] 43 (0, 0))) := ⟨by (with_reducible repeat (first | refine kN_ ?_ _ | refine kD_ ?_ | refine kA_ ?_ _)); refine kP_ (cs := #[.int .i64 ((rd_T43 l0_0 x55_3).f0), .int .i64 ((rd_T43 l0_0 x55_3).f1), .int .i64 ((rd_T43 l0_0 x55_3).f2.f0), .int .i64 ((rd_T43 l0_0 x55_3).f2.f1), .int .i64 ((rd_T43 l0_0 x55_3).f2.f2.f0), .int .i64 ((rd_T43 l0_0 x55_3).f2.f2.f1), .bool ((rd_T43 l0_0 x55_3).f2.f3), .int .i64 ((rd_T43 l0_0 x55_3).f3.f0), .int .i64 ((rd_T43 l0_0 x55_3).f3.f1), .int .i64 ((rd_T43 l0_0 x55_3).f3.f2.f0), .int .i64 ((rd_T43 l0_0 x55_3).f3.f2.f1), .bool false]) ?_ 11 _ rfl; (with_reducible repeat (first | refine kN_ ?_ _ | refine kD_ ?_ | refine kA_ ?_ _)); refine kP_ (cs := #[.int .i64 ((rd_T43 l0_0 x55_3).f0), .int .i64 ((rd_T43 l0_0 x55_3).f1), .int .i64 ((rd_T43 l0_0 x55_3).f2.f0), .int .i64 ((rd_T43 l0_0 x55_3).f2.f1), .int .i64 ((rd_T43 l0_0 x55_3).f2.f2.f0), .int .i64 ((rd_T43 l0_0 x55_3).f2.f2.f1), .bool ((rd_T43 l0_0 x55_3).f2.f3), .int .i64 ((rd_T43 l0_0 x55_3).f3.f0), .int .i64 ((rd_T43 l0_0 x55_3).f3.f1), .int .i64 ((rd_T43 l0_0 x55_3).f3.f2.f0), .int .i64 0, .bool false]) ?_ 10 _ rfl; (with_reducible repeat (first | refine kN_ ?_ _ | refine kD_ ?_ | refine kA_ ?_ _)); refine kP_ (cs := #[.int .i64 ((rd_T43 l0_0 x55_3).f0), .int .i64 ((rd_T43 l0_0 x55_3).f1), .int .i64 ((rd_T43 l0_0 x55_3).f2.f0), .int .i64 ((rd_T43 l0_0 x55_3).f2.f1), .int .i64 ((rd_T43 l0_0 x55_3).f2.f2.f0), .int .i64 ((rd_T43 l0_0 x55_3).f2.f2.f1), .bool ((rd_T43 l0_0 x55_3).f2.f3), .int .i64 ((rd_T43 l0_0 x55_3).f3.f0), .int .i64 ((rd_T43 l0_0 x55_3).f3.f1), .int .i64 0, .int .i64 0, .bool false]) ?_ 9 _ rfl; (with_reducible repeat (first | refine kN_ ?_ _ | refine kD_ ?_ | refine kA_ ?_ _)); refine kP_ (cs := #[.int .i64 ((rd_T43 l0_0 x55_3).f0), .int .i64 ((rd_T43 l0_0 x55_3).f1), .int .i64 ((rd_T43 l0_0 x55_3).f2.f0), .int .i64 ((rd_T43 l0_0 x55_3).f2.f1), .int .i64 ((rd_T43 l0_0 x55_3).f2.f2.f0), .int .i64 ((rd_T43 l0_0 x55_3).f2.f2.f1), .bool ((rd_T43 l0_0 x55_3).f2.f3), .int .i64 ((rd_T43 l0_0 x55_3).f3.f0), .int .i64 0, .int .i64 0, .int .i64 0, .bool false]) ?_ 8 _ rfl; (with_reducible repeat (first | refine kN_ ?_ _ | refine kD_ ?_ | refine kA_ ?_ _)); refine kP_ (cs := #[.int .i64 ((rd_T43 l0_0 x55_3).f0), .int .i64 ((rd_T43 l0_0 x55_3).f1), .int .i64 ((rd_T43 l0_0 x55_3).f2.f0), .int .i64 ((rd_T43 l0_0 x55_3).f2.f1), .int .i64 ((rd_T43 l0_0 x55_3).f2.f2.f0), .int .i64 ((rd_T43 l0_0 x55_3).f2.f2.f1), .bool ((rd_T43 l0_0 x55_3).f2.f3), .int .i64 0, .int .i64 0, .int .i64 0, .int .i64 0, .bool false]) ?_ 7 _ rfl; (with_reducible repeat (first | refine kN_ ?_ _ | refine kD_ ?_ | refine kA_ ?_ _)); refine kP_ (cs := #[.int .i64 ((rd_T43 l0_0 x55_3).f0), .int .i64 ((rd_T43 l0_0 x55_3).f1), .int .i64 ((rd_T43 l0_0 x55_3).f2.f0), .int .i64 ((rd_T43 l0_0 x55_3).f2.f1), .int .i64 ((rd_T43 l0_0 x55_3).f2.f2.f0), .int .i64 ((rd_T43 l0_0 x55_3).f2.f2.f1), .bool false, .int .i64 0, .int .i64 0, .int .i64 0, .int .i64 0, .bool false]) ?_ 6 _ rfl; (with_reducible repeat (first | refine kN_ ?_ _ | refine kD_ ?_ | refine kA_ ?_ _)); refine kP_ (cs := #[.int .i64 ((rd_T43 l0_0 x55_3).f0), .int .i64 ((rd_T43 l0_0 x55_3).f1), .int .i64 ((rd_T43 l0_0 x55_3).f2.f0), .int .i64 ((rd_T43 l0_0 x55_3).f2.f1), .int .i64 ((rd_T43 l0_0 x55_3).f2.f2.f0), .int .i64 0, .bool false, .int .i64 0, .int .i64 0, .int .i64 0, .int .i64 0, .bool false]) ?_ 5 _ rfl; (with_reducible repeat (first | refine kN_ ?_ _ | refine kD_ ?_ | refine kA_ ?_ _)); refine kP_ (cs := #[.int .i64 ((rd_T43 l0_0 x55_3).f0), .int .i64 ((rd_T43 l0_0 x55_3).f1), .int .i64 ((rd_T43 l0_0 x55_3).f2.f0), .int .i64 ((rd_T43 l0_0 x55_3).f2.f1), .int .i64 0, .int .i64 0, .bool false, .int .i64 0, .int .i64 0, .int .i64 0, .int .i64 0, .bool false]) ?_ 4 _ rfl; (with_reducible repeat (first | refine kN_ ?_ _ | refine kD_ ?_ | refine kA_ ?_ _)); refine kP_ (cs := #[.int .i64 ((rd_T43 l0_0 x55_3).f0), .int .i64 ((rd_T43 l0_0 x55_3).f1), .int .i64 ((rd_T43 l0_0 x55_3).f2.f0), .int .i64 0, .int .i64 0, .int .i64 0, .bool false, .int .i64 0, .int .i64 0, .int .i64 0, .int .i64 0, .bool false]) ?_ 3 _ rfl; (with_reducible repeat (first | refine kN_ ?_ _ | refine kD_ ?_ | refine kA_ ?_ _)); refine kP_ (cs := #[.int .i64 ((rd_T43 l0_0 x55_3).f0), .int .i64 ((rd_T43 l0_0 x55_3).f1), .int .i64 0, .int .i64 0, .int .i64 0, .int .i64 0, .bool false, .int .i64 0, .int .i64 0, .int .i64 0, .int .i64 0, .bool false]) ?_ 2 _ rfl; (with_reducible repeat (first | refine kN_ ?_ _ | refine kD_ ?_ | refine kA_ ?_ _)); refine kP_ (cs := #[.int .i64 ((rd_T43 l0_0 x55_3).f0), .int .i64 0, .int .i64 0, .int .i64 0, .int .i64 0, .int .i64 0, .bool false, .int .i64 0, .int .i64 0, .int .i64 0, .int .i64 0, .bool false]) ?_ 1 _ rfl; (with_reducible repeat (first | refine kN_ ?_ _ | refine kD_ ?_ | refine kA_ ?_ _)); refine kP_ (cs := #[.int .i64 0, .int .i64 0, .int .i64 0, .int .i64 0, .int .i64 0, .int .i64 0, .bool false, .int .i64 0, .int .i64 0, .int .i64 0, .int .i64 0, .bool false]) ?_ 0 _ rfl; (with_reducible repeat (first | refine kN_ ?_ _ | refine kD_ ?_ | refine kA_ ?_ _)); exact BK137.out⟩
       have n4_ : Aside0 (Below w.heap.size w ((((((((((((w43.setCell ⟨gb137, 0, none⟩ (.int .i64 ((rd_T43 l0_0 x55_3).f0))).setCell ⟨gb137, 1, none⟩ (.int .i64 ((rd_T43 l0_0 x55_3).f1))).setCell ⟨gb137, 2, none⟩ (.int .i64 ((rd_T43 l0_0 x55_3).f2.f0))).setCell ⟨gb137, 3, none⟩ (.int .i64 ((rd_T43 l0_0 x55_3).f2.f1))).setCell ⟨gb137, 4, none⟩ (.int .i64 ((rd_T43 l0_0 x55_3).f2.f2.f0))).setCell ⟨gb137, 5, none⟩ (.int .i64 ((rd_T43 l0_0 x55_3).f2.f2.f1))).setCell ⟨gb137, 6, none⟩ (.bool ((rd_T43 l0_0 x55_3).f2.f3))).setCell ⟨gb137, 7, none⟩ (.int .i64 ((rd_T43 l0_0 x55_3).f3.f0))).setCell ⟨gb137, 8, none⟩ (.int .i64 ((rd_T43 l0_0 x55_3).f3.f1))).setCell ⟨gb137, 9, none⟩ (.int .i64 ((rd_T43 l0_0 x55_3).f3.f2.f0))).setCell ⟨gb137, 10, none⟩ (.int .i64 ((rd_T43 l0_0 x55_3).f3.f2.f1))).setCell ⟨gb137, 11, none⟩ (.bool ((rd_T43 l0_0 x55_3).f3.f3)))) := ⟨by repeat (first | (with_reducible first | exact HB.out | apply bA_ | apply bN_ | apply b1_ | refine bS_ ?_ GE122.out | refine bS_ ?_ GE137.out) | exact HB.out)⟩
       (try clear HO_3)
       (try clear HO_7)
       (try clear BK122)
       (try clear BK137)
       (try clear HB)
       generalize ((((((((((((w43.setCell ⟨gb137, 0, none⟩ (.int .i64 ((rd_T43 l0_0 x55_3).f0))).setCell ⟨gb137, 1, none⟩ (.int .i64 ((rd_T43 l0_0 x55_3).f1))).setCell ⟨gb137, 2, none⟩ (.int .i64 ((rd_T43 l0_0 x55_3).f2.f0))).setCell ⟨gb137, 3, none⟩ (.int .i64 ((rd_T43 l0_0 x55_3).f2.f1))).setCell ⟨gb137, 4, none⟩ (.int .i64 ((rd_T43 l0_0 x55_3).f2.f2.f0))).setCell ⟨gb137, 5, none⟩ (.int .i64 ((rd_T43 l0_0 x55_3).f2.f2.f1))).setCell ⟨gb137, 6, none⟩ (.bool ((rd_T43 l0_0 x55_3).f2.f3))).setCell ⟨gb137, 7, none⟩ (.int .i64 ((rd_T43 l0_0 x55_3).f3.f0))).setCell ⟨gb137, 8, none⟩ (.int .i64 ((rd_T43 l0_0 x55_3).f3.f1))).setCell ⟨gb137, 9, none⟩ (.int .i64 ((rd_T43 l0_0 x55_3).f3.f2.f0))).setCell ⟨gb137, 10, none⟩ (.int .i64 ((rd_T43 l0_0 x55_3).f3.f2.f1))).setCell ⟨gb137, 11, none⟩ (.bool ((rd_T43 l0_0 x55_3).f3.f3))) = w46 at n0_ n1_ n2_ n3_ n4_ ⊢
       have HO_3 := n0_
       have HO_7 := n1_
       have BK122 := n2_
       have BK137 := n3_
       have HB := n4_
       clear n0_ n1_ n2_ n3_ n4_
       have n0_ := aM_ (rD_ HO_3.out)
       have n1_ := aM_ (rD_ HO_7.out)
       have n2_ := aM_ (kD_ BK122.out)
       have n3_ := aM_ (kD_ BK137.out)
       have n4_ := aM_ (b1_ HB.out)
       clear HO_3 HO_7 BK122 BK137 HB
       revert n0_ n1_ n2_ n3_ n4_
       intro HO_3 HO_7 BK122 BK137 HB
       have p138 : 0 ≤ (x55_3 : Int) := oD_ (by first | (with_reducible assumption) | assumption)
       have q138 : x55_3 < (x3_3.length : Int) := oD_ (by first | (with_reducible assumption) | assumption)
       obtain ⟨ad138, e138, hx138_0⟩ := Kd.at_int (Kd.R_reads' HO_3.out).2.2 x55_3 p138 q138
       obtain rfl : (⟨go31, 0, none⟩ : Addr) = ad138 := (by injection e138)
       (first | simp only [add_plain] at hx138_0 | simp only [add_at] at hx138_0 | simp only [Addr.add, Nat.zero_add] at hx138_0 | skip)
       replace p138 := eq_true p138
       replace q138 := eq_true q138
       refine start_ (n := 10) (S := fun w' => w'.cell? ⟨gb137, 0, none⟩ = some (.int .i64 ((rd_T43 l0_0 x55_3).f0)) ∧ w'.cell? ⟨gb137, 1, none⟩ = some (.int .i64 ((rd_T43 l0_0 x55_3).f1)) ∧ w'.cell? ⟨gb137, 2, none⟩ = some (.int .i64 ((rd_T43 l0_0 x55_3).f2.f0)) ∧ w'.cell? ⟨gb137, 3, none⟩ = some (.int .i64 ((rd_T43 l0_0 x55_3).f2.f1)) ∧ w'.cell? ⟨gb137, 4, none⟩ = some (.int .i64 ((rd_T43 l0_0 x55_3).f2.f2.f0)) ∧ w'.cell? ⟨gb137, 5, none⟩ = some (.int .i64 ((rd_T43 l0_0 x55_3).f2.f2.f1)) ∧ w'.cell? ⟨gb137, 6, none⟩ = some (.bool ((rd_T43 l0_0 x55_3).f2.f3)) ∧ w'.cell? ⟨gb137, 7, none⟩ = some (.int .i64 ((rd_T43 l0_0 x55_3).f3.f0)) ∧ w'.cell? ⟨gb137, 8, none⟩ = some (.int .i64 ((rd_T43 l0_0 x55_3).f3.f1)) ∧ w'.cell? ⟨gb137, 9, none⟩ = some (.int .i64 ((rd_T43 l0_0 x55_3).f3.f2.f0)) ∧ w'.cell? ⟨gb137, 10, none⟩ = some (.int .i64 ((rd_T43 l0_0 x55_3).f3.f2.f1)) ∧ w'.cell? ⟨gb137, 11, none⟩ = some (.bool ((rd_T43 l0_0 x55_3).f3.f3)) ∧ w'.cell? ⟨go31, (x55_3).toNat, none⟩ = some (.int .i64 (rd x3_3 x55_3))) (ds := [9]) #[F_, F_, F_, F_, F_, F_, F_, F_, F_, F_] (by kernel_rfl) rfl rfl ⟨(kC_ BK137.out 0).trans rfl, (kC_ BK137.out 1).trans rfl, (kC_ BK137.out 2).trans rfl, (kC_ BK137.out 3).trans rfl, (kC_ BK137.out 4).trans rfl, (kC_ BK137.out 5).trans rfl, (kC_ BK137.out 6).trans rfl, (kC_ BK137.out 7).trans rfl, (kC_ BK137.out 8).trans rfl, (kC_ BK137.out 9).trans rfl, (kC_ BK137.out 10).trans rfl, (kC_ BK137.out 11).trans rfl, hx138_0⟩ (fun hHeld => ?_); refine with_tabW impl_Net_order.tab20 impl_Net_order.bits20 (fun HT_ HW_ => ?_)
       generalize w46.drew = w47 at HO_3 HO_7 BK122 BK137 HB hx138_0 hHeld ⊢
       refine pure_ (i := 0) (N := some 60) (v := ?_) (a' := ?_) #[T_, F_, F_, F_, F_, F_, F_, F_, F_, F_] rfl rfl (any_of HT_.out (by kernel_rfl)) (fun _ _ _ h => h) (Or.inl ⟨by rfl, ?_⟩) ?_ ?_
       rotate_left
       · intro w'
         go_simp
         with_reducible rfl
       rotate_left
       · simp only [Act.put, sA_, sB_, sC_, i64_w, i32_w]
         rfl
       refine pure_ (i := 1) (N := some 61) (v := ?_) (a' := ?_) #[T_, T_, F_, F_, F_, F_, F_, F_, F_, F_] rfl rfl (any_of HT_.out (by kernel_rfl)) (fun _ _ _ h => h) (Or.inl ⟨by rfl, ?_⟩) ?_ ?_
       rotate_left
       · intro w'
         go_simp
         with_reducible rfl
       rotate_left
       · simp only [Act.put, sA_, sB_, sC_, i64_w, i32_w]
         rfl
       refine pure_ (i := 2) (N := some 62) (v := ?_) (a' := ?_) #[T_, T_, T_, F_, F_, F_, F_, F_, F_, F_] rfl rfl (any_of HT_.out (by kernel_rfl)) (fun _ _ _ h => h) (Or.inl ⟨by rfl, ?_⟩) ?_ ?_
       rotate_left
       · intro w'
         go_simp
         with_reducible rfl
       rotate_left
       · simp only [Act.put, sA_, sB_, sC_, i64_w, i32_w]
         rfl
       refine pure_ (i := 5) (N := some 65) (v := ?_) (a' := ?_) #[T_, T_, T_, F_, F_, T_, F_, F_, F_, F_] rfl rfl (any_of HT_.out (by kernel_rfl)) (fun _ _ _ h => h) (Or.inl ⟨by rfl, ?_⟩) ?_ ?_
       rotate_left
       · intro w'
         go_simp
         with_reducible rfl
       rotate_left
       · simp only [Act.put, sA_, sB_, sC_, i64_w, i32_w]
         rfl
       refine take_ (i := 3) (N := some 63) (v := ?_) (a' := ?_) #[T_, T_, T_, T_, F_, T_, F_, F_, F_, F_] rfl rfl (take_ofW HT_.out HW_.out (by kernel_rfl)) (fun _ _ _ h => h) (Or.inl ⟨by rfl, ?_⟩) hHeld ?_ ?_
       rotate_left
       · rintro w' ⟨s0, s1, s2, s3, s4, s5, s6, s7, s8, s9, s10, s11, s12⟩
         go_simp
         with_reducible rfl
       rotate_left
       · simp only [Act.put, sA_, sB_, sC_, i64_w, i32_w]
         rfl
       refine take_ (i := 4) (N := some 64) (v := ?_) (a' := ?_) #[T_, T_, T_, T_, T_, T_, F_, F_, F_, F_] rfl rfl (take_ofW HT_.out HW_.out (by kernel_rfl)) (fun _ _ _ h => h) (Or.inl ⟨by rfl, ?_⟩) hHeld ?_ ?_
       rotate_left
       · rintro w' ⟨s0, s1, s2, s3, s4, s5, s6, s7, s8, s9, s10, s11, s12⟩
         go_simp
         with_reducible rfl
       rotate_left
       · simp only [Act.put, sA_, sB_, sC_, i64_w, i32_w]
         rfl
       refine one_ (i := 6) (N := some 66) #[T_, T_, T_, T_, T_, T_, T_, F_, F_, F_] rfl rfl (one_of HT_.out (by kernel_rfl)) (by decide) (fun K hK => ?_)
       refine goes_ Tryz.func83 (by kernel_rfl) rfl #[.agg #[.int .i64 ((rd_T43 l0_0 x55_3).f0), .int .i64 ((rd_T43 l0_0 x55_3).f1), .int .i64 ((rd_T43 l0_0 x55_3).f2.f0), .int .i64 ((rd_T43 l0_0 x55_3).f2.f1), .int .i64 ((rd_T43 l0_0 x55_3).f2.f2.f0), .int .i64 ((rd_T43 l0_0 x55_3).f2.f2.f1), .bool ((rd_T43 l0_0 x55_3).f2.f3), .int .i64 ((rd_T43 l0_0 x55_3).f3.f0), .int .i64 ((rd_T43 l0_0 x55_3).f3.f1), .int .i64 ((rd_T43 l0_0 x55_3).f3.f2.f0), .int .i64 ((rd_T43 l0_0 x55_3).f3.f2.f1), .bool ((rd_T43 l0_0 x55_3).f3.f3)], .int .i64 t131] (by rfl) rfl rfl (by (try simp only [mA_, List.map_cons, List.map_nil]); first | done | rfl | (simp only [lD_, lT_]; rfl)) ?_
       with_reducible refine (impl_Wire_waits.calls k3 ((rd_T43 l0_0 x55_3).f0) ((rd_T43 l0_0 x55_3).f1) ((rd_T43 l0_0 x55_3).f2.f0) ((rd_T43 l0_0 x55_3).f2.f1) ((rd_T43 l0_0 x55_3).f2.f2.f0) ((rd_T43 l0_0 x55_3).f2.f2.f1) ((rd_T43 l0_0 x55_3).f2.f3) ((rd_T43 l0_0 x55_3).f3.f0) ((rd_T43 l0_0 x55_3).f3.f1) ((rd_T43 l0_0 x55_3).f3.f2.f0) ((rd_T43 l0_0 x55_3).f3.f2.f1) ((rd_T43 l0_0 x55_3).f3.f3) t131 t139 _ A41.out).mono ?_
       rintro e w48 ⟨rfl, hb⟩
       have HS12_ := (hb.cell (bL_ _ _ (hHeld.2.2.2.2.2.2.2.2.2.2.2.2))).trans (hHeld.2.2.2.2.2.2.2.2.2.2.2.2)
       refine ⟨_, rfl, ?_⟩
       have n0_ := aM_ (Kd.R_below (by (with_reducible repeat (first | apply rN_ | apply rD_)); exact HO_3.out) hb)
       have n1_ := aM_ (Kd.R_below (by (with_reducible repeat (first | apply rN_ | apply rD_)); exact HO_7.out) hb)
       have n2_ := aM_ (blk_below (g := gb122) (o := .cells #[.slice (some ad136) l0_0.length c0_0, .slice A0_1 l0_1.length c0_1] 31 (0, 0)) (by (with_reducible repeat (first | refine kN_ ?_ _ | refine kD_ ?_ | refine kA_ ?_ _)); exact BK122.out) hb)
       have n3_ := aM_ (blk_below (g := gb137) (o := .cells #[.int .i64 ((rd_T43 l0_0 x55_3).f0), .int .i64 ((rd_T43 l0_0 x55_3).f1), .int .i64 ((rd_T43 l0_0 x55_3).f2.f0), .int .i64 ((rd_T43 l0_0 x55_3).f2.f1), .int .i64 ((rd_T43 l0_0 x55_3).f2.f2.f0), .int .i64 ((rd_T43 l0_0 x55_3).f2.f2.f1), .bool ((rd_T43 l0_0 x55_3).f2.f3), .int .i64 ((rd_T43 l0_0 x55_3).f3.f0), .int .i64 ((rd_T43 l0_0 x55_3).f3.f1), .int .i64 ((rd_T43 l0_0 x55_3).f3.f2.f0), .int .i64 ((rd_T43 l0_0 x55_3).f3.f2.f1), .bool ((rd_T43 l0_0 x55_3).f3.f3)] 43 (0, 0)) (by (with_reducible repeat (first | refine kN_ ?_ _ | refine kD_ ?_ | refine kA_ ?_ _)); exact BK137.out) hb)
       have n4_ := aM_ (bT_ (by repeat (first | (with_reducible first | exact HB.out | apply bA_ | apply bN_ | apply b1_ | refine bS_ ?_ GE122.out | refine bS_ ?_ GE137.out) | exact HB.out)) hb)
       clear HO_3 HO_7 BK122 BK137 HB
       revert n0_ n1_ n2_ n3_ n4_
       intro HO_3 HO_7 BK122 BK137 HB
       (try clear hb)
       (try clear hb2)
       (try clear hk)
       (try clear hi)
       have p42 : 0 ≤ (x55_3 : Int) := oD_ (by first | (with_reducible assumption) | assumption)
       have q42 : (x55_3 : Int) < ((x3_3.length : Int) : Int) := oD_ (by first | (with_reducible assumption) | assumption)
       obtain ⟨hx42_0, hf42_0⟩ := Kd.R_celln 0 HO_3.out (x55_3 : Int) p42 q42
       replace p42 := eq_true p42
       replace q42 := eq_true q42
       have HP49 := Kd.R_putn HO_3.out (x55_3 : Int) (wrap64 ((rd x3_3 x55_3) - t139))
       rw [← Ny140.out] at HP49
       have HQ49 := aM_ HP49
       clear HP49
       refine hK.out _ _ ⟨(kC_ BK137.out 0).trans rfl, (kC_ BK137.out 1).trans rfl, (kC_ BK137.out 2).trans rfl, (kC_ BK137.out 3).trans rfl, (kC_ BK137.out 4).trans rfl, (kC_ BK137.out 5).trans rfl, (kC_ BK137.out 6).trans rfl, (kC_ BK137.out 7).trans rfl, (kC_ BK137.out 8).trans rfl, (kC_ BK137.out 9).trans rfl, (kC_ BK137.out 10).trans rfl, (kC_ BK137.out 11).trans rfl, HS12_⟩ (fun hHeld => ?_)
       clear hK K
       refine norm_ (a' := ?_) ?_ ?_
       rotate_left
       · show Act.put _ (some 66) _ = _
         simp only [Act.put, sA_, sB_, sC_, i64_w, i32_w]
         rfl
       refine pure_ (i := 7) (N := some 67) (v := ?_) (a' := ?_) #[T_, T_, T_, T_, T_, T_, T_, T_, F_, F_] rfl rfl (any_of HT_.out (by kernel_rfl)) (fun _ _ _ h => h) (Or.inl ⟨by rfl, ?_⟩) ?_ ?_
       rotate_left
       · intro w'
         go_simp
         with_reducible rfl
       rotate_left
       · simp only [Act.put, sA_, sB_, sC_, i64_w, i32_w]
         rfl
       refine pure_ (i := 8) (N := some 68) (v := ?_) (a' := ?_) #[T_, T_, T_, T_, T_, T_, T_, T_, T_, F_] rfl rfl (any_of HT_.out (by kernel_rfl)) (fun _ _ _ h => h) (Or.inl ⟨by rfl, ?_⟩) ?_ ?_
       rotate_left
       · intro w'
         go_simp
         with_reducible rfl
       rotate_left
       · simp only [Act.put, sA_, sB_, sC_, i64_w, i32_w]
         rfl
       refine last_ (i := 9) (N := none) #[T_, T_, T_, T_, T_, T_, T_, T_, T_, T_] rfl rfl (one_of HT_.out (by kernel_rfl)) (by decide) (fun K hK => ?_)
       refine skip_ (w1 := ?_) (by rfl) rfl ?_ ?_
       rotate_left
       · go_simp
         rfl
       refine hK.out _ _ ?_
       clear hK K
       refine done_ (done_of HT_.out (by kernel_rfl)) ?_
       try go_wp2
       (try simp only [← hl3_3])
       go_roundg k3
       case measure => have := HK1.out; have := HK2.out; have := HK3.out; omega
       case rel => exact ⟨(y140), (wrap64 (x55_3 + 1)), (by first | rfl | (simp; done) | (simp [*]; done)), H', ⟨by have := HK1.out; have := HK2.out; have := HK3.out; omega⟩, ⟨by (try simp only [hl3_3]); (with_reducible repeat (first | apply rN_ | apply rD_)); exact HQ49.out⟩, ⟨by (try simp only [hl3_3]); (with_reducible repeat (first | apply rN_ | apply rD_)); exact Kd.R_mono (rF_ (p := ⟨go31, (x55_3 : Int).toNat, none⟩) (Kd.R_mono HO_7.out (fun k_ hk => (⟨hk, fun e_ => hk (by rw [e_]; rfl)⟩ : _ ∧ k_ ≠ go31))) (fun _ hk => hk.2) (.int .i64 (wrap64 ((rd x3_3 x55_3) - t139)))) (fun _ hk => hk.1)⟩, ⟨by (try simp only [hl3_3]); (with_reducible repeat (first | refine kN_ ?_ _ | refine kD_ ?_ | refine kA_ ?_ _)); refine blk_far ?_ (by have h_ := Kd.R_ne HO_3.out BK122.out (by decide); intro e_; exact h_ (by rw [e_]; rfl)) _; (with_reducible repeat (first | refine kN_ ?_ _ | refine kD_ ?_ | refine kA_ ?_ _)); exact BK122.out⟩, ⟨by repeat (first | (with_reducible first | exact HB.out | apply bA_ | apply bN_ | apply b1_ | refine bS_ ?_ GB31.out | refine bS_ ?_ GE122.out | refine bS_ ?_ GE137.out) | exact HB.out)⟩⟩
end Go.Proofs.YtphblfmjdiigkaaGreatDoor.HFnNetSame
