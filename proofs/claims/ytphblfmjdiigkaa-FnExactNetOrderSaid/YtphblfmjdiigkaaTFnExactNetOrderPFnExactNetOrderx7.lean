/- Words of the kit's print for this seat, those alone that this claim's theorem reaches. -/
import Derived.Test.YtphblfmjdiigkaaTFnExactNetOrderPFnExactNetOrderx0
import Derived.Test.YtphblfmjdiigkaaTFnExactNetOrderPFnExactNetOrderx6
namespace Go.Proofs.Ytphblfmjdiigkaa.PFnExactNetOrder
open Go.RowKit Go.Proofs.YtphblfmjdiigkaaW.PrintWords Go.Proofs.YtphblfmjdiigkaaW.PrintLast Go.Proofs.YtphblfmjdiigkaaW.PrintMore
attribute [local go_sem] max2_int min2_int max_two min_two max_three min_three max_four min_four   -- for this text's walks alone
set_option linter.unusedVariables false
set_option linter.unusedSimpArgs false

/-! ### impl_Net_order: function 24 -/
mutual
def impl_Net_order.l0 : Nat → List Int → List (S48) → Int → Int → List (S48) → List (S62) → Option (List Int)
  | 0, _, _, _, _, _, _ => none
  | k + 1, x3, x16, x17, x18, x234000, x234001 => if x18 < x17 then (if 0 ≤ x18 then (if x18 < (x16.length : Int) then (impl_Net_order.l1 k x3 x18 x16 x17 x18 (x234000.length : Int) 0 x234000 x234001 ((rd_T48 x16 x18).f0) ((rd_T48 x16 x18).f1) ((rd_T48 x16 x18).f2.f0) ((rd_T48 x16 x18).f2.f1) ((rd_T48 x16 x18).f2.f2.f0) ((rd_T48 x16 x18).f2.f2.f1) ((rd_T48 x16 x18).f2.f3) ((rd_T48 x16 x18).f3.f0) ((rd_T48 x16 x18).f3.f1) ((rd_T48 x16 x18).f3.f2.f0) ((rd_T48 x16 x18).f3.f2.f1) ((rd_T48 x16 x18).f3.f3)) else (none)) else (none)) else (impl_Net_order.l2 k x3 ([] : List Int) x234000 x234001)
def impl_Net_order.l1 : Nat → List Int → Int → List (S48) → Int → Int → Int → Int → List (S48) → List (S62) → Int → Int → Int → Int → Int → Int → Bool → Int → Int → Int → Int → Bool → Option (List Int)
  | 0, _, _, _, _, _, _, _, _, _, _, _, _, _, _, _, _, _, _, _, _, _ => none
  | k + 1, x3, x4, x16, x17, x18, x25, x26, x234000, x234001, x239000, x239001, x239002, x239003, x239004, x239005, x239006, x239007, x239008, x239009, x239010, x239011 => if x26 < x25 then (if 0 ≤ x4 then (if x4 < (x3.length : Int) then ((impl_Wire_waits.f k x239000 x239001 x239002 x239003 x239004 x239005 x239006 x239007 x239008 x239009 x239010 x239011 x26).bind fun t240 => (impl_Net_order.l1 k (x3.set (x4 : Int).toNat (wrap64 ((rd x3 x4) + t240))) x4 x16 x17 x18 x25 (wrap64 (x26 + 1)) x234000 x234001 x239000 x239001 x239002 x239003 x239004 x239005 x239006 x239007 x239008 x239009 x239010 x239011)) else (none)) else (none)) else (impl_Net_order.l0 k x3 x16 x17 (wrap64 (x18 + 1)) x234000 x234001)
def impl_Net_order.l2 : Nat → List Int → List Int → List (S48) → List (S62) → Option (List Int)
  | 0, _, _, _, _ => none
  | k + 1, x3, x7, x234000, x234001 => (slices_Index_int_int.f k x3 0).bind fun t242 => (if t242 < 0 then (some x7) else (if x7.length < 17592186044416 then (if 0 ≤ t242 then (if t242 < (x3.length : Int) then (impl_Net_order.l3 k (x3.set (t242 : Int).toNat (-1)) (x7 ++ [t242]) t242 x234000 (x234000.length : Int) 0 x234000 x234001) else (none)) else (none)) else (none)))
def impl_Net_order.l3 : Nat → List Int → List Int → Int → List (S48) → Int → Int → List (S48) → List (S62) → Option (List Int)
  | 0, _, _, _, _, _, _, _, _ => none
  | k + 1, x3, x7, x8, x53, x54, x55, x234000, x234001 => if x55 < x54 then (if 0 ≤ x55 then (if x55 < (x53.length : Int) then (if x55 < (x3.length : Int) then ((impl_Wire_waits.f k ((rd_T48 x53 x55).f0) ((rd_T48 x53 x55).f1) ((rd_T48 x53 x55).f2.f0) ((rd_T48 x53 x55).f2.f1) ((rd_T48 x53 x55).f2.f2.f0) ((rd_T48 x53 x55).f2.f2.f1) ((rd_T48 x53 x55).f2.f3) ((rd_T48 x53 x55).f3.f0) ((rd_T48 x53 x55).f3.f1) ((rd_T48 x53 x55).f3.f2.f0) ((rd_T48 x53 x55).f3.f2.f1) ((rd_T48 x53 x55).f3.f3) x8).bind fun t250 => (impl_Net_order.l3 k (x3.set (x55 : Int).toNat (wrap64 ((rd x3 x55) - t250))) x7 x8 x53 x54 (wrap64 (x55 + 1)) x234000 x234001)) else (none)) else (none)) else (none)) else (impl_Net_order.l2 k x3 x7 x234000 x234001)
end
def impl_Net_order.f (k : Nat) (l0_0 : List (S48)) (l0_1 : List (S62)) : Option (List Int) := if 0 ≤ (l0_0.length : Int) then (if ((l0_0.length : Int) : Int).toNat ≤ 35184372088832 then (impl_Net_order.l0 k (List.replicate ((l0_0.length : Int) : Int).toNat 0) l0_0 (l0_0.length : Int) 0 l0_0 l0_1) else (none)) else (none)
def impl_Net_order.T8 : Bool × List (List Nat × List Nat) := (true, [([], []), ([], []), ([0, 1], [0, 1]), ([2], [2]), ([], []), ([], []), ([4, 5], [4, 5]), ([3, 6], [3, 6]), ([0, 1, 0, 1, 2, 3, 4, 5, 6, 7], [0, 1]), ([8, 7, 6, 0, 1, 2, 3, 4, 5, 6, 7], [7, 8])])
def impl_Net_order.B8 : List Nat := [0, 0, 3, 7, 0, 0, 48, 127, 255, 511]
theorem impl_Net_order.tab8 : rtab .any (opsOf Try.f24 8) = impl_Net_order.T8 := by kernel_rfl
theorem impl_Net_order.bits8 : waitsOk impl_Net_order.T8.2 impl_Net_order.B8 = true := by kernel_rfl
def impl_Net_order.T20 : Bool × List (List Nat × List Nat) := (true, [([], []), ([], []), ([0, 1], [0, 1]), ([2], [2]), ([], []), ([], []), ([4, 5], [4, 5]), ([3, 6], [3, 6]), ([0, 1, 0, 1, 2, 3, 4, 5, 6, 7], [0, 1]), ([8, 7, 6, 0, 1, 2, 3, 4, 5, 6, 7], [7, 8])])
def impl_Net_order.B20 : List Nat := [0, 0, 3, 7, 0, 0, 48, 127, 255, 511]
theorem impl_Net_order.tab20 : rtab .any (opsOf Try.f24 20) = impl_Net_order.T20 := by kernel_rfl
theorem impl_Net_order.bits20 : waitsOk impl_Net_order.T20.2 impl_Net_order.B20 = true := by kernel_rfl
set_option maxHeartbeats 8000000 in
set_option maxRecDepth 100000 in
theorem impl_Net_order.calls (k : Nat) (A0_0 : Option Addr) (c0_0 : Nat) (l0_0 : List (S48)) (A0_1 : Option Addr) (c0_1 : Nat) (l0_1 : List (S62)) (r : List Int) (w : World) (hr0_0 : Kd.C k48 w A0_0 l0_0.length l0_0) (hc0_0 : l0_0.length ≤ c0_0) (hr0_1 : Kd.C k62 w A0_1 l0_1.length l0_1) (hc0_1 : l0_1.length ≤ c0_1) (h : impl_Net_order.f k l0_0 l0_1 = some r) :
    Calls Try.prog 24 #[.agg #[.slice A0_0 l0_0.length c0_0, .slice A0_1 l0_1.length c0_1]] w fun e w' => ∃ v0_ : Value, e = .returned (v0_) ∧ Kd.R (Kd.int .i64) 3 w' w.heap.size (fun _ => True) v0_ r ∧ Below w.heap.size w w' := by
  have hu32 := Try.underlying32
  have hu48 := Try.underlying48
  have HR0_0 := Aside0.mk hr0_0
  have HC0_0 := Aside0.mk hc0_0
  clear hr0_0 hc0_0
  have HR0_1 := Aside0.mk hr0_1
  have HC0_1 := Aside0.mk hc0_1
  clear hr0_1 hc0_1
  have HB := Aside0.mk (Below.refl w.heap.size w)
  have H : (if 0 ≤ (l0_0.length : Int) then (if ((l0_0.length : Int) : Int).toNat ≤ 35184372088832 then (impl_Net_order.l0 k (List.replicate ((l0_0.length : Int) : Int).toNat 0) l0_0 (l0_0.length : Int) 0 l0_0 l0_1) else (none)) else (none)) = some r := h
  clear h
  by_cases c2 : 0 ≤ (l0_0.length : Int)
  · rw [if_pos c2] at H
    have c2b0 := eq_true c2
    have c2b1 : decide (0 ≤ (l0_0.length : Int)) = true := decide_eq_true c2
    clear c2
    by_cases c3 : ((l0_0.length : Int) : Int).toNat ≤ 35184372088832
    · rw [if_pos c3] at H
      have c3b0 := eq_true c3
      have c3b1 : decide (((l0_0.length : Int) : Int).toNat ≤ 35184372088832) = true := decide_eq_true c3
      clear c3
      obtain ⟨y234, hy234⟩ : ∃ y_ : List Int, y_ = (List.replicate ((l0_0.length : Int) : Int).toNat 0) := ⟨_, rfl⟩
      replace H : (impl_Net_order.l0 k y234 l0_0 (l0_0.length : Int) 0 l0_0 l0_1) = some r := by first | (rw [hy234]; with_reducible exact H) | (have H2_ := (Option.bind_some _ _).symm.trans H; rw [hy234]; with_reducible exact H2_) | (have H2_ := (Option.bind_some _ _).symm.trans H; with_reducible exact H2_) | with_reducible exact H | (rw [hy234]; exact H) | exact H
      have Ny234 := Aside0.mk hy234
      clear hy234
      have H' := Aside0.mk H
      clear H
      go_enter Try.func24, Try.ntmps24
      go_wp2_with (first | ((with_reducible refine gate_dst (N := 1) rfl ?_); refine box_event ?hg (N := 1) ?hd (cs := #[.slice A0_0 l0_0.length c0_0, .slice A0_1 l0_1.length c0_1]) (t := 32) ?hr ?_; (case hd => rfl); (case hg => rfl); (case hr => first | (go_simp; done) | (go_simp; rfl)); intro gb233 hg w4 hbox hb; have n0_ := Aside0.mk (below_step (by repeat (first | (with_reducible first | exact HB.out | apply below_alloc | apply pw_below_drewN | apply below_drew1) | exact HB.out)) hb); have n1_ := Aside0.mk (hbox); have n2_ := Aside0.mk ((by rw [hg]; exact (below_size (by repeat (first | (with_reducible first | exact HB.out | apply below_alloc | apply pw_below_drewN | apply below_drew1) | exact HB.out))) : w.heap.size ≤ gb233)); have n3_ := Aside0.mk ((by rw [hg]; exact (below_size (by repeat (first | (with_reducible first | exact HB.out | apply below_alloc | apply pw_below_drewN | apply below_drew1) | exact HB.out))) : w.heap.size ≤ gb233)); clear HB; have HB := n0_; have BK233 := n1_; have GW233 := n2_; have GE233 := n3_; clear n0_ n1_ n2_ n3_; clear hb hbox hg; have hcz5_0 : w4.cell? ⟨gb233, 0, none⟩ = some (.slice A0_0 l0_0.length c0_0) := (blk_cell BK233.out 0).trans rfl; have hcz5_1 : w4.cell? ⟨gb233, 1, none⟩ = some (.slice A0_1 l0_1.length c0_1) := (blk_cell BK233.out 1).trans rfl; have hfz5_0 := blk_frozen BK233.out 0; have hfz5_1 := blk_frozen BK233.out 1) | ((with_reducible refine gate_dst (N := 14) rfl ?_); refine Kd.R_make (Kd.int .i64) _ 3 rfl (N := 14) rfl 27 _ _ rfl (l0_0.length : Int) rfl rfl Try.underlying27 (.int .i64 0) 8 info3 rfl (by decide) (by omega) 0 (ok := fun _ => True) (okp := fun _ => True) rfl (fun _ hk => hk) trivial (of_decide_eq_true (by first | (with_reducible assumption) | assumption)) (Nat.le_trans (Nat.mul_le_mul_right _ (of_decide_eq_true (by first | (with_reducible assumption) | assumption) : (l0_0.length : Int).toNat ≤ 35184372088832)) (by omega)) (Below.refl _ _) (Nat.le_refl _) ?_; intro v235 w6 ho7 hb hg_ hnew_; clear hg_ hnew_; (first | rw [← Ny234.out] at ho7 | (simp only [Int.reduceToNat] at ho7; rw [← Ny234.out] at ho7)); have n0_ := Aside0.mk (Kd.R_lower ho7 (below_size (by repeat (first | (with_reducible first | exact HB.out | apply below_alloc | apply pw_below_drewN | apply below_drew1 | refine below_set ?_ GE233.out) | exact HB.out)))); have n1_ := Aside0.mk (blk_below (g := gb233) (o := .cells #[.slice A0_0 l0_0.length c0_0, .slice A0_1 l0_1.length c0_1] 32 (0, 0)) (by (with_reducible repeat (first | refine blk_drewN ?_ _ | refine blk_drew ?_ | refine blk_alloc ?_ _)); exact BK233.out) hb); have n2_ := Aside0.mk (below_step (by repeat (first | (with_reducible first | exact HB.out | apply below_alloc | apply pw_below_drewN | apply below_drew1 | refine below_set ?_ GE233.out) | exact HB.out)) hb); clear BK233; clear HB; have HO236 := n0_; have BK233 := n1_; have HB := n2_; clear n0_ n1_ n2_; clear hb ho7; have hcz8_0 : w6.cell? ⟨gb233, 0, none⟩ = some (.slice A0_0 l0_0.length c0_0) := (blk_cell BK233.out 0).trans rfl; have hcz8_1 : w6.cell? ⟨gb233, 1, none⟩ = some (.slice A0_1 l0_1.length c0_1) := (blk_cell BK233.out 1).trans rfl; have hfz8_0 := blk_frozen BK233.out 0; have hfz8_1 := blk_frozen BK233.out 1))
      go_loopg [18] k (fun kq v18 w' => ∃ (x3_1 : List Int) (x18_1 : Int), v18 = .int .i64 x18_1 ∧ Aside0 (impl_Net_order.l0 kq x3_1 l0_0 (l0_0.length : Int) x18_1 l0_0 l0_1 = some r) ∧ Aside0 (kq ≤ k) ∧ Aside0 (Kd.R (Kd.int .i64) 3 w' w.heap.size (fun _ => True) v235 x3_1) ∧ Aside0 (w'.heap[gb233]? = some (.cells #[(.slice A0_0 l0_0.length c0_0), (.slice A0_1 l0_1.length c0_1)] 32 (0, 0))) ∧ Aside0 (Below w.heap.size w w'))
      case atStart => exact ⟨(y234), (0), (by first | rfl | (simp; done) | (simp [*]; done)), H', ⟨Nat.le_refl _⟩, ⟨by (with_reducible repeat (first | apply Kd.R_alloc | apply Kd.R_drewN | apply Kd.R_drew)); exact HO236.out⟩, ⟨by (with_reducible repeat (first | refine blk_drewN ?_ _ | refine blk_drew ?_ | refine blk_alloc ?_ _)); exact BK233.out⟩, ⟨by repeat (first | (with_reducible first | exact HB.out | apply below_alloc | apply pw_below_drewN | apply below_drew1 | refine below_set ?_ GE233.out) | exact HB.out)⟩⟩
      case round =>
        clear H'
        try clear c2
        try clear c2b0
        try clear c2b1
        try clear p2
        try clear c3
        try clear c3b0
        try clear c3b1
        try clear hcz5_0
        try clear hcz5_1
        try clear hcz8_0
        try clear hcz8_1
        try clear hfz5_0
        try clear hfz5_1
        try clear hfz8_0
        try clear hfz8_1
        obtain ⟨x3_1, x18_1, rfl, HA, HK1, HO_3, BK233, HB⟩ := hrel
        cases gk with
        | zero => exact absurd HA.out (by simp [impl_Net_order.l0])
        | succ k1 =>
          have H := HA.out
          clear HA
          simp only [impl_Net_order.l0] at H
          by_cases c9 : x18_1 < (l0_0.length : Int)
          · rw [if_pos c9] at H
            have c9b0 : decide (x18_1 < (l0_0.length : Int)) = true := decide_eq_true c9
            clear c9
            by_cases c10 : 0 ≤ x18_1
            · rw [if_pos c10] at H
              have c10b0 : decide (0 ≤ x18_1) = true := decide_eq_true c10
              clear c10
              by_cases c11 : x18_1 < (l0_0.length : Int)
              · rw [if_pos c11] at H
                have c11b0 : decide (x18_1 < (l0_0.length : Int)) = true := decide_eq_true c11
                clear c11
                have H' := Aside0.mk H
                clear H
                have p237 : 0 ≤ (x18_1 : Int) := of_decide_eq_true (by first | (with_reducible assumption) | assumption)
                have q237 : x18_1 < (l0_0.length : Int) := of_decide_eq_true (by first | (with_reducible assumption) | assumption)
                obtain ⟨ad237, e237, hx237_0, hx237_1, hx237_2, hx237_3, hx237_4, hx237_5, hx237_6, hx237_7, hx237_8, hx237_9, hx237_10, hx237_11⟩ := at_T48 HR0_0.out x18_1 p237 q237
                cases e237
                replace hx237_0 := (HB.out.cell (World.block_lt_of_cell? w _ hx237_0)).trans hx237_0
                replace hx237_1 := (HB.out.cell (World.block_lt_of_cell? w _ hx237_1)).trans hx237_1
                replace hx237_2 := (HB.out.cell (World.block_lt_of_cell? w _ hx237_2)).trans hx237_2
                replace hx237_3 := (HB.out.cell (World.block_lt_of_cell? w _ hx237_3)).trans hx237_3
                replace hx237_4 := (HB.out.cell (World.block_lt_of_cell? w _ hx237_4)).trans hx237_4
                replace hx237_5 := (HB.out.cell (World.block_lt_of_cell? w _ hx237_5)).trans hx237_5
                replace hx237_6 := (HB.out.cell (World.block_lt_of_cell? w _ hx237_6)).trans hx237_6
                replace hx237_7 := (HB.out.cell (World.block_lt_of_cell? w _ hx237_7)).trans hx237_7
                replace hx237_8 := (HB.out.cell (World.block_lt_of_cell? w _ hx237_8)).trans hx237_8
                replace hx237_9 := (HB.out.cell (World.block_lt_of_cell? w _ hx237_9)).trans hx237_9
                replace hx237_10 := (HB.out.cell (World.block_lt_of_cell? w _ hx237_10)).trans hx237_10
                replace hx237_11 := (HB.out.cell (World.block_lt_of_cell? w _ hx237_11)).trans hx237_11
                replace p237 := eq_true p237
                replace q237 := eq_true q237
                go_wp2_with (first | ((with_reducible refine gate_dst (N := 5) rfl ?_); refine box_event ?hg (N := 5) ?hd (cs := #[.int .i64 0, .int .i64 0, .int .i64 0, .int .i64 0, .int .i64 0, .int .i64 0, .bool false, .int .i64 0, .int .i64 0, .int .i64 0, .int .i64 0, .bool false]) (t := 48) ?hr ?_; (case hd => rfl); (case hg => rfl); (case hr => first | (go_simp; done) | (go_simp; rfl)); intro gb238 hg w12 hbox hb; have n0_ := Aside0.mk (Kd.R_below (by (with_reducible repeat (first | apply Kd.R_alloc | apply Kd.R_drewN | apply Kd.R_drew)); exact HO_3.out) hb); have n1_ := Aside0.mk (blk_below (g := gb233) (o := .cells #[.slice (some ad237) l0_0.length c0_0, .slice A0_1 l0_1.length c0_1] 32 (0, 0)) (by (with_reducible repeat (first | refine blk_drewN ?_ _ | refine blk_drew ?_ | refine blk_alloc ?_ _)); exact BK233.out) hb); have n2_ := Aside0.mk (below_step (by repeat (first | (with_reducible first | exact HB.out | apply below_alloc | apply pw_below_drewN | apply below_drew1 | refine below_set ?_ GE233.out) | exact HB.out)) hb); have n3_ := Aside0.mk (hbox); have n4_ := Aside0.mk ((by rw [hg]; exact (below_size (by repeat (first | (with_reducible first | exact HB.out | apply below_alloc | apply pw_below_drewN | apply below_drew1 | refine below_set ?_ GE233.out) | exact HB.out))) : w.heap.size ≤ gb238)); have n5_ := Aside0.mk ((by rw [hg]; exact (below_size (by repeat (first | (with_reducible first | exact HB.out | apply below_alloc | apply pw_below_drewN | apply below_drew1 | refine below_set ?_ GE233.out) | exact HB.out))) : w.heap.size ≤ gb238)); have n6_ := Aside0.mk ((by rw [hg]; exact Nat.ne_of_lt (blk_lt (g := gb233) (o := .cells #[.slice (some ad237) l0_0.length c0_0, .slice A0_1 l0_1.length c0_1] 32 (0, 0)) (by (with_reducible repeat (first | refine blk_drewN ?_ _ | refine blk_drew ?_ | refine blk_alloc ?_ _)); exact BK233.out)) : gb233 ≠ gb238)); have n7_ := Aside0.mk ((by rw [hg]; exact Nat.ne_of_gt (blk_lt (g := gb233) (o := .cells #[.slice (some ad237) l0_0.length c0_0, .slice A0_1 l0_1.length c0_1] 32 (0, 0)) (by (with_reducible repeat (first | refine blk_drewN ?_ _ | refine blk_drew ?_ | refine blk_alloc ?_ _)); exact BK233.out)) : gb238 ≠ gb233)); clear HO_3; clear BK233; clear HB; have HO_3 := n0_; have BK233 := n1_; have HB := n2_; have BK238 := n3_; have GW238 := n4_; have GE238 := n5_; have NB233_238 := n6_; have NB238_233 := n7_; clear n0_ n1_ n2_ n3_ n4_ n5_ n6_ n7_; clear hb hbox hg; have hnb13 := NB238_233.out; have hnc13 := NB233_238.out; have hcz14_0 : w12.cell? ⟨gb238, 0, none⟩ = some (.int .i64 0) := (blk_cell BK238.out 0).trans rfl; have hcz14_1 : w12.cell? ⟨gb238, 1, none⟩ = some (.int .i64 0) := (blk_cell BK238.out 1).trans rfl; have hcz14_2 : w12.cell? ⟨gb238, 2, none⟩ = some (.int .i64 0) := (blk_cell BK238.out 2).trans rfl; have hcz14_3 : w12.cell? ⟨gb238, 3, none⟩ = some (.int .i64 0) := (blk_cell BK238.out 3).trans rfl; have hcz14_4 : w12.cell? ⟨gb238, 4, none⟩ = some (.int .i64 0) := (blk_cell BK238.out 4).trans rfl; have hcz14_5 : w12.cell? ⟨gb238, 5, none⟩ = some (.int .i64 0) := (blk_cell BK238.out 5).trans rfl; have hcz14_6 : w12.cell? ⟨gb238, 6, none⟩ = some (.bool false) := (blk_cell BK238.out 6).trans rfl; have hcz14_7 : w12.cell? ⟨gb238, 7, none⟩ = some (.int .i64 0) := (blk_cell BK238.out 7).trans rfl; have hcz14_8 : w12.cell? ⟨gb238, 8, none⟩ = some (.int .i64 0) := (blk_cell BK238.out 8).trans rfl; have hcz14_9 : w12.cell? ⟨gb238, 9, none⟩ = some (.int .i64 0) := (blk_cell BK238.out 9).trans rfl; have hcz14_10 : w12.cell? ⟨gb238, 10, none⟩ = some (.int .i64 0) := (blk_cell BK238.out 10).trans rfl; have hcz14_11 : w12.cell? ⟨gb238, 11, none⟩ = some (.bool false) := (blk_cell BK238.out 11).trans rfl; have hfz14_0 := blk_frozen BK238.out 0; have hfz14_1 := blk_frozen BK238.out 1; have hfz14_2 := blk_frozen BK238.out 2; have hfz14_3 := blk_frozen BK238.out 3; have hfz14_4 := blk_frozen BK238.out 4; have hfz14_5 := blk_frozen BK238.out 5; have hfz14_6 := blk_frozen BK238.out 6; have hfz14_7 := blk_frozen BK238.out 7; have hfz14_8 := blk_frozen BK238.out 8; have hfz14_9 := blk_frozen BK238.out 9; have hfz14_10 := blk_frozen BK238.out 10; have hfz14_11 := blk_frozen BK238.out 11; have hcz15_0 : w12.cell? ⟨gb233, 0, none⟩ = some (.slice (some ad237) l0_0.length c0_0) := (blk_cell BK233.out 0).trans rfl; have hcz15_1 : w12.cell? ⟨gb233, 1, none⟩ = some (.slice A0_1 l0_1.length c0_1) := (blk_cell BK233.out 1).trans rfl; have hfz15_0 := blk_frozen BK233.out 0; have hfz15_1 := blk_frozen BK233.out 1))
                go_loopg [26] k1 (fun kq v26 w' => ∃ (x3_2 : List Int) (x26_2 : Int), v26 = .int .i64 x26_2 ∧ Aside0 (impl_Net_order.l1 kq x3_2 x18_1 l0_0 (l0_0.length : Int) x18_1 (l0_0.length : Int) x26_2 l0_0 l0_1 ((rd_T48 l0_0 x18_1).f0) ((rd_T48 l0_0 x18_1).f1) ((rd_T48 l0_0 x18_1).f2.f0) ((rd_T48 l0_0 x18_1).f2.f1) ((rd_T48 l0_0 x18_1).f2.f2.f0) ((rd_T48 l0_0 x18_1).f2.f2.f1) ((rd_T48 l0_0 x18_1).f2.f3) ((rd_T48 l0_0 x18_1).f3.f0) ((rd_T48 l0_0 x18_1).f3.f1) ((rd_T48 l0_0 x18_1).f3.f2.f0) ((rd_T48 l0_0 x18_1).f3.f2.f1) ((rd_T48 l0_0 x18_1).f3.f3) = some r) ∧ Aside0 (kq ≤ k1) ∧ Aside0 (Kd.R (Kd.int .i64) 3 w' w.heap.size (fun _ => True) v235 x3_2) ∧ Aside0 (w'.heap[gb233]? = some (.cells #[(.slice (some ad237) l0_0.length c0_0), (.slice A0_1 l0_1.length c0_1)] 32 (0, 0))) ∧ Aside0 (w'.heap[gb238]? = some (.cells #[.int .i64 ((rd_T48 l0_0 x18_1).f0), .int .i64 ((rd_T48 l0_0 x18_1).f1), .int .i64 ((rd_T48 l0_0 x18_1).f2.f0), .int .i64 ((rd_T48 l0_0 x18_1).f2.f1), .int .i64 ((rd_T48 l0_0 x18_1).f2.f2.f0), .int .i64 ((rd_T48 l0_0 x18_1).f2.f2.f1), .bool ((rd_T48 l0_0 x18_1).f2.f3), .int .i64 ((rd_T48 l0_0 x18_1).f3.f0), .int .i64 ((rd_T48 l0_0 x18_1).f3.f1), .int .i64 ((rd_T48 l0_0 x18_1).f3.f2.f0), .int .i64 ((rd_T48 l0_0 x18_1).f3.f2.f1), .bool ((rd_T48 l0_0 x18_1).f3.f3)] 48 (0, 0))) ∧ Aside0 (Below w.heap.size w w'))
                case atStart => exact ⟨(x3_1), (0), (by first | rfl | (simp; done) | (simp [*]; done)), H', ⟨Nat.le_refl _⟩, ⟨by (with_reducible repeat (first | apply Kd.R_alloc | apply Kd.R_drewN | apply Kd.R_drew)); exact Kd.R_mono (Kd.R_far (p := ⟨gb238, 11, none⟩) (Kd.R_far (p := ⟨gb238, 10, none⟩) (Kd.R_far (p := ⟨gb238, 9, none⟩) (Kd.R_far (p := ⟨gb238, 8, none⟩) (Kd.R_far (p := ⟨gb238, 7, none⟩) (Kd.R_far (p := ⟨gb238, 6, none⟩) (Kd.R_far (p := ⟨gb238, 5, none⟩) (Kd.R_far (p := ⟨gb238, 4, none⟩) (Kd.R_far (p := ⟨gb238, 3, none⟩) (Kd.R_far (p := ⟨gb238, 2, none⟩) (Kd.R_far (p := ⟨gb238, 1, none⟩) (Kd.R_far (p := ⟨gb238, 0, none⟩) (Kd.R_types HO_3.out BK238.out (by decide)) (fun _ hk => hk.2) (.int .i64 ((rd_T48 l0_0 x18_1).f0))) (fun _ hk => hk.2) (.int .i64 ((rd_T48 l0_0 x18_1).f1))) (fun _ hk => hk.2) (.int .i64 ((rd_T48 l0_0 x18_1).f2.f0))) (fun _ hk => hk.2) (.int .i64 ((rd_T48 l0_0 x18_1).f2.f1))) (fun _ hk => hk.2) (.int .i64 ((rd_T48 l0_0 x18_1).f2.f2.f0))) (fun _ hk => hk.2) (.int .i64 ((rd_T48 l0_0 x18_1).f2.f2.f1))) (fun _ hk => hk.2) (.bool ((rd_T48 l0_0 x18_1).f2.f3))) (fun _ hk => hk.2) (.int .i64 ((rd_T48 l0_0 x18_1).f3.f0))) (fun _ hk => hk.2) (.int .i64 ((rd_T48 l0_0 x18_1).f3.f1))) (fun _ hk => hk.2) (.int .i64 ((rd_T48 l0_0 x18_1).f3.f2.f0))) (fun _ hk => hk.2) (.int .i64 ((rd_T48 l0_0 x18_1).f3.f2.f1))) (fun _ hk => hk.2) (.bool ((rd_T48 l0_0 x18_1).f3.f3))) (fun _ hk => trivial)⟩, ⟨by (with_reducible repeat (first | refine blk_drewN ?_ _ | refine blk_drew ?_ | refine blk_alloc ?_ _)); refine blk_far ?_ NB233_238.out _; (with_reducible repeat (first | refine blk_drewN ?_ _ | refine blk_drew ?_ | refine blk_alloc ?_ _)); refine blk_far ?_ NB233_238.out _; (with_reducible repeat (first | refine blk_drewN ?_ _ | refine blk_drew ?_ | refine blk_alloc ?_ _)); refine blk_far ?_ NB233_238.out _; (with_reducible repeat (first | refine blk_drewN ?_ _ | refine blk_drew ?_ | refine blk_alloc ?_ _)); refine blk_far ?_ NB233_238.out _; (with_reducible repeat (first | refine blk_drewN ?_ _ | refine blk_drew ?_ | refine blk_alloc ?_ _)); refine blk_far ?_ NB233_238.out _; (with_reducible repeat (first | refine blk_drewN ?_ _ | refine blk_drew ?_ | refine blk_alloc ?_ _)); refine blk_far ?_ NB233_238.out _; (with_reducible repeat (first | refine blk_drewN ?_ _ | refine blk_drew ?_ | refine blk_alloc ?_ _)); refine blk_far ?_ NB233_238.out _; (with_reducible repeat (first | refine blk_drewN ?_ _ | refine blk_drew ?_ | refine blk_alloc ?_ _)); refine blk_far ?_ NB233_238.out _; (with_reducible repeat (first | refine blk_drewN ?_ _ | refine blk_drew ?_ | refine blk_alloc ?_ _)); refine blk_far ?_ NB233_238.out _; (with_reducible repeat (first | refine blk_drewN ?_ _ | refine blk_drew ?_ | refine blk_alloc ?_ _)); refine blk_far ?_ NB233_238.out _; (with_reducible repeat (first | refine blk_drewN ?_ _ | refine blk_drew ?_ | refine blk_alloc ?_ _)); refine blk_far ?_ NB233_238.out _; (with_reducible repeat (first | refine blk_drewN ?_ _ | refine blk_drew ?_ | refine blk_alloc ?_ _)); refine blk_far ?_ NB233_238.out _; (with_reducible repeat (first | refine blk_drewN ?_ _ | refine blk_drew ?_ | refine blk_alloc ?_ _)); exact BK233.out⟩, ⟨by (with_reducible repeat (first | refine blk_drewN ?_ _ | refine blk_drew ?_ | refine blk_alloc ?_ _)); refine blk_put (cs := #[.int .i64 ((rd_T48 l0_0 x18_1).f0), .int .i64 ((rd_T48 l0_0 x18_1).f1), .int .i64 ((rd_T48 l0_0 x18_1).f2.f0), .int .i64 ((rd_T48 l0_0 x18_1).f2.f1), .int .i64 ((rd_T48 l0_0 x18_1).f2.f2.f0), .int .i64 ((rd_T48 l0_0 x18_1).f2.f2.f1), .bool ((rd_T48 l0_0 x18_1).f2.f3), .int .i64 ((rd_T48 l0_0 x18_1).f3.f0), .int .i64 ((rd_T48 l0_0 x18_1).f3.f1), .int .i64 ((rd_T48 l0_0 x18_1).f3.f2.f0), .int .i64 ((rd_T48 l0_0 x18_1).f3.f2.f1), .bool false]) ?_ 11 _ rfl; (with_reducible repeat (first | refine blk_drewN ?_ _ | refine blk_drew ?_ | refine blk_alloc ?_ _)); refine blk_put (cs := #[.int .i64 ((rd_T48 l0_0 x18_1).f0), .int .i64 ((rd_T48 l0_0 x18_1).f1), .int .i64 ((rd_T48 l0_0 x18_1).f2.f0), .int .i64 ((rd_T48 l0_0 x18_1).f2.f1), .int .i64 ((rd_T48 l0_0 x18_1).f2.f2.f0), .int .i64 ((rd_T48 l0_0 x18_1).f2.f2.f1), .bool ((rd_T48 l0_0 x18_1).f2.f3), .int .i64 ((rd_T48 l0_0 x18_1).f3.f0), .int .i64 ((rd_T48 l0_0 x18_1).f3.f1), .int .i64 ((rd_T48 l0_0 x18_1).f3.f2.f0), .int .i64 0, .bool false]) ?_ 10 _ rfl; (with_reducible repeat (first | refine blk_drewN ?_ _ | refine blk_drew ?_ | refine blk_alloc ?_ _)); refine blk_put (cs := #[.int .i64 ((rd_T48 l0_0 x18_1).f0), .int .i64 ((rd_T48 l0_0 x18_1).f1), .int .i64 ((rd_T48 l0_0 x18_1).f2.f0), .int .i64 ((rd_T48 l0_0 x18_1).f2.f1), .int .i64 ((rd_T48 l0_0 x18_1).f2.f2.f0), .int .i64 ((rd_T48 l0_0 x18_1).f2.f2.f1), .bool ((rd_T48 l0_0 x18_1).f2.f3), .int .i64 ((rd_T48 l0_0 x18_1).f3.f0), .int .i64 ((rd_T48 l0_0 x18_1).f3.f1), .int .i64 0, .int .i64 0, .bool false]) ?_ 9 _ rfl; (with_reducible repeat (first | refine blk_drewN ?_ _ | refine blk_drew ?_ | refine blk_alloc ?_ _)); refine blk_put (cs := #[.int .i64 ((rd_T48 l0_0 x18_1).f0), .int .i64 ((rd_T48 l0_0 x18_1).f1), .int .i64 ((rd_T48 l0_0 x18_1).f2.f0), .int .i64 ((rd_T48 l0_0 x18_1).f2.f1), .int .i64 ((rd_T48 l0_0 x18_1).f2.f2.f0), .int .i64 ((rd_T48 l0_0 x18_1).f2.f2.f1), .bool ((rd_T48 l0_0 x18_1).f2.f3), .int .i64 ((rd_T48 l0_0 x18_1).f3.f0), .int .i64 0, .int .i64 0, .int .i64 0, .bool false]) ?_ 8 _ rfl; (with_reducible repeat (first | refine blk_drewN ?_ _ | refine blk_drew ?_ | refine blk_alloc ?_ _)); refine blk_put (cs := #[.int .i64 ((rd_T48 l0_0 x18_1).f0), .int .i64 ((rd_T48 l0_0 x18_1).f1), .int .i64 ((rd_T48 l0_0 x18_1).f2.f0), .int .i64 ((rd_T48 l0_0 x18_1).f2.f1), .int .i64 ((rd_T48 l0_0 x18_1).f2.f2.f0), .int .i64 ((rd_T48 l0_0 x18_1).f2.f2.f1), .bool ((rd_T48 l0_0 x18_1).f2.f3), .int .i64 0, .int .i64 0, .int .i64 0, .int .i64 0, .bool false]) ?_ 7 _ rfl; (with_reducible repeat (first | refine blk_drewN ?_ _ | refine blk_drew ?_ | refine blk_alloc ?_ _)); refine blk_put (cs := #[.int .i64 ((rd_T48 l0_0 x18_1).f0), .int .i64 ((rd_T48 l0_0 x18_1).f1), .int .i64 ((rd_T48 l0_0 x18_1).f2.f0), .int .i64 ((rd_T48 l0_0 x18_1).f2.f1), .int .i64 ((rd_T48 l0_0 x18_1).f2.f2.f0), .int .i64 ((rd_T48 l0_0 x18_1).f2.f2.f1), .bool false, .int .i64 0, .int .i64 0, .int .i64 0, .int .i64 0, .bool false]) ?_ 6 _ rfl; (with_reducible repeat (first | refine blk_drewN ?_ _ | refine blk_drew ?_ | refine blk_alloc ?_ _)); refine blk_put (cs := #[.int .i64 ((rd_T48 l0_0 x18_1).f0), .int .i64 ((rd_T48 l0_0 x18_1).f1), .int .i64 ((rd_T48 l0_0 x18_1).f2.f0), .int .i64 ((rd_T48 l0_0 x18_1).f2.f1), .int .i64 ((rd_T48 l0_0 x18_1).f2.f2.f0), .int .i64 0, .bool false, .int .i64 0, .int .i64 0, .int .i64 0, .int .i64 0, .bool false]) ?_ 5 _ rfl; (with_reducible repeat (first | refine blk_drewN ?_ _ | refine blk_drew ?_ | refine blk_alloc ?_ _)); refine blk_put (cs := #[.int .i64 ((rd_T48 l0_0 x18_1).f0), .int .i64 ((rd_T48 l0_0 x18_1).f1), .int .i64 ((rd_T48 l0_0 x18_1).f2.f0), .int .i64 ((rd_T48 l0_0 x18_1).f2.f1), .int .i64 0, .int .i64 0, .bool false, .int .i64 0, .int .i64 0, .int .i64 0, .int .i64 0, .bool false]) ?_ 4 _ rfl; (with_reducible repeat (first | refine blk_drewN ?_ _ | refine blk_drew ?_ | refine blk_alloc ?_ _)); refine blk_put (cs := #[.int .i64 ((rd_T48 l0_0 x18_1).f0), .int .i64 ((rd_T48 l0_0 x18_1).f1), .int .i64 ((rd_T48 l0_0 x18_1).f2.f0), .int .i64 0, .int .i64 0, .int .i64 0, .bool false, .int .i64 0, .int .i64 0, .int .i64 0, .int .i64 0, .bool false]) ?_ 3 _ rfl; (with_reducible repeat (first | refine blk_drewN ?_ _ | refine blk_drew ?_ | refine blk_alloc ?_ _)); refine blk_put (cs := #[.int .i64 ((rd_T48 l0_0 x18_1).f0), .int .i64 ((rd_T48 l0_0 x18_1).f1), .int .i64 0, .int .i64 0, .int .i64 0, .int .i64 0, .bool false, .int .i64 0, .int .i64 0, .int .i64 0, .int .i64 0, .bool false]) ?_ 2 _ rfl; (with_reducible repeat (first | refine blk_drewN ?_ _ | refine blk_drew ?_ | refine blk_alloc ?_ _)); refine blk_put (cs := #[.int .i64 ((rd_T48 l0_0 x18_1).f0), .int .i64 0, .int .i64 0, .int .i64 0, .int .i64 0, .int .i64 0, .bool false, .int .i64 0, .int .i64 0, .int .i64 0, .int .i64 0, .bool false]) ?_ 1 _ rfl; (with_reducible repeat (first | refine blk_drewN ?_ _ | refine blk_drew ?_ | refine blk_alloc ?_ _)); refine blk_put (cs := #[.int .i64 0, .int .i64 0, .int .i64 0, .int .i64 0, .int .i64 0, .int .i64 0, .bool false, .int .i64 0, .int .i64 0, .int .i64 0, .int .i64 0, .bool false]) ?_ 0 _ rfl; (with_reducible repeat (first | refine blk_drewN ?_ _ | refine blk_drew ?_ | refine blk_alloc ?_ _)); exact BK238.out⟩, ⟨by repeat (first | (with_reducible first | exact HB.out | apply below_alloc | apply pw_below_drewN | apply below_drew1 | refine below_set ?_ GE233.out | refine below_set ?_ GE238.out) | exact HB.out)⟩⟩
                case round =>
                  clear H'
                  try clear c1
                  try clear c2
                  try clear c2b0
                  try clear c2b1
                  try clear p2
                  try clear q2
                  try clear hx2
                  try clear c3
                  try clear c3b0
                  try clear c3b1
                  try clear c9
                  try clear c9b0
                  try clear c10
                  try clear c10b0
                  try clear c11
                  try clear c11b0
                  try clear c13
                  try clear hcz14_0
                  try clear hcz14_1
                  try clear hcz14_10
                  try clear hcz14_11
                  try clear hcz14_2
                  try clear hcz14_3
                  try clear hcz14_4
                  try clear hcz14_5
                  try clear hcz14_6
                  try clear hcz14_7
                  try clear hcz14_8
                  try clear hcz14_9
                  try clear hcz15_0
                  try clear hcz15_1
                  try clear hcz5_0
                  try clear hcz5_1
                  try clear hcz8_0
                  try clear hcz8_1
                  try clear hfz14_0
                  try clear hfz14_1
                  try clear hfz14_10
                  try clear hfz14_11
                  try clear hfz14_2
                  try clear hfz14_3
                  try clear hfz14_4
                  try clear hfz14_5
                  try clear hfz14_6
                  try clear hfz14_7
                  try clear hfz14_8
                  try clear hfz14_9
                  try clear hfz15_0
                  try clear hfz15_1
                  try clear hfz5_0
                  try clear hfz5_1
                  try clear hfz8_0
                  try clear hfz8_1
                  try clear hx237_0
                  try clear hx237_1
                  try clear hx237_10
                  try clear hx237_11
                  try clear hx237_2
                  try clear hx237_3
                  try clear hx237_4
                  try clear hx237_5
                  try clear hx237_6
                  try clear hx237_7
                  try clear hx237_8
                  try clear hx237_9
                  try clear p2
                  try clear p237
                  try clear q237
                  obtain ⟨x3_2, x26_2, rfl, HA, HK2, HO_3, BK233, BK238, HB⟩ := hrel
                  cases gk with
                  | zero => exact absurd HA.out (by simp [impl_Net_order.l1])
                  | succ k2 =>
                    have H := HA.out
                    clear HA
                    simp only [impl_Net_order.l1] at H
                    by_cases c16 : x26_2 < (l0_0.length : Int)
                    · rw [if_pos c16] at H
                      have c16b0 : decide (x26_2 < (l0_0.length : Int)) = true := decide_eq_true c16
                      clear c16
                      by_cases c17 : 0 ≤ x18_1
                      · rw [if_pos c17] at H
                        have c17b0 : decide (0 ≤ x18_1) = true := decide_eq_true c17
                        clear c17
                        by_cases c18 : x18_1 < (x3_2.length : Int)
                        · rw [if_pos c18] at H
                          have c18b0 : decide (x18_1 < (x3_2.length : Int)) = true := decide_eq_true c18
                          clear c18
                          replace H := Option.bind_eq_some_iff.mp H
                          obtain ⟨t240, A190, H⟩ := H
                          replace H : (impl_Net_order.l1 k2 (x3_2.set (x18_1 : Int).toNat (wrap64 ((rd x3_2 x18_1) + t240))) x18_1 l0_0 (l0_0.length : Int) x18_1 (l0_0.length : Int) (wrap64 (x26_2 + 1)) l0_0 l0_1 ((rd_T48 l0_0 x18_1).f0) ((rd_T48 l0_0 x18_1).f1) ((rd_T48 l0_0 x18_1).f2.f0) ((rd_T48 l0_0 x18_1).f2.f1) ((rd_T48 l0_0 x18_1).f2.f2.f0) ((rd_T48 l0_0 x18_1).f2.f2.f1) ((rd_T48 l0_0 x18_1).f2.f3) ((rd_T48 l0_0 x18_1).f3.f0) ((rd_T48 l0_0 x18_1).f3.f1) ((rd_T48 l0_0 x18_1).f3.f2.f0) ((rd_T48 l0_0 x18_1).f3.f2.f1) ((rd_T48 l0_0 x18_1).f3.f3)) = some r := H
                          have A19 := Aside0.mk A190
                          clear A190
                          obtain ⟨y241, hy241⟩ : ∃ y_ : List Int, y_ = (x3_2.set (x18_1 : Int).toNat (wrap64 ((rd x3_2 x18_1) + t240))) := ⟨_, rfl⟩
                          replace H : (impl_Net_order.l1 k2 y241 x18_1 l0_0 (l0_0.length : Int) x18_1 (l0_0.length : Int) (wrap64 (x26_2 + 1)) l0_0 l0_1 ((rd_T48 l0_0 x18_1).f0) ((rd_T48 l0_0 x18_1).f1) ((rd_T48 l0_0 x18_1).f2.f0) ((rd_T48 l0_0 x18_1).f2.f1) ((rd_T48 l0_0 x18_1).f2.f2.f0) ((rd_T48 l0_0 x18_1).f2.f2.f1) ((rd_T48 l0_0 x18_1).f2.f3) ((rd_T48 l0_0 x18_1).f3.f0) ((rd_T48 l0_0 x18_1).f3.f1) ((rd_T48 l0_0 x18_1).f3.f2.f0) ((rd_T48 l0_0 x18_1).f3.f2.f1) ((rd_T48 l0_0 x18_1).f3.f3)) = some r := by first | (rw [hy241]; with_reducible exact H) | (have H2_ := (Option.bind_some _ _).symm.trans H; rw [hy241]; with_reducible exact H2_) | (have H2_ := (Option.bind_some _ _).symm.trans H; with_reducible exact H2_) | with_reducible exact H | (rw [hy241]; exact H) | exact H
                          have Ny241 := Aside0.mk hy241
                          clear hy241
                          have H' := Aside0.mk H
                          clear H
                          try go_wp2
                          have n0_ := Aside0.mk (Kd.R_drew HO_3.out)
                          have n1_ := Aside0.mk (blk_drew BK233.out)
                          have n2_ := Aside0.mk (blk_drew BK238.out)
                          have n3_ := Aside0.mk (below_drew1 HB.out)
                          clear HO_3
                          clear BK233
                          clear BK238
                          clear HB
                          have HO_3 := n0_
                          have BK233 := n1_
                          have BK238 := n2_
                          have HB := n3_
                          clear n0_ n1_ n2_ n3_
                          obtain ⟨Ao22, co22, eo22⟩ := Kd.R_slice HO_3.out
                          (first | subst eo22 | (injection eo22 with f1_ f2_ f3_; have f4_ := f1_.symm; have f5_ := f3_.symm; clear f1_ f2_ f3_; subst f4_; subst f5_))
                          have p239 : 0 ≤ (x18_1 : Int) := of_decide_eq_true (by first | (with_reducible assumption) | assumption)
                          have q239 : x18_1 < (x3_2.length : Int) := of_decide_eq_true (by first | (with_reducible assumption) | assumption)
                          obtain ⟨ad239, e239, hx239_0⟩ := Kd.at_int (Kd.R_reads' HO_3.out).2.2 x18_1 p239 q239
                          cases e239
                          replace p239 := eq_true p239
                          replace q239 := eq_true q239
                          refine start_ (n := 10) (S := fun w' => w'.cell? ⟨gb238, 0, none⟩ = some (.int .i64 ((rd_T48 l0_0 x18_1).f0)) ∧ w'.cell? ⟨gb238, 1, none⟩ = some (.int .i64 ((rd_T48 l0_0 x18_1).f1)) ∧ w'.cell? ⟨gb238, 2, none⟩ = some (.int .i64 ((rd_T48 l0_0 x18_1).f2.f0)) ∧ w'.cell? ⟨gb238, 3, none⟩ = some (.int .i64 ((rd_T48 l0_0 x18_1).f2.f1)) ∧ w'.cell? ⟨gb238, 4, none⟩ = some (.int .i64 ((rd_T48 l0_0 x18_1).f2.f2.f0)) ∧ w'.cell? ⟨gb238, 5, none⟩ = some (.int .i64 ((rd_T48 l0_0 x18_1).f2.f2.f1)) ∧ w'.cell? ⟨gb238, 6, none⟩ = some (.bool ((rd_T48 l0_0 x18_1).f2.f3)) ∧ w'.cell? ⟨gb238, 7, none⟩ = some (.int .i64 ((rd_T48 l0_0 x18_1).f3.f0)) ∧ w'.cell? ⟨gb238, 8, none⟩ = some (.int .i64 ((rd_T48 l0_0 x18_1).f3.f1)) ∧ w'.cell? ⟨gb238, 9, none⟩ = some (.int .i64 ((rd_T48 l0_0 x18_1).f3.f2.f0)) ∧ w'.cell? ⟨gb238, 10, none⟩ = some (.int .i64 ((rd_T48 l0_0 x18_1).f3.f2.f1)) ∧ w'.cell? ⟨gb238, 11, none⟩ = some (.bool ((rd_T48 l0_0 x18_1).f3.f3)) ∧ w'.cell? (ad239.add (x18_1).toNat) = some (.int .i64 (rd x3_2 x18_1))) (ds := [9]) #[false, false, false, false, false, false, false, false, false, false] (by kernel_rfl) rfl rfl ⟨(blk_cell BK238.out 0).trans rfl, (blk_cell BK238.out 1).trans rfl, (blk_cell BK238.out 2).trans rfl, (blk_cell BK238.out 3).trans rfl, (blk_cell BK238.out 4).trans rfl, (blk_cell BK238.out 5).trans rfl, (blk_cell BK238.out 6).trans rfl, (blk_cell BK238.out 7).trans rfl, (blk_cell BK238.out 8).trans rfl, (blk_cell BK238.out 9).trans rfl, (blk_cell BK238.out 10).trans rfl, (blk_cell BK238.out 11).trans rfl, hx239_0⟩ (fun hHeld => ?_); refine with_tabW impl_Net_order.tab8 impl_Net_order.bits8 (fun HT_ HW_ => ?_)
                          generalize wr.drew = w21 at HO_3 BK233 BK238 HB hx239_0 hHeld ⊢
                          refine pure_ (i := 0) (N := some 29) (v := ?_) (a' := ?_) #[true, false, false, false, false, false, false, false, false, false] rfl rfl (any_of HT_.out (by kernel_rfl)) (fun _ _ _ h => h) (Or.inl ⟨by rfl, ?_⟩) ?_ ?_
                          rotate_left
                          · intro w'
                            go_simp
                            with_reducible rfl
                          rotate_left
                          · simp only [Act.put, List.setIfInBounds_toArray, List.set_cons_zero, List.set_cons_succ, i64_w, i32_w]
                            rfl
                          refine pure_ (i := 1) (N := some 30) (v := ?_) (a' := ?_) #[true, true, false, false, false, false, false, false, false, false] rfl rfl (any_of HT_.out (by kernel_rfl)) (fun _ _ _ h => h) (Or.inl ⟨by rfl, ?_⟩) ?_ ?_
                          rotate_left
                          · intro w'
                            go_simp
                            with_reducible rfl
                          rotate_left
                          · simp only [Act.put, List.setIfInBounds_toArray, List.set_cons_zero, List.set_cons_succ, i64_w, i32_w]
                            rfl
                          refine pure_ (i := 2) (N := some 31) (v := ?_) (a' := ?_) #[true, true, true, false, false, false, false, false, false, false] rfl rfl (any_of HT_.out (by kernel_rfl)) (fun _ _ _ h => h) (Or.inl ⟨by rfl, ?_⟩) ?_ ?_
                          rotate_left
                          · intro w'
                            go_simp
                            with_reducible rfl
                          rotate_left
                          · simp only [Act.put, List.setIfInBounds_toArray, List.set_cons_zero, List.set_cons_succ, i64_w, i32_w]
                            rfl
                          refine pure_ (i := 5) (N := some 34) (v := ?_) (a' := ?_) #[true, true, true, false, false, true, false, false, false, false] rfl rfl (any_of HT_.out (by kernel_rfl)) (fun _ _ _ h => h) (Or.inl ⟨by rfl, ?_⟩) ?_ ?_
                          rotate_left
                          · intro w'
                            go_simp
                            with_reducible rfl
                          rotate_left
                          · simp only [Act.put, List.setIfInBounds_toArray, List.set_cons_zero, List.set_cons_succ, i64_w, i32_w]
                            rfl
                          refine take_ (i := 3) (N := some 32) (v := ?_) (a' := ?_) #[true, true, true, true, false, true, false, false, false, false] rfl rfl (take_ofW HT_.out HW_.out (by kernel_rfl)) (fun _ _ _ h => h) (Or.inl ⟨by rfl, ?_⟩) hHeld ?_ ?_
                          rotate_left
                          · rintro w' ⟨s0, s1, s2, s3, s4, s5, s6, s7, s8, s9, s10, s11, s12⟩
                            go_simp
                            with_reducible rfl
                          rotate_left
                          · simp only [Act.put, List.setIfInBounds_toArray, List.set_cons_zero, List.set_cons_succ, i64_w, i32_w]
                            rfl
                          refine take_ (i := 4) (N := some 33) (v := ?_) (a' := ?_) #[true, true, true, true, true, true, false, false, false, false] rfl rfl (take_ofW HT_.out HW_.out (by kernel_rfl)) (fun _ _ _ h => h) (Or.inl ⟨by rfl, ?_⟩) hHeld ?_ ?_
                          rotate_left
                          · rintro w' ⟨s0, s1, s2, s3, s4, s5, s6, s7, s8, s9, s10, s11, s12⟩
                            go_simp
                            with_reducible rfl
                          rotate_left
                          · simp only [Act.put, List.setIfInBounds_toArray, List.set_cons_zero, List.set_cons_succ, i64_w, i32_w]
                            rfl
                          refine one_ (i := 6) (N := some 35) #[true, true, true, true, true, true, true, false, false, false] rfl rfl (one_of HT_.out (by kernel_rfl)) (by decide) (fun K hK => ?_)
                          refine goes_ Try.func42 (by kernel_rfl) rfl #[.agg #[.int .i64 ((rd_T48 l0_0 x18_1).f0), .int .i64 ((rd_T48 l0_0 x18_1).f1), .int .i64 ((rd_T48 l0_0 x18_1).f2.f0), .int .i64 ((rd_T48 l0_0 x18_1).f2.f1), .int .i64 ((rd_T48 l0_0 x18_1).f2.f2.f0), .int .i64 ((rd_T48 l0_0 x18_1).f2.f2.f1), .bool ((rd_T48 l0_0 x18_1).f2.f3), .int .i64 ((rd_T48 l0_0 x18_1).f3.f0), .int .i64 ((rd_T48 l0_0 x18_1).f3.f1), .int .i64 ((rd_T48 l0_0 x18_1).f3.f2.f0), .int .i64 ((rd_T48 l0_0 x18_1).f3.f2.f1), .bool ((rd_T48 l0_0 x18_1).f3.f3)], .int .i64 x26_2] (by rfl) rfl rfl (by (try simp only [List.map_toArray, List.map_cons, List.map_nil]); first | done | rfl | (simp only [List.length_drop, List.length_take]; rfl)) ?_
                          with_reducible refine (impl_Wire_waits.calls k2 ((rd_T48 l0_0 x18_1).f0) ((rd_T48 l0_0 x18_1).f1) ((rd_T48 l0_0 x18_1).f2.f0) ((rd_T48 l0_0 x18_1).f2.f1) ((rd_T48 l0_0 x18_1).f2.f2.f0) ((rd_T48 l0_0 x18_1).f2.f2.f1) ((rd_T48 l0_0 x18_1).f2.f3) ((rd_T48 l0_0 x18_1).f3.f0) ((rd_T48 l0_0 x18_1).f3.f1) ((rd_T48 l0_0 x18_1).f3.f2.f0) ((rd_T48 l0_0 x18_1).f3.f2.f1) ((rd_T48 l0_0 x18_1).f3.f3) x26_2 t240 _ A19.out).mono ?_
                          rintro e w23 ⟨rfl, hb⟩
                          have HS12_ := (hb.cell (World.block_lt_of_cell? _ _ (hHeld.2.2.2.2.2.2.2.2.2.2.2.2))).trans (hHeld.2.2.2.2.2.2.2.2.2.2.2.2)
                          refine ⟨_, rfl, ?_⟩
                          have n0_ := Aside0.mk (Kd.R_below (by (with_reducible repeat (first | apply Kd.R_alloc | apply Kd.R_drewN | apply Kd.R_drew)); exact HO_3.out) hb)
                          have n1_ := Aside0.mk (blk_below (g := gb233) (o := .cells #[.slice (some ad237) l0_0.length c0_0, .slice A0_1 l0_1.length c0_1] 32 (0, 0)) (by (with_reducible repeat (first | refine blk_drewN ?_ _ | refine blk_drew ?_ | refine blk_alloc ?_ _)); exact BK233.out) hb)
                          have n2_ := Aside0.mk (blk_below (g := gb238) (o := .cells #[.int .i64 ((rd_T48 l0_0 x18_1).f0), .int .i64 ((rd_T48 l0_0 x18_1).f1), .int .i64 ((rd_T48 l0_0 x18_1).f2.f0), .int .i64 ((rd_T48 l0_0 x18_1).f2.f1), .int .i64 ((rd_T48 l0_0 x18_1).f2.f2.f0), .int .i64 ((rd_T48 l0_0 x18_1).f2.f2.f1), .bool ((rd_T48 l0_0 x18_1).f2.f3), .int .i64 ((rd_T48 l0_0 x18_1).f3.f0), .int .i64 ((rd_T48 l0_0 x18_1).f3.f1), .int .i64 ((rd_T48 l0_0 x18_1).f3.f2.f0), .int .i64 ((rd_T48 l0_0 x18_1).f3.f2.f1), .bool ((rd_T48 l0_0 x18_1).f3.f3)] 48 (0, 0)) (by (with_reducible repeat (first | refine blk_drewN ?_ _ | refine blk_drew ?_ | refine blk_alloc ?_ _)); exact BK238.out) hb)
                          have n3_ := Aside0.mk (below_step (by repeat (first | (with_reducible first | exact HB.out | apply below_alloc | apply pw_below_drewN | apply below_drew1 | refine below_set ?_ GE233.out | refine below_set ?_ GE238.out) | exact HB.out)) hb)
                          clear HO_3
                          clear BK233
                          clear BK238
                          clear HB
                          have HO_3 := n0_
                          have BK233 := n1_
                          have BK238 := n2_
                          have HB := n3_
                          clear n0_ n1_ n2_ n3_
                          (try clear hb)
                          (try clear hb2)
                          (try clear hk)
                          (try clear hi)
                          have p20 : 0 ≤ (x18_1 : Int) := of_decide_eq_true (by first | (with_reducible assumption) | assumption)
                          have q20 : (x18_1 : Int) < ((x3_2.length : Int) : Int) := of_decide_eq_true (by first | (with_reducible assumption) | assumption)
                          obtain ⟨go20, co20, eo20, gb20, gl20, cl20, HG20⟩ := Kd.R_form HO_3.out (by omega)
                          (first | cases eo20 | (injection eo20 with ea_ en_ ec_; (first | subst ea_ | (injection ea_ with ea_; subst ea_)); subst ec_; clear en_))
                          have GB20 := Aside0.mk gb20
                          have GG20 := Aside0.mk HG20
                          clear gb20 gl20 HG20
                          (first | simp only [add_plain] at hx239_0 | skip)
                          obtain ⟨hx20_0, hf20_0⟩ := Kd.R_celln 0 HO_3.out (x18_1 : Int) p20 q20
                          replace p20 := eq_true p20
                          replace q20 := eq_true q20
                          have HP24 := Kd.R_putn HO_3.out (x18_1 : Int) (wrap64 ((rd x3_2 x18_1) + t240))
                          rw [← Ny241.out] at HP24
                          have HQ24 := Aside0.mk HP24
                          clear HP24
                          refine hK.out _ _ ⟨(blk_cell BK238.out 0).trans rfl, (blk_cell BK238.out 1).trans rfl, (blk_cell BK238.out 2).trans rfl, (blk_cell BK238.out 3).trans rfl, (blk_cell BK238.out 4).trans rfl, (blk_cell BK238.out 5).trans rfl, (blk_cell BK238.out 6).trans rfl, (blk_cell BK238.out 7).trans rfl, (blk_cell BK238.out 8).trans rfl, (blk_cell BK238.out 9).trans rfl, (blk_cell BK238.out 10).trans rfl, (blk_cell BK238.out 11).trans rfl, HS12_⟩ (fun hHeld => ?_)
                          clear hK K
                          refine norm_ (a' := ?_) ?_ ?_
                          rotate_left
                          · show Act.put _ (some 35) _ = _
                            simp only [Act.put, List.setIfInBounds_toArray, List.set_cons_zero, List.set_cons_succ, i64_w, i32_w]
                            rfl
                          refine pure_ (i := 7) (N := some 36) (v := ?_) (a' := ?_) #[true, true, true, true, true, true, true, true, false, false] rfl rfl (any_of HT_.out (by kernel_rfl)) (fun _ _ _ h => h) (Or.inl ⟨by rfl, ?_⟩) ?_ ?_
                          rotate_left
                          · intro w'
                            go_simp
                            with_reducible rfl
                          rotate_left
                          · simp only [Act.put, List.setIfInBounds_toArray, List.set_cons_zero, List.set_cons_succ, i64_w, i32_w]
                            rfl
                          refine pure_ (i := 8) (N := some 37) (v := ?_) (a' := ?_) #[true, true, true, true, true, true, true, true, true, false] rfl rfl (any_of HT_.out (by kernel_rfl)) (fun _ _ _ h => h) (Or.inl ⟨by rfl, ?_⟩) ?_ ?_
                          rotate_left
                          · intro w'
                            go_simp
                            with_reducible rfl
                          rotate_left
                          · simp only [Act.put, List.setIfInBounds_toArray, List.set_cons_zero, List.set_cons_succ, i64_w, i32_w]
                            rfl
                          refine last_ (i := 9) (N := none) #[true, true, true, true, true, true, true, true, true, true] rfl rfl (one_of HT_.out (by kernel_rfl)) (by decide) (fun K hK => ?_)
                          refine skip_ (w1 := ?_) (by rfl) rfl ?_ ?_
                          rotate_left
                          · go_simp
                            rfl
                          refine hK.out _ _ ?_
                          clear hK K
                          refine done_ (done_of HT_.out (by kernel_rfl)) ?_
                          try go_wp2
                          go_roundg k2
                          case measure => have := HK1.out; have := HK2.out; omega
                          case rel => exact ⟨(y241), (wrap64 (x26_2 + 1)), (by first | rfl | (simp; done) | (simp [*]; done)), H', ⟨by have := HK1.out; have := HK2.out; omega⟩, ⟨by (with_reducible repeat (first | apply Kd.R_alloc | apply Kd.R_drewN | apply Kd.R_drew)); exact HQ24.out⟩, ⟨by (with_reducible repeat (first | refine blk_drewN ?_ _ | refine blk_drew ?_ | refine blk_alloc ?_ _)); refine blk_far ?_ (by have h_ := Kd.R_ne HO_3.out BK233.out (by decide); intro e_; exact h_ (by rw [e_]; rfl)) _; (with_reducible repeat (first | refine blk_drewN ?_ _ | refine blk_drew ?_ | refine blk_alloc ?_ _)); exact BK233.out⟩, ⟨by (with_reducible repeat (first | refine blk_drewN ?_ _ | refine blk_drew ?_ | refine blk_alloc ?_ _)); refine blk_far ?_ (by have h_ := Kd.R_ne HO_3.out BK238.out (by decide); intro e_; exact h_ (by rw [e_]; rfl)) _; (with_reducible repeat (first | refine blk_drewN ?_ _ | refine blk_drew ?_ | refine blk_alloc ?_ _)); exact BK238.out⟩, ⟨by repeat (first | (with_reducible first | exact HB.out | apply below_alloc | apply pw_below_drewN | apply below_drew1 | refine below_set ?_ GB20.out | refine below_set ?_ GE233.out | refine below_set ?_ GE238.out) | exact HB.out)⟩⟩
                        · rw [if_neg c18] at H
                          exact absurd H (by simp)
                      · rw [if_neg c17] at H
                        exact absurd H (by simp)
                    · rw [if_neg c16] at H
                      have c16b0 : decide (x26_2 < (l0_0.length : Int)) = false := decide_eq_false c16
                      clear c16
                      have H' := Aside0.mk H
                      clear H
                      go_wp2
                      go_roundg k2
                      case measure => have := HK1.out; have := HK2.out; omega
                      case rel => exact ⟨(x3_2), (wrap64 (x18_1 + 1)), (by first | rfl | (simp; done) | (simp [*]; done)), H', ⟨by have := HK1.out; have := HK2.out; omega⟩, ⟨by (with_reducible repeat (first | apply Kd.R_alloc | apply Kd.R_drewN | apply Kd.R_drew)); exact HO_3.out⟩, ⟨by (with_reducible repeat (first | refine blk_drewN ?_ _ | refine blk_drew ?_ | refine blk_alloc ?_ _)); exact BK233.out⟩, ⟨by repeat (first | (with_reducible first | exact HB.out | apply below_alloc | apply pw_below_drewN | apply below_drew1 | refine below_set ?_ GE233.out | refine below_set ?_ GE238.out) | exact HB.out)⟩⟩
              · rw [if_neg c11] at H
                exact absurd H (by simp)
            · rw [if_neg c10] at H
              exact absurd H (by simp)
          · rw [if_neg c9] at H
            have c9b0 : decide (x18_1 < (l0_0.length : Int)) = false := decide_eq_false c9
            clear c9
            have H' := Aside0.mk H
            clear H
            go_wp2
            go_loopg [7] k1 (fun kq v7 w' => ∃ (x3_2 : List Int) (x7_2 : List Int), Aside0 (impl_Net_order.l2 kq x3_2 x7_2 l0_0 l0_1 = some r) ∧ Aside0 (kq ≤ k1) ∧ Aside0 (Kd.R (Kd.int .i64) 3 w' w.heap.size (fun k_ => some k_ ≠ (v7 : Value).ownBlock) v235 x3_2) ∧ Aside0 (Kd.R (Kd.int .i64) 3 w' w.heap.size (fun k_ => some k_ ≠ (v235 : Value).ownBlock) v7 x7_2) ∧ Aside0 (w'.heap[gb233]? = some (.cells #[(.slice A0_0 l0_0.length c0_0), (.slice A0_1 l0_1.length c0_1)] 32 (0, 0))) ∧ Aside0 (Below w.heap.size w w'))
            case atStart => exact ⟨(x3_1), (([] : List Int)), H', ⟨Nat.le_refl _⟩, ⟨by (with_reducible repeat (first | apply Kd.R_alloc | apply Kd.R_drewN | apply Kd.R_drew)); exact Kd.R_mono HO_3.out (fun _ hk => (by simp [Value.ownBlock]))⟩, ⟨by first | exact Kd.R_nil _ _ _ _ _ | exact Kd.N_nil _ _ _ _ _ | exact Kd.V_nil _ _ _ _ _ | exact Kd.Q_nil _ _ _ _ _ | exact Kd.S_nil _ _ _ _ _⟩, ⟨by (with_reducible repeat (first | refine blk_drewN ?_ _ | refine blk_drew ?_ | refine blk_alloc ?_ _)); exact BK233.out⟩, ⟨by repeat (first | (with_reducible first | exact HB.out | apply below_alloc | apply pw_below_drewN | apply below_drew1 | refine below_set ?_ GE233.out) | exact HB.out)⟩⟩
            case round =>
              clear H'
              try clear c1
              try clear c2
              try clear c2b0
              try clear c2b1
              try clear p2
              try clear q2
              try clear hx2
              try clear hf2
              try clear c3
              try clear c3b0
              try clear c3b1
              try clear c4
              try clear p6
              try clear c9
              try clear c9b0
              try clear c10
              try clear c10b0
              try clear c11
              try clear c11b0
              try clear c13
              try clear c16
              try clear c16b0
              try clear c17
              try clear c17b0
              try clear c18
              try clear c18b0
              try clear p20
              try clear q20
              try clear hx20
              try clear hf20
              try clear p23
              try clear q23
              try clear hx23
              try clear c24
              try clear hcz14_0
              try clear hcz14_1
              try clear hcz14_10
              try clear hcz14_11
              try clear hcz14_2
              try clear hcz14_3
              try clear hcz14_4
              try clear hcz14_5
              try clear hcz14_6
              try clear hcz14_7
              try clear hcz14_8
              try clear hcz14_9
              try clear hcz15_0
              try clear hcz15_1
              try clear hcz5_0
              try clear hcz5_1
              try clear hcz8_0
              try clear hcz8_1
              try clear hfz14_0
              try clear hfz14_1
              try clear hfz14_10
              try clear hfz14_11
              try clear hfz14_2
              try clear hfz14_3
              try clear hfz14_4
              try clear hfz14_5
              try clear hfz14_6
              try clear hfz14_7
              try clear hfz14_8
              try clear hfz14_9
              try clear hfz15_0
              try clear hfz15_1
              try clear hfz5_0
              try clear hfz5_1
              try clear hfz8_0
              try clear hfz8_1
              try clear hx20_0
              try clear hx237_0
              try clear hx237_1
              try clear hx237_10
              try clear hx237_11
              try clear hx237_2
              try clear hx237_3
              try clear hx237_4
              try clear hx237_5
              try clear hx237_6
              try clear hx237_7
              try clear hx237_8
              try clear hx237_9
              try clear hx239_0
              try clear p2
              try clear p20
              try clear p237
              try clear p239
              try clear q2
              try clear q20
              try clear q237
              try clear q239
              obtain ⟨x3_2, x7_2, HA, HK2, HO_3, HO_7, BK233, HB⟩ := hrel
              cases gk with
              | zero => exact absurd HA.out (by simp [impl_Net_order.l2])
              | succ k2 =>
                have H := HA.out
                clear HA
                simp only [impl_Net_order.l2] at H
                replace H := Option.bind_eq_some_iff.mp H
                obtain ⟨t242, A250, H⟩ := H
                replace H : (if t242 < 0 then (some x7_2) else (if x7_2.length < 17592186044416 then (if 0 ≤ t242 then (if t242 < (x3_2.length : Int) then (impl_Net_order.l3 k2 (x3_2.set (t242 : Int).toNat (-1)) (x7_2 ++ [t242]) t242 l0_0 (l0_0.length : Int) 0 l0_0 l0_1) else (none)) else (none)) else (none))) = some r := H
                have A25 := Aside0.mk A250
                clear A250
                by_cases c26 : t242 < 0
                · rw [if_pos c26] at H
                  have c26b0 : decide (t242 < 0) = true := decide_eq_true c26
                  clear c26
                  obtain rfl := Option.some.inj H
                  obtain ⟨Ao27, co27, eo27⟩ := Kd.R_slice HO_3.out
                  subst eo27
                  go_wp2_with (first | ((with_reducible refine gate_callee (f := 43) rfl ?_); refine goesL_ (some 41) rfl rfl Try.func43 (by kernel_rfl) rfl #[.slice Ao27 x3_2.length co27, .int .i64 0] rfl (by (try simp only [List.map_toArray, List.map_cons, List.map_nil]); first | done | rfl | (simp only [List.length_drop, List.length_take]; rfl)) ?_; (with_reducible refine (slices_Index_int_int.calls k2 _ _ x3_2 0 t242 _ ?side1 ?side2 A25.out).mono ?_); (case side1 => repeat (first | exact (Kd.R_reads' HO_3.out).2.2 | (with_reducible refine Kd.C_alloc ?_ _) | (with_reducible refine Kd.C_drewN ?_ _) | (with_reducible refine Kd.C_drew ?_))); (case side2 => exact (Kd.R_reads' HO_3.out).2.1); rintro e w' ⟨rfl, ⟨nd, rfl⟩⟩; refine ⟨_, rfl, ?_⟩))
                  go_ret
                  exact ⟨_, by first | rfl | (simp [errW_none, errW_some] <;> rfl) | (simp [*, errW_none, errW_some] <;> rfl), by (with_reducible repeat (first | apply Kd.R_alloc | apply Kd.R_drewN | apply Kd.R_drew)); exact Kd.R_mono HO_7.out (fun _ hk => trivial), by repeat (first | (with_reducible first | exact HB.out | apply below_alloc | apply pw_below_drewN | apply below_drew1 | refine below_set ?_ GE233.out) | exact HB.out)⟩
                · rw [if_neg c26] at H
                  have c26b0 : decide (t242 < 0) = false := decide_eq_false c26
                  clear c26
                  by_cases c28 : x7_2.length < 17592186044416
                  · rw [if_pos c28] at H
                    have LMc28 := Aside0.mk c28
                    clear c28
                    obtain ⟨y243, hy243⟩ : ∃ y_ : List Int, y_ = (x7_2 ++ [t242]) := ⟨_, rfl⟩
                    replace H : (if 0 ≤ t242 then (if t242 < (x3_2.length : Int) then (impl_Net_order.l3 k2 (x3_2.set (t242 : Int).toNat (-1)) y243 t242 l0_0 (l0_0.length : Int) 0 l0_0 l0_1) else (none)) else (none)) = some r := by first | (rw [hy243]; with_reducible exact H) | (have H2_ := (Option.bind_some _ _).symm.trans H; rw [hy243]; with_reducible exact H2_) | (have H2_ := (Option.bind_some _ _).symm.trans H; with_reducible exact H2_) | with_reducible exact H | (rw [hy243]; exact H) | exact H
                    have Ny243 := Aside0.mk hy243
                    clear hy243
                    by_cases c29 : 0 ≤ t242
                    · rw [if_pos c29] at H
                      have c29b0 : decide (0 ≤ t242) = true := decide_eq_true c29
                      clear c29
                      by_cases c30 : t242 < (x3_2.length : Int)
                      · rw [if_pos c30] at H
                        have c30b0 : decide (t242 < (x3_2.length : Int)) = true := decide_eq_true c30
                        clear c30
                        obtain ⟨y246, hy246⟩ : ∃ y_ : List Int, y_ = (x3_2.set (t242 : Int).toNat (-1)) := ⟨_, rfl⟩
                        replace H : (impl_Net_order.l3 k2 y246 y243 t242 l0_0 (l0_0.length : Int) 0 l0_0 l0_1) = some r := by first | (rw [hy246]; with_reducible exact H) | (have H2_ := (Option.bind_some _ _).symm.trans H; rw [hy246]; with_reducible exact H2_) | (have H2_ := (Option.bind_some _ _).symm.trans H; with_reducible exact H2_) | with_reducible exact H | (rw [hy246]; exact H) | exact H
                        have Ny246 := Aside0.mk hy246
                        clear hy246
                        have H' := Aside0.mk H
                        clear H
                        obtain ⟨Ao32, co32, eo32⟩ := Kd.R_slice HO_3.out
                        subst eo32
                        go_wp2_with (first | ((with_reducible refine gate_callee (f := 43) rfl ?_); refine goesL_ (some 41) rfl rfl Try.func43 (by kernel_rfl) rfl #[.slice Ao32 x3_2.length co32, .int .i64 0] rfl (by (try simp only [List.map_toArray, List.map_cons, List.map_nil]); first | done | rfl | (simp only [List.length_drop, List.length_take]; rfl)) ?_; (with_reducible refine (slices_Index_int_int.calls k2 _ _ x3_2 0 t242 _ ?side1 ?side2 A25.out).mono ?_); (case side1 => repeat (first | exact (Kd.R_reads' HO_3.out).2.2 | (with_reducible refine Kd.C_alloc ?_ _) | (with_reducible refine Kd.C_drewN ?_ _) | (with_reducible refine Kd.C_drew ?_))); (case side2 => exact (Kd.R_reads' HO_3.out).2.1); rintro e w' ⟨rfl, ⟨nd, rfl⟩⟩; refine ⟨_, rfl, ?_⟩; (try (rw [drewN_self wr]; generalize hq_ : World.drewN wr _ = wr; have n0_ : Aside0 (Kd.R (Kd.int .i64) 3 wr w.heap.size (fun k_ => some k_ ≠ (u7 : Value).ownBlock) (.slice Ao32 x3_2.length co32) x3_2) := ⟨by rw [← hq_]; exact (by (with_reducible repeat (first | apply Kd.R_alloc | apply Kd.R_drewN | apply Kd.R_drew)); exact HO_3.out)⟩; have n1_ : Aside0 (Kd.R (Kd.int .i64) 3 wr w.heap.size (fun k_ => some k_ ≠ (.slice Ao32 x3_2.length co32 : Value).ownBlock) u7 x7_2) := ⟨by rw [← hq_]; exact (by (with_reducible repeat (first | apply Kd.R_alloc | apply Kd.R_drewN | apply Kd.R_drew)); exact HO_7.out)⟩; have n2_ : Aside0 (wr.heap[gb233]? = some (.cells #[.slice A0_0 l0_0.length c0_0, .slice A0_1 l0_1.length c0_1] 32 (0, 0))) := ⟨by rw [← hq_]; exact (by (with_reducible repeat (first | refine blk_drewN ?_ _ | refine blk_drew ?_ | refine blk_alloc ?_ _)); exact BK233.out)⟩; have n3_ : Aside0 (Below w.heap.size w wr) := ⟨by rw [← hq_]; exact (by repeat (first | (with_reducible first | exact HB.out | apply below_alloc | apply pw_below_drewN | apply below_drew1 | refine below_set ?_ GE233.out) | exact HB.out))⟩; clear HO_3 HO_7 BK233 HB hq_; have HO_3 := n0_; have HO_7 := n1_; have BK233 := n2_; have HB := n3_; clear n0_ n1_ n2_ n3_))) | ((with_reducible refine gate_builtin (b := .append) (xs := #[.tmp 45, .tmp 47]) rfl ?_); at_builtin; refine Kd.R_append (Kd.int .i64) (w0 := w) w.heap.size rfl (.tmp 45) (.tmp 47) 27 3 (.int .i64 0) 8 rfl Try.underlying27 info3 rfl (by decide) (by omega) u7 x7_2 t242 [.int .i64 t242] (fun k_ => some k_ ≠ (.slice Ao32 x3_2.length co32 : Value).ownBlock) (fun _ => False) rfl rfl ?aP (fun _ hk => hk.elim) ?aF ?aO ?aB ?aS ?aL ?_; (case aP => exact rfl); (case aB => exact (by repeat (first | (with_reducible first | exact HB.out | apply below_alloc | apply pw_below_drewN | apply below_drew1 | refine below_set ?_ GE233.out) | exact HB.out))); (case aF => exact (fun k_ hk => Kd.fresh' (Kd.R_lt (by (with_reducible repeat (first | apply Kd.R_alloc | apply Kd.R_drewN | apply Kd.R_drew)); exact HO_3.out)) k_ hk)); (case aO => exact (by (with_reducible repeat (first | apply Kd.R_alloc | apply Kd.R_drewN | apply Kd.R_drew)); exact HO_7.out)); (case aS => exact (below_size (by repeat (first | (with_reducible first | exact HB.out | apply below_alloc | apply pw_below_drewN | apply below_drew1 | refine below_set ?_ GE233.out) | exact HB.out)))); (case aL => have := LMc28.out; omega); intro v244 w33 ho hb hg hat; rw [← Ny243.out] at ho; have n0_ := Aside0.mk (Kd.R_after (ok := (fun _ => True)) (by (with_reducible repeat (first | apply Kd.R_alloc | apply Kd.R_drewN | apply Kd.R_drew)); exact Kd.R_mono HO_3.out (fun _ hk => ⟨trivial, hk⟩)) hg hat); have n1_ := Aside0.mk (blk_grown (g := gb233) (o := .cells #[.slice A0_0 l0_0.length c0_0, .slice A0_1 l0_1.length c0_1] 32 (0, 0)) (by (with_reducible repeat (first | refine blk_drewN ?_ _ | refine blk_drew ?_ | refine blk_alloc ?_ _)); exact BK233.out) hg (Kd.R_ne HO_7.out BK233.out (by decide))); have n2_ := Aside0.mk (hb); have n3_ := Aside0.mk (ho); clear HO_3; clear BK233; clear HB; clear HO_7; have HO_3 := n0_; have BK233 := n1_; have HB := n2_; have HO245 := n3_; clear n0_ n1_ n2_ n3_; clear ho hb hg hat; have p31 : 0 ≤ (t242 : Int) := of_decide_eq_true (by first | (with_reducible assumption) | assumption); have q31 : (t242 : Int) < ((x3_2.length : Int) : Int) := of_decide_eq_true (by first | (with_reducible assumption) | assumption); obtain ⟨go31, co31, eo31, gb31, gl31, cl31, HG31⟩ := Kd.R_form HO_3.out (by omega); (first | cases eo31 | (injection eo31 with ea_ en_ ec_; (first | subst ea_ | (injection ea_ with ea_; subst ea_)); subst ec_; clear en_)); have GB31 := Aside0.mk gb31; have GG31 := Aside0.mk HG31; clear gb31 gl31 HG31; obtain ⟨hx31_0, hf31_0⟩ := Kd.R_celln 0 HO_3.out (t242 : Int) p31 q31; replace p31 := eq_true p31; replace q31 := eq_true q31; have n_ := Aside0.mk (Kd.R_mono (ok' := (fun k_ => some k_ ≠ (v244 : Value).ownBlock)) HO_3.out (fun k_ hk => hk.2)); clear HO_3; have HO_3 := n_; clear n_; obtain ⟨hy34_, hz34_⟩ := Kd.R_celln 0 HO_3.out (t242 : Int) (of_decide_eq_true (by first | (with_reducible assumption) | assumption)) (of_decide_eq_true (by first | (with_reducible assumption) | assumption)); have HP34 := Kd.R_putg HO_3.out (t242 : Int) (-1)) | ((with_reducible refine gate_store (t := 3) (p := 51) rfl ?_); refine store_event (t := 3) (p := 51) (v := ?vo_w35) (w1 := (w33.setCell ⟨go31, (t242 : Int).toNat, none⟩ (.int .i64 (-1)))) ?hg ?ho ?hn ?hr ?_; (case ho => rfl); (case hg => rfl); (case hn => rfl); (case hr => first | (go_simp; done) | (go_simp; rfl)); intro w35 hw; have hg : w33.grownBy w35 (some go31) := (by rw [hw]; exact HP34.2); have hp_ : Kd.R (Kd.int .i64) 3 w35 w.heap.size (fun k_ => some k_ ≠ (v244 : Value).ownBlock) (.slice (some ⟨go31, 0, none⟩) x3_2.length co32) y246 := (by rw [hw, Ny246.out]; exact HP34.1); clear HP34; have n0_ := Aside0.mk (hp_); have n1_ := Aside0.mk (blk_grown (g := gb233) (o := .cells #[.slice A0_0 l0_0.length c0_0, .slice A0_1 l0_1.length c0_1] 32 (0, 0)) (by (with_reducible repeat (first | refine blk_drewN ?_ _ | refine blk_drew ?_ | refine blk_alloc ?_ _)); exact BK233.out) hg (Kd.R_ne HO_3.out BK233.out (by decide))); have n2_ := Aside0.mk (Kd.R_after (v := (.slice (some ⟨go31, 0, none⟩) x3_2.length co32)) (v1 := (.slice (some ⟨go31, 0, none⟩) x3_2.length co32)) (ok := (fun _ => True)) (by (with_reducible repeat (first | apply Kd.R_alloc | apply Kd.R_drewN | apply Kd.R_drew)); exact Kd.R_mono HO245.out (fun _ hk => ⟨trivial, hk⟩)) hg (.inl rfl)); have n3_ := Aside0.mk ((by rw [hw]; exact below_set (HB.out) GB31.out : Below w.heap.size w w35)); clear HO_3; clear BK233; clear HO245; clear HB; have HO_3 := n0_; have BK233 := n1_; have HO245 := n2_; have HB := n3_; clear n0_ n1_ n2_ n3_; clear hg hw hp_; have hcz36_0 : w35.cell? ⟨gb233, 0, none⟩ = some (.slice A0_0 l0_0.length c0_0) := (blk_cell BK233.out 0).trans rfl; have hcz36_1 : w35.cell? ⟨gb233, 1, none⟩ = some (.slice A0_1 l0_1.length c0_1) := (blk_cell BK233.out 1).trans rfl; have hfz36_0 := blk_frozen BK233.out 0; have hfz36_1 := blk_frozen BK233.out 1))
                        go_loopg [55] k2 (fun kq v55 w' => ∃ (x3_3 : List Int) (x55_3 : Int), v55 = .int .i64 x55_3 ∧ Aside0 (impl_Net_order.l3 kq x3_3 y243 t242 l0_0 (l0_0.length : Int) x55_3 l0_0 l0_1 = some r) ∧ Aside0 (kq ≤ k2) ∧ Aside0 (Kd.R (Kd.int .i64) 3 w' w.heap.size (fun k_ => some k_ ≠ (v244 : Value).ownBlock) (.slice (some ⟨go31, 0, none⟩) x3_2.length co32) x3_3) ∧ Aside0 (Kd.R (Kd.int .i64) 3 w' w.heap.size (fun k_ => some k_ ≠ ((.slice (some ⟨go31, 0, none⟩) x3_2.length co32) : Value).ownBlock) v244 y243) ∧ Aside0 (w'.heap[gb233]? = some (.cells #[(.slice A0_0 l0_0.length c0_0), (.slice A0_1 l0_1.length c0_1)] 32 (0, 0))) ∧ Aside0 (Below w.heap.size w w'))
                        case atStart => exact ⟨(y246), (0), (by first | rfl | (simp; done) | (simp [*]; done)), H', ⟨Nat.le_refl _⟩, ⟨by (with_reducible repeat (first | apply Kd.R_alloc | apply Kd.R_drewN | apply Kd.R_drew)); exact HO_3.out⟩, ⟨by (with_reducible repeat (first | apply Kd.R_alloc | apply Kd.R_drewN | apply Kd.R_drew)); exact Kd.R_mono HO245.out (fun _ hk => hk.2)⟩, ⟨by (with_reducible repeat (first | refine blk_drewN ?_ _ | refine blk_drew ?_ | refine blk_alloc ?_ _)); exact BK233.out⟩, ⟨by repeat (first | (with_reducible first | exact HB.out | apply below_alloc | apply pw_below_drewN | apply below_drew1 | refine below_set ?_ GE233.out) | exact HB.out)⟩⟩
                        case round =>
                          clear H'
                          try clear c1
                          try clear c2
                          try clear c2b0
                          try clear c2b1
                          try clear p2
                          try clear q2
                          try clear hx2
                          try clear hf2
                          try clear c3
                          try clear c3b0
                          try clear c3b1
                          try clear p3
                          try clear q3
                          try clear hx3
                          try clear hf3
                          try clear c4
                          try clear p6
                          try clear c9
                          try clear c9b0
                          try clear c10
                          try clear c10b0
                          try clear c11
                          try clear c11b0
                          try clear c13
                          try clear c16
                          try clear c16b0
                          try clear c17
                          try clear c17b0
                          try clear c18
                          try clear c18b0
                          try clear p20
                          try clear q20
                          try clear hx20
                          try clear hf20
                          try clear p23
                          try clear q23
                          try clear hx23
                          try clear c24
                          try clear c26
                          try clear c26b0
                          try clear c28
                          try clear c29
                          try clear c29b0
                          try clear c30
                          try clear c30b0
                          try clear p31
                          try clear q31
                          try clear hx31
                          try clear hf31
                          try clear hcz14_0
                          try clear hcz14_1
                          try clear hcz14_10
                          try clear hcz14_11
                          try clear hcz14_2
                          try clear hcz14_3
                          try clear hcz14_4
                          try clear hcz14_5
                          try clear hcz14_6
                          try clear hcz14_7
                          try clear hcz14_8
                          try clear hcz14_9
                          try clear hcz15_0
                          try clear hcz15_1
                          try clear hcz36_0
                          try clear hcz36_1
                          try clear hcz5_0
                          try clear hcz5_1
                          try clear hcz8_0
                          try clear hcz8_1
                          try clear hfz14_0
                          try clear hfz14_1
                          try clear hfz14_10
                          try clear hfz14_11
                          try clear hfz14_2
                          try clear hfz14_3
                          try clear hfz14_4
                          try clear hfz14_5
                          try clear hfz14_6
                          try clear hfz14_7
                          try clear hfz14_8
                          try clear hfz14_9
                          try clear hfz15_0
                          try clear hfz15_1
                          try clear hfz36_0
                          try clear hfz36_1
                          try clear hfz5_0
                          try clear hfz5_1
                          try clear hfz8_0
                          try clear hfz8_1
                          try clear hx20_0
                          try clear hx237_0
                          try clear hx237_1
                          try clear hx237_10
                          try clear hx237_11
                          try clear hx237_2
                          try clear hx237_3
                          try clear hx237_4
                          try clear hx237_5
                          try clear hx237_6
                          try clear hx237_7
                          try clear hx237_8
                          try clear hx237_9
                          try clear hx239_0
                          try clear hx31_0
                          try clear p2
                          try clear p20
                          try clear p23
                          try clear p237
                          try clear p239
                          try clear p31
                          try clear p6
                          try clear q2
                          try clear q20
                          try clear q23
                          try clear q237
                          try clear q239
                          try clear q31
                          obtain ⟨x3_3, x55_3, rfl, HA, HK3, HO_3, HO_7, BK233, HB⟩ := hrel
                          have hl3_3 := (Kd.R_reads' HO_3.out).1
                          rw [hl3_3] at HO_3
                          (try simp only [hl3_3])
                          (try simp only [hl3_3] at BK233)
                          (try simp only [hl3_3] at HO_7)
                          cases gk with
                          | zero => exact absurd HA.out (by simp [impl_Net_order.l3])
                          | succ k3 =>
                            have H := HA.out
                            clear HA
                            simp only [impl_Net_order.l3] at H
                            by_cases c37 : x55_3 < (l0_0.length : Int)
                            · rw [if_pos c37] at H
                              have c37b0 : decide (x55_3 < (l0_0.length : Int)) = true := decide_eq_true c37
                              clear c37
                              by_cases c38 : 0 ≤ x55_3
                              · rw [if_pos c38] at H
                                have c38b0 : decide (0 ≤ x55_3) = true := decide_eq_true c38
                                clear c38
                                by_cases c39 : x55_3 < (l0_0.length : Int)
                                · rw [if_pos c39] at H
                                  have c39b0 : decide (x55_3 < (l0_0.length : Int)) = true := decide_eq_true c39
                                  clear c39
                                  by_cases c40 : x55_3 < (x3_3.length : Int)
                                  · rw [if_pos c40] at H
                                    have c40b0 : decide (x55_3 < (x3_3.length : Int)) = true := decide_eq_true c40
                                    clear c40
                                    replace H := Option.bind_eq_some_iff.mp H
                                    obtain ⟨t250, A410, H⟩ := H
                                    replace H : (impl_Net_order.l3 k3 (x3_3.set (x55_3 : Int).toNat (wrap64 ((rd x3_3 x55_3) - t250))) y243 t242 l0_0 (l0_0.length : Int) (wrap64 (x55_3 + 1)) l0_0 l0_1) = some r := H
                                    have A41 := Aside0.mk A410
                                    clear A410
                                    obtain ⟨y251, hy251⟩ : ∃ y_ : List Int, y_ = (x3_3.set (x55_3 : Int).toNat (wrap64 ((rd x3_3 x55_3) - t250))) := ⟨_, rfl⟩
                                    replace H : (impl_Net_order.l3 k3 y251 y243 t242 l0_0 (l0_0.length : Int) (wrap64 (x55_3 + 1)) l0_0 l0_1) = some r := by first | (rw [hy251]; with_reducible exact H) | (have H2_ := (Option.bind_some _ _).symm.trans H; rw [hy251]; with_reducible exact H2_) | (have H2_ := (Option.bind_some _ _).symm.trans H; with_reducible exact H2_) | with_reducible exact H | (rw [hy251]; exact H) | exact H
                                    have Ny251 := Aside0.mk hy251
                                    clear hy251
                                    have H' := Aside0.mk H
                                    clear H
                                    have p247 : 0 ≤ (x55_3 : Int) := of_decide_eq_true (by first | (with_reducible assumption) | assumption)
                                    have q247 : x55_3 < (l0_0.length : Int) := of_decide_eq_true (by first | (with_reducible assumption) | assumption)
                                    obtain ⟨ad247, e247, hx247_0, hx247_1, hx247_2, hx247_3, hx247_4, hx247_5, hx247_6, hx247_7, hx247_8, hx247_9, hx247_10, hx247_11⟩ := at_T48 HR0_0.out x55_3 p247 q247
                                    cases e247
                                    replace hx247_0 := (HB.out.cell (World.block_lt_of_cell? w _ hx247_0)).trans hx247_0
                                    replace hx247_1 := (HB.out.cell (World.block_lt_of_cell? w _ hx247_1)).trans hx247_1
                                    replace hx247_2 := (HB.out.cell (World.block_lt_of_cell? w _ hx247_2)).trans hx247_2
                                    replace hx247_3 := (HB.out.cell (World.block_lt_of_cell? w _ hx247_3)).trans hx247_3
                                    replace hx247_4 := (HB.out.cell (World.block_lt_of_cell? w _ hx247_4)).trans hx247_4
                                    replace hx247_5 := (HB.out.cell (World.block_lt_of_cell? w _ hx247_5)).trans hx247_5
                                    replace hx247_6 := (HB.out.cell (World.block_lt_of_cell? w _ hx247_6)).trans hx247_6
                                    replace hx247_7 := (HB.out.cell (World.block_lt_of_cell? w _ hx247_7)).trans hx247_7
                                    replace hx247_8 := (HB.out.cell (World.block_lt_of_cell? w _ hx247_8)).trans hx247_8
                                    replace hx247_9 := (HB.out.cell (World.block_lt_of_cell? w _ hx247_9)).trans hx247_9
                                    replace hx247_10 := (HB.out.cell (World.block_lt_of_cell? w _ hx247_10)).trans hx247_10
                                    replace hx247_11 := (HB.out.cell (World.block_lt_of_cell? w _ hx247_11)).trans hx247_11
                                    replace p247 := eq_true p247
                                    replace q247 := eq_true q247
                                    try go_wp2_with (first | ((with_reducible refine gate_dst (N := 10) rfl ?_); refine box_event ?hg (N := 10) ?hd (cs := #[.int .i64 0, .int .i64 0, .int .i64 0, .int .i64 0, .int .i64 0, .int .i64 0, .bool false, .int .i64 0, .int .i64 0, .int .i64 0, .int .i64 0, .bool false]) (t := 48) ?hr ?_; (case hd => rfl); (case hg => rfl); (case hr => first | (go_simp; done) | (go_simp; rfl)); intro gb248 hg w43 hbox hb; have n0_ := Aside0.mk (Kd.R_below (by (with_reducible repeat (first | apply Kd.R_alloc | apply Kd.R_drewN | apply Kd.R_drew)); exact HO_3.out) hb); have n1_ := Aside0.mk (Kd.R_below (by (with_reducible repeat (first | apply Kd.R_alloc | apply Kd.R_drewN | apply Kd.R_drew)); exact HO_7.out) hb); have n2_ := Aside0.mk (blk_below (g := gb233) (o := .cells #[.slice (some ad247) l0_0.length c0_0, .slice A0_1 l0_1.length c0_1] 32 (0, 0)) (by (with_reducible repeat (first | refine blk_drewN ?_ _ | refine blk_drew ?_ | refine blk_alloc ?_ _)); exact BK233.out) hb); have n3_ := Aside0.mk (below_step (by repeat (first | (with_reducible first | exact HB.out | apply below_alloc | apply pw_below_drewN | apply below_drew1 | refine below_set ?_ GE233.out) | exact HB.out)) hb); have n4_ := Aside0.mk (hbox); have n5_ := Aside0.mk ((by rw [hg]; exact (below_size (by repeat (first | (with_reducible first | exact HB.out | apply below_alloc | apply pw_below_drewN | apply below_drew1 | refine below_set ?_ GE233.out) | exact HB.out))) : w.heap.size ≤ gb248)); have n6_ := Aside0.mk ((by rw [hg]; exact (below_size (by repeat (first | (with_reducible first | exact HB.out | apply below_alloc | apply pw_below_drewN | apply below_drew1 | refine below_set ?_ GE233.out) | exact HB.out))) : w.heap.size ≤ gb248)); have n7_ := Aside0.mk ((by rw [hg]; exact Nat.ne_of_lt (blk_lt (g := gb233) (o := .cells #[.slice (some ad247) l0_0.length c0_0, .slice A0_1 l0_1.length c0_1] 32 (0, 0)) (by (with_reducible repeat (first | refine blk_drewN ?_ _ | refine blk_drew ?_ | refine blk_alloc ?_ _)); exact BK233.out)) : gb233 ≠ gb248)); have n8_ := Aside0.mk ((by rw [hg]; exact Nat.ne_of_gt (blk_lt (g := gb233) (o := .cells #[.slice (some ad247) l0_0.length c0_0, .slice A0_1 l0_1.length c0_1] 32 (0, 0)) (by (with_reducible repeat (first | refine blk_drewN ?_ _ | refine blk_drew ?_ | refine blk_alloc ?_ _)); exact BK233.out)) : gb248 ≠ gb233)); clear HO_3; clear HO_7; clear BK233; clear HB; have HO_3 := n0_; have HO_7 := n1_; have BK233 := n2_; have HB := n3_; have BK248 := n4_; have GW248 := n5_; have GE248 := n6_; have NB233_248 := n7_; have NB248_233 := n8_; clear n0_ n1_ n2_ n3_ n4_ n5_ n6_ n7_ n8_; clear hb hbox hg; have hnb44 := NB248_233.out; have hnc44 := NB233_248.out; have hcz45_0 : w43.cell? ⟨gb248, 0, none⟩ = some (.int .i64 0) := (blk_cell BK248.out 0).trans rfl; have hcz45_1 : w43.cell? ⟨gb248, 1, none⟩ = some (.int .i64 0) := (blk_cell BK248.out 1).trans rfl; have hcz45_2 : w43.cell? ⟨gb248, 2, none⟩ = some (.int .i64 0) := (blk_cell BK248.out 2).trans rfl; have hcz45_3 : w43.cell? ⟨gb248, 3, none⟩ = some (.int .i64 0) := (blk_cell BK248.out 3).trans rfl; have hcz45_4 : w43.cell? ⟨gb248, 4, none⟩ = some (.int .i64 0) := (blk_cell BK248.out 4).trans rfl; have hcz45_5 : w43.cell? ⟨gb248, 5, none⟩ = some (.int .i64 0) := (blk_cell BK248.out 5).trans rfl; have hcz45_6 : w43.cell? ⟨gb248, 6, none⟩ = some (.bool false) := (blk_cell BK248.out 6).trans rfl; have hcz45_7 : w43.cell? ⟨gb248, 7, none⟩ = some (.int .i64 0) := (blk_cell BK248.out 7).trans rfl; have hcz45_8 : w43.cell? ⟨gb248, 8, none⟩ = some (.int .i64 0) := (blk_cell BK248.out 8).trans rfl; have hcz45_9 : w43.cell? ⟨gb248, 9, none⟩ = some (.int .i64 0) := (blk_cell BK248.out 9).trans rfl; have hcz45_10 : w43.cell? ⟨gb248, 10, none⟩ = some (.int .i64 0) := (blk_cell BK248.out 10).trans rfl; have hcz45_11 : w43.cell? ⟨gb248, 11, none⟩ = some (.bool false) := (blk_cell BK248.out 11).trans rfl; have hfz45_0 := blk_frozen BK248.out 0; have hfz45_1 := blk_frozen BK248.out 1; have hfz45_2 := blk_frozen BK248.out 2; have hfz45_3 := blk_frozen BK248.out 3; have hfz45_4 := blk_frozen BK248.out 4; have hfz45_5 := blk_frozen BK248.out 5; have hfz45_6 := blk_frozen BK248.out 6; have hfz45_7 := blk_frozen BK248.out 7; have hfz45_8 := blk_frozen BK248.out 8; have hfz45_9 := blk_frozen BK248.out 9; have hfz45_10 := blk_frozen BK248.out 10; have hfz45_11 := blk_frozen BK248.out 11))
                                    have n0_ : Aside0 (Kd.R (Kd.int .i64) 3 ((((((((((((w43.setCell ⟨gb248, 0, none⟩ (.int .i64 ((rd_T48 l0_0 x55_3).f0))).setCell ⟨gb248, 1, none⟩ (.int .i64 ((rd_T48 l0_0 x55_3).f1))).setCell ⟨gb248, 2, none⟩ (.int .i64 ((rd_T48 l0_0 x55_3).f2.f0))).setCell ⟨gb248, 3, none⟩ (.int .i64 ((rd_T48 l0_0 x55_3).f2.f1))).setCell ⟨gb248, 4, none⟩ (.int .i64 ((rd_T48 l0_0 x55_3).f2.f2.f0))).setCell ⟨gb248, 5, none⟩ (.int .i64 ((rd_T48 l0_0 x55_3).f2.f2.f1))).setCell ⟨gb248, 6, none⟩ (.bool ((rd_T48 l0_0 x55_3).f2.f3))).setCell ⟨gb248, 7, none⟩ (.int .i64 ((rd_T48 l0_0 x55_3).f3.f0))).setCell ⟨gb248, 8, none⟩ (.int .i64 ((rd_T48 l0_0 x55_3).f3.f1))).setCell ⟨gb248, 9, none⟩ (.int .i64 ((rd_T48 l0_0 x55_3).f3.f2.f0))).setCell ⟨gb248, 10, none⟩ (.int .i64 ((rd_T48 l0_0 x55_3).f3.f2.f1))).setCell ⟨gb248, 11, none⟩ (.bool ((rd_T48 l0_0 x55_3).f3.f3))) w.heap.size (fun k_ => some k_ ≠ (v244 : Value).ownBlock) (.slice (some ⟨go31, 0, none⟩) x3_3.length co32) x3_3) := ⟨by (with_reducible repeat (first | apply Kd.R_alloc | apply Kd.R_drewN | apply Kd.R_drew)); exact Kd.R_mono (Kd.R_far (p := ⟨gb248, 11, none⟩) (Kd.R_far (p := ⟨gb248, 10, none⟩) (Kd.R_far (p := ⟨gb248, 9, none⟩) (Kd.R_far (p := ⟨gb248, 8, none⟩) (Kd.R_far (p := ⟨gb248, 7, none⟩) (Kd.R_far (p := ⟨gb248, 6, none⟩) (Kd.R_far (p := ⟨gb248, 5, none⟩) (Kd.R_far (p := ⟨gb248, 4, none⟩) (Kd.R_far (p := ⟨gb248, 3, none⟩) (Kd.R_far (p := ⟨gb248, 2, none⟩) (Kd.R_far (p := ⟨gb248, 1, none⟩) (Kd.R_far (p := ⟨gb248, 0, none⟩) (Kd.R_types HO_3.out BK248.out (by decide)) (fun _ hk => hk.2) (.int .i64 ((rd_T48 l0_0 x55_3).f0))) (fun _ hk => hk.2) (.int .i64 ((rd_T48 l0_0 x55_3).f1))) (fun _ hk => hk.2) (.int .i64 ((rd_T48 l0_0 x55_3).f2.f0))) (fun _ hk => hk.2) (.int .i64 ((rd_T48 l0_0 x55_3).f2.f1))) (fun _ hk => hk.2) (.int .i64 ((rd_T48 l0_0 x55_3).f2.f2.f0))) (fun _ hk => hk.2) (.int .i64 ((rd_T48 l0_0 x55_3).f2.f2.f1))) (fun _ hk => hk.2) (.bool ((rd_T48 l0_0 x55_3).f2.f3))) (fun _ hk => hk.2) (.int .i64 ((rd_T48 l0_0 x55_3).f3.f0))) (fun _ hk => hk.2) (.int .i64 ((rd_T48 l0_0 x55_3).f3.f1))) (fun _ hk => hk.2) (.int .i64 ((rd_T48 l0_0 x55_3).f3.f2.f0))) (fun _ hk => hk.2) (.int .i64 ((rd_T48 l0_0 x55_3).f3.f2.f1))) (fun _ hk => hk.2) (.bool ((rd_T48 l0_0 x55_3).f3.f3))) (fun _ hk => hk.1)⟩
                                    have n1_ : Aside0 (Kd.R (Kd.int .i64) 3 ((((((((((((w43.setCell ⟨gb248, 0, none⟩ (.int .i64 ((rd_T48 l0_0 x55_3).f0))).setCell ⟨gb248, 1, none⟩ (.int .i64 ((rd_T48 l0_0 x55_3).f1))).setCell ⟨gb248, 2, none⟩ (.int .i64 ((rd_T48 l0_0 x55_3).f2.f0))).setCell ⟨gb248, 3, none⟩ (.int .i64 ((rd_T48 l0_0 x55_3).f2.f1))).setCell ⟨gb248, 4, none⟩ (.int .i64 ((rd_T48 l0_0 x55_3).f2.f2.f0))).setCell ⟨gb248, 5, none⟩ (.int .i64 ((rd_T48 l0_0 x55_3).f2.f2.f1))).setCell ⟨gb248, 6, none⟩ (.bool ((rd_T48 l0_0 x55_3).f2.f3))).setCell ⟨gb248, 7, none⟩ (.int .i64 ((rd_T48 l0_0 x55_3).f3.f0))).setCell ⟨gb248, 8, none⟩ (.int .i64 ((rd_T48 l0_0 x55_3).f3.f1))).setCell ⟨gb248, 9, none⟩ (.int .i64 ((rd_T48 l0_0 x55_3).f3.f2.f0))).setCell ⟨gb248, 10, none⟩ (.int .i64 ((rd_T48 l0_0 x55_3).f3.f2.f1))).setCell ⟨gb248, 11, none⟩ (.bool ((rd_T48 l0_0 x55_3).f3.f3))) w.heap.size (fun k_ => some k_ ≠ (.slice (some ⟨go31, 0, none⟩) x3_3.length co32 : Value).ownBlock) v244 y243) := ⟨by (with_reducible repeat (first | apply Kd.R_alloc | apply Kd.R_drewN | apply Kd.R_drew)); exact Kd.R_mono (Kd.R_far (p := ⟨gb248, 11, none⟩) (Kd.R_far (p := ⟨gb248, 10, none⟩) (Kd.R_far (p := ⟨gb248, 9, none⟩) (Kd.R_far (p := ⟨gb248, 8, none⟩) (Kd.R_far (p := ⟨gb248, 7, none⟩) (Kd.R_far (p := ⟨gb248, 6, none⟩) (Kd.R_far (p := ⟨gb248, 5, none⟩) (Kd.R_far (p := ⟨gb248, 4, none⟩) (Kd.R_far (p := ⟨gb248, 3, none⟩) (Kd.R_far (p := ⟨gb248, 2, none⟩) (Kd.R_far (p := ⟨gb248, 1, none⟩) (Kd.R_far (p := ⟨gb248, 0, none⟩) (Kd.R_types HO_7.out BK248.out (by decide)) (fun _ hk => hk.2) (.int .i64 ((rd_T48 l0_0 x55_3).f0))) (fun _ hk => hk.2) (.int .i64 ((rd_T48 l0_0 x55_3).f1))) (fun _ hk => hk.2) (.int .i64 ((rd_T48 l0_0 x55_3).f2.f0))) (fun _ hk => hk.2) (.int .i64 ((rd_T48 l0_0 x55_3).f2.f1))) (fun _ hk => hk.2) (.int .i64 ((rd_T48 l0_0 x55_3).f2.f2.f0))) (fun _ hk => hk.2) (.int .i64 ((rd_T48 l0_0 x55_3).f2.f2.f1))) (fun _ hk => hk.2) (.bool ((rd_T48 l0_0 x55_3).f2.f3))) (fun _ hk => hk.2) (.int .i64 ((rd_T48 l0_0 x55_3).f3.f0))) (fun _ hk => hk.2) (.int .i64 ((rd_T48 l0_0 x55_3).f3.f1))) (fun _ hk => hk.2) (.int .i64 ((rd_T48 l0_0 x55_3).f3.f2.f0))) (fun _ hk => hk.2) (.int .i64 ((rd_T48 l0_0 x55_3).f3.f2.f1))) (fun _ hk => hk.2) (.bool ((rd_T48 l0_0 x55_3).f3.f3))) (fun _ hk => hk.1)⟩
                                    have n2_ : Aside0 (((((((((((((w43.setCell ⟨gb248, 0, none⟩ (.int .i64 ((rd_T48 l0_0 x55_3).f0))).setCell ⟨gb248, 1, none⟩ (.int .i64 ((rd_T48 l0_0 x55_3).f1))).setCell ⟨gb248, 2, none⟩ (.int .i64 ((rd_T48 l0_0 x55_3).f2.f0))).setCell ⟨gb248, 3, none⟩ (.int .i64 ((rd_T48 l0_0 x55_3).f2.f1))).setCell ⟨gb248, 4, none⟩ (.int .i64 ((rd_T48 l0_0 x55_3).f2.f2.f0))).setCell ⟨gb248, 5, none⟩ (.int .i64 ((rd_T48 l0_0 x55_3).f2.f2.f1))).setCell ⟨gb248, 6, none⟩ (.bool ((rd_T48 l0_0 x55_3).f2.f3))).setCell ⟨gb248, 7, none⟩ (.int .i64 ((rd_T48 l0_0 x55_3).f3.f0))).setCell ⟨gb248, 8, none⟩ (.int .i64 ((rd_T48 l0_0 x55_3).f3.f1))).setCell ⟨gb248, 9, none⟩ (.int .i64 ((rd_T48 l0_0 x55_3).f3.f2.f0))).setCell ⟨gb248, 10, none⟩ (.int .i64 ((rd_T48 l0_0 x55_3).f3.f2.f1))).setCell ⟨gb248, 11, none⟩ (.bool ((rd_T48 l0_0 x55_3).f3.f3))).heap[gb233]? = some (.cells #[.slice (some ad247) l0_0.length c0_0, .slice A0_1 l0_1.length c0_1] 32 (0, 0))) := ⟨by (with_reducible repeat (first | refine blk_drewN ?_ _ | refine blk_drew ?_ | refine blk_alloc ?_ _)); refine blk_far ?_ NB233_248.out _; (with_reducible repeat (first | refine blk_drewN ?_ _ | refine blk_drew ?_ | refine blk_alloc ?_ _)); refine blk_far ?_ NB233_248.out _; (with_reducible repeat (first | refine blk_drewN ?_ _ | refine blk_drew ?_ | refine blk_alloc ?_ _)); refine blk_far ?_ NB233_248.out _; (with_reducible repeat (first | refine blk_drewN ?_ _ | refine blk_drew ?_ | refine blk_alloc ?_ _)); refine blk_far ?_ NB233_248.out _; (with_reducible repeat (first | refine blk_drewN ?_ _ | refine blk_drew ?_ | refine blk_alloc ?_ _)); refine blk_far ?_ NB233_248.out _; (with_reducible repeat (first | refine blk_drewN ?_ _ | refine blk_drew ?_ | refine blk_alloc ?_ _)); refine blk_far ?_ NB233_248.out _; (with_reducible repeat (first | refine blk_drewN ?_ _ | refine blk_drew ?_ | refine blk_alloc ?_ _)); refine blk_far ?_ NB233_248.out _; (with_reducible repeat (first | refine blk_drewN ?_ _ | refine blk_drew ?_ | refine blk_alloc ?_ _)); refine blk_far ?_ NB233_248.out _; (with_reducible repeat (first | refine blk_drewN ?_ _ | refine blk_drew ?_ | refine blk_alloc ?_ _)); refine blk_far ?_ NB233_248.out _; (with_reducible repeat (first | refine blk_drewN ?_ _ | refine blk_drew ?_ | refine blk_alloc ?_ _)); refine blk_far ?_ NB233_248.out _; (with_reducible repeat (first | refine blk_drewN ?_ _ | refine blk_drew ?_ | refine blk_alloc ?_ _)); refine blk_far ?_ NB233_248.out _; (with_reducible repeat (first | refine blk_drewN ?_ _ | refine blk_drew ?_ | refine blk_alloc ?_ _)); refine blk_far ?_ NB233_248.out _; (with_reducible repeat (first | refine blk_drewN ?_ _ | refine blk_drew ?_ | refine blk_alloc ?_ _)); exact BK233.out⟩
                                    have n3_ : Aside0 (((((((((((((w43.setCell ⟨gb248, 0, none⟩ (.int .i64 ((rd_T48 l0_0 x55_3).f0))).setCell ⟨gb248, 1, none⟩ (.int .i64 ((rd_T48 l0_0 x55_3).f1))).setCell ⟨gb248, 2, none⟩ (.int .i64 ((rd_T48 l0_0 x55_3).f2.f0))).setCell ⟨gb248, 3, none⟩ (.int .i64 ((rd_T48 l0_0 x55_3).f2.f1))).setCell ⟨gb248, 4, none⟩ (.int .i64 ((rd_T48 l0_0 x55_3).f2.f2.f0))).setCell ⟨gb248, 5, none⟩ (.int .i64 ((rd_T48 l0_0 x55_3).f2.f2.f1))).setCell ⟨gb248, 6, none⟩ (.bool ((rd_T48 l0_0 x55_3).f2.f3))).setCell ⟨gb248, 7, none⟩ (.int .i64 ((rd_T48 l0_0 x55_3).f3.f0))).setCell ⟨gb248, 8, none⟩ (.int .i64 ((rd_T48 l0_0 x55_3).f3.f1))).setCell ⟨gb248, 9, none⟩ (.int .i64 ((rd_T48 l0_0 x55_3).f3.f2.f0))).setCell ⟨gb248, 10, none⟩ (.int .i64 ((rd_T48 l0_0 x55_3).f3.f2.f1))).setCell ⟨gb248, 11, none⟩ (.bool ((rd_T48 l0_0 x55_3).f3.f3))).heap[gb248]? = some (.cells #[.int .i64 ((rd_T48 l0_0 x55_3).f0), .int .i64 ((rd_T48 l0_0 x55_3).f1), .int .i64 ((rd_T48 l0_0 x55_3).f2.f0), .int .i64 ((rd_T48 l0_0 x55_3).f2.f1), .int .i64 ((rd_T48 l0_0 x55_3).f2.f2.f0), .int .i64 ((rd_T48 l0_0 x55_3).f2.f2.f1), .bool ((rd_T48 l0_0 x55_3).f2.f3), .int .i64 ((rd_T48 l0_0 x55_3).f3.f0), .int .i64 ((rd_T48 l0_0 x55_3).f3.f1), .int .i64 ((rd_T48 l0_0 x55_3).f3.f2.f0), .int .i64 ((rd_T48 l0_0 x55_3).f3.f2.f1), .bool ((rd_T48 l0_0 x55_3).f3.f3)] 48 (0, 0))) := ⟨by (with_reducible repeat (first | refine blk_drewN ?_ _ | refine blk_drew ?_ | refine blk_alloc ?_ _)); refine blk_put (cs := #[.int .i64 ((rd_T48 l0_0 x55_3).f0), .int .i64 ((rd_T48 l0_0 x55_3).f1), .int .i64 ((rd_T48 l0_0 x55_3).f2.f0), .int .i64 ((rd_T48 l0_0 x55_3).f2.f1), .int .i64 ((rd_T48 l0_0 x55_3).f2.f2.f0), .int .i64 ((rd_T48 l0_0 x55_3).f2.f2.f1), .bool ((rd_T48 l0_0 x55_3).f2.f3), .int .i64 ((rd_T48 l0_0 x55_3).f3.f0), .int .i64 ((rd_T48 l0_0 x55_3).f3.f1), .int .i64 ((rd_T48 l0_0 x55_3).f3.f2.f0), .int .i64 ((rd_T48 l0_0 x55_3).f3.f2.f1), .bool false]) ?_ 11 _ rfl; (with_reducible repeat (first | refine blk_drewN ?_ _ | refine blk_drew ?_ | refine blk_alloc ?_ _)); refine blk_put (cs := #[.int .i64 ((rd_T48 l0_0 x55_3).f0), .int .i64 ((rd_T48 l0_0 x55_3).f1), .int .i64 ((rd_T48 l0_0 x55_3).f2.f0), .int .i64 ((rd_T48 l0_0 x55_3).f2.f1), .int .i64 ((rd_T48 l0_0 x55_3).f2.f2.f0), .int .i64 ((rd_T48 l0_0 x55_3).f2.f2.f1), .bool ((rd_T48 l0_0 x55_3).f2.f3), .int .i64 ((rd_T48 l0_0 x55_3).f3.f0), .int .i64 ((rd_T48 l0_0 x55_3).f3.f1), .int .i64 ((rd_T48 l0_0 x55_3).f3.f2.f0), .int .i64 0, .bool false]) ?_ 10 _ rfl; (with_reducible repeat (first | refine blk_drewN ?_ _ | refine blk_drew ?_ | refine blk_alloc ?_ _)); refine blk_put (cs := #[.int .i64 ((rd_T48 l0_0 x55_3).f0), .int .i64 ((rd_T48 l0_0 x55_3).f1), .int .i64 ((rd_T48 l0_0 x55_3).f2.f0), .int .i64 ((rd_T48 l0_0 x55_3).f2.f1), .int .i64 ((rd_T48 l0_0 x55_3).f2.f2.f0), .int .i64 ((rd_T48 l0_0 x55_3).f2.f2.f1), .bool ((rd_T48 l0_0 x55_3).f2.f3), .int .i64 ((rd_T48 l0_0 x55_3).f3.f0), .int .i64 ((rd_T48 l0_0 x55_3).f3.f1), .int .i64 0, .int .i64 0, .bool false]) ?_ 9 _ rfl; (with_reducible repeat (first | refine blk_drewN ?_ _ | refine blk_drew ?_ | refine blk_alloc ?_ _)); refine blk_put (cs := #[.int .i64 ((rd_T48 l0_0 x55_3).f0), .int .i64 ((rd_T48 l0_0 x55_3).f1), .int .i64 ((rd_T48 l0_0 x55_3).f2.f0), .int .i64 ((rd_T48 l0_0 x55_3).f2.f1), .int .i64 ((rd_T48 l0_0 x55_3).f2.f2.f0), .int .i64 ((rd_T48 l0_0 x55_3).f2.f2.f1), .bool ((rd_T48 l0_0 x55_3).f2.f3), .int .i64 ((rd_T48 l0_0 x55_3).f3.f0), .int .i64 0, .int .i64 0, .int .i64 0, .bool false]) ?_ 8 _ rfl; (with_reducible repeat (first | refine blk_drewN ?_ _ | refine blk_drew ?_ | refine blk_alloc ?_ _)); refine blk_put (cs := #[.int .i64 ((rd_T48 l0_0 x55_3).f0), .int .i64 ((rd_T48 l0_0 x55_3).f1), .int .i64 ((rd_T48 l0_0 x55_3).f2.f0), .int .i64 ((rd_T48 l0_0 x55_3).f2.f1), .int .i64 ((rd_T48 l0_0 x55_3).f2.f2.f0), .int .i64 ((rd_T48 l0_0 x55_3).f2.f2.f1), .bool ((rd_T48 l0_0 x55_3).f2.f3), .int .i64 0, .int .i64 0, .int .i64 0, .int .i64 0, .bool false]) ?_ 7 _ rfl; (with_reducible repeat (first | refine blk_drewN ?_ _ | refine blk_drew ?_ | refine blk_alloc ?_ _)); refine blk_put (cs := #[.int .i64 ((rd_T48 l0_0 x55_3).f0), .int .i64 ((rd_T48 l0_0 x55_3).f1), .int .i64 ((rd_T48 l0_0 x55_3).f2.f0), .int .i64 ((rd_T48 l0_0 x55_3).f2.f1), .int .i64 ((rd_T48 l0_0 x55_3).f2.f2.f0), .int .i64 ((rd_T48 l0_0 x55_3).f2.f2.f1), .bool false, .int .i64 0, .int .i64 0, .int .i64 0, .int .i64 0, .bool false]) ?_ 6 _ rfl; (with_reducible repeat (first | refine blk_drewN ?_ _ | refine blk_drew ?_ | refine blk_alloc ?_ _)); refine blk_put (cs := #[.int .i64 ((rd_T48 l0_0 x55_3).f0), .int .i64 ((rd_T48 l0_0 x55_3).f1), .int .i64 ((rd_T48 l0_0 x55_3).f2.f0), .int .i64 ((rd_T48 l0_0 x55_3).f2.f1), .int .i64 ((rd_T48 l0_0 x55_3).f2.f2.f0), .int .i64 0, .bool false, .int .i64 0, .int .i64 0, .int .i64 0, .int .i64 0, .bool false]) ?_ 5 _ rfl; (with_reducible repeat (first | refine blk_drewN ?_ _ | refine blk_drew ?_ | refine blk_alloc ?_ _)); refine blk_put (cs := #[.int .i64 ((rd_T48 l0_0 x55_3).f0), .int .i64 ((rd_T48 l0_0 x55_3).f1), .int .i64 ((rd_T48 l0_0 x55_3).f2.f0), .int .i64 ((rd_T48 l0_0 x55_3).f2.f1), .int .i64 0, .int .i64 0, .bool false, .int .i64 0, .int .i64 0, .int .i64 0, .int .i64 0, .bool false]) ?_ 4 _ rfl; (with_reducible repeat (first | refine blk_drewN ?_ _ | refine blk_drew ?_ | refine blk_alloc ?_ _)); refine blk_put (cs := #[.int .i64 ((rd_T48 l0_0 x55_3).f0), .int .i64 ((rd_T48 l0_0 x55_3).f1), .int .i64 ((rd_T48 l0_0 x55_3).f2.f0), .int .i64 0, .int .i64 0, .int .i64 0, .bool false, .int .i64 0, .int .i64 0, .int .i64 0, .int .i64 0, .bool false]) ?_ 3 _ rfl; (with_reducible repeat (first | refine blk_drewN ?_ _ | refine blk_drew ?_ | refine blk_alloc ?_ _)); refine blk_put (cs := #[.int .i64 ((rd_T48 l0_0 x55_3).f0), .int .i64 ((rd_T48 l0_0 x55_3).f1), .int .i64 0, .int .i64 0, .int .i64 0, .int .i64 0, .bool false, .int .i64 0, .int .i64 0, .int .i64 0, .int .i64 0, .bool false]) ?_ 2 _ rfl; (with_reducible repeat (first | refine blk_drewN ?_ _ | refine blk_drew ?_ | refine blk_alloc ?_ _)); refine blk_put (cs := #[.int .i64 ((rd_T48 l0_0 x55_3).f0), .int .i64 0, .int .i64 0, .int .i64 0, .int .i64 0, .int .i64 0, .bool false, .int .i64 0, .int .i64 0, .int .i64 0, .int .i64 0, .bool false]) ?_ 1 _ rfl; (with_reducible repeat (first | refine blk_drewN ?_ _ | refine blk_drew ?_ | refine blk_alloc ?_ _)); refine blk_put (cs := #[.int .i64 0, .int .i64 0, .int .i64 0, .int .i64 0, .int .i64 0, .int .i64 0, .bool false, .int .i64 0, .int .i64 0, .int .i64 0, .int .i64 0, .bool false]) ?_ 0 _ rfl; (with_reducible repeat (first | refine blk_drewN ?_ _ | refine blk_drew ?_ | refine blk_alloc ?_ _)); exact BK248.out⟩
                                    have n4_ : Aside0 (Below w.heap.size w ((((((((((((w43.setCell ⟨gb248, 0, none⟩ (.int .i64 ((rd_T48 l0_0 x55_3).f0))).setCell ⟨gb248, 1, none⟩ (.int .i64 ((rd_T48 l0_0 x55_3).f1))).setCell ⟨gb248, 2, none⟩ (.int .i64 ((rd_T48 l0_0 x55_3).f2.f0))).setCell ⟨gb248, 3, none⟩ (.int .i64 ((rd_T48 l0_0 x55_3).f2.f1))).setCell ⟨gb248, 4, none⟩ (.int .i64 ((rd_T48 l0_0 x55_3).f2.f2.f0))).setCell ⟨gb248, 5, none⟩ (.int .i64 ((rd_T48 l0_0 x55_3).f2.f2.f1))).setCell ⟨gb248, 6, none⟩ (.bool ((rd_T48 l0_0 x55_3).f2.f3))).setCell ⟨gb248, 7, none⟩ (.int .i64 ((rd_T48 l0_0 x55_3).f3.f0))).setCell ⟨gb248, 8, none⟩ (.int .i64 ((rd_T48 l0_0 x55_3).f3.f1))).setCell ⟨gb248, 9, none⟩ (.int .i64 ((rd_T48 l0_0 x55_3).f3.f2.f0))).setCell ⟨gb248, 10, none⟩ (.int .i64 ((rd_T48 l0_0 x55_3).f3.f2.f1))).setCell ⟨gb248, 11, none⟩ (.bool ((rd_T48 l0_0 x55_3).f3.f3)))) := ⟨by repeat (first | (with_reducible first | exact HB.out | apply below_alloc | apply pw_below_drewN | apply below_drew1 | refine below_set ?_ GE233.out | refine below_set ?_ GE248.out) | exact HB.out)⟩
                                    (try clear HO_3)
                                    (try clear HO_7)
                                    (try clear BK233)
                                    (try clear BK248)
                                    (try clear HB)
                                    generalize ((((((((((((w43.setCell ⟨gb248, 0, none⟩ (.int .i64 ((rd_T48 l0_0 x55_3).f0))).setCell ⟨gb248, 1, none⟩ (.int .i64 ((rd_T48 l0_0 x55_3).f1))).setCell ⟨gb248, 2, none⟩ (.int .i64 ((rd_T48 l0_0 x55_3).f2.f0))).setCell ⟨gb248, 3, none⟩ (.int .i64 ((rd_T48 l0_0 x55_3).f2.f1))).setCell ⟨gb248, 4, none⟩ (.int .i64 ((rd_T48 l0_0 x55_3).f2.f2.f0))).setCell ⟨gb248, 5, none⟩ (.int .i64 ((rd_T48 l0_0 x55_3).f2.f2.f1))).setCell ⟨gb248, 6, none⟩ (.bool ((rd_T48 l0_0 x55_3).f2.f3))).setCell ⟨gb248, 7, none⟩ (.int .i64 ((rd_T48 l0_0 x55_3).f3.f0))).setCell ⟨gb248, 8, none⟩ (.int .i64 ((rd_T48 l0_0 x55_3).f3.f1))).setCell ⟨gb248, 9, none⟩ (.int .i64 ((rd_T48 l0_0 x55_3).f3.f2.f0))).setCell ⟨gb248, 10, none⟩ (.int .i64 ((rd_T48 l0_0 x55_3).f3.f2.f1))).setCell ⟨gb248, 11, none⟩ (.bool ((rd_T48 l0_0 x55_3).f3.f3))) = w46 at n0_ n1_ n2_ n3_ n4_ ⊢
                                    have HO_3 := n0_
                                    have HO_7 := n1_
                                    have BK233 := n2_
                                    have BK248 := n3_
                                    have HB := n4_
                                    clear n0_ n1_ n2_ n3_ n4_
                                    have n0_ := Aside0.mk (Kd.R_drew HO_3.out)
                                    have n1_ := Aside0.mk (Kd.R_drew HO_7.out)
                                    have n2_ := Aside0.mk (blk_drew BK233.out)
                                    have n3_ := Aside0.mk (blk_drew BK248.out)
                                    have n4_ := Aside0.mk (below_drew1 HB.out)
                                    clear HO_3
                                    clear HO_7
                                    clear BK233
                                    clear BK248
                                    clear HB
                                    have HO_3 := n0_
                                    have HO_7 := n1_
                                    have BK233 := n2_
                                    have BK248 := n3_
                                    have HB := n4_
                                    clear n0_ n1_ n2_ n3_ n4_
                                    have p249 : 0 ≤ (x55_3 : Int) := of_decide_eq_true (by first | (with_reducible assumption) | assumption)
                                    have q249 : x55_3 < (x3_3.length : Int) := of_decide_eq_true (by first | (with_reducible assumption) | assumption)
                                    obtain ⟨ad249, e249, hx249_0⟩ := Kd.at_int (Kd.R_reads' HO_3.out).2.2 x55_3 p249 q249
                                    obtain rfl : (⟨go31, 0, none⟩ : Addr) = ad249 := (by injection e249)
                                    (first | simp only [add_plain] at hx249_0 | simp only [add_at] at hx249_0 | simp only [Addr.add, Nat.zero_add] at hx249_0 | skip)
                                    replace p249 := eq_true p249
                                    replace q249 := eq_true q249
                                    refine start_ (n := 10) (S := fun w' => w'.cell? ⟨gb248, 0, none⟩ = some (.int .i64 ((rd_T48 l0_0 x55_3).f0)) ∧ w'.cell? ⟨gb248, 1, none⟩ = some (.int .i64 ((rd_T48 l0_0 x55_3).f1)) ∧ w'.cell? ⟨gb248, 2, none⟩ = some (.int .i64 ((rd_T48 l0_0 x55_3).f2.f0)) ∧ w'.cell? ⟨gb248, 3, none⟩ = some (.int .i64 ((rd_T48 l0_0 x55_3).f2.f1)) ∧ w'.cell? ⟨gb248, 4, none⟩ = some (.int .i64 ((rd_T48 l0_0 x55_3).f2.f2.f0)) ∧ w'.cell? ⟨gb248, 5, none⟩ = some (.int .i64 ((rd_T48 l0_0 x55_3).f2.f2.f1)) ∧ w'.cell? ⟨gb248, 6, none⟩ = some (.bool ((rd_T48 l0_0 x55_3).f2.f3)) ∧ w'.cell? ⟨gb248, 7, none⟩ = some (.int .i64 ((rd_T48 l0_0 x55_3).f3.f0)) ∧ w'.cell? ⟨gb248, 8, none⟩ = some (.int .i64 ((rd_T48 l0_0 x55_3).f3.f1)) ∧ w'.cell? ⟨gb248, 9, none⟩ = some (.int .i64 ((rd_T48 l0_0 x55_3).f3.f2.f0)) ∧ w'.cell? ⟨gb248, 10, none⟩ = some (.int .i64 ((rd_T48 l0_0 x55_3).f3.f2.f1)) ∧ w'.cell? ⟨gb248, 11, none⟩ = some (.bool ((rd_T48 l0_0 x55_3).f3.f3)) ∧ w'.cell? ⟨go31, (x55_3).toNat, none⟩ = some (.int .i64 (rd x3_3 x55_3))) (ds := [9]) #[false, false, false, false, false, false, false, false, false, false] (by kernel_rfl) rfl rfl ⟨(blk_cell BK248.out 0).trans rfl, (blk_cell BK248.out 1).trans rfl, (blk_cell BK248.out 2).trans rfl, (blk_cell BK248.out 3).trans rfl, (blk_cell BK248.out 4).trans rfl, (blk_cell BK248.out 5).trans rfl, (blk_cell BK248.out 6).trans rfl, (blk_cell BK248.out 7).trans rfl, (blk_cell BK248.out 8).trans rfl, (blk_cell BK248.out 9).trans rfl, (blk_cell BK248.out 10).trans rfl, (blk_cell BK248.out 11).trans rfl, hx249_0⟩ (fun hHeld => ?_); refine with_tabW impl_Net_order.tab20 impl_Net_order.bits20 (fun HT_ HW_ => ?_)
                                    generalize w46.drew = w47 at HO_3 HO_7 BK233 BK248 HB hx249_0 hHeld ⊢
                                    refine pure_ (i := 0) (N := some 60) (v := ?_) (a' := ?_) #[true, false, false, false, false, false, false, false, false, false] rfl rfl (any_of HT_.out (by kernel_rfl)) (fun _ _ _ h => h) (Or.inl ⟨by rfl, ?_⟩) ?_ ?_
                                    rotate_left
                                    · intro w'
                                      go_simp
                                      with_reducible rfl
                                    rotate_left
                                    · simp only [Act.put, List.setIfInBounds_toArray, List.set_cons_zero, List.set_cons_succ, i64_w, i32_w]
                                      rfl
                                    refine pure_ (i := 1) (N := some 61) (v := ?_) (a' := ?_) #[true, true, false, false, false, false, false, false, false, false] rfl rfl (any_of HT_.out (by kernel_rfl)) (fun _ _ _ h => h) (Or.inl ⟨by rfl, ?_⟩) ?_ ?_
                                    rotate_left
                                    · intro w'
                                      go_simp
                                      with_reducible rfl
                                    rotate_left
                                    · simp only [Act.put, List.setIfInBounds_toArray, List.set_cons_zero, List.set_cons_succ, i64_w, i32_w]
                                      rfl
                                    refine pure_ (i := 2) (N := some 62) (v := ?_) (a' := ?_) #[true, true, true, false, false, false, false, false, false, false] rfl rfl (any_of HT_.out (by kernel_rfl)) (fun _ _ _ h => h) (Or.inl ⟨by rfl, ?_⟩) ?_ ?_
                                    rotate_left
                                    · intro w'
                                      go_simp
                                      with_reducible rfl
                                    rotate_left
                                    · simp only [Act.put, List.setIfInBounds_toArray, List.set_cons_zero, List.set_cons_succ, i64_w, i32_w]
                                      rfl
                                    refine pure_ (i := 5) (N := some 65) (v := ?_) (a' := ?_) #[true, true, true, false, false, true, false, false, false, false] rfl rfl (any_of HT_.out (by kernel_rfl)) (fun _ _ _ h => h) (Or.inl ⟨by rfl, ?_⟩) ?_ ?_
                                    rotate_left
                                    · intro w'
                                      go_simp
                                      with_reducible rfl
                                    rotate_left
                                    · simp only [Act.put, List.setIfInBounds_toArray, List.set_cons_zero, List.set_cons_succ, i64_w, i32_w]
                                      rfl
                                    refine take_ (i := 3) (N := some 63) (v := ?_) (a' := ?_) #[true, true, true, true, false, true, false, false, false, false] rfl rfl (take_ofW HT_.out HW_.out (by kernel_rfl)) (fun _ _ _ h => h) (Or.inl ⟨by rfl, ?_⟩) hHeld ?_ ?_
                                    rotate_left
                                    · rintro w' ⟨s0, s1, s2, s3, s4, s5, s6, s7, s8, s9, s10, s11, s12⟩
                                      go_simp
                                      with_reducible rfl
                                    rotate_left
                                    · simp only [Act.put, List.setIfInBounds_toArray, List.set_cons_zero, List.set_cons_succ, i64_w, i32_w]
                                      rfl
                                    refine take_ (i := 4) (N := some 64) (v := ?_) (a' := ?_) #[true, true, true, true, true, true, false, false, false, false] rfl rfl (take_ofW HT_.out HW_.out (by kernel_rfl)) (fun _ _ _ h => h) (Or.inl ⟨by rfl, ?_⟩) hHeld ?_ ?_
                                    rotate_left
                                    · rintro w' ⟨s0, s1, s2, s3, s4, s5, s6, s7, s8, s9, s10, s11, s12⟩
                                      go_simp
                                      with_reducible rfl
                                    rotate_left
                                    · simp only [Act.put, List.setIfInBounds_toArray, List.set_cons_zero, List.set_cons_succ, i64_w, i32_w]
                                      rfl
                                    refine one_ (i := 6) (N := some 66) #[true, true, true, true, true, true, true, false, false, false] rfl rfl (one_of HT_.out (by kernel_rfl)) (by decide) (fun K hK => ?_)
                                    refine goes_ Try.func42 (by kernel_rfl) rfl #[.agg #[.int .i64 ((rd_T48 l0_0 x55_3).f0), .int .i64 ((rd_T48 l0_0 x55_3).f1), .int .i64 ((rd_T48 l0_0 x55_3).f2.f0), .int .i64 ((rd_T48 l0_0 x55_3).f2.f1), .int .i64 ((rd_T48 l0_0 x55_3).f2.f2.f0), .int .i64 ((rd_T48 l0_0 x55_3).f2.f2.f1), .bool ((rd_T48 l0_0 x55_3).f2.f3), .int .i64 ((rd_T48 l0_0 x55_3).f3.f0), .int .i64 ((rd_T48 l0_0 x55_3).f3.f1), .int .i64 ((rd_T48 l0_0 x55_3).f3.f2.f0), .int .i64 ((rd_T48 l0_0 x55_3).f3.f2.f1), .bool ((rd_T48 l0_0 x55_3).f3.f3)], .int .i64 t242] (by rfl) rfl rfl (by (try simp only [List.map_toArray, List.map_cons, List.map_nil]); first | done | rfl | (simp only [List.length_drop, List.length_take]; rfl)) ?_
                                    with_reducible refine (impl_Wire_waits.calls k3 ((rd_T48 l0_0 x55_3).f0) ((rd_T48 l0_0 x55_3).f1) ((rd_T48 l0_0 x55_3).f2.f0) ((rd_T48 l0_0 x55_3).f2.f1) ((rd_T48 l0_0 x55_3).f2.f2.f0) ((rd_T48 l0_0 x55_3).f2.f2.f1) ((rd_T48 l0_0 x55_3).f2.f3) ((rd_T48 l0_0 x55_3).f3.f0) ((rd_T48 l0_0 x55_3).f3.f1) ((rd_T48 l0_0 x55_3).f3.f2.f0) ((rd_T48 l0_0 x55_3).f3.f2.f1) ((rd_T48 l0_0 x55_3).f3.f3) t242 t250 _ A41.out).mono ?_
                                    rintro e w48 ⟨rfl, hb⟩
                                    have HS12_ := (hb.cell (World.block_lt_of_cell? _ _ (hHeld.2.2.2.2.2.2.2.2.2.2.2.2))).trans (hHeld.2.2.2.2.2.2.2.2.2.2.2.2)
                                    refine ⟨_, rfl, ?_⟩
                                    have n0_ := Aside0.mk (Kd.R_below (by (with_reducible repeat (first | apply Kd.R_alloc | apply Kd.R_drewN | apply Kd.R_drew)); exact HO_3.out) hb)
                                    have n1_ := Aside0.mk (Kd.R_below (by (with_reducible repeat (first | apply Kd.R_alloc | apply Kd.R_drewN | apply Kd.R_drew)); exact HO_7.out) hb)
                                    have n2_ := Aside0.mk (blk_below (g := gb233) (o := .cells #[.slice (some ad247) l0_0.length c0_0, .slice A0_1 l0_1.length c0_1] 32 (0, 0)) (by (with_reducible repeat (first | refine blk_drewN ?_ _ | refine blk_drew ?_ | refine blk_alloc ?_ _)); exact BK233.out) hb)
                                    have n3_ := Aside0.mk (blk_below (g := gb248) (o := .cells #[.int .i64 ((rd_T48 l0_0 x55_3).f0), .int .i64 ((rd_T48 l0_0 x55_3).f1), .int .i64 ((rd_T48 l0_0 x55_3).f2.f0), .int .i64 ((rd_T48 l0_0 x55_3).f2.f1), .int .i64 ((rd_T48 l0_0 x55_3).f2.f2.f0), .int .i64 ((rd_T48 l0_0 x55_3).f2.f2.f1), .bool ((rd_T48 l0_0 x55_3).f2.f3), .int .i64 ((rd_T48 l0_0 x55_3).f3.f0), .int .i64 ((rd_T48 l0_0 x55_3).f3.f1), .int .i64 ((rd_T48 l0_0 x55_3).f3.f2.f0), .int .i64 ((rd_T48 l0_0 x55_3).f3.f2.f1), .bool ((rd_T48 l0_0 x55_3).f3.f3)] 48 (0, 0)) (by (with_reducible repeat (first | refine blk_drewN ?_ _ | refine blk_drew ?_ | refine blk_alloc ?_ _)); exact BK248.out) hb)
                                    have n4_ := Aside0.mk (below_step (by repeat (first | (with_reducible first | exact HB.out | apply below_alloc | apply pw_below_drewN | apply below_drew1 | refine below_set ?_ GE233.out | refine below_set ?_ GE248.out) | exact HB.out)) hb)
                                    clear HO_3
                                    clear HO_7
                                    clear BK233
                                    clear BK248
                                    clear HB
                                    have HO_3 := n0_
                                    have HO_7 := n1_
                                    have BK233 := n2_
                                    have BK248 := n3_
                                    have HB := n4_
                                    clear n0_ n1_ n2_ n3_ n4_
                                    (try clear hb)
                                    (try clear hb2)
                                    (try clear hk)
                                    (try clear hi)
                                    have p42 : 0 ≤ (x55_3 : Int) := of_decide_eq_true (by first | (with_reducible assumption) | assumption)
                                    have q42 : (x55_3 : Int) < ((x3_3.length : Int) : Int) := of_decide_eq_true (by first | (with_reducible assumption) | assumption)
                                    obtain ⟨hx42_0, hf42_0⟩ := Kd.R_celln 0 HO_3.out (x55_3 : Int) p42 q42
                                    replace p42 := eq_true p42
                                    replace q42 := eq_true q42
                                    have HP49 := Kd.R_putn HO_3.out (x55_3 : Int) (wrap64 ((rd x3_3 x55_3) - t250))
                                    rw [← Ny251.out] at HP49
                                    have HQ49 := Aside0.mk HP49
                                    clear HP49
                                    refine hK.out _ _ ⟨(blk_cell BK248.out 0).trans rfl, (blk_cell BK248.out 1).trans rfl, (blk_cell BK248.out 2).trans rfl, (blk_cell BK248.out 3).trans rfl, (blk_cell BK248.out 4).trans rfl, (blk_cell BK248.out 5).trans rfl, (blk_cell BK248.out 6).trans rfl, (blk_cell BK248.out 7).trans rfl, (blk_cell BK248.out 8).trans rfl, (blk_cell BK248.out 9).trans rfl, (blk_cell BK248.out 10).trans rfl, (blk_cell BK248.out 11).trans rfl, HS12_⟩ (fun hHeld => ?_)
                                    clear hK K
                                    refine norm_ (a' := ?_) ?_ ?_
                                    rotate_left
                                    · show Act.put _ (some 66) _ = _
                                      simp only [Act.put, List.setIfInBounds_toArray, List.set_cons_zero, List.set_cons_succ, i64_w, i32_w]
                                      rfl
                                    refine pure_ (i := 7) (N := some 67) (v := ?_) (a' := ?_) #[true, true, true, true, true, true, true, true, false, false] rfl rfl (any_of HT_.out (by kernel_rfl)) (fun _ _ _ h => h) (Or.inl ⟨by rfl, ?_⟩) ?_ ?_
                                    rotate_left
                                    · intro w'
                                      go_simp
                                      with_reducible rfl
                                    rotate_left
                                    · simp only [Act.put, List.setIfInBounds_toArray, List.set_cons_zero, List.set_cons_succ, i64_w, i32_w]
                                      rfl
                                    refine pure_ (i := 8) (N := some 68) (v := ?_) (a' := ?_) #[true, true, true, true, true, true, true, true, true, false] rfl rfl (any_of HT_.out (by kernel_rfl)) (fun _ _ _ h => h) (Or.inl ⟨by rfl, ?_⟩) ?_ ?_
                                    rotate_left
                                    · intro w'
                                      go_simp
                                      with_reducible rfl
                                    rotate_left
                                    · simp only [Act.put, List.setIfInBounds_toArray, List.set_cons_zero, List.set_cons_succ, i64_w, i32_w]
                                      rfl
                                    refine last_ (i := 9) (N := none) #[true, true, true, true, true, true, true, true, true, true] rfl rfl (one_of HT_.out (by kernel_rfl)) (by decide) (fun K hK => ?_)
                                    refine skip_ (w1 := ?_) (by rfl) rfl ?_ ?_
                                    rotate_left
                                    · go_simp
                                      rfl
                                    refine hK.out _ _ ?_
                                    clear hK K
                                    refine done_ (done_of HT_.out (by kernel_rfl)) ?_
                                    try go_wp2
                                    (try simp only [← hl3_3])
                                    go_roundg k3
                                    case measure => have := HK1.out; have := HK2.out; have := HK3.out; omega
                                    case rel => exact ⟨(y251), (wrap64 (x55_3 + 1)), (by first | rfl | (simp; done) | (simp [*]; done)), H', ⟨by have := HK1.out; have := HK2.out; have := HK3.out; omega⟩, ⟨by (try simp only [hl3_3]); (with_reducible repeat (first | apply Kd.R_alloc | apply Kd.R_drewN | apply Kd.R_drew)); exact HQ49.out⟩, ⟨by (try simp only [hl3_3]); (with_reducible repeat (first | apply Kd.R_alloc | apply Kd.R_drewN | apply Kd.R_drew)); exact Kd.R_mono (Kd.R_far (p := ⟨go31, (x55_3 : Int).toNat, none⟩) (Kd.R_mono HO_7.out (fun k_ hk => (⟨hk, fun e_ => hk (by rw [e_]; rfl)⟩ : _ ∧ k_ ≠ go31))) (fun _ hk => hk.2) (.int .i64 (wrap64 ((rd x3_3 x55_3) - t250)))) (fun _ hk => hk.1)⟩, ⟨by (try simp only [hl3_3]); (with_reducible repeat (first | refine blk_drewN ?_ _ | refine blk_drew ?_ | refine blk_alloc ?_ _)); refine blk_far ?_ (by have h_ := Kd.R_ne HO_3.out BK233.out (by decide); intro e_; exact h_ (by rw [e_]; rfl)) _; (with_reducible repeat (first | refine blk_drewN ?_ _ | refine blk_drew ?_ | refine blk_alloc ?_ _)); exact BK233.out⟩, ⟨by repeat (first | (with_reducible first | exact HB.out | apply below_alloc | apply pw_below_drewN | apply below_drew1 | refine below_set ?_ GB31.out | refine below_set ?_ GE233.out | refine below_set ?_ GE248.out) | exact HB.out)⟩⟩
                                  · rw [if_neg c40] at H
                                    exact absurd H (by simp)
                                · rw [if_neg c39] at H
                                  exact absurd H (by simp)
                              · rw [if_neg c38] at H
                                exact absurd H (by simp)
                            · rw [if_neg c37] at H
                              have c37b0 : decide (x55_3 < (l0_0.length : Int)) = false := decide_eq_false c37
                              clear c37
                              have H' := Aside0.mk H
                              clear H
                              go_wp2
                              (try simp only [← hl3_3])
                              go_roundg k3
                              case measure => have := HK1.out; have := HK2.out; have := HK3.out; omega
                              case rel => exact ⟨(x3_3), (y243), H', ⟨by have := HK1.out; have := HK2.out; have := HK3.out; omega⟩, ⟨by (try simp only [hl3_3]); (with_reducible repeat (first | apply Kd.R_alloc | apply Kd.R_drewN | apply Kd.R_drew)); exact HO_3.out⟩, ⟨by (try simp only [hl3_3]); (with_reducible repeat (first | apply Kd.R_alloc | apply Kd.R_drewN | apply Kd.R_drew)); exact HO_7.out⟩, ⟨by (try simp only [hl3_3]); (with_reducible repeat (first | refine blk_drewN ?_ _ | refine blk_drew ?_ | refine blk_alloc ?_ _)); exact BK233.out⟩, ⟨by repeat (first | (with_reducible first | exact HB.out | apply below_alloc | apply pw_below_drewN | apply below_drew1 | refine below_set ?_ GE233.out) | exact HB.out)⟩⟩
                      · rw [if_neg c30] at H
                        exact absurd H (by simp)
                    · rw [if_neg c29] at H
                      exact absurd H (by simp)
                  · rw [if_neg c28] at H
                    exact absurd H (by simp)
    · rw [if_neg c3] at H
      exact absurd H (by simp)
  · rw [if_neg c2] at H
    exact absurd H (by simp)

end Go.Proofs.Ytphblfmjdiigkaa.PFnExactNetOrder
