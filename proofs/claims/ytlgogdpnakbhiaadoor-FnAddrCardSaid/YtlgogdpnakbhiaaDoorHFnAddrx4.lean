-- Made by a program of this session (hp.py) over the kit's print: functions told by hand stand beside printed ones. Lean checks it.
import Derived.Test.YtlgogdpnakbhiaaDoorHFnAddrx0
import Derived.Test.YtlgogdpnakbhiaaDoorHFnAddrx1
import Derived.Test.YtlgogdpnakbhiaaDoorHFnAddrx3
namespace Go.Proofs.YtlgogdpnakbhiaaDoor.HFnAddr
open Go.RowKit Go.Proofs.YtlgogdpnakbhiaaDoorW.PrintWords Go.Proofs.YtlgogdpnakbhiaaDoorW.PrintLast Go.Proofs.YtlgogdpnakbhiaaDoorW.PrintMore
attribute [local go_sem] max2_int min2_int max_two min_two max_three min_three max_four min_four   -- for this text's walks alone
set_option linter.unusedVariables false
set_option linter.unusedSimpArgs false

/-! ### spec_l2Mem: function 35 -/
def spec_l2Mem.l0 : Nat → Int → List Int → Int → List Int → List Int → List Int → Option (List Int × List Int × List Int × Int)
  | 0, _, _, _, _, _, _ => none
  | k + 1, x4, x1000, x1001, x204000, x204001, x204002 => if x4 < 4 then ((spec_l12Rd_num.f k x1000 x1001 (([0, 0, 1, 1, 2, 5, (-1)] : List Int))).bind fun bt207 => (if 0 ≤ x4 then (if x4 < (x204000.length : Int) then ((spec_l12Rd_num.f k x1000 bt207.2 (([0, 0, 1, 3] : List Int))).bind fun bt213 => (if x4 < (x204001.length : Int) then ((spec_l12Rd_num.f k x1000 bt213.2 (([0, 0, 1, 2, 7, 1000000] : List Int))).bind fun bt219 => (if x4 < (x204002.length : Int) then (spec_l2Mem.l0 k (wrap64 (x4 + 1)) x1000 bt219.2 (x204000.set (x4 : Int).toNat bt207.1) (x204001.set (x4 : Int).toNat bt213.1) (x204002.set (x4 : Int).toNat bt219.1)) else (none))) else (none))) else (none)) else (none))) else (some (x204000, x204001, x204002, x1001))
def spec_l2Mem.f (k : Nat) (s0_0 : List Int) (s0_1 : Int) : Option (List Int × List Int × List Int × Int) := (spec_MemOpen.f).bind fun bt194 => (spec_l2Mem.l0 k 0 s0_0 s0_1 bt194.1 bt194.2.1 bt194.2.2)
theorem spec_l2Mem.mono_l : ∀ k, (∀ y0 y1 y2 y3 y4 y5, LeO (spec_l2Mem.l0 k y0 y1 y2 y3 y4 y5) (spec_l2Mem.l0 (k + 1) y0 y1 y2 y3 y4 y5))
  | 0 => fun _ _ _ _ _ _ r h => by simp [spec_l2Mem.l0] at h
  | k + 1 => by
    have ih0 := spec_l2Mem.mono_l k
    · intro y0 y1 y2 y3 y4 y5
      unfold spec_l2Mem.l0
      repeat' first
      | (with_reducible exact ih0 _ _ _ _ _ _)
      | (with_reducible exact spec_l12Rd_num.mono _ _ _ _)
      | (with_reducible exact LeO.refl _)
      | (with_reducible exact LeO.none _)
      | (with_reducible refine LeO.ite ?_ ?_)
      | (with_reducible refine LeO.bind ?_ (fun _ => ?_))
      | exact ih0 _ _ _ _ _ _
      | exact spec_l12Rd_num.mono _ _ _ _
      | exact LeO.none _
      | refine LeO.ite ?_ ?_
      | refine LeO.bind ?_ (fun _ => ?_)
theorem spec_l2Mem.mono : ∀ a0 a1 k, LeO (spec_l2Mem.f k a0 a1) (spec_l2Mem.f (k + 1) a0 a1) := by
  intro a0 a1 k
  have ih0 := spec_l2Mem.mono_l k
  unfold spec_l2Mem.f
  repeat' first
      | (with_reducible exact ih0 _ _ _ _ _ _)
      | (with_reducible exact spec_l12Rd_num.mono _ _ _ _)
      | (with_reducible exact LeO.refl _)
      | (with_reducible exact LeO.none _)
      | (with_reducible refine LeO.ite ?_ ?_)
      | (with_reducible refine LeO.bind ?_ (fun _ => ?_))
      | exact ih0 _ _ _ _ _ _
      | exact spec_l12Rd_num.mono _ _ _ _
      | exact LeO.none _
      | refine LeO.ite ?_ ?_
      | refine LeO.bind ?_ (fun _ => ?_)
def spec_l2Mem.T5 : Bool × List (List Nat × List Nat) := (true, [([], []), ([0], [0]), ([], []), ([], []), ([], []), ([3, 4], [3, 4]), ([1, 2, 0, 1, 2, 3, 4, 5], [1, 2]), ([6, 5, 5, 0, 1, 2, 3, 4, 5], [5, 6])])
def spec_l2Mem.B5 : List Nat := [0, 1, 0, 0, 0, 24, 63, 127]
theorem spec_l2Mem.tab5 : rtab .any (opsOf Tryd.f35 5) = spec_l2Mem.T5 := by kernel_rfl
theorem spec_l2Mem.bits5 : waitsOk spec_l2Mem.T5.2 spec_l2Mem.B5 = true := by kernel_rfl
def spec_l2Mem.T6 : Bool × List (List Nat × List Nat) := (true, [([], []), ([0], [0]), ([], []), ([], []), ([], []), ([3, 4], [3, 4]), ([1, 2, 0, 1, 2, 3, 4, 5], [1, 2]), ([6, 5, 5, 0, 1, 2, 3, 4, 5], [5, 6])])
def spec_l2Mem.B6 : List Nat := [0, 1, 0, 0, 0, 24, 63, 127]
theorem spec_l2Mem.tab6 : rtab .any (opsOf Tryd.f35 6) = spec_l2Mem.T6 := by kernel_rfl
theorem spec_l2Mem.bits6 : waitsOk spec_l2Mem.T6.2 spec_l2Mem.B6 = true := by kernel_rfl
def spec_l2Mem.T7 : Bool × List (List Nat × List Nat) := (true, [([], []), ([0], [0]), ([], []), ([], []), ([], []), ([3, 4], [3, 4]), ([1, 2, 0, 1, 2, 3, 4, 5], [1, 2]), ([6, 5, 5, 0, 1, 2, 3, 4, 5], [5, 6])])
def spec_l2Mem.B7 : List Nat := [0, 1, 0, 0, 0, 24, 63, 127]
theorem spec_l2Mem.tab7 : rtab .any (opsOf Tryd.f35 7) = spec_l2Mem.T7 := by kernel_rfl
theorem spec_l2Mem.bits7 : waitsOk spec_l2Mem.T7.2 spec_l2Mem.B7 = true := by kernel_rfl
set_option maxHeartbeats 8000000 in
set_option maxRecDepth 100000 in
theorem spec_l2Mem.calls (k : Nat) (g : Nat) (s0_0 : List Int) (s0_1 : Int) (r1 : List Int) (r2 : List Int) (r3 : List Int) (r4 : Int) (w0 w : World) (hI : IsS64 w0 w g s0_0 s0_1) (hB : Below w0.heap.size w0 w) (h : spec_l2Mem.f k s0_0 s0_1 = some (r1, r2, r3, r4)) :
    Calls Tryd.prog 35 #[.pointer (some ⟨g, 0, none⟩)] w fun e w' => ∃ v0_ v1_ v2_ : Value, e = .returned (.agg #[v0_, v1_, v2_]) ∧ Kd.R (Kd.int .i64) 3 w' w.heap.size (fun k_ => some k_ ≠ (v1_ : Value).ownBlock ∧ some k_ ≠ (v2_ : Value).ownBlock) v0_ r1 ∧ Kd.R (Kd.int .i64) 3 w' w.heap.size (fun k_ => some k_ ≠ (v0_ : Value).ownBlock ∧ some k_ ≠ (v2_ : Value).ownBlock) v1_ r2 ∧ Kd.R (Kd.int .i64) 3 w' w.heap.size (fun k_ => some k_ ≠ (v0_ : Value).ownBlock ∧ some k_ ≠ (v1_ : Value).ownBlock) v2_ r3 ∧ IsS64 w0 w' g s0_0 r4 ∧ Below w0.heap.size w0 w' ∧ KeepBut w w' g none := by
  have hu25 := Tryd.underlying25
  have HI0 := Aside0.mk hI
  have HK := Aside0.mk (KeepBut.refl w g none)
  have HL := Aside0.mk hB.size
  clear hI
  have HW0 := Aside0.mk hB.size
  have HB := Aside0.mk hB
  clear hB
  have H : ((spec_MemOpen.f).bind fun bt194 => (spec_l2Mem.l0 k 0 s0_0 s0_1 bt194.1 bt194.2.1 bt194.2.2)) = some (r1, r2, r3, r4) := h
  clear h
  replace H := Option.bind_eq_some_iff.mp H
  obtain ⟨⟨t194, t197, t200⟩, A20, H⟩ := H
  replace H : (spec_l2Mem.l0 k 0 s0_0 s0_1 t194 t197 t200) = some (r1, r2, r3, r4) := H
  have A2 := Aside0.mk A20
  clear A20
  have H' := Aside0.mk H
  clear H
  go_enter Tryd.func35, Tryd.ntmps35
  go_wp2_with (first | ((with_reducible refine gate_dst (N := 2) rfl ?_); refine box_event ?hg (N := 2) ?hd (cs := #[.slice none 0 0, .slice none 0 0, .slice none 0 0]) (t := 25) ?hr ?_; (case hd => rfl); (case hg => rfl); (case hr => first | (go_simp; done) | (go_simp; rfl)); intro gb193 hg w3 hbox hb; have n0_ := Aside0.mk (IsS64.below (by repeat (first | (with_reducible first | exact HI0.out | apply IsS64.alloc | apply IsS64.drewN | apply IsS64.drew | apply IsS64.set_1) | exact HI0.out)) hb); have n1_ := Aside0.mk (KeepBut.trans (by repeat (first | (with_reducible first | exact HK.out | apply KeepBut.set_ | apply keep_drewN | apply keep_drew | apply keep_alloc) | exact HK.out)) (KeepBut.of_below hb g none) (.inl rfl)); have n2_ := Aside0.mk (below_step (by repeat (first | (with_reducible first | exact HB.out | apply below_alloc | apply pw_below_drewN | apply below_drew1 | refine below_set ?_ (IsS64.ge HI0.out)) | exact HB.out)) hb); have n3_ := Aside0.mk (hbox); have n4_ := Aside0.mk ((by rw [hg]; exact (keep_size (w := w) (g := g) (row := none) (by repeat (first | (with_reducible first | exact HK.out | apply KeepBut.set_ | apply keep_drewN | apply keep_drew | apply keep_alloc) | exact HK.out))) : w.heap.size ≤ gb193)); have n5_ := Aside0.mk ((Nat.le_trans HW0.out (by rw [hg]; exact (keep_size (w := w) (g := g) (row := none) (by repeat (first | (with_reducible first | exact HK.out | apply KeepBut.set_ | apply keep_drewN | apply keep_drew | apply keep_alloc) | exact HK.out))) : w.heap.size ≤ gb193) : w0.heap.size ≤ gb193)); have n6_ := Aside0.mk ((by rw [hg]; exact Nat.ne_of_lt (IsS64.lt (show IsS64 w0 _ g s0_0 s0_1 from by repeat (first | (with_reducible first | exact HI0.out | apply IsS64.alloc | apply IsS64.drewN | apply IsS64.drew | apply IsS64.set_1) | exact HI0.out))) : g ≠ gb193)); have n7_ := Aside0.mk ((by rw [hg]; exact Nat.ne_of_gt (IsS64.lt (show IsS64 w0 _ g s0_0 s0_1 from by repeat (first | (with_reducible first | exact HI0.out | apply IsS64.alloc | apply IsS64.drewN | apply IsS64.drew | apply IsS64.set_1) | exact HI0.out))) : gb193 ≠ g)); clear HI0; clear HK; clear HB; have HI0 := n0_; have HK := n1_; have HB := n2_; have BK193 := n3_; have GW193 := n4_; have GE193 := n5_; have NB0_193 := n6_; have NB193_0 := n7_; clear n0_ n1_ n2_ n3_ n4_ n5_ n6_ n7_; clear hb hbox hg) | ((with_reducible refine gate_callee (f := 46) rfl ?_); refine goesL_ (some 5) rfl rfl Tryd.func46 (by kernel_rfl) rfl #[] rfl (by (try simp only [List.map_toArray, List.map_cons, List.map_nil]); first | done | rfl | (simp only [List.length_drop, List.length_take]; rfl)) ?_; (with_reducible refine (spec_MemOpen.calls  t194 t197 t200 _ A2.out).mono ?_); rintro e w4 ⟨v195, v198, v201, rfl, ho0, ho1, ho2, hb⟩; refine ⟨_, rfl, ?_⟩; have n0_ := Aside0.mk (Kd.R_lower ho0 (keep_size (w := w) (g := g) (row := none) (by repeat (first | (with_reducible first | exact HK.out | apply KeepBut.set_ | apply keep_drewN | apply keep_drew | apply keep_alloc | refine keep_far ?_ GW193.out _) | exact HK.out)))); have n1_ := Aside0.mk (Kd.R_lower ho1 (keep_size (w := w) (g := g) (row := none) (by repeat (first | (with_reducible first | exact HK.out | apply KeepBut.set_ | apply keep_drewN | apply keep_drew | apply keep_alloc | refine keep_far ?_ GW193.out _) | exact HK.out)))); have n2_ := Aside0.mk (Kd.R_lower ho2 (keep_size (w := w) (g := g) (row := none) (by repeat (first | (with_reducible first | exact HK.out | apply KeepBut.set_ | apply keep_drewN | apply keep_drew | apply keep_alloc | refine keep_far ?_ GW193.out _) | exact HK.out)))); have n3_ := Aside0.mk (IsS64.below (by repeat (first | (with_reducible first | exact HI0.out | apply IsS64.alloc | apply IsS64.drewN | apply IsS64.drew | apply IsS64.set_1 | refine IsS64.far ?_ NB0_193.out _) | exact HI0.out)) hb); have n4_ := Aside0.mk (blk_below (g := gb193) (o := .cells #[.slice none 0 0, .slice none 0 0, .slice none 0 0] 25 (0, 0)) (by (with_reducible repeat (first | refine blk_drewN ?_ _ | refine blk_drew ?_ | refine blk_alloc ?_ _)); exact BK193.out) hb); have n5_ := Aside0.mk (KeepBut.trans (by repeat (first | (with_reducible first | exact HK.out | apply KeepBut.set_ | apply keep_drewN | apply keep_drew | apply keep_alloc | refine keep_far ?_ GW193.out _) | exact HK.out)) (KeepBut.of_below hb g none) (.inl rfl)); have n6_ := Aside0.mk (below_step (by repeat (first | (with_reducible first | exact HB.out | apply below_alloc | apply pw_below_drewN | apply below_drew1 | refine below_set ?_ (IsS64.ge HI0.out) | refine below_set ?_ GE193.out) | exact HB.out)) hb); clear HI0; clear BK193; clear HK; clear HB; have HO196 := n0_; have HO199 := n1_; have HO202 := n2_; have HI0 := n3_; have BK193 := n4_; have HK := n5_; have HB := n6_; clear n0_ n1_ n2_ n3_ n4_ n5_ n6_; (try clear hb); (try clear hb2); (try clear hk); (try clear hi); (try clear ho0); (try clear ho1); (try clear ho2)) | ((with_reducible refine gate_dst (N := 3) rfl ?_); refine box_event ?hg (N := 3) ?hd (cs := #[.slice none 0 0, .slice none 0 0, .slice none 0 0]) (t := 25) ?hr ?_; (case hd => rfl); (case hg => rfl); (case hr => first | (go_simp; done) | (go_simp; rfl)); intro gb203 hg w5 hbox hb; have n0_ := Aside0.mk (Kd.R_below (by (with_reducible repeat (first | apply Kd.R_alloc | apply Kd.R_drewN | apply Kd.R_drew)); exact HO196.out) hb); have n1_ := Aside0.mk (Kd.R_below (by (with_reducible repeat (first | apply Kd.R_alloc | apply Kd.R_drewN | apply Kd.R_drew)); exact HO199.out) hb); have n2_ := Aside0.mk (Kd.R_below (by (with_reducible repeat (first | apply Kd.R_alloc | apply Kd.R_drewN | apply Kd.R_drew)); exact HO202.out) hb); have n3_ := Aside0.mk (IsS64.below (by repeat (first | (with_reducible first | exact HI0.out | apply IsS64.alloc | apply IsS64.drewN | apply IsS64.drew | apply IsS64.set_1 | refine IsS64.far ?_ NB0_193.out _) | exact HI0.out)) hb); have n4_ := Aside0.mk (blk_below (g := gb193) (o := .cells #[.slice none 0 0, .slice none 0 0, .slice none 0 0] 25 (0, 0)) (by (with_reducible repeat (first | refine blk_drewN ?_ _ | refine blk_drew ?_ | refine blk_alloc ?_ _)); exact BK193.out) hb); have n5_ := Aside0.mk (KeepBut.trans (by repeat (first | (with_reducible first | exact HK.out | apply KeepBut.set_ | apply keep_drewN | apply keep_drew | apply keep_alloc | refine keep_far ?_ GW193.out _) | exact HK.out)) (KeepBut.of_below hb g none) (.inl rfl)); have n6_ := Aside0.mk (below_step (by repeat (first | (with_reducible first | exact HB.out | apply below_alloc | apply pw_below_drewN | apply below_drew1 | refine below_set ?_ (IsS64.ge HI0.out) | refine below_set ?_ GE193.out) | exact HB.out)) hb); have n7_ := Aside0.mk (hbox); have n8_ := Aside0.mk ((by rw [hg]; exact (keep_size (w := w) (g := g) (row := none) (by repeat (first | (with_reducible first | exact HK.out | apply KeepBut.set_ | apply keep_drewN | apply keep_drew | apply keep_alloc | refine keep_far ?_ GW193.out _) | exact HK.out))) : w.heap.size ≤ gb203)); have n9_ := Aside0.mk ((Nat.le_trans HW0.out (by rw [hg]; exact (keep_size (w := w) (g := g) (row := none) (by repeat (first | (with_reducible first | exact HK.out | apply KeepBut.set_ | apply keep_drewN | apply keep_drew | apply keep_alloc | refine keep_far ?_ GW193.out _) | exact HK.out))) : w.heap.size ≤ gb203) : w0.heap.size ≤ gb203)); have n10_ := Aside0.mk ((by rw [hg]; exact Nat.ne_of_lt (blk_lt (g := gb193) (o := .cells #[.slice none 0 0, .slice none 0 0, .slice none 0 0] 25 (0, 0)) (by (with_reducible repeat (first | refine blk_drewN ?_ _ | refine blk_drew ?_ | refine blk_alloc ?_ _)); exact BK193.out)) : gb193 ≠ gb203)); have n11_ := Aside0.mk ((by rw [hg]; exact Nat.ne_of_gt (blk_lt (g := gb193) (o := .cells #[.slice none 0 0, .slice none 0 0, .slice none 0 0] 25 (0, 0)) (by (with_reducible repeat (first | refine blk_drewN ?_ _ | refine blk_drew ?_ | refine blk_alloc ?_ _)); exact BK193.out)) : gb203 ≠ gb193)); have n12_ := Aside0.mk ((by rw [hg]; exact Nat.ne_of_lt (IsS64.lt (show IsS64 w0 _ g s0_0 s0_1 from by repeat (first | (with_reducible first | exact HI0.out | apply IsS64.alloc | apply IsS64.drewN | apply IsS64.drew | apply IsS64.set_1 | refine IsS64.far ?_ NB0_193.out _) | exact HI0.out))) : g ≠ gb203)); have n13_ := Aside0.mk ((by rw [hg]; exact Nat.ne_of_gt (IsS64.lt (show IsS64 w0 _ g s0_0 s0_1 from by repeat (first | (with_reducible first | exact HI0.out | apply IsS64.alloc | apply IsS64.drewN | apply IsS64.drew | apply IsS64.set_1 | refine IsS64.far ?_ NB0_193.out _) | exact HI0.out))) : gb203 ≠ g)); clear HO196; clear HO199; clear HO202; clear HI0; clear BK193; clear HK; clear HB; have HO196 := n0_; have HO199 := n1_; have HO202 := n2_; have HI0 := n3_; have BK193 := n4_; have HK := n5_; have HB := n6_; have BK203 := n7_; have GW203 := n8_; have GE203 := n9_; have NB193_203 := n10_; have NB203_193 := n11_; have NB0_203 := n12_; have NB203_0 := n13_; clear n0_ n1_ n2_ n3_ n4_ n5_ n6_ n7_ n8_ n9_ n10_ n11_ n12_ n13_; clear hb hbox hg; obtain ⟨Ao6, co6, eo6⟩ := Kd.R_slice HO196.out; subst eo6; have hnb7 := NB203_193.out; have hnc7 := NB193_203.out; have hnb8 := NB203_0.out; have hnc8 := NB0_203.out; have hcz9_0 : w5.cell? ⟨gb203, 0, none⟩ = some (.slice none 0 0) := (blk_cell BK203.out 0).trans rfl; have hcz9_1 : w5.cell? ⟨gb203, 1, none⟩ = some (.slice none 0 0) := (blk_cell BK203.out 1).trans rfl; have hcz9_2 : w5.cell? ⟨gb203, 2, none⟩ = some (.slice none 0 0) := (blk_cell BK203.out 2).trans rfl; have hfz9_0 := blk_frozen BK203.out 0; have hfz9_1 := blk_frozen BK203.out 1; have hfz9_2 := blk_frozen BK203.out 2; obtain ⟨Ao10, co10, eo10⟩ := Kd.R_slice HO199.out; subst eo10; obtain ⟨Ao11, co11, eo11⟩ := Kd.R_slice HO202.out; subst eo11))
  go_loopg [4] k (fun kq v4 w' => ∃ (x4_1 : Int) (x1001_1 : Int) (x204000_1 : List Int) (x204001_1 : List Int) (x204002_1 : List Int) (u204000 : Value) (u204001 : Value) (u204002 : Value), v4 = .int .i64 x4_1 ∧ Aside0 (spec_l2Mem.l0 kq x4_1 s0_0 x1001_1 x204000_1 x204001_1 x204002_1 = some (r1, r2, r3, r4)) ∧ Aside0 (kq ≤ k) ∧ Aside0 (Kd.R (Kd.int .i64) 3 w' w.heap.size (fun k_ => some k_ ≠ (u204001 : Value).ownBlock ∧ some k_ ≠ (u204002 : Value).ownBlock) u204000 x204000_1) ∧ Aside0 (Kd.R (Kd.int .i64) 3 w' w.heap.size (fun k_ => some k_ ≠ (u204000 : Value).ownBlock ∧ some k_ ≠ (u204002 : Value).ownBlock) u204001 x204001_1) ∧ Aside0 (Kd.R (Kd.int .i64) 3 w' w.heap.size (fun k_ => some k_ ≠ (u204000 : Value).ownBlock ∧ some k_ ≠ (u204001 : Value).ownBlock) u204002 x204002_1) ∧ Aside0 (w'.heap[gb193]? = some (.cells #[(.slice none 0 0), (.slice none 0 0), (.slice none 0 0)] 25 (0, 0))) ∧ Aside0 (w'.heap[gb203]? = some (.cells #[u204000, u204001, u204002] 25 (0, 0))) ∧ Aside0 (IsS64 w0 w' g s0_0 x1001_1) ∧ Aside0 (KeepBut w w' g none) ∧ Aside0 (Below w0.heap.size w0 w'))
  case atStart => exact ⟨(0), (s0_1), (t194), (t197), (t200), (.slice Ao6 t194.length co6), (.slice Ao10 t197.length co10), (.slice Ao11 t200.length co11), (by first | rfl | (simp; done) | (simp [*]; done)), H', ⟨Nat.le_refl _⟩, ⟨by (with_reducible repeat (first | apply Kd.R_alloc | apply Kd.R_drewN | apply Kd.R_drew)); exact Kd.R_mono (Kd.R_far (p := ⟨gb203, 2, none⟩) (Kd.R_far (p := ⟨gb203, 1, none⟩) (Kd.R_far (p := ⟨gb203, 0, none⟩) (Kd.R_types HO196.out BK203.out (by decide)) (fun _ hk => hk.2) (.slice Ao6 t194.length co6)) (fun _ hk => hk.2) (.slice Ao10 t197.length co10)) (fun _ hk => hk.2) (.slice Ao11 t200.length co11)) (fun _ hk => ⟨hk.1.1, hk.1.2⟩)⟩, ⟨by (with_reducible repeat (first | apply Kd.R_alloc | apply Kd.R_drewN | apply Kd.R_drew)); exact Kd.R_mono (Kd.R_far (p := ⟨gb203, 2, none⟩) (Kd.R_far (p := ⟨gb203, 1, none⟩) (Kd.R_far (p := ⟨gb203, 0, none⟩) (Kd.R_types HO199.out BK203.out (by decide)) (fun _ hk => hk.2) (.slice Ao6 t194.length co6)) (fun _ hk => hk.2) (.slice Ao10 t197.length co10)) (fun _ hk => hk.2) (.slice Ao11 t200.length co11)) (fun _ hk => ⟨hk.1.1, hk.1.2⟩)⟩, ⟨by (with_reducible repeat (first | apply Kd.R_alloc | apply Kd.R_drewN | apply Kd.R_drew)); exact Kd.R_mono (Kd.R_far (p := ⟨gb203, 2, none⟩) (Kd.R_far (p := ⟨gb203, 1, none⟩) (Kd.R_far (p := ⟨gb203, 0, none⟩) (Kd.R_types HO202.out BK203.out (by decide)) (fun _ hk => hk.2) (.slice Ao6 t194.length co6)) (fun _ hk => hk.2) (.slice Ao10 t197.length co10)) (fun _ hk => hk.2) (.slice Ao11 t200.length co11)) (fun _ hk => ⟨hk.1.1, hk.1.2⟩)⟩, ⟨by (with_reducible repeat (first | refine blk_drewN ?_ _ | refine blk_drew ?_ | refine blk_alloc ?_ _)); refine blk_far ?_ NB193_203.out _; (with_reducible repeat (first | refine blk_drewN ?_ _ | refine blk_drew ?_ | refine blk_alloc ?_ _)); refine blk_far ?_ NB193_203.out _; (with_reducible repeat (first | refine blk_drewN ?_ _ | refine blk_drew ?_ | refine blk_alloc ?_ _)); refine blk_far ?_ NB193_203.out _; (with_reducible repeat (first | refine blk_drewN ?_ _ | refine blk_drew ?_ | refine blk_alloc ?_ _)); exact BK193.out⟩, ⟨by (with_reducible repeat (first | refine blk_drewN ?_ _ | refine blk_drew ?_ | refine blk_alloc ?_ _)); refine blk_put (cs := #[.slice Ao6 t194.length co6, .slice Ao10 t197.length co10, .slice none 0 0]) ?_ 2 _ rfl; (with_reducible repeat (first | refine blk_drewN ?_ _ | refine blk_drew ?_ | refine blk_alloc ?_ _)); refine blk_put (cs := #[.slice Ao6 t194.length co6, .slice none 0 0, .slice none 0 0]) ?_ 1 _ rfl; (with_reducible repeat (first | refine blk_drewN ?_ _ | refine blk_drew ?_ | refine blk_alloc ?_ _)); refine blk_put (cs := #[.slice none 0 0, .slice none 0 0, .slice none 0 0]) ?_ 0 _ rfl; (with_reducible repeat (first | refine blk_drewN ?_ _ | refine blk_drew ?_ | refine blk_alloc ?_ _)); exact BK203.out⟩, ⟨by repeat (first | (with_reducible first | exact HI0.out | apply IsS64.alloc | apply IsS64.drewN | apply IsS64.drew | apply IsS64.set_1 | refine IsS64.far ?_ NB0_193.out _ | refine IsS64.far ?_ NB0_203.out _) | exact HI0.out)⟩, ⟨by repeat (first | (with_reducible first | exact HK.out | apply KeepBut.set_ | apply keep_drewN | apply keep_drew | apply keep_alloc | refine keep_far ?_ GW193.out _ | refine keep_far ?_ GW203.out _) | exact HK.out)⟩, ⟨by repeat (first | (with_reducible first | exact HB.out | apply below_alloc | apply pw_below_drewN | apply below_drew1 | refine below_set ?_ (IsS64.ge HI0.out) | refine below_set ?_ GE193.out | refine below_set ?_ GE203.out) | exact HB.out)⟩⟩
  case round =>
    clear H'
    try clear p2
    try clear c3
    try clear c4
    try clear c7
    try clear c8
    try clear hcz9_0
    try clear hcz9_1
    try clear hcz9_2
    try clear hfz9_0
    try clear hfz9_1
    try clear hfz9_2
    obtain ⟨x4_1, x1001_1, x204000_1, x204001_1, x204002_1, u204000, u204001, u204002, rfl, HA, HK1, HO_204000, HO_204001, HO_204002, BK193, BK203, HI0, HK, HB⟩ := hrel
    cases gk with
    | zero => exact absurd HA.out (by simp [spec_l2Mem.l0])
    | succ k1 =>
      have H := HA.out
      clear HA
      simp only [spec_l2Mem.l0] at H
      by_cases c12 : x4_1 < 4
      · rw [if_pos c12] at H
        have c12b0 : decide (x4_1 < 4) = true := decide_eq_true c12
        clear c12
        obtain ⟨y204, hy204⟩ : ∃ y_ : List Int, y_ = (([0, 0, 1, 1, 2, 5, (-1)] : List Int)) := ⟨_, rfl⟩
        replace H : ((spec_l12Rd_num.f k1 s0_0 x1001_1 y204).bind fun bt207 => (if 0 ≤ x4_1 then (if x4_1 < (x204000_1.length : Int) then ((spec_l12Rd_num.f k1 s0_0 bt207.2 (([0, 0, 1, 3] : List Int))).bind fun bt213 => (if x4_1 < (x204001_1.length : Int) then ((spec_l12Rd_num.f k1 s0_0 bt213.2 (([0, 0, 1, 2, 7, 1000000] : List Int))).bind fun bt219 => (if x4_1 < (x204002_1.length : Int) then (spec_l2Mem.l0 k1 (wrap64 (x4_1 + 1)) s0_0 bt219.2 (x204000_1.set (x4_1 : Int).toNat bt207.1) (x204001_1.set (x4_1 : Int).toNat bt213.1) (x204002_1.set (x4_1 : Int).toNat bt219.1)) else (none))) else (none))) else (none)) else (none))) = some (r1, r2, r3, r4) := by first | (rw [hy204]; with_reducible exact H) | (have H2_ := (Option.bind_some _ _).symm.trans H; rw [hy204]; with_reducible exact H2_) | (have H2_ := (Option.bind_some _ _).symm.trans H; with_reducible exact H2_) | with_reducible exact H | (rw [hy204]; exact H) | exact H
        have Ny204 := Aside0.mk hy204
        clear hy204
        replace H := Option.bind_eq_some_iff.mp H
        obtain ⟨⟨t207, t208⟩, A130, H⟩ := H
        replace H : (if 0 ≤ x4_1 then (if x4_1 < (x204000_1.length : Int) then ((spec_l12Rd_num.f k1 s0_0 t208 (([0, 0, 1, 3] : List Int))).bind fun bt213 => (if x4_1 < (x204001_1.length : Int) then ((spec_l12Rd_num.f k1 s0_0 bt213.2 (([0, 0, 1, 2, 7, 1000000] : List Int))).bind fun bt219 => (if x4_1 < (x204002_1.length : Int) then (spec_l2Mem.l0 k1 (wrap64 (x4_1 + 1)) s0_0 bt219.2 (x204000_1.set (x4_1 : Int).toNat t207) (x204001_1.set (x4_1 : Int).toNat bt213.1) (x204002_1.set (x4_1 : Int).toNat bt219.1)) else (none))) else (none))) else (none)) else (none)) = some (r1, r2, r3, r4) := H
        have A13 := Aside0.mk A130
        clear A130
        by_cases c14 : 0 ≤ x4_1
        · rw [if_pos c14] at H
          have c14b0 : decide (0 ≤ x4_1) = true := decide_eq_true c14
          clear c14
          by_cases c15 : x4_1 < (x204000_1.length : Int)
          · rw [if_pos c15] at H
            have c15b0 : decide (x4_1 < (x204000_1.length : Int)) = true := decide_eq_true c15
            clear c15
            obtain ⟨y209, hy209⟩ : ∃ y_ : List Int, y_ = (x204000_1.set (x4_1 : Int).toNat t207) := ⟨_, rfl⟩
            replace H : ((spec_l12Rd_num.f k1 s0_0 t208 (([0, 0, 1, 3] : List Int))).bind fun bt213 => (if x4_1 < (x204001_1.length : Int) then ((spec_l12Rd_num.f k1 s0_0 bt213.2 (([0, 0, 1, 2, 7, 1000000] : List Int))).bind fun bt219 => (if x4_1 < (x204002_1.length : Int) then (spec_l2Mem.l0 k1 (wrap64 (x4_1 + 1)) s0_0 bt219.2 y209 (x204001_1.set (x4_1 : Int).toNat bt213.1) (x204002_1.set (x4_1 : Int).toNat bt219.1)) else (none))) else (none))) = some (r1, r2, r3, r4) := by first | (rw [hy209]; with_reducible exact H) | (have H2_ := (Option.bind_some _ _).symm.trans H; rw [hy209]; with_reducible exact H2_) | (have H2_ := (Option.bind_some _ _).symm.trans H; with_reducible exact H2_) | with_reducible exact H | (rw [hy209]; exact H) | exact H
            have Ny209 := Aside0.mk hy209
            clear hy209
            obtain ⟨y210, hy210⟩ : ∃ y_ : List Int, y_ = (([0, 0, 1, 3] : List Int)) := ⟨_, rfl⟩
            replace H : ((spec_l12Rd_num.f k1 s0_0 t208 y210).bind fun bt213 => (if x4_1 < (x204001_1.length : Int) then ((spec_l12Rd_num.f k1 s0_0 bt213.2 (([0, 0, 1, 2, 7, 1000000] : List Int))).bind fun bt219 => (if x4_1 < (x204002_1.length : Int) then (spec_l2Mem.l0 k1 (wrap64 (x4_1 + 1)) s0_0 bt219.2 y209 (x204001_1.set (x4_1 : Int).toNat bt213.1) (x204002_1.set (x4_1 : Int).toNat bt219.1)) else (none))) else (none))) = some (r1, r2, r3, r4) := by first | (rw [hy210]; with_reducible exact H) | (have H2_ := (Option.bind_some _ _).symm.trans H; rw [hy210]; with_reducible exact H2_) | (have H2_ := (Option.bind_some _ _).symm.trans H; with_reducible exact H2_) | with_reducible exact H | (rw [hy210]; exact H) | exact H
            have Ny210 := Aside0.mk hy210
            clear hy210
            replace H := Option.bind_eq_some_iff.mp H
            obtain ⟨⟨t213, t214⟩, A170, H⟩ := H
            replace H : (if x4_1 < (x204001_1.length : Int) then ((spec_l12Rd_num.f k1 s0_0 t214 (([0, 0, 1, 2, 7, 1000000] : List Int))).bind fun bt219 => (if x4_1 < (x204002_1.length : Int) then (spec_l2Mem.l0 k1 (wrap64 (x4_1 + 1)) s0_0 bt219.2 y209 (x204001_1.set (x4_1 : Int).toNat t213) (x204002_1.set (x4_1 : Int).toNat bt219.1)) else (none))) else (none)) = some (r1, r2, r3, r4) := H
            have A17 := Aside0.mk A170
            clear A170
            by_cases c18 : x4_1 < (x204001_1.length : Int)
            · rw [if_pos c18] at H
              have c18b0 : decide (x4_1 < (x204001_1.length : Int)) = true := decide_eq_true c18
              clear c18
              obtain ⟨y215, hy215⟩ : ∃ y_ : List Int, y_ = (x204001_1.set (x4_1 : Int).toNat t213) := ⟨_, rfl⟩
              replace H : ((spec_l12Rd_num.f k1 s0_0 t214 (([0, 0, 1, 2, 7, 1000000] : List Int))).bind fun bt219 => (if x4_1 < (x204002_1.length : Int) then (spec_l2Mem.l0 k1 (wrap64 (x4_1 + 1)) s0_0 bt219.2 y209 y215 (x204002_1.set (x4_1 : Int).toNat bt219.1)) else (none))) = some (r1, r2, r3, r4) := by first | (rw [hy215]; with_reducible exact H) | (have H2_ := (Option.bind_some _ _).symm.trans H; rw [hy215]; with_reducible exact H2_) | (have H2_ := (Option.bind_some _ _).symm.trans H; with_reducible exact H2_) | with_reducible exact H | (rw [hy215]; exact H) | exact H
              have Ny215 := Aside0.mk hy215
              clear hy215
              obtain ⟨y216, hy216⟩ : ∃ y_ : List Int, y_ = (([0, 0, 1, 2, 7, 1000000] : List Int)) := ⟨_, rfl⟩
              replace H : ((spec_l12Rd_num.f k1 s0_0 t214 y216).bind fun bt219 => (if x4_1 < (x204002_1.length : Int) then (spec_l2Mem.l0 k1 (wrap64 (x4_1 + 1)) s0_0 bt219.2 y209 y215 (x204002_1.set (x4_1 : Int).toNat bt219.1)) else (none))) = some (r1, r2, r3, r4) := by first | (rw [hy216]; with_reducible exact H) | (have H2_ := (Option.bind_some _ _).symm.trans H; rw [hy216]; with_reducible exact H2_) | (have H2_ := (Option.bind_some _ _).symm.trans H; with_reducible exact H2_) | with_reducible exact H | (rw [hy216]; exact H) | exact H
              have Ny216 := Aside0.mk hy216
              clear hy216
              replace H := Option.bind_eq_some_iff.mp H
              obtain ⟨⟨t219, t220⟩, A200, H⟩ := H
              replace H : (if x4_1 < (x204002_1.length : Int) then (spec_l2Mem.l0 k1 (wrap64 (x4_1 + 1)) s0_0 t220 y209 y215 (x204002_1.set (x4_1 : Int).toNat t219)) else (none)) = some (r1, r2, r3, r4) := H
              have A20 := Aside0.mk A200
              clear A200
              by_cases c21 : x4_1 < (x204002_1.length : Int)
              · rw [if_pos c21] at H
                have c21b0 : decide (x4_1 < (x204002_1.length : Int)) = true := decide_eq_true c21
                clear c21
                obtain ⟨y221, hy221⟩ : ∃ y_ : List Int, y_ = (x204002_1.set (x4_1 : Int).toNat t219) := ⟨_, rfl⟩
                replace H : (spec_l2Mem.l0 k1 (wrap64 (x4_1 + 1)) s0_0 t220 y209 y215 y221) = some (r1, r2, r3, r4) := by first | (rw [hy221]; with_reducible exact H) | (have H2_ := (Option.bind_some _ _).symm.trans H; rw [hy221]; with_reducible exact H2_) | (have H2_ := (Option.bind_some _ _).symm.trans H; with_reducible exact H2_) | with_reducible exact H | (rw [hy221]; exact H) | exact H
                have Ny221 := Aside0.mk hy221
                clear hy221
                have H' := Aside0.mk H
                clear H
                try go_wp2
                have n0_ := Aside0.mk (Kd.R_drew HO_204000.out)
                have n1_ := Aside0.mk (Kd.R_drew HO_204001.out)
                have n2_ := Aside0.mk (Kd.R_drew HO_204002.out)
                have n3_ := Aside0.mk (blk_drew BK193.out)
                have n4_ := Aside0.mk (blk_drew BK203.out)
                have n5_ := Aside0.mk (IsS64.drew HI0.out)
                have n6_ := Aside0.mk (keep_drew HK.out)
                have n7_ := Aside0.mk (below_drew1 HB.out)
                clear HO_204000
                clear HO_204001
                clear HO_204002
                clear BK193
                clear BK203
                clear HI0
                clear HK
                clear HB
                have HO_204000 := n0_
                have HO_204001 := n1_
                have HO_204002 := n2_
                have BK193 := n3_
                have BK203 := n4_
                have HI0 := n5_
                have HK := n6_
                have HB := n7_
                clear n0_ n1_ n2_ n3_ n4_ n5_ n6_ n7_
                refine start_ (n := 8) (S := fun w' => w'.cell? ⟨gb203, 0, none⟩ = some (u204000) ∧ w'.cell? ⟨gb203, 1, none⟩ = some (u204001) ∧ w'.cell? ⟨gb203, 2, none⟩ = some (u204002)) (ds := [7]) #[false, false, false, false, false, false, false, false] (by kernel_rfl) rfl rfl ⟨(blk_cell BK203.out 0).trans rfl, (blk_cell BK203.out 1).trans rfl, (blk_cell BK203.out 2).trans rfl⟩ (fun hHeld => ?_); refine with_tabW spec_l2Mem.tab5 spec_l2Mem.bits5 (fun HT_ HW_ => ?_)
                generalize wr.drew = w23 at HO_204000 HO_204001 HO_204002 BK193 BK203 HI0 HK HB hHeld ⊢
                refine pure_ (i := 0) (N := some 10) (v := ?_) (a' := ?_) #[true, false, false, false, false, false, false, false] rfl rfl (any_of HT_.out (by kernel_rfl)) (fun _ _ _ h => h) (Or.inl ⟨by rfl, ?_⟩) ?_ ?_
                rotate_left
                · intro w'
                  go_simp
                  with_reducible rfl
                rotate_left
                · simp only [Act.put, List.setIfInBounds_toArray, List.set_cons_zero, List.set_cons_succ, i64_w, i32_w]
                  rfl
                refine pure_ (i := 2) (N := some 12) (v := ?_) (a' := ?_) #[true, false, true, false, false, false, false, false] rfl rfl (any_of HT_.out (by kernel_rfl)) (fun _ _ _ h => h) (Or.inl ⟨by rfl, ?_⟩) ?_ ?_
                rotate_left
                · intro w'
                  go_simp
                  with_reducible rfl
                rotate_left
                · simp only [Act.put, List.setIfInBounds_toArray, List.set_cons_zero, List.set_cons_succ, i64_w, i32_w]
                  rfl
                refine pure_ (i := 3) (N := some 13) (v := ?_) (a' := ?_) #[true, false, true, true, false, false, false, false] rfl rfl (any_of HT_.out (by kernel_rfl)) (fun _ _ _ h => h) (Or.inl ⟨by rfl, ?_⟩) ?_ ?_
                rotate_left
                · intro w'
                  go_simp
                  with_reducible rfl
                rotate_left
                · simp only [Act.put, List.setIfInBounds_toArray, List.set_cons_zero, List.set_cons_succ, i64_w, i32_w]
                  rfl
                refine take_ (i := 1) (N := some 11) (v := ?_) (a' := ?_) #[true, true, true, true, false, false, false, false] rfl rfl (take_ofW HT_.out HW_.out (by kernel_rfl)) (fun _ _ _ h => h) (Or.inl ⟨by rfl, ?_⟩) hHeld ?_ ?_
                rotate_left
                · rintro w' ⟨s0, s1, s2⟩
                  go_simp
                  with_reducible rfl
                rotate_left
                · simp only [Act.put, List.setIfInBounds_toArray, List.set_cons_zero, List.set_cons_succ, i64_w, i32_w]
                  rfl
                refine one_ (i := 4) (N := some 14) #[true, true, true, true, true, false, false, false] rfl rfl (one_of HT_.out (by kernel_rfl)) (by decide) (fun K hK => ?_)
                refine Kd.R_lit_step (Kd.int .i64) _ 3 ?hg (N := 14) ?hd (xs := ([0, 0, 1, 1, 2, 5, (-1)] : List Int)) (inner := [.int .i64 0, .int .i64 0, .int .i64 1, .int .i64 1, .int .i64 2, .int .i64 5, .int .i64 (-1)]) (ok := fun _ => True) (okp := fun _ => True) ?hr ?hp (fun _ hk => hk) trivial (Below.refl _ _) (Nat.le_refl _) (by simp) ?_; (case hd => rfl); (case hg => rfl); (case hr => first | (go_simp; done) | (go_simp; rfl)); (case hp => exact (Reps.one (show Kd.M (Kd.int .i64) _ _ _ 0 [.int .i64 0] from rfl) (Reps.one (show Kd.M (Kd.int .i64) _ _ _ 0 [.int .i64 0] from rfl) (Reps.one (show Kd.M (Kd.int .i64) _ _ _ 1 [.int .i64 1] from rfl) (Reps.one (show Kd.M (Kd.int .i64) _ _ _ 1 [.int .i64 1] from rfl) (Reps.one (show Kd.M (Kd.int .i64) _ _ _ 2 [.int .i64 2] from rfl) (Reps.one (show Kd.M (Kd.int .i64) _ _ _ 5 [.int .i64 5] from rfl) (Reps.one (show Kd.M (Kd.int .i64) _ _ _ (-1) [.int .i64 (-1)] from rfl) (Reps.none _ _)))))))))
                intro v205 w24 ho25 hb hg_ hnew_
                clear hg_ hnew_
                (first | rw [← Ny204.out] at ho25 | (simp only [Int.reduceToNat] at ho25; rw [← Ny204.out] at ho25))
                have n0_ := Aside0.mk (Kd.R_elder' (by (with_reducible repeat (first | apply Kd.R_alloc | apply Kd.R_drewN | apply Kd.R_drew)); exact HO_204000.out) (Kd.R_base ho25) hb)
                have n1_ := Aside0.mk (Kd.R_elder' (by (with_reducible repeat (first | apply Kd.R_alloc | apply Kd.R_drewN | apply Kd.R_drew)); exact HO_204001.out) (Kd.R_base ho25) hb)
                have n2_ := Aside0.mk (Kd.R_elder' (by (with_reducible repeat (first | apply Kd.R_alloc | apply Kd.R_drewN | apply Kd.R_drew)); exact HO_204002.out) (Kd.R_base ho25) hb)
                have n3_ := Aside0.mk (Kd.R_lower (Kd.R_new' (Kd.R_new' (Kd.R_new' ho25 (Kd.R_lt (by (with_reducible repeat (first | apply Kd.R_alloc | apply Kd.R_drewN | apply Kd.R_drew)); exact HO_204000.out))) (Kd.R_lt (by (with_reducible repeat (first | apply Kd.R_alloc | apply Kd.R_drewN | apply Kd.R_drew)); exact HO_204001.out))) (Kd.R_lt (by (with_reducible repeat (first | apply Kd.R_alloc | apply Kd.R_drewN | apply Kd.R_drew)); exact HO_204002.out))) (keep_size (w := w) (g := g) (row := none) (by repeat (first | (with_reducible first | exact HK.out | apply KeepBut.set_ | apply keep_drewN | apply keep_drew | apply keep_alloc | refine keep_far ?_ GW193.out _ | refine keep_far ?_ GW203.out _) | exact HK.out))))
                have n4_ := Aside0.mk (blk_below (g := gb193) (o := .cells #[.slice none 0 0, .slice none 0 0, .slice none 0 0] 25 (0, 0)) (by (with_reducible repeat (first | refine blk_drewN ?_ _ | refine blk_drew ?_ | refine blk_alloc ?_ _)); exact BK193.out) hb)
                have n5_ := Aside0.mk (blk_below (g := gb203) (o := .cells #[u204000, u204001, u204002] 25 (0, 0)) (by (with_reducible repeat (first | refine blk_drewN ?_ _ | refine blk_drew ?_ | refine blk_alloc ?_ _)); exact BK203.out) hb)
                have n6_ := Aside0.mk (IsS64.below (by repeat (first | (with_reducible first | exact HI0.out | apply IsS64.alloc | apply IsS64.drewN | apply IsS64.drew | apply IsS64.set_1 | refine IsS64.far ?_ NB0_193.out _ | refine IsS64.far ?_ NB0_203.out _) | exact HI0.out)) hb)
                have n7_ := Aside0.mk (KeepBut.trans (by repeat (first | (with_reducible first | exact HK.out | apply KeepBut.set_ | apply keep_drewN | apply keep_drew | apply keep_alloc | refine keep_far ?_ GW193.out _ | refine keep_far ?_ GW203.out _) | exact HK.out)) (KeepBut.of_below hb g none) (.inl rfl))
                have n8_ := Aside0.mk (below_step (by repeat (first | (with_reducible first | exact HB.out | apply below_alloc | apply pw_below_drewN | apply below_drew1 | refine below_set ?_ (IsS64.ge HI0.out) | refine below_set ?_ GE193.out | refine below_set ?_ GE203.out) | exact HB.out)) hb)
                clear HO_204000
                clear HO_204001
                clear HO_204002
                clear BK193
                clear BK203
                clear HI0
                clear HK
                clear HB
                have HO_204000 := n0_
                have HO_204001 := n1_
                have HO_204002 := n2_
                have HO206 := n3_
                have BK193 := n4_
                have BK203 := n5_
                have HI0 := n6_
                have HK := n7_
                have HB := n8_
                clear n0_ n1_ n2_ n3_ n4_ n5_ n6_ n7_ n8_
                clear hb ho25
                obtain ⟨Ao26, co26, eo26⟩ := Kd.R_slice HO206.out
                (first | subst eo26 | (injection eo26 with f1_ f2_ f3_; have f4_ := f1_.symm; have f5_ := f3_.symm; clear f1_ f2_ f3_; subst f4_; subst f5_))
                refine hK.out _ _ ⟨(blk_cell BK203.out 0).trans rfl, (blk_cell BK203.out 1).trans rfl, (blk_cell BK203.out 2).trans rfl⟩ (fun hHeld => ?_)
                clear hK K
                refine norm_ (a' := ?_) ?_ ?_
                rotate_left
                · show Act.put _ (some 14) _ = _
                  simp only [Act.put, List.setIfInBounds_toArray, List.set_cons_zero, List.set_cons_succ, i64_w, i32_w]
                  rfl
                refine one_ (i := 5) (N := some 15) #[true, true, true, true, true, true, false, false] rfl rfl (one_of HT_.out (by kernel_rfl)) (by decide) (fun K hK => ?_)
                refine goes_ Tryd.func38 (by kernel_rfl) rfl #[.pointer (some ⟨g, 0, none⟩), .slice Ao26 y204.length co26] (by rfl) rfl rfl (by (try simp only [List.map_toArray, List.map_cons, List.map_nil]); first | done | rfl | (simp only [List.length_drop, List.length_take]; rfl)) ?_
                with_reducible refine (spec_l12Rd_num.calls k1 g s0_0 x1001_1 _ _ y204 t207 t208 w0 _ ?side1 ?side2 ?side3 ?side4 ?side5 A13.out).mono ?_
                (case side1 => repeat (first | (with_reducible first | exact HI0.out | apply IsS64.alloc | apply IsS64.drewN | apply IsS64.drew | apply IsS64.set_1 | refine IsS64.far ?_ NB0_193.out _ | refine IsS64.far ?_ NB0_203.out _) | exact HI0.out))
                (case side2 => repeat (first | (with_reducible first | exact HB.out | apply below_alloc | apply pw_below_drewN | apply below_drew1 | refine below_set ?_ (IsS64.ge HI0.out) | refine below_set ?_ GE193.out | refine below_set ?_ GE203.out) | exact HB.out))
                (case side3 => repeat (first | exact (Kd.R_reads' HO206.out).2.2 | (with_reducible refine Kd.C_alloc ?_ _) | (with_reducible refine Kd.C_drewN ?_ _) | (with_reducible refine Kd.C_drew ?_)))
                (case side4 => exact (Kd.R_reads' HO206.out).2.1)
                (case side5 => exact far_slice (IsS64.own_ne HI0.out HO206.out (by decide)))
                rintro e w27 ⟨rfl, hi, hb, hk⟩
                refine ⟨_, rfl, ?_⟩
                have n0_ := Aside0.mk (Kd.R_mono (Kd.R_keep (IsS64.apart (show IsS64 w0 _ g s0_0 x1001_1 from by repeat (first | (with_reducible first | exact HI0.out | apply IsS64.alloc | apply IsS64.drewN | apply IsS64.drew | apply IsS64.set_1 | refine IsS64.far ?_ NB0_193.out _ | refine IsS64.far ?_ NB0_203.out _) | exact HI0.out)) (by (with_reducible repeat (first | apply Kd.R_alloc | apply Kd.R_drewN | apply Kd.R_drew)); exact HO_204000.out) (by decide)) hk (fun _ h => h.2)) (fun _ h => h.1))
                have n1_ := Aside0.mk (Kd.R_mono (Kd.R_keep (IsS64.apart (show IsS64 w0 _ g s0_0 x1001_1 from by repeat (first | (with_reducible first | exact HI0.out | apply IsS64.alloc | apply IsS64.drewN | apply IsS64.drew | apply IsS64.set_1 | refine IsS64.far ?_ NB0_193.out _ | refine IsS64.far ?_ NB0_203.out _) | exact HI0.out)) (by (with_reducible repeat (first | apply Kd.R_alloc | apply Kd.R_drewN | apply Kd.R_drew)); exact HO_204001.out) (by decide)) hk (fun _ h => h.2)) (fun _ h => h.1))
                have n2_ := Aside0.mk (Kd.R_mono (Kd.R_keep (IsS64.apart (show IsS64 w0 _ g s0_0 x1001_1 from by repeat (first | (with_reducible first | exact HI0.out | apply IsS64.alloc | apply IsS64.drewN | apply IsS64.drew | apply IsS64.set_1 | refine IsS64.far ?_ NB0_193.out _ | refine IsS64.far ?_ NB0_203.out _) | exact HI0.out)) (by (with_reducible repeat (first | apply Kd.R_alloc | apply Kd.R_drewN | apply Kd.R_drew)); exact HO_204002.out) (by decide)) hk (fun _ h => h.2)) (fun _ h => h.1))
                have n3_ := Aside0.mk (KeepBut.blk hk (g' := gb193) (o := .cells #[.slice none 0 0, .slice none 0 0, .slice none 0 0] 25 (0, 0)) (by (with_reducible repeat (first | refine blk_drewN ?_ _ | refine blk_drew ?_ | refine blk_alloc ?_ _)); exact BK193.out) NB193_0.out (by simp))
                have n4_ := Aside0.mk (KeepBut.blk hk (g' := gb203) (o := .cells #[u204000, u204001, u204002] 25 (0, 0)) (by (with_reducible repeat (first | refine blk_drewN ?_ _ | refine blk_drew ?_ | refine blk_alloc ?_ _)); exact BK203.out) NB203_0.out (by simp))
                have n5_ := Aside0.mk (Kd.R_mono (Kd.R_keep (IsS64.apart (show IsS64 w0 _ g s0_0 x1001_1 from by repeat (first | (with_reducible first | exact HI0.out | apply IsS64.alloc | apply IsS64.drewN | apply IsS64.drew | apply IsS64.set_1 | refine IsS64.far ?_ NB0_193.out _ | refine IsS64.far ?_ NB0_203.out _) | exact HI0.out)) (by (with_reducible repeat (first | apply Kd.R_alloc | apply Kd.R_drewN | apply Kd.R_drew)); exact HO206.out) (by decide)) hk (fun _ h => h.2)) (fun _ h => h.1))
                have n6_ := Aside0.mk (KeepBut.trans (by repeat (first | (with_reducible first | exact HK.out | apply KeepBut.set_ | apply keep_drewN | apply keep_drew | apply keep_alloc | refine keep_far ?_ GW193.out _ | refine keep_far ?_ GW203.out _) | exact HK.out)) hk (.inl rfl))
                have n7_ := Aside0.mk (hb)
                have n8_ := Aside0.mk (hi)
                clear HO_204000
                clear HO_204001
                clear HO_204002
                clear BK193
                clear BK203
                clear HO206
                clear HK
                clear HB
                clear HI0
                have HO_204000 := n0_
                have HO_204001 := n1_
                have HO_204002 := n2_
                have BK193 := n3_
                have BK203 := n4_
                have HO206 := n5_
                have HK := n6_
                have HB := n7_
                have HI0 := n8_
                clear n0_ n1_ n2_ n3_ n4_ n5_ n6_ n7_ n8_
                (try clear hb)
                (try clear hb2)
                (try clear hk)
                (try clear hi)
                have p16 : 0 ≤ (x4_1 : Int) := of_decide_eq_true (by first | (with_reducible assumption) | assumption)
                have q16 : (x4_1 : Int) < ((x204000_1.length : Int) : Int) := of_decide_eq_true (by first | (with_reducible assumption) | assumption)
                obtain ⟨go16, co16, eo16, gb16, gl16, cl16, HG16⟩ := Kd.R_form HO_204000.out (by omega)
                (first | cases eo16 | (injection eo16 with ea_ en_ ec_; (first | subst ea_ | (injection ea_ with ea_; subst ea_)); subst ec_; clear en_))
                have GB16 := Aside0.mk gb16
                have GG16 := Aside0.mk HG16
                clear gb16 gl16 HG16
                obtain ⟨hx16_0, hf16_0⟩ := Kd.R_celln 0 HO_204000.out (x4_1 : Int) p16 q16
                replace p16 := eq_true p16
                replace q16 := eq_true q16
                have HN0_go16 := Aside0.mk (show g ≠ go16 from by have h_ := IsS64.own_ne HI0.out HO_204000.out (by decide); intro e_; exact h_ (by rw [e_]; rfl))
                have HP28 := Kd.R_putn HO_204000.out (x4_1 : Int) t207
                rw [← Ny209.out] at HP28
                have HQ28 := Aside0.mk HP28
                clear HP28
                refine hK.out _ _ ⟨(blk_cell BK203.out 0).trans rfl, (blk_cell BK203.out 1).trans rfl, (blk_cell BK203.out 2).trans rfl⟩ (fun hHeld => ?_)
                clear hK K
                refine norm_ (a' := ?_) ?_ ?_
                rotate_left
                · show Act.put _ (some 15) _ = _
                  simp only [Act.put, List.setIfInBounds_toArray, List.set_cons_zero, List.set_cons_succ, i64_w, i32_w]
                  rfl
                refine pure_ (i := 6) (N := some 16) (v := ?_) (a' := ?_) #[true, true, true, true, true, true, true, false] rfl rfl (any_of HT_.out (by kernel_rfl)) (fun _ _ _ h => h) (Or.inl ⟨by rfl, ?_⟩) ?_ ?_
                rotate_left
                · intro w'
                  go_simp
                  with_reducible rfl
                rotate_left
                · simp only [Act.put, List.setIfInBounds_toArray, List.set_cons_zero, List.set_cons_succ, i64_w, i32_w]
                  rfl
                refine last_ (i := 7) (N := none) #[true, true, true, true, true, true, true, true] rfl rfl (one_of HT_.out (by kernel_rfl)) (by decide) (fun K hK => ?_)
                refine skip_ (w1 := ?_) (by rfl) rfl ?_ ?_
                rotate_left
                · go_simp
                  rfl
                refine hK.out _ _ ?_
                clear hK K
                refine done_ (done_of HT_.out (by kernel_rfl)) ?_
                try go_wp2
                have n0_ : Aside0 (Kd.R (Kd.int .i64) 3 (w27.setCell ⟨go16, (x4_1 : Int).toNat, none⟩ (.int .i64 t207)) w.heap.size (fun k_ => some k_ ≠ (u204001 : Value).ownBlock ∧ some k_ ≠ (u204002 : Value).ownBlock ∧ some k_ ≠ (.slice Ao26 y204.length co26 : Value).ownBlock) (.slice (some ⟨go16, 0, none⟩) x204000_1.length co16) y209) := ⟨by (with_reducible repeat (first | apply Kd.R_alloc | apply Kd.R_drewN | apply Kd.R_drew)); exact Kd.R_mono HQ28.out (fun _ hk => ⟨hk.1.1, ⟨hk.1.2, hk.2⟩⟩)⟩
                have n1_ : Aside0 (Kd.R (Kd.int .i64) 3 (w27.setCell ⟨go16, (x4_1 : Int).toNat, none⟩ (.int .i64 t207)) w.heap.size (fun k_ => some k_ ≠ (.slice (some ⟨go16, 0, none⟩) x204000_1.length co16 : Value).ownBlock ∧ some k_ ≠ (u204002 : Value).ownBlock ∧ some k_ ≠ (.slice Ao26 y204.length co26 : Value).ownBlock) u204001 x204001_1) := ⟨by (with_reducible repeat (first | apply Kd.R_alloc | apply Kd.R_drewN | apply Kd.R_drew)); exact Kd.R_mono (Kd.R_far (p := ⟨go16, (x4_1 : Int).toNat, none⟩) (Kd.R_mono HO_204001.out (fun k_ hk => (⟨hk, fun e_ => hk.1.1 (by rw [e_]; rfl)⟩ : _ ∧ k_ ≠ go16))) (fun _ hk => hk.2) (.int .i64 t207)) (fun _ hk => ⟨hk.1.1.1, ⟨hk.1.1.2, hk.1.2⟩⟩)⟩
                have n2_ : Aside0 (Kd.R (Kd.int .i64) 3 (w27.setCell ⟨go16, (x4_1 : Int).toNat, none⟩ (.int .i64 t207)) w.heap.size (fun k_ => some k_ ≠ (.slice (some ⟨go16, 0, none⟩) x204000_1.length co16 : Value).ownBlock ∧ some k_ ≠ (u204001 : Value).ownBlock ∧ some k_ ≠ (.slice Ao26 y204.length co26 : Value).ownBlock) u204002 x204002_1) := ⟨by (with_reducible repeat (first | apply Kd.R_alloc | apply Kd.R_drewN | apply Kd.R_drew)); exact Kd.R_mono (Kd.R_far (p := ⟨go16, (x4_1 : Int).toNat, none⟩) (Kd.R_mono HO_204002.out (fun k_ hk => (⟨hk, fun e_ => hk.1.1 (by rw [e_]; rfl)⟩ : _ ∧ k_ ≠ go16))) (fun _ hk => hk.2) (.int .i64 t207)) (fun _ hk => ⟨hk.1.1.1, ⟨hk.1.1.2, hk.1.2⟩⟩)⟩
                have n3_ : Aside0 (Kd.R (Kd.int .i64) 3 (w27.setCell ⟨go16, (x4_1 : Int).toNat, none⟩ (.int .i64 t207)) w.heap.size (fun k_ => some k_ ≠ (.slice (some ⟨go16, 0, none⟩) x204000_1.length co16 : Value).ownBlock ∧ some k_ ≠ (u204001 : Value).ownBlock ∧ some k_ ≠ (u204002 : Value).ownBlock) (.slice Ao26 y204.length co26) y204) := ⟨by (with_reducible repeat (first | apply Kd.R_alloc | apply Kd.R_drewN | apply Kd.R_drew)); exact Kd.R_mono (Kd.R_far (p := ⟨go16, (x4_1 : Int).toNat, none⟩) (Kd.R_mono HO206.out (fun k_ hk => (⟨hk, fun e_ => hk.1.1.2 (by rw [e_]; rfl)⟩ : _ ∧ k_ ≠ go16))) (fun _ hk => hk.2) (.int .i64 t207)) (fun _ hk => ⟨hk.1.1.1.2, ⟨hk.1.1.2, hk.1.2⟩⟩)⟩
                have n4_ : Aside0 ((w27.setCell ⟨go16, (x4_1 : Int).toNat, none⟩ (.int .i64 t207)).heap[gb193]? = some (.cells #[.slice none 0 0, .slice none 0 0, .slice none 0 0] 25 (0, 0))) := ⟨by (with_reducible repeat (first | refine blk_drewN ?_ _ | refine blk_drew ?_ | refine blk_alloc ?_ _)); refine blk_far ?_ (by have h_ := Kd.R_ne HO_204000.out BK193.out (by decide); intro e_; exact h_ (by rw [e_]; rfl)) _; (with_reducible repeat (first | refine blk_drewN ?_ _ | refine blk_drew ?_ | refine blk_alloc ?_ _)); exact BK193.out⟩
                have n5_ : Aside0 ((w27.setCell ⟨go16, (x4_1 : Int).toNat, none⟩ (.int .i64 t207)).heap[gb203]? = some (.cells #[.slice (some ⟨go16, 0, none⟩) x204000_1.length co16, u204001, u204002] 25 (0, 0))) := ⟨by (with_reducible repeat (first | refine blk_drewN ?_ _ | refine blk_drew ?_ | refine blk_alloc ?_ _)); refine blk_far ?_ (by have h_ := Kd.R_ne HO_204000.out BK203.out (by decide); intro e_; exact h_ (by rw [e_]; rfl)) _; (with_reducible repeat (first | refine blk_drewN ?_ _ | refine blk_drew ?_ | refine blk_alloc ?_ _)); exact BK203.out⟩
                have n6_ : Aside0 (IsS64 w0 (w27.setCell ⟨go16, (x4_1 : Int).toNat, none⟩ (.int .i64 t207)) g s0_0 t208) := ⟨by repeat (first | (with_reducible first | exact HI0.out | apply IsS64.alloc | apply IsS64.drewN | apply IsS64.drew | apply IsS64.set_1 | refine IsS64.far ?_ HN0_go16.out _ | refine IsS64.far ?_ NB0_193.out _ | refine IsS64.far ?_ NB0_203.out _) | exact HI0.out)⟩
                have n7_ : Aside0 (KeepBut w (w27.setCell ⟨go16, (x4_1 : Int).toNat, none⟩ (.int .i64 t207)) g none) := ⟨by repeat (first | (with_reducible first | exact HK.out | apply KeepBut.set_ | apply keep_drewN | apply keep_drew | apply keep_alloc | refine keep_far ?_ GB16.out _ | refine keep_far ?_ GW193.out _ | refine keep_far ?_ GW203.out _) | exact HK.out)⟩
                have n8_ : Aside0 (Below w0.heap.size w0 (w27.setCell ⟨go16, (x4_1 : Int).toNat, none⟩ (.int .i64 t207))) := ⟨by repeat (first | (with_reducible first | exact HB.out | apply below_alloc | apply pw_below_drewN | apply below_drew1 | refine below_set ?_ (Nat.le_trans HL.out GB16.out) | refine below_set ?_ (IsS64.ge HI0.out) | refine below_set ?_ GE193.out | refine below_set ?_ GE203.out) | exact HB.out)⟩
                (try clear HO_204000)
                (try clear HO_204001)
                (try clear HO_204002)
                (try clear HO206)
                (try clear BK193)
                (try clear BK203)
                (try clear HI0)
                (try clear HK)
                (try clear HB)
                generalize (w27.setCell ⟨go16, (x4_1 : Int).toNat, none⟩ (.int .i64 t207)) = w29 at n0_ n1_ n2_ n3_ n4_ n5_ n6_ n7_ n8_ ⊢
                have HO_204000 := n0_
                have HO_204001 := n1_
                have HO_204002 := n2_
                have HO206 := n3_
                have BK193 := n4_
                have BK203 := n5_
                have HI0 := n6_
                have HK := n7_
                have HB := n8_
                clear n0_ n1_ n2_ n3_ n4_ n5_ n6_ n7_ n8_
                have n0_ := Aside0.mk (Kd.R_drew HO_204000.out)
                have n1_ := Aside0.mk (Kd.R_drew HO_204001.out)
                have n2_ := Aside0.mk (Kd.R_drew HO_204002.out)
                have n3_ := Aside0.mk (Kd.R_drew HO206.out)
                have n4_ := Aside0.mk (blk_drew BK193.out)
                have n5_ := Aside0.mk (blk_drew BK203.out)
                have n6_ := Aside0.mk (IsS64.drew HI0.out)
                have n7_ := Aside0.mk (keep_drew HK.out)
                have n8_ := Aside0.mk (below_drew1 HB.out)
                clear HO_204000
                clear HO_204001
                clear HO_204002
                clear HO206
                clear BK193
                clear BK203
                clear HI0
                clear HK
                clear HB
                have HO_204000 := n0_
                have HO_204001 := n1_
                have HO_204002 := n2_
                have HO206 := n3_
                have BK193 := n4_
                have BK203 := n5_
                have HI0 := n6_
                have HK := n7_
                have HB := n8_
                clear n0_ n1_ n2_ n3_ n4_ n5_ n6_ n7_ n8_
                refine start_ (n := 8) (S := fun w' => w'.cell? ⟨gb203, 0, none⟩ = some (.slice (some ⟨go16, 0, none⟩) x204000_1.length co16) ∧ w'.cell? ⟨gb203, 1, none⟩ = some (u204001) ∧ w'.cell? ⟨gb203, 2, none⟩ = some (u204002)) (ds := [7]) #[false, false, false, false, false, false, false, false] (by kernel_rfl) rfl rfl ⟨(blk_cell BK203.out 0).trans rfl, (blk_cell BK203.out 1).trans rfl, (blk_cell BK203.out 2).trans rfl⟩ (fun hHeld => ?_); refine with_tabW spec_l2Mem.tab6 spec_l2Mem.bits6 (fun HT_ HW_ => ?_)
                generalize w29.drew = w30 at HO_204000 HO_204001 HO_204002 HO206 BK193 BK203 HI0 HK HB HQ28 hHeld ⊢
                refine pure_ (i := 0) (N := some 17) (v := ?_) (a' := ?_) #[true, false, false, false, false, false, false, false] rfl rfl (any_of HT_.out (by kernel_rfl)) (fun _ _ _ h => h) (Or.inl ⟨by rfl, ?_⟩) ?_ ?_
                rotate_left
                · intro w'
                  go_simp
                  with_reducible rfl
                rotate_left
                · simp only [Act.put, List.setIfInBounds_toArray, List.set_cons_zero, List.set_cons_succ, i64_w, i32_w]
                  rfl
                refine pure_ (i := 2) (N := some 19) (v := ?_) (a' := ?_) #[true, false, true, false, false, false, false, false] rfl rfl (any_of HT_.out (by kernel_rfl)) (fun _ _ _ h => h) (Or.inl ⟨by rfl, ?_⟩) ?_ ?_
                rotate_left
                · intro w'
                  go_simp
                  with_reducible rfl
                rotate_left
                · simp only [Act.put, List.setIfInBounds_toArray, List.set_cons_zero, List.set_cons_succ, i64_w, i32_w]
                  rfl
                refine pure_ (i := 3) (N := some 20) (v := ?_) (a' := ?_) #[true, false, true, true, false, false, false, false] rfl rfl (any_of HT_.out (by kernel_rfl)) (fun _ _ _ h => h) (Or.inl ⟨by rfl, ?_⟩) ?_ ?_
                rotate_left
                · intro w'
                  go_simp
                  with_reducible rfl
                rotate_left
                · simp only [Act.put, List.setIfInBounds_toArray, List.set_cons_zero, List.set_cons_succ, i64_w, i32_w]
                  rfl
                refine take_ (i := 1) (N := some 18) (v := ?_) (a' := ?_) #[true, true, true, true, false, false, false, false] rfl rfl (take_ofW HT_.out HW_.out (by kernel_rfl)) (fun _ _ _ h => h) (Or.inl ⟨by rfl, ?_⟩) hHeld ?_ ?_
                rotate_left
                · rintro w' ⟨s0, s1, s2⟩
                  go_simp
                  with_reducible rfl
                rotate_left
                · simp only [Act.put, List.setIfInBounds_toArray, List.set_cons_zero, List.set_cons_succ, i64_w, i32_w]
                  rfl
                refine one_ (i := 4) (N := some 21) #[true, true, true, true, true, false, false, false] rfl rfl (one_of HT_.out (by kernel_rfl)) (by decide) (fun K hK => ?_)
                refine Kd.R_lit_step (Kd.int .i64) _ 3 ?hg (N := 21) ?hd (xs := ([0, 0, 1, 3] : List Int)) (inner := [.int .i64 0, .int .i64 0, .int .i64 1, .int .i64 3]) (ok := fun _ => True) (okp := fun _ => True) ?hr ?hp (fun _ hk => hk) trivial (Below.refl _ _) (Nat.le_refl _) (by simp) ?_; (case hd => rfl); (case hg => rfl); (case hr => first | (go_simp; done) | (go_simp; rfl)); (case hp => exact (Reps.one (show Kd.M (Kd.int .i64) _ _ _ 0 [.int .i64 0] from rfl) (Reps.one (show Kd.M (Kd.int .i64) _ _ _ 0 [.int .i64 0] from rfl) (Reps.one (show Kd.M (Kd.int .i64) _ _ _ 1 [.int .i64 1] from rfl) (Reps.one (show Kd.M (Kd.int .i64) _ _ _ 3 [.int .i64 3] from rfl) (Reps.none _ _))))))
                intro v211 w31 ho32 hb hg_ hnew_
                clear hg_ hnew_
                (first | rw [← Ny210.out] at ho32 | (simp only [Int.reduceToNat] at ho32; rw [← Ny210.out] at ho32))
                have n0_ := Aside0.mk (Kd.R_elder' (by (with_reducible repeat (first | apply Kd.R_alloc | apply Kd.R_drewN | apply Kd.R_drew)); exact HO_204000.out) (Kd.R_base ho32) hb)
                have n1_ := Aside0.mk (Kd.R_elder' (by (with_reducible repeat (first | apply Kd.R_alloc | apply Kd.R_drewN | apply Kd.R_drew)); exact HO_204001.out) (Kd.R_base ho32) hb)
                have n2_ := Aside0.mk (Kd.R_elder' (by (with_reducible repeat (first | apply Kd.R_alloc | apply Kd.R_drewN | apply Kd.R_drew)); exact HO_204002.out) (Kd.R_base ho32) hb)
                have n3_ := Aside0.mk (Kd.R_elder' (by (with_reducible repeat (first | apply Kd.R_alloc | apply Kd.R_drewN | apply Kd.R_drew)); exact HO206.out) (Kd.R_base ho32) hb)
                have n4_ := Aside0.mk (Kd.R_lower (Kd.R_new' (Kd.R_new' (Kd.R_new' (Kd.R_new' ho32 (Kd.R_lt (by (with_reducible repeat (first | apply Kd.R_alloc | apply Kd.R_drewN | apply Kd.R_drew)); exact HO_204000.out))) (Kd.R_lt (by (with_reducible repeat (first | apply Kd.R_alloc | apply Kd.R_drewN | apply Kd.R_drew)); exact HO_204001.out))) (Kd.R_lt (by (with_reducible repeat (first | apply Kd.R_alloc | apply Kd.R_drewN | apply Kd.R_drew)); exact HO_204002.out))) (Kd.R_lt (by (with_reducible repeat (first | apply Kd.R_alloc | apply Kd.R_drewN | apply Kd.R_drew)); exact HO206.out))) (keep_size (w := w) (g := g) (row := none) (by repeat (first | (with_reducible first | exact HK.out | apply KeepBut.set_ | apply keep_drewN | apply keep_drew | apply keep_alloc | refine keep_far ?_ GW193.out _ | refine keep_far ?_ GW203.out _) | exact HK.out))))
                have n5_ := Aside0.mk (blk_below (g := gb193) (o := .cells #[.slice none 0 0, .slice none 0 0, .slice none 0 0] 25 (0, 0)) (by (with_reducible repeat (first | refine blk_drewN ?_ _ | refine blk_drew ?_ | refine blk_alloc ?_ _)); exact BK193.out) hb)
                have n6_ := Aside0.mk (blk_below (g := gb203) (o := .cells #[.slice (some ⟨go16, 0, none⟩) x204000_1.length co16, u204001, u204002] 25 (0, 0)) (by (with_reducible repeat (first | refine blk_drewN ?_ _ | refine blk_drew ?_ | refine blk_alloc ?_ _)); exact BK203.out) hb)
                have n7_ := Aside0.mk (IsS64.below (by repeat (first | (with_reducible first | exact HI0.out | apply IsS64.alloc | apply IsS64.drewN | apply IsS64.drew | apply IsS64.set_1 | refine IsS64.far ?_ NB0_193.out _ | refine IsS64.far ?_ NB0_203.out _) | exact HI0.out)) hb)
                have n8_ := Aside0.mk (KeepBut.trans (by repeat (first | (with_reducible first | exact HK.out | apply KeepBut.set_ | apply keep_drewN | apply keep_drew | apply keep_alloc | refine keep_far ?_ GW193.out _ | refine keep_far ?_ GW203.out _) | exact HK.out)) (KeepBut.of_below hb g none) (.inl rfl))
                have n9_ := Aside0.mk (below_step (by repeat (first | (with_reducible first | exact HB.out | apply below_alloc | apply pw_below_drewN | apply below_drew1 | refine below_set ?_ (IsS64.ge HI0.out) | refine below_set ?_ GE193.out | refine below_set ?_ GE203.out) | exact HB.out)) hb)
                clear HO_204000
                clear HO_204001
                clear HO_204002
                clear HO206
                clear BK193
                clear BK203
                clear HI0
                clear HK
                clear HB
                have HO_204000 := n0_
                have HO_204001 := n1_
                have HO_204002 := n2_
                have HO206 := n3_
                have HO212 := n4_
                have BK193 := n5_
                have BK203 := n6_
                have HI0 := n7_
                have HK := n8_
                have HB := n9_
                clear n0_ n1_ n2_ n3_ n4_ n5_ n6_ n7_ n8_ n9_
                clear hb ho32
                obtain ⟨Ao33, co33, eo33⟩ := Kd.R_slice HO212.out
                (first | subst eo33 | (injection eo33 with f1_ f2_ f3_; have f4_ := f1_.symm; have f5_ := f3_.symm; clear f1_ f2_ f3_; subst f4_; subst f5_))
                refine hK.out _ _ ⟨(blk_cell BK203.out 0).trans rfl, (blk_cell BK203.out 1).trans rfl, (blk_cell BK203.out 2).trans rfl⟩ (fun hHeld => ?_)
                clear hK K
                refine norm_ (a' := ?_) ?_ ?_
                rotate_left
                · show Act.put _ (some 21) _ = _
                  simp only [Act.put, List.setIfInBounds_toArray, List.set_cons_zero, List.set_cons_succ, i64_w, i32_w]
                  rfl
                refine one_ (i := 5) (N := some 22) #[true, true, true, true, true, true, false, false] rfl rfl (one_of HT_.out (by kernel_rfl)) (by decide) (fun K hK => ?_)
                refine goes_ Tryd.func38 (by kernel_rfl) rfl #[.pointer (some ⟨g, 0, none⟩), .slice Ao33 y210.length co33] (by rfl) rfl rfl (by (try simp only [List.map_toArray, List.map_cons, List.map_nil]); first | done | rfl | (simp only [List.length_drop, List.length_take]; rfl)) ?_
                with_reducible refine (spec_l12Rd_num.calls k1 g s0_0 t208 _ _ y210 t213 t214 w0 _ ?side1 ?side2 ?side3 ?side4 ?side5 A17.out).mono ?_
                (case side1 => repeat (first | (with_reducible first | exact HI0.out | apply IsS64.alloc | apply IsS64.drewN | apply IsS64.drew | apply IsS64.set_1 | refine IsS64.far ?_ NB0_193.out _ | refine IsS64.far ?_ NB0_203.out _) | exact HI0.out))
                (case side2 => repeat (first | (with_reducible first | exact HB.out | apply below_alloc | apply pw_below_drewN | apply below_drew1 | refine below_set ?_ (IsS64.ge HI0.out) | refine below_set ?_ GE193.out | refine below_set ?_ GE203.out) | exact HB.out))
                (case side3 => repeat (first | exact (Kd.R_reads' HO212.out).2.2 | (with_reducible refine Kd.C_alloc ?_ _) | (with_reducible refine Kd.C_drewN ?_ _) | (with_reducible refine Kd.C_drew ?_)))
                (case side4 => exact (Kd.R_reads' HO212.out).2.1)
                (case side5 => exact far_slice (IsS64.own_ne HI0.out HO212.out (by decide)))
                rintro e w34 ⟨rfl, hi, hb, hk⟩
                refine ⟨_, rfl, ?_⟩
                have n0_ := Aside0.mk (Kd.R_mono (Kd.R_keep (IsS64.apart (show IsS64 w0 _ g s0_0 t208 from by repeat (first | (with_reducible first | exact HI0.out | apply IsS64.alloc | apply IsS64.drewN | apply IsS64.drew | apply IsS64.set_1 | refine IsS64.far ?_ NB0_193.out _ | refine IsS64.far ?_ NB0_203.out _) | exact HI0.out)) (by (with_reducible repeat (first | apply Kd.R_alloc | apply Kd.R_drewN | apply Kd.R_drew)); exact HO_204000.out) (by decide)) hk (fun _ h => h.2)) (fun _ h => h.1))
                have n1_ := Aside0.mk (Kd.R_mono (Kd.R_keep (IsS64.apart (show IsS64 w0 _ g s0_0 t208 from by repeat (first | (with_reducible first | exact HI0.out | apply IsS64.alloc | apply IsS64.drewN | apply IsS64.drew | apply IsS64.set_1 | refine IsS64.far ?_ NB0_193.out _ | refine IsS64.far ?_ NB0_203.out _) | exact HI0.out)) (by (with_reducible repeat (first | apply Kd.R_alloc | apply Kd.R_drewN | apply Kd.R_drew)); exact HO_204001.out) (by decide)) hk (fun _ h => h.2)) (fun _ h => h.1))
                have n2_ := Aside0.mk (Kd.R_mono (Kd.R_keep (IsS64.apart (show IsS64 w0 _ g s0_0 t208 from by repeat (first | (with_reducible first | exact HI0.out | apply IsS64.alloc | apply IsS64.drewN | apply IsS64.drew | apply IsS64.set_1 | refine IsS64.far ?_ NB0_193.out _ | refine IsS64.far ?_ NB0_203.out _) | exact HI0.out)) (by (with_reducible repeat (first | apply Kd.R_alloc | apply Kd.R_drewN | apply Kd.R_drew)); exact HO_204002.out) (by decide)) hk (fun _ h => h.2)) (fun _ h => h.1))
                have n3_ := Aside0.mk (KeepBut.blk hk (g' := gb193) (o := .cells #[.slice none 0 0, .slice none 0 0, .slice none 0 0] 25 (0, 0)) (by (with_reducible repeat (first | refine blk_drewN ?_ _ | refine blk_drew ?_ | refine blk_alloc ?_ _)); exact BK193.out) NB193_0.out (by simp))
                have n4_ := Aside0.mk (KeepBut.blk hk (g' := gb203) (o := .cells #[.slice (some ⟨go16, 0, none⟩) x204000_1.length co16, u204001, u204002] 25 (0, 0)) (by (with_reducible repeat (first | refine blk_drewN ?_ _ | refine blk_drew ?_ | refine blk_alloc ?_ _)); exact BK203.out) NB203_0.out (by simp))
                have n5_ := Aside0.mk (Kd.R_mono (Kd.R_keep (IsS64.apart (show IsS64 w0 _ g s0_0 t208 from by repeat (first | (with_reducible first | exact HI0.out | apply IsS64.alloc | apply IsS64.drewN | apply IsS64.drew | apply IsS64.set_1 | refine IsS64.far ?_ NB0_193.out _ | refine IsS64.far ?_ NB0_203.out _) | exact HI0.out)) (by (with_reducible repeat (first | apply Kd.R_alloc | apply Kd.R_drewN | apply Kd.R_drew)); exact HO206.out) (by decide)) hk (fun _ h => h.2)) (fun _ h => h.1))
                have n6_ := Aside0.mk (Kd.R_mono (Kd.R_keep (IsS64.apart (show IsS64 w0 _ g s0_0 t208 from by repeat (first | (with_reducible first | exact HI0.out | apply IsS64.alloc | apply IsS64.drewN | apply IsS64.drew | apply IsS64.set_1 | refine IsS64.far ?_ NB0_193.out _ | refine IsS64.far ?_ NB0_203.out _) | exact HI0.out)) (by (with_reducible repeat (first | apply Kd.R_alloc | apply Kd.R_drewN | apply Kd.R_drew)); exact HO212.out) (by decide)) hk (fun _ h => h.2)) (fun _ h => h.1))
                have n7_ := Aside0.mk (KeepBut.trans (by repeat (first | (with_reducible first | exact HK.out | apply KeepBut.set_ | apply keep_drewN | apply keep_drew | apply keep_alloc | refine keep_far ?_ GW193.out _ | refine keep_far ?_ GW203.out _) | exact HK.out)) hk (.inl rfl))
                have n8_ := Aside0.mk (hb)
                have n9_ := Aside0.mk (hi)
                clear HO_204000
                clear HO_204001
                clear HO_204002
                clear BK193
                clear BK203
                clear HO206
                clear HO212
                clear HK
                clear HB
                clear HI0
                have HO_204000 := n0_
                have HO_204001 := n1_
                have HO_204002 := n2_
                have BK193 := n3_
                have BK203 := n4_
                have HO206 := n5_
                have HO212 := n6_
                have HK := n7_
                have HB := n8_
                have HI0 := n9_
                clear n0_ n1_ n2_ n3_ n4_ n5_ n6_ n7_ n8_ n9_
                (try clear hb)
                (try clear hb2)
                (try clear hk)
                (try clear hi)
                have p19 : 0 ≤ (x4_1 : Int) := of_decide_eq_true (by first | (with_reducible assumption) | assumption)
                have q19 : (x4_1 : Int) < ((x204001_1.length : Int) : Int) := of_decide_eq_true (by first | (with_reducible assumption) | assumption)
                obtain ⟨go19, co19, eo19, gb19, gl19, cl19, HG19⟩ := Kd.R_form HO_204001.out (by omega)
                (first | cases eo19 | (injection eo19 with ea_ en_ ec_; (first | subst ea_ | (injection ea_ with ea_; subst ea_)); subst ec_; clear en_))
                have GB19 := Aside0.mk gb19
                have GG19 := Aside0.mk HG19
                clear gb19 gl19 HG19
                obtain ⟨hx19_0, hf19_0⟩ := Kd.R_celln 0 HO_204001.out (x4_1 : Int) p19 q19
                replace p19 := eq_true p19
                replace q19 := eq_true q19
                have HN0_go19 := Aside0.mk (show g ≠ go19 from by have h_ := IsS64.own_ne HI0.out HO_204001.out (by decide); intro e_; exact h_ (by rw [e_]; rfl))
                have HP35 := Kd.R_putn HO_204001.out (x4_1 : Int) t213
                rw [← Ny215.out] at HP35
                have HQ35 := Aside0.mk HP35
                clear HP35
                refine hK.out _ _ ⟨(blk_cell BK203.out 0).trans rfl, (blk_cell BK203.out 1).trans rfl, (blk_cell BK203.out 2).trans rfl⟩ (fun hHeld => ?_)
                clear hK K
                refine norm_ (a' := ?_) ?_ ?_
                rotate_left
                · show Act.put _ (some 22) _ = _
                  simp only [Act.put, List.setIfInBounds_toArray, List.set_cons_zero, List.set_cons_succ, i64_w, i32_w]
                  rfl
                refine pure_ (i := 6) (N := some 23) (v := ?_) (a' := ?_) #[true, true, true, true, true, true, true, false] rfl rfl (any_of HT_.out (by kernel_rfl)) (fun _ _ _ h => h) (Or.inl ⟨by rfl, ?_⟩) ?_ ?_
                rotate_left
                · intro w'
                  go_simp
                  with_reducible rfl
                rotate_left
                · simp only [Act.put, List.setIfInBounds_toArray, List.set_cons_zero, List.set_cons_succ, i64_w, i32_w]
                  rfl
                refine last_ (i := 7) (N := none) #[true, true, true, true, true, true, true, true] rfl rfl (one_of HT_.out (by kernel_rfl)) (by decide) (fun K hK => ?_)
                refine skip_ (w1 := ?_) (by rfl) rfl ?_ ?_
                rotate_left
                · go_simp
                  rfl
                refine hK.out _ _ ?_
                clear hK K
                refine done_ (done_of HT_.out (by kernel_rfl)) ?_
                try go_wp2
                have n0_ : Aside0 (Kd.R (Kd.int .i64) 3 (w34.setCell ⟨go19, (x4_1 : Int).toNat, none⟩ (.int .i64 t213)) w.heap.size (fun k_ => some k_ ≠ (.slice (some ⟨go19, 0, none⟩) x204001_1.length co19 : Value).ownBlock ∧ some k_ ≠ (u204002 : Value).ownBlock ∧ some k_ ≠ (.slice Ao26 y204.length co26 : Value).ownBlock ∧ some k_ ≠ (.slice Ao33 y210.length co33 : Value).ownBlock) (.slice (some ⟨go16, 0, none⟩) x204000_1.length co16) y209) := ⟨by (with_reducible repeat (first | apply Kd.R_alloc | apply Kd.R_drewN | apply Kd.R_drew)); exact Kd.R_mono (Kd.R_far (p := ⟨go19, (x4_1 : Int).toNat, none⟩) (Kd.R_mono HO_204000.out (fun k_ hk => (⟨hk, fun e_ => hk.1.1 (by rw [e_]; rfl)⟩ : _ ∧ k_ ≠ go19))) (fun _ hk => hk.2) (.int .i64 t213)) (fun _ hk => ⟨hk.1.1.1, ⟨hk.1.1.2.1, ⟨hk.1.1.2.2, hk.1.2⟩⟩⟩)⟩
                have n1_ : Aside0 (Kd.R (Kd.int .i64) 3 (w34.setCell ⟨go19, (x4_1 : Int).toNat, none⟩ (.int .i64 t213)) w.heap.size (fun k_ => some k_ ≠ (.slice (some ⟨go16, 0, none⟩) x204000_1.length co16 : Value).ownBlock ∧ some k_ ≠ (u204002 : Value).ownBlock ∧ some k_ ≠ (.slice Ao26 y204.length co26 : Value).ownBlock ∧ some k_ ≠ (.slice Ao33 y210.length co33 : Value).ownBlock) (.slice (some ⟨go19, 0, none⟩) x204001_1.length co19) y215) := ⟨by (with_reducible repeat (first | apply Kd.R_alloc | apply Kd.R_drewN | apply Kd.R_drew)); exact Kd.R_mono HQ35.out (fun _ hk => ⟨hk.1.1, ⟨hk.1.2.1, ⟨hk.1.2.2, hk.2⟩⟩⟩)⟩
                have n2_ : Aside0 (Kd.R (Kd.int .i64) 3 (w34.setCell ⟨go19, (x4_1 : Int).toNat, none⟩ (.int .i64 t213)) w.heap.size (fun k_ => some k_ ≠ (.slice (some ⟨go16, 0, none⟩) x204000_1.length co16 : Value).ownBlock ∧ some k_ ≠ (.slice (some ⟨go19, 0, none⟩) x204001_1.length co19 : Value).ownBlock ∧ some k_ ≠ (.slice Ao26 y204.length co26 : Value).ownBlock ∧ some k_ ≠ (.slice Ao33 y210.length co33 : Value).ownBlock) u204002 x204002_1) := ⟨by (with_reducible repeat (first | apply Kd.R_alloc | apply Kd.R_drewN | apply Kd.R_drew)); exact Kd.R_mono (Kd.R_far (p := ⟨go19, (x4_1 : Int).toNat, none⟩) (Kd.R_mono HO_204002.out (fun k_ hk => (⟨hk, fun e_ => hk.1.2.1 (by rw [e_]; rfl)⟩ : _ ∧ k_ ≠ go19))) (fun _ hk => hk.2) (.int .i64 t213)) (fun _ hk => ⟨hk.1.1.1, ⟨hk.1.1.2.1, ⟨hk.1.1.2.2, hk.1.2⟩⟩⟩)⟩
                have n3_ : Aside0 (Kd.R (Kd.int .i64) 3 (w34.setCell ⟨go19, (x4_1 : Int).toNat, none⟩ (.int .i64 t213)) w.heap.size (fun k_ => some k_ ≠ (.slice (some ⟨go16, 0, none⟩) x204000_1.length co16 : Value).ownBlock ∧ some k_ ≠ (.slice (some ⟨go19, 0, none⟩) x204001_1.length co19 : Value).ownBlock ∧ some k_ ≠ (u204002 : Value).ownBlock ∧ some k_ ≠ (.slice Ao33 y210.length co33 : Value).ownBlock) (.slice Ao26 y204.length co26) y204) := ⟨by (with_reducible repeat (first | apply Kd.R_alloc | apply Kd.R_drewN | apply Kd.R_drew)); exact Kd.R_mono (Kd.R_far (p := ⟨go19, (x4_1 : Int).toNat, none⟩) (Kd.R_mono HO206.out (fun k_ hk => (⟨hk, fun e_ => hk.1.2.1 (by rw [e_]; rfl)⟩ : _ ∧ k_ ≠ go19))) (fun _ hk => hk.2) (.int .i64 t213)) (fun _ hk => ⟨hk.1.1.1, ⟨hk.1.1.2.1, ⟨hk.1.1.2.2, hk.1.2⟩⟩⟩)⟩
                have n4_ : Aside0 (Kd.R (Kd.int .i64) 3 (w34.setCell ⟨go19, (x4_1 : Int).toNat, none⟩ (.int .i64 t213)) w.heap.size (fun k_ => some k_ ≠ (.slice (some ⟨go16, 0, none⟩) x204000_1.length co16 : Value).ownBlock ∧ some k_ ≠ (.slice (some ⟨go19, 0, none⟩) x204001_1.length co19 : Value).ownBlock ∧ some k_ ≠ (u204002 : Value).ownBlock ∧ some k_ ≠ (.slice Ao26 y204.length co26 : Value).ownBlock) (.slice Ao33 y210.length co33) y210) := ⟨by (with_reducible repeat (first | apply Kd.R_alloc | apply Kd.R_drewN | apply Kd.R_drew)); exact Kd.R_mono (Kd.R_far (p := ⟨go19, (x4_1 : Int).toNat, none⟩) (Kd.R_mono HO212.out (fun k_ hk => (⟨hk, fun e_ => hk.1.1.2 (by rw [e_]; rfl)⟩ : _ ∧ k_ ≠ go19))) (fun _ hk => hk.2) (.int .i64 t213)) (fun _ hk => ⟨hk.1.1.1.1.2, ⟨hk.1.1.1.2, ⟨hk.1.1.2, hk.1.2⟩⟩⟩)⟩
                have n5_ : Aside0 ((w34.setCell ⟨go19, (x4_1 : Int).toNat, none⟩ (.int .i64 t213)).heap[gb193]? = some (.cells #[.slice none 0 0, .slice none 0 0, .slice none 0 0] 25 (0, 0))) := ⟨by (with_reducible repeat (first | refine blk_drewN ?_ _ | refine blk_drew ?_ | refine blk_alloc ?_ _)); refine blk_far ?_ (by have h_ := Kd.R_ne HO_204001.out BK193.out (by decide); intro e_; exact h_ (by rw [e_]; rfl)) _; (with_reducible repeat (first | refine blk_drewN ?_ _ | refine blk_drew ?_ | refine blk_alloc ?_ _)); exact BK193.out⟩
                have n6_ : Aside0 ((w34.setCell ⟨go19, (x4_1 : Int).toNat, none⟩ (.int .i64 t213)).heap[gb203]? = some (.cells #[.slice (some ⟨go16, 0, none⟩) x204000_1.length co16, .slice (some ⟨go19, 0, none⟩) x204001_1.length co19, u204002] 25 (0, 0))) := ⟨by (with_reducible repeat (first | refine blk_drewN ?_ _ | refine blk_drew ?_ | refine blk_alloc ?_ _)); refine blk_far ?_ (by have h_ := Kd.R_ne HO_204001.out BK203.out (by decide); intro e_; exact h_ (by rw [e_]; rfl)) _; (with_reducible repeat (first | refine blk_drewN ?_ _ | refine blk_drew ?_ | refine blk_alloc ?_ _)); exact BK203.out⟩
                have n7_ : Aside0 (IsS64 w0 (w34.setCell ⟨go19, (x4_1 : Int).toNat, none⟩ (.int .i64 t213)) g s0_0 t214) := ⟨by repeat (first | (with_reducible first | exact HI0.out | apply IsS64.alloc | apply IsS64.drewN | apply IsS64.drew | apply IsS64.set_1 | refine IsS64.far ?_ HN0_go19.out _ | refine IsS64.far ?_ NB0_193.out _ | refine IsS64.far ?_ NB0_203.out _) | exact HI0.out)⟩
                have n8_ : Aside0 (KeepBut w (w34.setCell ⟨go19, (x4_1 : Int).toNat, none⟩ (.int .i64 t213)) g none) := ⟨by repeat (first | (with_reducible first | exact HK.out | apply KeepBut.set_ | apply keep_drewN | apply keep_drew | apply keep_alloc | refine keep_far ?_ GB19.out _ | refine keep_far ?_ GW193.out _ | refine keep_far ?_ GW203.out _) | exact HK.out)⟩
                have n9_ : Aside0 (Below w0.heap.size w0 (w34.setCell ⟨go19, (x4_1 : Int).toNat, none⟩ (.int .i64 t213))) := ⟨by repeat (first | (with_reducible first | exact HB.out | apply below_alloc | apply pw_below_drewN | apply below_drew1 | refine below_set ?_ (Nat.le_trans HL.out GB19.out) | refine below_set ?_ (IsS64.ge HI0.out) | refine below_set ?_ GE193.out | refine below_set ?_ GE203.out) | exact HB.out)⟩
                (try clear HO_204000)
                (try clear HO_204001)
                (try clear HO_204002)
                (try clear HO206)
                (try clear HO212)
                (try clear BK193)
                (try clear BK203)
                (try clear HI0)
                (try clear HK)
                (try clear HB)
                generalize (w34.setCell ⟨go19, (x4_1 : Int).toNat, none⟩ (.int .i64 t213)) = w36 at n0_ n1_ n2_ n3_ n4_ n5_ n6_ n7_ n8_ n9_ ⊢
                have HO_204000 := n0_
                have HO_204001 := n1_
                have HO_204002 := n2_
                have HO206 := n3_
                have HO212 := n4_
                have BK193 := n5_
                have BK203 := n6_
                have HI0 := n7_
                have HK := n8_
                have HB := n9_
                clear n0_ n1_ n2_ n3_ n4_ n5_ n6_ n7_ n8_ n9_
                have n0_ := Aside0.mk (Kd.R_drew HO_204000.out)
                have n1_ := Aside0.mk (Kd.R_drew HO_204001.out)
                have n2_ := Aside0.mk (Kd.R_drew HO_204002.out)
                have n3_ := Aside0.mk (Kd.R_drew HO206.out)
                have n4_ := Aside0.mk (Kd.R_drew HO212.out)
                have n5_ := Aside0.mk (blk_drew BK193.out)
                have n6_ := Aside0.mk (blk_drew BK203.out)
                have n7_ := Aside0.mk (IsS64.drew HI0.out)
                have n8_ := Aside0.mk (keep_drew HK.out)
                have n9_ := Aside0.mk (below_drew1 HB.out)
                clear HO_204000
                clear HO_204001
                clear HO_204002
                clear HO206
                clear HO212
                clear BK193
                clear BK203
                clear HI0
                clear HK
                clear HB
                have HO_204000 := n0_
                have HO_204001 := n1_
                have HO_204002 := n2_
                have HO206 := n3_
                have HO212 := n4_
                have BK193 := n5_
                have BK203 := n6_
                have HI0 := n7_
                have HK := n8_
                have HB := n9_
                clear n0_ n1_ n2_ n3_ n4_ n5_ n6_ n7_ n8_ n9_
                refine start_ (n := 8) (S := fun w' => w'.cell? ⟨gb203, 0, none⟩ = some (.slice (some ⟨go16, 0, none⟩) x204000_1.length co16) ∧ w'.cell? ⟨gb203, 1, none⟩ = some (.slice (some ⟨go19, 0, none⟩) x204001_1.length co19) ∧ w'.cell? ⟨gb203, 2, none⟩ = some (u204002)) (ds := [7]) #[false, false, false, false, false, false, false, false] (by kernel_rfl) rfl rfl ⟨(blk_cell BK203.out 0).trans rfl, (blk_cell BK203.out 1).trans rfl, (blk_cell BK203.out 2).trans rfl⟩ (fun hHeld => ?_); refine with_tabW spec_l2Mem.tab7 spec_l2Mem.bits7 (fun HT_ HW_ => ?_)
                generalize w36.drew = w37 at HO_204000 HO_204001 HO_204002 HO206 HO212 BK193 BK203 HI0 HK HB HQ35 hHeld ⊢
                refine pure_ (i := 0) (N := some 24) (v := ?_) (a' := ?_) #[true, false, false, false, false, false, false, false] rfl rfl (any_of HT_.out (by kernel_rfl)) (fun _ _ _ h => h) (Or.inl ⟨by rfl, ?_⟩) ?_ ?_
                rotate_left
                · intro w'
                  go_simp
                  with_reducible rfl
                rotate_left
                · simp only [Act.put, List.setIfInBounds_toArray, List.set_cons_zero, List.set_cons_succ, i64_w, i32_w]
                  rfl
                refine pure_ (i := 2) (N := some 26) (v := ?_) (a' := ?_) #[true, false, true, false, false, false, false, false] rfl rfl (any_of HT_.out (by kernel_rfl)) (fun _ _ _ h => h) (Or.inl ⟨by rfl, ?_⟩) ?_ ?_
                rotate_left
                · intro w'
                  go_simp
                  with_reducible rfl
                rotate_left
                · simp only [Act.put, List.setIfInBounds_toArray, List.set_cons_zero, List.set_cons_succ, i64_w, i32_w]
                  rfl
                refine pure_ (i := 3) (N := some 27) (v := ?_) (a' := ?_) #[true, false, true, true, false, false, false, false] rfl rfl (any_of HT_.out (by kernel_rfl)) (fun _ _ _ h => h) (Or.inl ⟨by rfl, ?_⟩) ?_ ?_
                rotate_left
                · intro w'
                  go_simp
                  with_reducible rfl
                rotate_left
                · simp only [Act.put, List.setIfInBounds_toArray, List.set_cons_zero, List.set_cons_succ, i64_w, i32_w]
                  rfl
                refine take_ (i := 1) (N := some 25) (v := ?_) (a' := ?_) #[true, true, true, true, false, false, false, false] rfl rfl (take_ofW HT_.out HW_.out (by kernel_rfl)) (fun _ _ _ h => h) (Or.inl ⟨by rfl, ?_⟩) hHeld ?_ ?_
                rotate_left
                · rintro w' ⟨s0, s1, s2⟩
                  go_simp
                  with_reducible rfl
                rotate_left
                · simp only [Act.put, List.setIfInBounds_toArray, List.set_cons_zero, List.set_cons_succ, i64_w, i32_w]
                  rfl
                refine one_ (i := 4) (N := some 28) #[true, true, true, true, true, false, false, false] rfl rfl (one_of HT_.out (by kernel_rfl)) (by decide) (fun K hK => ?_)
                refine Kd.R_lit_step (Kd.int .i64) _ 3 ?hg (N := 28) ?hd (xs := ([0, 0, 1, 2, 7, 1000000] : List Int)) (inner := [.int .i64 0, .int .i64 0, .int .i64 1, .int .i64 2, .int .i64 7, .int .i64 1000000]) (ok := fun _ => True) (okp := fun _ => True) ?hr ?hp (fun _ hk => hk) trivial (Below.refl _ _) (Nat.le_refl _) (by simp) ?_; (case hd => rfl); (case hg => rfl); (case hr => first | (go_simp; done) | (go_simp; rfl)); (case hp => exact (Reps.one (show Kd.M (Kd.int .i64) _ _ _ 0 [.int .i64 0] from rfl) (Reps.one (show Kd.M (Kd.int .i64) _ _ _ 0 [.int .i64 0] from rfl) (Reps.one (show Kd.M (Kd.int .i64) _ _ _ 1 [.int .i64 1] from rfl) (Reps.one (show Kd.M (Kd.int .i64) _ _ _ 2 [.int .i64 2] from rfl) (Reps.one (show Kd.M (Kd.int .i64) _ _ _ 7 [.int .i64 7] from rfl) (Reps.one (show Kd.M (Kd.int .i64) _ _ _ 1000000 [.int .i64 1000000] from rfl) (Reps.none _ _))))))))
                intro v217 w38 ho39 hb hg_ hnew_
                clear hg_ hnew_
                (first | rw [← Ny216.out] at ho39 | (simp only [Int.reduceToNat] at ho39; rw [← Ny216.out] at ho39))
                have n0_ := Aside0.mk (Kd.R_elder' (by (with_reducible repeat (first | apply Kd.R_alloc | apply Kd.R_drewN | apply Kd.R_drew)); exact HO_204000.out) (Kd.R_base ho39) hb)
                have n1_ := Aside0.mk (Kd.R_elder' (by (with_reducible repeat (first | apply Kd.R_alloc | apply Kd.R_drewN | apply Kd.R_drew)); exact HO_204001.out) (Kd.R_base ho39) hb)
                have n2_ := Aside0.mk (Kd.R_elder' (by (with_reducible repeat (first | apply Kd.R_alloc | apply Kd.R_drewN | apply Kd.R_drew)); exact HO_204002.out) (Kd.R_base ho39) hb)
                have n3_ := Aside0.mk (Kd.R_elder' (by (with_reducible repeat (first | apply Kd.R_alloc | apply Kd.R_drewN | apply Kd.R_drew)); exact HO206.out) (Kd.R_base ho39) hb)
                have n4_ := Aside0.mk (Kd.R_elder' (by (with_reducible repeat (first | apply Kd.R_alloc | apply Kd.R_drewN | apply Kd.R_drew)); exact HO212.out) (Kd.R_base ho39) hb)
                have n5_ := Aside0.mk (Kd.R_lower (Kd.R_new' (Kd.R_new' (Kd.R_new' (Kd.R_new' (Kd.R_new' ho39 (Kd.R_lt (by (with_reducible repeat (first | apply Kd.R_alloc | apply Kd.R_drewN | apply Kd.R_drew)); exact HO_204000.out))) (Kd.R_lt (by (with_reducible repeat (first | apply Kd.R_alloc | apply Kd.R_drewN | apply Kd.R_drew)); exact HO_204001.out))) (Kd.R_lt (by (with_reducible repeat (first | apply Kd.R_alloc | apply Kd.R_drewN | apply Kd.R_drew)); exact HO_204002.out))) (Kd.R_lt (by (with_reducible repeat (first | apply Kd.R_alloc | apply Kd.R_drewN | apply Kd.R_drew)); exact HO206.out))) (Kd.R_lt (by (with_reducible repeat (first | apply Kd.R_alloc | apply Kd.R_drewN | apply Kd.R_drew)); exact HO212.out))) (keep_size (w := w) (g := g) (row := none) (by repeat (first | (with_reducible first | exact HK.out | apply KeepBut.set_ | apply keep_drewN | apply keep_drew | apply keep_alloc | refine keep_far ?_ GW193.out _ | refine keep_far ?_ GW203.out _) | exact HK.out))))
                have n6_ := Aside0.mk (blk_below (g := gb193) (o := .cells #[.slice none 0 0, .slice none 0 0, .slice none 0 0] 25 (0, 0)) (by (with_reducible repeat (first | refine blk_drewN ?_ _ | refine blk_drew ?_ | refine blk_alloc ?_ _)); exact BK193.out) hb)
                have n7_ := Aside0.mk (blk_below (g := gb203) (o := .cells #[.slice (some ⟨go16, 0, none⟩) x204000_1.length co16, .slice (some ⟨go19, 0, none⟩) x204001_1.length co19, u204002] 25 (0, 0)) (by (with_reducible repeat (first | refine blk_drewN ?_ _ | refine blk_drew ?_ | refine blk_alloc ?_ _)); exact BK203.out) hb)
                have n8_ := Aside0.mk (IsS64.below (by repeat (first | (with_reducible first | exact HI0.out | apply IsS64.alloc | apply IsS64.drewN | apply IsS64.drew | apply IsS64.set_1 | refine IsS64.far ?_ NB0_193.out _ | refine IsS64.far ?_ NB0_203.out _) | exact HI0.out)) hb)
                have n9_ := Aside0.mk (KeepBut.trans (by repeat (first | (with_reducible first | exact HK.out | apply KeepBut.set_ | apply keep_drewN | apply keep_drew | apply keep_alloc | refine keep_far ?_ GW193.out _ | refine keep_far ?_ GW203.out _) | exact HK.out)) (KeepBut.of_below hb g none) (.inl rfl))
                have n10_ := Aside0.mk (below_step (by repeat (first | (with_reducible first | exact HB.out | apply below_alloc | apply pw_below_drewN | apply below_drew1 | refine below_set ?_ (IsS64.ge HI0.out) | refine below_set ?_ GE193.out | refine below_set ?_ GE203.out) | exact HB.out)) hb)
                clear HO_204000
                clear HO_204001
                clear HO_204002
                clear HO206
                clear HO212
                clear BK193
                clear BK203
                clear HI0
                clear HK
                clear HB
                have HO_204000 := n0_
                have HO_204001 := n1_
                have HO_204002 := n2_
                have HO206 := n3_
                have HO212 := n4_
                have HO218 := n5_
                have BK193 := n6_
                have BK203 := n7_
                have HI0 := n8_
                have HK := n9_
                have HB := n10_
                clear n0_ n1_ n2_ n3_ n4_ n5_ n6_ n7_ n8_ n9_ n10_
                clear hb ho39
                obtain ⟨Ao40, co40, eo40⟩ := Kd.R_slice HO218.out
                (first | subst eo40 | (injection eo40 with f1_ f2_ f3_; have f4_ := f1_.symm; have f5_ := f3_.symm; clear f1_ f2_ f3_; subst f4_; subst f5_))
                refine hK.out _ _ ⟨(blk_cell BK203.out 0).trans rfl, (blk_cell BK203.out 1).trans rfl, (blk_cell BK203.out 2).trans rfl⟩ (fun hHeld => ?_)
                clear hK K
                refine norm_ (a' := ?_) ?_ ?_
                rotate_left
                · show Act.put _ (some 28) _ = _
                  simp only [Act.put, List.setIfInBounds_toArray, List.set_cons_zero, List.set_cons_succ, i64_w, i32_w]
                  rfl
                refine one_ (i := 5) (N := some 29) #[true, true, true, true, true, true, false, false] rfl rfl (one_of HT_.out (by kernel_rfl)) (by decide) (fun K hK => ?_)
                refine goes_ Tryd.func38 (by kernel_rfl) rfl #[.pointer (some ⟨g, 0, none⟩), .slice Ao40 y216.length co40] (by rfl) rfl rfl (by (try simp only [List.map_toArray, List.map_cons, List.map_nil]); first | done | rfl | (simp only [List.length_drop, List.length_take]; rfl)) ?_
                with_reducible refine (spec_l12Rd_num.calls k1 g s0_0 t214 _ _ y216 t219 t220 w0 _ ?side1 ?side2 ?side3 ?side4 ?side5 A20.out).mono ?_
                (case side1 => repeat (first | (with_reducible first | exact HI0.out | apply IsS64.alloc | apply IsS64.drewN | apply IsS64.drew | apply IsS64.set_1 | refine IsS64.far ?_ NB0_193.out _ | refine IsS64.far ?_ NB0_203.out _) | exact HI0.out))
                (case side2 => repeat (first | (with_reducible first | exact HB.out | apply below_alloc | apply pw_below_drewN | apply below_drew1 | refine below_set ?_ (IsS64.ge HI0.out) | refine below_set ?_ GE193.out | refine below_set ?_ GE203.out) | exact HB.out))
                (case side3 => repeat (first | exact (Kd.R_reads' HO218.out).2.2 | (with_reducible refine Kd.C_alloc ?_ _) | (with_reducible refine Kd.C_drewN ?_ _) | (with_reducible refine Kd.C_drew ?_)))
                (case side4 => exact (Kd.R_reads' HO218.out).2.1)
                (case side5 => exact far_slice (IsS64.own_ne HI0.out HO218.out (by decide)))
                rintro e w41 ⟨rfl, hi, hb, hk⟩
                refine ⟨_, rfl, ?_⟩
                have n0_ := Aside0.mk (Kd.R_mono (Kd.R_keep (IsS64.apart (show IsS64 w0 _ g s0_0 t214 from by repeat (first | (with_reducible first | exact HI0.out | apply IsS64.alloc | apply IsS64.drewN | apply IsS64.drew | apply IsS64.set_1 | refine IsS64.far ?_ NB0_193.out _ | refine IsS64.far ?_ NB0_203.out _) | exact HI0.out)) (by (with_reducible repeat (first | apply Kd.R_alloc | apply Kd.R_drewN | apply Kd.R_drew)); exact HO_204000.out) (by decide)) hk (fun _ h => h.2)) (fun _ h => h.1))
                have n1_ := Aside0.mk (Kd.R_mono (Kd.R_keep (IsS64.apart (show IsS64 w0 _ g s0_0 t214 from by repeat (first | (with_reducible first | exact HI0.out | apply IsS64.alloc | apply IsS64.drewN | apply IsS64.drew | apply IsS64.set_1 | refine IsS64.far ?_ NB0_193.out _ | refine IsS64.far ?_ NB0_203.out _) | exact HI0.out)) (by (with_reducible repeat (first | apply Kd.R_alloc | apply Kd.R_drewN | apply Kd.R_drew)); exact HO_204001.out) (by decide)) hk (fun _ h => h.2)) (fun _ h => h.1))
                have n2_ := Aside0.mk (Kd.R_mono (Kd.R_keep (IsS64.apart (show IsS64 w0 _ g s0_0 t214 from by repeat (first | (with_reducible first | exact HI0.out | apply IsS64.alloc | apply IsS64.drewN | apply IsS64.drew | apply IsS64.set_1 | refine IsS64.far ?_ NB0_193.out _ | refine IsS64.far ?_ NB0_203.out _) | exact HI0.out)) (by (with_reducible repeat (first | apply Kd.R_alloc | apply Kd.R_drewN | apply Kd.R_drew)); exact HO_204002.out) (by decide)) hk (fun _ h => h.2)) (fun _ h => h.1))
                have n3_ := Aside0.mk (KeepBut.blk hk (g' := gb193) (o := .cells #[.slice none 0 0, .slice none 0 0, .slice none 0 0] 25 (0, 0)) (by (with_reducible repeat (first | refine blk_drewN ?_ _ | refine blk_drew ?_ | refine blk_alloc ?_ _)); exact BK193.out) NB193_0.out (by simp))
                have n4_ := Aside0.mk (KeepBut.blk hk (g' := gb203) (o := .cells #[.slice (some ⟨go16, 0, none⟩) x204000_1.length co16, .slice (some ⟨go19, 0, none⟩) x204001_1.length co19, u204002] 25 (0, 0)) (by (with_reducible repeat (first | refine blk_drewN ?_ _ | refine blk_drew ?_ | refine blk_alloc ?_ _)); exact BK203.out) NB203_0.out (by simp))
                have n5_ := Aside0.mk (Kd.R_mono (Kd.R_keep (IsS64.apart (show IsS64 w0 _ g s0_0 t214 from by repeat (first | (with_reducible first | exact HI0.out | apply IsS64.alloc | apply IsS64.drewN | apply IsS64.drew | apply IsS64.set_1 | refine IsS64.far ?_ NB0_193.out _ | refine IsS64.far ?_ NB0_203.out _) | exact HI0.out)) (by (with_reducible repeat (first | apply Kd.R_alloc | apply Kd.R_drewN | apply Kd.R_drew)); exact HO206.out) (by decide)) hk (fun _ h => h.2)) (fun _ h => h.1))
                have n6_ := Aside0.mk (Kd.R_mono (Kd.R_keep (IsS64.apart (show IsS64 w0 _ g s0_0 t214 from by repeat (first | (with_reducible first | exact HI0.out | apply IsS64.alloc | apply IsS64.drewN | apply IsS64.drew | apply IsS64.set_1 | refine IsS64.far ?_ NB0_193.out _ | refine IsS64.far ?_ NB0_203.out _) | exact HI0.out)) (by (with_reducible repeat (first | apply Kd.R_alloc | apply Kd.R_drewN | apply Kd.R_drew)); exact HO212.out) (by decide)) hk (fun _ h => h.2)) (fun _ h => h.1))
                have n7_ := Aside0.mk (Kd.R_mono (Kd.R_keep (IsS64.apart (show IsS64 w0 _ g s0_0 t214 from by repeat (first | (with_reducible first | exact HI0.out | apply IsS64.alloc | apply IsS64.drewN | apply IsS64.drew | apply IsS64.set_1 | refine IsS64.far ?_ NB0_193.out _ | refine IsS64.far ?_ NB0_203.out _) | exact HI0.out)) (by (with_reducible repeat (first | apply Kd.R_alloc | apply Kd.R_drewN | apply Kd.R_drew)); exact HO218.out) (by decide)) hk (fun _ h => h.2)) (fun _ h => h.1))
                have n8_ := Aside0.mk (KeepBut.trans (by repeat (first | (with_reducible first | exact HK.out | apply KeepBut.set_ | apply keep_drewN | apply keep_drew | apply keep_alloc | refine keep_far ?_ GW193.out _ | refine keep_far ?_ GW203.out _) | exact HK.out)) hk (.inl rfl))
                have n9_ := Aside0.mk (hb)
                have n10_ := Aside0.mk (hi)
                clear HO_204000
                clear HO_204001
                clear HO_204002
                clear BK193
                clear BK203
                clear HO206
                clear HO212
                clear HO218
                clear HK
                clear HB
                clear HI0
                have HO_204000 := n0_
                have HO_204001 := n1_
                have HO_204002 := n2_
                have BK193 := n3_
                have BK203 := n4_
                have HO206 := n5_
                have HO212 := n6_
                have HO218 := n7_
                have HK := n8_
                have HB := n9_
                have HI0 := n10_
                clear n0_ n1_ n2_ n3_ n4_ n5_ n6_ n7_ n8_ n9_ n10_
                (try clear hb)
                (try clear hb2)
                (try clear hk)
                (try clear hi)
                have p22 : 0 ≤ (x4_1 : Int) := of_decide_eq_true (by first | (with_reducible assumption) | assumption)
                have q22 : (x4_1 : Int) < ((x204002_1.length : Int) : Int) := of_decide_eq_true (by first | (with_reducible assumption) | assumption)
                obtain ⟨go22, co22, eo22, gb22, gl22, cl22, HG22⟩ := Kd.R_form HO_204002.out (by omega)
                (first | cases eo22 | (injection eo22 with ea_ en_ ec_; (first | subst ea_ | (injection ea_ with ea_; subst ea_)); subst ec_; clear en_))
                have GB22 := Aside0.mk gb22
                have GG22 := Aside0.mk HG22
                clear gb22 gl22 HG22
                obtain ⟨hx22_0, hf22_0⟩ := Kd.R_celln 0 HO_204002.out (x4_1 : Int) p22 q22
                replace p22 := eq_true p22
                replace q22 := eq_true q22
                have HN0_go22 := Aside0.mk (show g ≠ go22 from by have h_ := IsS64.own_ne HI0.out HO_204002.out (by decide); intro e_; exact h_ (by rw [e_]; rfl))
                have HP42 := Kd.R_putn HO_204002.out (x4_1 : Int) t219
                rw [← Ny221.out] at HP42
                have HQ42 := Aside0.mk HP42
                clear HP42
                refine hK.out _ _ ⟨(blk_cell BK203.out 0).trans rfl, (blk_cell BK203.out 1).trans rfl, (blk_cell BK203.out 2).trans rfl⟩ (fun hHeld => ?_)
                clear hK K
                refine norm_ (a' := ?_) ?_ ?_
                rotate_left
                · show Act.put _ (some 29) _ = _
                  simp only [Act.put, List.setIfInBounds_toArray, List.set_cons_zero, List.set_cons_succ, i64_w, i32_w]
                  rfl
                refine pure_ (i := 6) (N := some 30) (v := ?_) (a' := ?_) #[true, true, true, true, true, true, true, false] rfl rfl (any_of HT_.out (by kernel_rfl)) (fun _ _ _ h => h) (Or.inl ⟨by rfl, ?_⟩) ?_ ?_
                rotate_left
                · intro w'
                  go_simp
                  with_reducible rfl
                rotate_left
                · simp only [Act.put, List.setIfInBounds_toArray, List.set_cons_zero, List.set_cons_succ, i64_w, i32_w]
                  rfl
                refine last_ (i := 7) (N := none) #[true, true, true, true, true, true, true, true] rfl rfl (one_of HT_.out (by kernel_rfl)) (by decide) (fun K hK => ?_)
                refine skip_ (w1 := ?_) (by rfl) rfl ?_ ?_
                rotate_left
                · go_simp
                  rfl
                refine hK.out _ _ ?_
                clear hK K
                refine done_ (done_of HT_.out (by kernel_rfl)) ?_
                try go_wp2
                go_roundg k1
                case measure => have := HK1.out; omega
                case rel => exact ⟨(wrap64 (x4_1 + 1)), (t220), (y209), (y215), (y221), (.slice (some ⟨go16, 0, none⟩) x204000_1.length co16), (.slice (some ⟨go19, 0, none⟩) x204001_1.length co19), (.slice (some ⟨go22, 0, none⟩) x204002_1.length co22), (by first | rfl | (simp; done) | (simp [*]; done)), H', ⟨by have := HK1.out; omega⟩, ⟨by (with_reducible repeat (first | apply Kd.R_alloc | apply Kd.R_drewN | apply Kd.R_drew)); exact Kd.R_mono (Kd.R_far (p := ⟨go22, (x4_1 : Int).toNat, none⟩) (Kd.R_mono HO_204000.out (fun k_ hk => (⟨hk, fun e_ => hk.1.2.1 (by rw [e_]; rfl)⟩ : _ ∧ k_ ≠ go22))) (fun _ hk => hk.2) (.int .i64 t219)) (fun _ hk => ⟨hk.1.1.1, hk.1.1.2.1⟩)⟩, ⟨by (with_reducible repeat (first | apply Kd.R_alloc | apply Kd.R_drewN | apply Kd.R_drew)); exact Kd.R_mono (Kd.R_far (p := ⟨go22, (x4_1 : Int).toNat, none⟩) (Kd.R_mono HO_204001.out (fun k_ hk => (⟨hk, fun e_ => hk.1.2.1 (by rw [e_]; rfl)⟩ : _ ∧ k_ ≠ go22))) (fun _ hk => hk.2) (.int .i64 t219)) (fun _ hk => ⟨hk.1.1.1, hk.1.1.2.1⟩)⟩, ⟨by (with_reducible repeat (first | apply Kd.R_alloc | apply Kd.R_drewN | apply Kd.R_drew)); exact Kd.R_mono HQ42.out (fun _ hk => ⟨hk.1.1, hk.1.2.1⟩)⟩, ⟨by (with_reducible repeat (first | refine blk_drewN ?_ _ | refine blk_drew ?_ | refine blk_alloc ?_ _)); refine blk_far ?_ (by have h_ := Kd.R_ne HO_204002.out BK193.out (by decide); intro e_; exact h_ (by rw [e_]; rfl)) _; (with_reducible repeat (first | refine blk_drewN ?_ _ | refine blk_drew ?_ | refine blk_alloc ?_ _)); exact BK193.out⟩, ⟨by (with_reducible repeat (first | refine blk_drewN ?_ _ | refine blk_drew ?_ | refine blk_alloc ?_ _)); refine blk_far ?_ (by have h_ := Kd.R_ne HO_204002.out BK203.out (by decide); intro e_; exact h_ (by rw [e_]; rfl)) _; (with_reducible repeat (first | refine blk_drewN ?_ _ | refine blk_drew ?_ | refine blk_alloc ?_ _)); exact BK203.out⟩, ⟨by repeat (first | (with_reducible first | exact HI0.out | apply IsS64.alloc | apply IsS64.drewN | apply IsS64.drew | apply IsS64.set_1 | refine IsS64.far ?_ HN0_go22.out _ | refine IsS64.far ?_ NB0_193.out _ | refine IsS64.far ?_ NB0_203.out _) | exact HI0.out)⟩, ⟨by repeat (first | (with_reducible first | exact HK.out | apply KeepBut.set_ | apply keep_drewN | apply keep_drew | apply keep_alloc | refine keep_far ?_ GB22.out _ | refine keep_far ?_ GW193.out _ | refine keep_far ?_ GW203.out _) | exact HK.out)⟩, ⟨by repeat (first | (with_reducible first | exact HB.out | apply below_alloc | apply pw_below_drewN | apply below_drew1 | refine below_set ?_ (Nat.le_trans HL.out GB22.out) | refine below_set ?_ (IsS64.ge HI0.out) | refine below_set ?_ GE193.out | refine below_set ?_ GE203.out) | exact HB.out)⟩⟩
              · rw [if_neg c21] at H
                exact absurd H (by simp)
            · rw [if_neg c18] at H
              exact absurd H (by simp)
          · rw [if_neg c15] at H
            exact absurd H (by simp)
        · rw [if_neg c14] at H
          exact absurd H (by simp)
      · rw [if_neg c12] at H
        have c12b0 : decide (x4_1 < 4) = false := decide_eq_false c12
        clear c12
        simp only [Option.some.injEq, Prod.mk.injEq] at H
        obtain ⟨rfl, rfl, rfl, rfl⟩ := H
        have hnb43 := NB203_193.out
        have hnc43 := NB193_203.out
        have hnb44 := NB203_0.out
        have hnc44 := NB0_203.out
        have hcz45_0 : wr.cell? ⟨gb203, 0, none⟩ = some (u204000) := (blk_cell BK203.out 0).trans rfl
        have hcz45_1 : wr.cell? ⟨gb203, 1, none⟩ = some (u204001) := (blk_cell BK203.out 1).trans rfl
        have hcz45_2 : wr.cell? ⟨gb203, 2, none⟩ = some (u204002) := (blk_cell BK203.out 2).trans rfl
        have hfz45_0 := blk_frozen BK203.out 0
        have hfz45_1 := blk_frozen BK203.out 1
        have hfz45_2 := blk_frozen BK203.out 2
        obtain ⟨Ao46, co46, eo46⟩ := Kd.R_slice HO_204000.out
        subst eo46
        have hnb47 := NB193_0.out
        have hnc47 := NB0_193.out
        have hcz48_0 : wr.cell? ⟨gb193, 0, none⟩ = some (.slice none 0 0) := (blk_cell BK193.out 0).trans rfl
        have hcz48_1 : wr.cell? ⟨gb193, 1, none⟩ = some (.slice none 0 0) := (blk_cell BK193.out 1).trans rfl
        have hcz48_2 : wr.cell? ⟨gb193, 2, none⟩ = some (.slice none 0 0) := (blk_cell BK193.out 2).trans rfl
        have hfz48_0 := blk_frozen BK193.out 0
        have hfz48_1 := blk_frozen BK193.out 1
        have hfz48_2 := blk_frozen BK193.out 2
        obtain ⟨Ao49, co49, eo49⟩ := Kd.R_slice HO_204001.out
        subst eo49
        obtain ⟨Ao50, co50, eo50⟩ := Kd.R_slice HO_204002.out
        subst eo50
        go_wp2
        refine bodyPost_ret (results_cell_row rfl _ _ gb193 25 #[.slice Ao46 x204000_1.length co46, .slice Ao49 x204001_1.length co49, .slice Ao50 x204002_1.length co50] (0, 0) _ rfl (by (with_reducible repeat (first | refine blk_drewN ?_ _ | refine blk_drew ?_ | refine blk_alloc ?_ _)); refine blk_put (cs := #[.slice Ao46 x204000_1.length co46, .slice Ao49 x204001_1.length co49, .slice none 0 0]) ?_ 2 _ rfl; (with_reducible repeat (first | refine blk_drewN ?_ _ | refine blk_drew ?_ | refine blk_alloc ?_ _)); refine blk_put (cs := #[.slice Ao46 x204000_1.length co46, .slice none 0 0, .slice none 0 0]) ?_ 1 _ rfl; (with_reducible repeat (first | refine blk_drewN ?_ _ | refine blk_drew ?_ | refine blk_alloc ?_ _)); refine blk_put (cs := #[.slice none 0 0, .slice none 0 0, .slice none 0 0]) ?_ 0 _ rfl; (with_reducible repeat (first | refine blk_drewN ?_ _ | refine blk_drew ?_ | refine blk_alloc ?_ _)); exact BK193.out) Tryd.underlying25 rfl (by kernel_rfl)) rfl ?_
        exact ⟨_, _, _, by first | rfl | (simp [errW_none, errW_some] <;> rfl) | (simp [*, errW_none, errW_some] <;> rfl), by (with_reducible repeat (first | apply Kd.R_alloc | apply Kd.R_drewN | apply Kd.R_drew)); exact Kd.R_mono (Kd.R_far (p := ⟨gb193, 2, none⟩) (Kd.R_far (p := ⟨gb193, 1, none⟩) (Kd.R_far (p := ⟨gb193, 0, none⟩) (Kd.R_types HO_204000.out BK193.out (by decide)) (fun _ hk => hk.2) (.slice Ao46 x204000_1.length co46)) (fun _ hk => hk.2) (.slice Ao49 x204001_1.length co49)) (fun _ hk => hk.2) (.slice Ao50 x204002_1.length co50)) (fun _ hk => ⟨hk.1.1, hk.1.2⟩), by (with_reducible repeat (first | apply Kd.R_alloc | apply Kd.R_drewN | apply Kd.R_drew)); exact Kd.R_mono (Kd.R_far (p := ⟨gb193, 2, none⟩) (Kd.R_far (p := ⟨gb193, 1, none⟩) (Kd.R_far (p := ⟨gb193, 0, none⟩) (Kd.R_types HO_204001.out BK193.out (by decide)) (fun _ hk => hk.2) (.slice Ao46 x204000_1.length co46)) (fun _ hk => hk.2) (.slice Ao49 x204001_1.length co49)) (fun _ hk => hk.2) (.slice Ao50 x204002_1.length co50)) (fun _ hk => ⟨hk.1.1, hk.1.2⟩), by (with_reducible repeat (first | apply Kd.R_alloc | apply Kd.R_drewN | apply Kd.R_drew)); exact Kd.R_mono (Kd.R_far (p := ⟨gb193, 2, none⟩) (Kd.R_far (p := ⟨gb193, 1, none⟩) (Kd.R_far (p := ⟨gb193, 0, none⟩) (Kd.R_types HO_204002.out BK193.out (by decide)) (fun _ hk => hk.2) (.slice Ao46 x204000_1.length co46)) (fun _ hk => hk.2) (.slice Ao49 x204001_1.length co49)) (fun _ hk => hk.2) (.slice Ao50 x204002_1.length co50)) (fun _ hk => ⟨hk.1.1, hk.1.2⟩), by repeat (first | (with_reducible first | exact HI0.out | apply IsS64.alloc | apply IsS64.drewN | apply IsS64.drew | apply IsS64.set_1 | refine IsS64.far ?_ NB0_193.out _ | refine IsS64.far ?_ NB0_203.out _) | exact HI0.out), by repeat (first | (with_reducible first | exact HB.out | apply below_alloc | apply pw_below_drewN | apply below_drew1 | refine below_set ?_ (IsS64.ge HI0.out) | refine below_set ?_ GE193.out | refine below_set ?_ GE203.out) | exact HB.out), by repeat (first | (with_reducible first | exact HK.out | apply KeepBut.set_ | apply keep_drewN | apply keep_drew | apply keep_alloc | refine keep_far ?_ GW193.out _ | refine keep_far ?_ GW203.out _) | exact HK.out)⟩

end Go.Proofs.YtlgogdpnakbhiaaDoor.HFnAddr
