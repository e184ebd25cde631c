-- Made by a program of this session (hp.py) over the kit's print: functions told by hand stand beside printed ones. Lean checks it.
import Derived.Test.YtphblfmjdiigkaaGreatDoorTFnNetBentHFnNetBentx0
import Derived.Test.YtphblfmjdiigkaaGreatDoorTFnNetBentHFnNetBentx5
import Derived.Test.YtphblfmjdiigkaaGreatDoorTFnNetBentHFnNetBentx6
import Derived.Test.YtphblfmjdiigkaaGreatDoorTFnNetBentHFnNetBentx7
namespace Go.Proofs.YtphblfmjdiigkaaGreatDoor.HFnNetBent
open Go.RowKit Go.Proofs.YtphblfmjdiigkaaGreatDoorW.PrintWords Go.Proofs.YtphblfmjdiigkaaGreatDoorW.PrintLast Go.Proofs.YtphblfmjdiigkaaGreatDoorW.PrintMore
attribute [local go_sem] max2_int min2_int max_two min_two max_three min_three max_four min_four   -- for this text's walks alone
set_option linter.unusedVariables false
set_option linter.unusedSimpArgs false

/-! ### spec_l7Bent: function 34 -/
def spec_l7Bent.j0 : Nat → List Int → Int → List (S43) → List (S66) → Option ((List (S43)) × (List (S66)) × Int)
  | 0, _, _, _, _ => none
  | k + 1, x1000, x1001, x275000, x275001 => if (x275000.length : Int) = 0 then (some (x275000, x275001, x1001)) else ((spec_l12Rd_pick.f k x1000 x1001 (x275000.length : Int)).bind fun bt283 => ((spec_l12Rd_pick.f k x1000 bt283.2 40).bind fun bt285 => (if bt285.1 = 0 then (if 0 ≤ bt283.1 then (if bt283.1 < (x275000.length : Int) then (some ((x275000.set (bt283.1 : Int).toNat (⟨(rd_T43 x275000 bt283.1).f0, (rd_T43 x275000 bt283.1).f1, (⟨2, bt283.1, (⟨0, 0⟩ : S39), false⟩ : S41), (⟨(rd_T43 x275000 bt283.1).f3.f0, (rd_T43 x275000 bt283.1).f3.f1, (⟨(rd_T43 x275000 bt283.1).f3.f2.f0, (rd_T43 x275000 bt283.1).f3.f2.f1⟩ : S39), (rd_T43 x275000 bt283.1).f3.f3⟩ : S41)⟩ : S43)), x275001, bt285.2)) else (none)) else (none)) else (if bt285.1 = 1 then ((spec_l12Rd_num.f k x1000 bt285.2 (([0, 6, 14, 4] : List Int))).bind fun bt291 => (if 0 ≤ bt283.1 then (if bt283.1 < (x275000.length : Int) then (some ((x275000.set (bt283.1 : Int).toNat (⟨bt291.1, (rd_T43 x275000 bt283.1).f1, (⟨(rd_T43 x275000 bt283.1).f2.f0, (rd_T43 x275000 bt283.1).f2.f1, (⟨(rd_T43 x275000 bt283.1).f2.f2.f0, (rd_T43 x275000 bt283.1).f2.f2.f1⟩ : S39), (rd_T43 x275000 bt283.1).f2.f3⟩ : S41), (⟨(rd_T43 x275000 bt283.1).f3.f0, (rd_T43 x275000 bt283.1).f3.f1, (⟨(rd_T43 x275000 bt283.1).f3.f2.f0, (rd_T43 x275000 bt283.1).f3.f2.f1⟩ : S39), (rd_T43 x275000 bt283.1).f3.f3⟩ : S41)⟩ : S43)), x275001, bt291.2)) else (none)) else (none))) else (if bt285.1 = 2 then ((spec_l12Rd_num.f k x1000 bt285.2 (([(-1), 1, 1001] : List Int))).bind fun bt297 => (if 0 ≤ bt283.1 then (if bt283.1 < (x275000.length : Int) then (some ((x275000.set (bt283.1 : Int).toNat (⟨(rd_T43 x275000 bt283.1).f0, bt297.1, (⟨(rd_T43 x275000 bt283.1).f2.f0, (rd_T43 x275000 bt283.1).f2.f1, (⟨(rd_T43 x275000 bt283.1).f2.f2.f0, (rd_T43 x275000 bt283.1).f2.f2.f1⟩ : S39), (rd_T43 x275000 bt283.1).f2.f3⟩ : S41), (⟨(rd_T43 x275000 bt283.1).f3.f0, (rd_T43 x275000 bt283.1).f3.f1, (⟨(rd_T43 x275000 bt283.1).f3.f2.f0, (rd_T43 x275000 bt283.1).f3.f2.f1⟩ : S39), (rd_T43 x275000 bt283.1).f3.f3⟩ : S41)⟩ : S43)), x275001, bt297.2)) else (none)) else (none))) else (if bt285.1 = 3 then ((spec_l12Rd_pick.f k x1000 bt285.2 5).bind fun bt300 => ((spec_l12Rd_pick.f k x1000 bt300.2 9).bind fun bt302 => (if x275001.length < 5864062014805 then (some (x275000, (x275001 ++ [(⟨(⟨bt300.1, 5⟩ : S39), bt302.1⟩ : S66)]), bt302.2)) else (none)))) else (some (x275000, x275001, bt285.2))))))))
def spec_l7Bent.f (k : Nat) (s0_0 : List Int) (s0_1 : Int) : Option ((List (S43)) × (List (S66)) × Int) := (spec_l7Net.f k s0_0 s0_1).bind fun bt267 => ((spec_l12Rd_pick.f k s0_0 bt267.2.2 3).bind fun bt275 => (if bt275.1 = 0 then ((spec_l7Turned.f k bt267.1 bt267.2.1).bind fun bt277 => (spec_l7Bent.j0 k s0_0 bt275.2 bt277.1 bt277.2)) else (spec_l7Bent.j0 k s0_0 bt275.2 bt267.1 bt267.2.1)))
def spec_l7Bent.T11 : Bool × List (List Nat × List Nat) := (true, [([], []), ([0], [0]), ([], []), ([], []), ([], []), ([3, 4], [3, 4]), ([1, 2, 0, 1, 2, 3, 4, 5], [1, 2]), ([6, 0, 1, 2, 3, 4, 5], [6]), ([7, 5, 5, 0, 1, 2, 3, 4, 5], [5, 7])])
def spec_l7Bent.B11 : List Nat := [0, 1, 0, 0, 0, 24, 63, 127, 255]
theorem spec_l7Bent.tab11 : rtab .any (opsOf Tryz.f34 11) = spec_l7Bent.T11 := by kernel_rfl
theorem spec_l7Bent.bits11 : waitsOk spec_l7Bent.T11.2 spec_l7Bent.B11 = true := by kernel_rfl
def spec_l7Bent.T13 : Bool × List (List Nat × List Nat) := (true, [([], []), ([0], [0]), ([], []), ([], []), ([], []), ([3, 4], [3, 4]), ([1, 2, 0, 1, 2, 3, 4, 5], [1, 2]), ([6, 0, 1, 2, 3, 4, 5], [6]), ([7, 5, 5, 0, 1, 2, 3, 4, 5], [5, 7])])
def spec_l7Bent.B13 : List Nat := [0, 1, 0, 0, 0, 24, 63, 127, 255]
theorem spec_l7Bent.tab13 : rtab .any (opsOf Tryz.f34 13) = spec_l7Bent.T13 := by kernel_rfl
theorem spec_l7Bent.bits13 : waitsOk spec_l7Bent.T13.2 spec_l7Bent.B13 = true := by kernel_rfl
def spec_l7Bent.T15 : Bool × List (List Nat × List Nat) := (true, [([], []), ([0], [0]), ([], []), ([2], [2]), ([3], [3]), ([], []), ([5, 3], [5]), ([4, 6], [4, 6]), ([7], [7]), ([1, 8, 6], [1, 8]), ([0, 1, 2, 3, 4, 5, 6, 7, 8, 9], []), ([10, 9, 9, 0, 1, 2, 3, 4, 5, 6, 7, 8, 9], [9, 10])])
def spec_l7Bent.B15 : List Nat := [0, 1, 0, 4, 12, 0, 44, 124, 252, 511, 1023, 2047]
theorem spec_l7Bent.tab15 : rtab .any (opsOf Tryz.f34 15) = spec_l7Bent.T15 := by kernel_rfl
theorem spec_l7Bent.bits15 : waitsOk spec_l7Bent.T15.2 spec_l7Bent.B15 = true := by kernel_rfl
set_option maxHeartbeats 8000000 in
set_option maxRecDepth 100000 in
theorem spec_l7Bent.calls (k : Nat) (g : Nat) (s0_0 : List Int) (s0_1 : Int) (r1 : List (S43)) (r2 : List (S66)) (r3 : Int) (w0 w : World) (hI : IsS116 w0 w g s0_0 s0_1) (hB : Below w0.heap.size w0 w) (h : spec_l7Bent.f k s0_0 s0_1 = some (r1, r2, r3)) :
    Calls Tryz.prog 34 #[.pointer (some ⟨g, 0, none⟩)] w fun e w' => ∃ v0_ v1_ : Value, e = .returned (.agg #[v0_, v1_]) ∧ Kd.R k43 43 w' w.heap.size (fun _ => True) v0_ r1 ∧ Kd.R k66 66 w' w.heap.size (fun _ => True) v1_ r2 ∧ IsS116 w0 w' g s0_0 r3 ∧ Below w0.heap.size w0 w' ∧ KeepBut w w' g none := by
 have hu31 := Tryz.underlying31
 have hu41 := Tryz.underlying41
 have hu39 := Tryz.underlying39
 have hu66 := Tryz.underlying66
 have HI0 := Aside0.mk hI
 have HK := Aside0.mk (KeepBut.refl w g none)
 have HL := Aside0.mk hB.size
 clear hI
 have HW0 := Aside0.mk hB.size
 have HB := Aside0.mk hB
 clear hB
 have H : ((spec_l7Net.f k s0_0 s0_1).bind fun bt267 => ((spec_l12Rd_pick.f k s0_0 bt267.2.2 3).bind fun bt275 => (if bt275.1 = 0 then ((spec_l7Turned.f k bt267.1 bt267.2.1).bind fun bt277 => (spec_l7Bent.j0 k s0_0 bt275.2 bt277.1 bt277.2)) else (spec_l7Bent.j0 k s0_0 bt275.2 bt267.1 bt267.2.1)))) = some (r1, r2, r3) := h
 clear h
 replace H := Option.bind_eq_some_iff.mp H
 obtain ⟨⟨t267, t270, t273⟩, A20, H⟩ := H
 replace H : ((spec_l12Rd_pick.f k s0_0 t273 3).bind fun bt275 => (if bt275.1 = 0 then ((spec_l7Turned.f k t267 t270).bind fun bt277 => (spec_l7Bent.j0 k s0_0 bt275.2 bt277.1 bt277.2)) else (spec_l7Bent.j0 k s0_0 bt275.2 t267 t270))) = some (r1, r2, r3) := H
 have A2 := Aside0.mk A20
 clear A20
 replace H := Option.bind_eq_some_iff.mp H
 obtain ⟨⟨t275, t276⟩, A30, H⟩ := H
 replace H : (if t275 = 0 then ((spec_l7Turned.f k t267 t270).bind fun bt277 => (spec_l7Bent.j0 k s0_0 t276 bt277.1 bt277.2)) else (spec_l7Bent.j0 k s0_0 t276 t267 t270)) = some (r1, r2, r3) := H
 have A3 := Aside0.mk A30
 clear A30
 have HC4 := Aside0.mk H
 clear H
 go_enter Tryz.func34, Tryz.ntmps34
 go_upto_if 9 with (first | ((with_reducible refine gate_dst (N := 2) rfl ?_); refine box_event ?hg (N := 2) ?hd (cs := #[.slice none 0 0, .slice none 0 0]) (t := 31) ?hr ?_; (case hd => rfl); (case hg => rfl); (case hr => first | (go_simp; done) | (go_simp; rfl)); intro gb266 hg w5 hbox hb; have n0_ := Aside0.mk (IsS116.below (by repeat (first | (with_reducible first | exact HI0.out | apply IsS116.alloc | apply IsS116.drewN | apply IsS116.drew | apply IsS116.set_1) | exact HI0.out)) hb); have n1_ := Aside0.mk (KeepBut.trans (by repeat (first | (with_reducible first | exact HK.out | apply KeepBut.set_ | apply keep_drewN | apply keep_drew | apply keep_alloc) | exact HK.out)) (KeepBut.of_below hb g none) (.inl rfl)); have n2_ := Aside0.mk (below_step (by repeat (first | (with_reducible first | exact HB.out | apply below_alloc | apply pw_below_drewN | apply below_drew1 | refine below_set ?_ (IsS116.ge HI0.out)) | exact HB.out)) hb); have n3_ := Aside0.mk (hbox); have n4_ := Aside0.mk ((by rw [hg]; exact (keep_size (w := w) (g := g) (row := none) (by repeat (first | (with_reducible first | exact HK.out | apply KeepBut.set_ | apply keep_drewN | apply keep_drew | apply keep_alloc) | exact HK.out))) : w.heap.size ≤ gb266)); have n5_ := Aside0.mk ((Nat.le_trans HW0.out (by rw [hg]; exact (keep_size (w := w) (g := g) (row := none) (by repeat (first | (with_reducible first | exact HK.out | apply KeepBut.set_ | apply keep_drewN | apply keep_drew | apply keep_alloc) | exact HK.out))) : w.heap.size ≤ gb266) : w0.heap.size ≤ gb266)); have n6_ := Aside0.mk ((by rw [hg]; exact Nat.ne_of_lt (IsS116.lt (show IsS116 w0 _ g s0_0 s0_1 from by repeat (first | (with_reducible first | exact HI0.out | apply IsS116.alloc | apply IsS116.drewN | apply IsS116.drew | apply IsS116.set_1) | exact HI0.out))) : g ≠ gb266)); have n7_ := Aside0.mk ((by rw [hg]; exact Nat.ne_of_gt (IsS116.lt (show IsS116 w0 _ g s0_0 s0_1 from by repeat (first | (with_reducible first | exact HI0.out | apply IsS116.alloc | apply IsS116.drewN | apply IsS116.drew | apply IsS116.set_1) | exact HI0.out))) : gb266 ≠ g)); clear HI0; clear HK; clear HB; have HI0 := n0_; have HK := n1_; have HB := n2_; have BK266 := n3_; have GW266 := n4_; have GE266 := n5_; have NB0_266 := n6_; have NB266_0 := n7_; clear n0_ n1_ n2_ n3_ n4_ n5_ n6_ n7_; clear hb hbox hg) | ((with_reducible refine gate_callee (f := 63) rfl ?_); refine goesL_ (some 6) rfl rfl Tryz.func63 (by kernel_rfl) rfl #[.pointer (some ⟨g, 0, none⟩)] rfl (by (try simp only [List.map_toArray, List.map_cons, List.map_nil]); first | done | rfl | (simp only [List.length_drop, List.length_take]; rfl)) ?_; (with_reducible refine (spec_l7Net.calls k g s0_0 s0_1 t267 t270 t273 w0 _ ?side1 ?side2 A2.out).mono ?_); (case side1 => repeat (first | (with_reducible first | exact HI0.out | apply IsS116.alloc | apply IsS116.drewN | apply IsS116.drew | apply IsS116.set_1 | refine IsS116.far ?_ NB0_266.out _) | exact HI0.out)); (case side2 => repeat (first | (with_reducible first | exact HB.out | apply below_alloc | apply pw_below_drewN | apply below_drew1 | refine below_set ?_ (IsS116.ge HI0.out) | refine below_set ?_ GE266.out) | exact HB.out)); rintro e w6 ⟨v268, v271, rfl, ho0, ho1, hi, hb, hk⟩; refine ⟨_, rfl, ?_⟩; have n0_ := Aside0.mk (KeepBut.blk hk (g' := gb266) (o := .cells #[.slice none 0 0, .slice none 0 0] 31 (0, 0)) (by (with_reducible repeat (first | refine blk_drewN ?_ _ | refine blk_drew ?_ | refine blk_alloc ?_ _)); exact BK266.out) NB266_0.out (by simp)); have n1_ := Aside0.mk (Kd.R_lower ho0 (keep_size (w := w) (g := g) (row := none) (by repeat (first | (with_reducible first | exact HK.out | apply KeepBut.set_ | apply keep_drewN | apply keep_drew | apply keep_alloc | refine keep_far ?_ GW266.out _) | exact HK.out)))); have n2_ := Aside0.mk (Kd.R_lower ho1 (keep_size (w := w) (g := g) (row := none) (by repeat (first | (with_reducible first | exact HK.out | apply KeepBut.set_ | apply keep_drewN | apply keep_drew | apply keep_alloc | refine keep_far ?_ GW266.out _) | exact HK.out)))); have n3_ := Aside0.mk (KeepBut.trans (by repeat (first | (with_reducible first | exact HK.out | apply KeepBut.set_ | apply keep_drewN | apply keep_drew | apply keep_alloc | refine keep_far ?_ GW266.out _) | exact HK.out)) hk (.inl rfl)); have n4_ := Aside0.mk (hb); have n5_ := Aside0.mk (hi); clear BK266; clear HK; clear HB; clear HI0; have BK266 := n0_; have HO269 := n1_; have HO272 := n2_; have HK := n3_; have HB := n4_; have HI0 := n5_; clear n0_ n1_ n2_ n3_ n4_ n5_; (try clear hb); (try clear hb2); (try clear hk); (try clear hi); (try clear ho0); (try clear ho1)) | ((with_reducible refine gate_dst (N := 3) rfl ?_); refine box_event ?hg (N := 3) ?hd (cs := #[.slice none 0 0, .slice none 0 0]) (t := 31) ?hr ?_; (case hd => rfl); (case hg => rfl); (case hr => first | (go_simp; done) | (go_simp; rfl)); intro gb274 hg w7 hbox hb; have n0_ := Aside0.mk (Kd.R_below (by (with_reducible repeat (first | apply Kd.R_alloc | apply Kd.R_drewN | apply Kd.R_drew)); exact HO269.out) hb); have n1_ := Aside0.mk (Kd.R_below (by (with_reducible repeat (first | apply Kd.R_alloc | apply Kd.R_drewN | apply Kd.R_drew)); exact HO272.out) hb); have n2_ := Aside0.mk (IsS116.below (by repeat (first | (with_reducible first | exact HI0.out | apply IsS116.alloc | apply IsS116.drewN | apply IsS116.drew | apply IsS116.set_1 | refine IsS116.far ?_ NB0_266.out _) | exact HI0.out)) hb); have n3_ := Aside0.mk (blk_below (g := gb266) (o := .cells #[.slice none 0 0, .slice none 0 0] 31 (0, 0)) (by (with_reducible repeat (first | refine blk_drewN ?_ _ | refine blk_drew ?_ | refine blk_alloc ?_ _)); exact BK266.out) hb); have n4_ := Aside0.mk (KeepBut.trans (by repeat (first | (with_reducible first | exact HK.out | apply KeepBut.set_ | apply keep_drewN | apply keep_drew | apply keep_alloc | refine keep_far ?_ GW266.out _) | exact HK.out)) (KeepBut.of_below hb g none) (.inl rfl)); have n5_ := Aside0.mk (below_step (by repeat (first | (with_reducible first | exact HB.out | apply below_alloc | apply pw_below_drewN | apply below_drew1 | refine below_set ?_ (IsS116.ge HI0.out) | refine below_set ?_ GE266.out) | exact HB.out)) hb); have n6_ := Aside0.mk (hbox); have n7_ := Aside0.mk ((by rw [hg]; exact (keep_size (w := w) (g := g) (row := none) (by repeat (first | (with_reducible first | exact HK.out | apply KeepBut.set_ | apply keep_drewN | apply keep_drew | apply keep_alloc | refine keep_far ?_ GW266.out _) | exact HK.out))) : w.heap.size ≤ gb274)); have n8_ := Aside0.mk ((Nat.le_trans HW0.out (by rw [hg]; exact (keep_size (w := w) (g := g) (row := none) (by repeat (first | (with_reducible first | exact HK.out | apply KeepBut.set_ | apply keep_drewN | apply keep_drew | apply keep_alloc | refine keep_far ?_ GW266.out _) | exact HK.out))) : w.heap.size ≤ gb274) : w0.heap.size ≤ gb274)); have n9_ := Aside0.mk ((by rw [hg]; exact Nat.ne_of_lt (blk_lt (g := gb266) (o := .cells #[.slice none 0 0, .slice none 0 0] 31 (0, 0)) (by (with_reducible repeat (first | refine blk_drewN ?_ _ | refine blk_drew ?_ | refine blk_alloc ?_ _)); exact BK266.out)) : gb266 ≠ gb274)); have n10_ := Aside0.mk ((by rw [hg]; exact Nat.ne_of_gt (blk_lt (g := gb266) (o := .cells #[.slice none 0 0, .slice none 0 0] 31 (0, 0)) (by (with_reducible repeat (first | refine blk_drewN ?_ _ | refine blk_drew ?_ | refine blk_alloc ?_ _)); exact BK266.out)) : gb274 ≠ gb266)); have n11_ := Aside0.mk ((by rw [hg]; exact Nat.ne_of_lt (IsS116.lt (show IsS116 w0 _ g s0_0 t273 from by repeat (first | (with_reducible first | exact HI0.out | apply IsS116.alloc | apply IsS116.drewN | apply IsS116.drew | apply IsS116.set_1 | refine IsS116.far ?_ NB0_266.out _) | exact HI0.out))) : g ≠ gb274)); have n12_ := Aside0.mk ((by rw [hg]; exact Nat.ne_of_gt (IsS116.lt (show IsS116 w0 _ g s0_0 t273 from by repeat (first | (with_reducible first | exact HI0.out | apply IsS116.alloc | apply IsS116.drewN | apply IsS116.drew | apply IsS116.set_1 | refine IsS116.far ?_ NB0_266.out _) | exact HI0.out))) : gb274 ≠ g)); clear HO269; clear HO272; clear HI0; clear BK266; clear HK; clear HB; have HO269 := n0_; have HO272 := n1_; have HI0 := n2_; have BK266 := n3_; have HK := n4_; have HB := n5_; have BK274 := n6_; have GW274 := n7_; have GE274 := n8_; have NB266_274 := n9_; have NB274_266 := n10_; have NB0_274 := n11_; have NB274_0 := n12_; clear n0_ n1_ n2_ n3_ n4_ n5_ n6_ n7_ n8_ n9_ n10_ n11_ n12_; clear hb hbox hg; obtain ⟨Ao8, co8, eo8⟩ := Kd.R_slice HO269.out; subst eo8; have hnb9 := NB274_266.out; have hnc9 := NB266_274.out; have hnb10 := NB274_0.out; have hnc10 := NB0_274.out; have hcz11_0 : w7.cell? ⟨gb274, 0, none⟩ = some (.slice none 0 0) := (blk_cell BK274.out 0).trans rfl; have hcz11_1 : w7.cell? ⟨gb274, 1, none⟩ = some (.slice none 0 0) := (blk_cell BK274.out 1).trans rfl; have hfz11_0 := blk_frozen BK274.out 0; have hfz11_1 := blk_frozen BK274.out 1; obtain ⟨Ao12, co12, eo12⟩ := Kd.R_slice HO272.out; subst eo12) | ((with_reducible refine gate_callee (f := 64) rfl ?_); refine goesL_ (some 8) rfl rfl Tryz.func64 (by kernel_rfl) rfl #[.pointer (some ⟨g, 0, none⟩), .int .i64 3] rfl (by (try simp only [List.map_toArray, List.map_cons, List.map_nil]); first | done | rfl | (simp only [List.length_drop, List.length_take]; rfl)) ?_; (with_reducible refine (spec_l12Rd_pick.calls k g s0_0 t273 3 t275 t276 w0 _ ?side1 ?side2 A3.out).mono ?_); (case side1 => repeat (first | (with_reducible first | exact HI0.out | apply IsS116.alloc | apply IsS116.drewN | apply IsS116.drew | apply IsS116.set_1 | refine IsS116.far ?_ NB0_266.out _ | refine IsS116.far ?_ NB0_274.out _) | exact HI0.out)); (case side2 => repeat (first | (with_reducible first | exact HB.out | apply below_alloc | apply pw_below_drewN | apply below_drew1 | refine below_set ?_ (IsS116.ge HI0.out) | refine below_set ?_ GE266.out | refine below_set ?_ GE274.out) | exact HB.out)); rintro e w13 ⟨rfl, hi, hb, hk⟩; refine ⟨_, rfl, ?_⟩; have n0_ := Aside0.mk (KeepBut.blk hk (g' := gb266) (o := .cells #[.slice none 0 0, .slice none 0 0] 31 (0, 0)) (by (with_reducible repeat (first | refine blk_drewN ?_ _ | refine blk_drew ?_ | refine blk_alloc ?_ _)); refine blk_far ?_ NB266_274.out _; (with_reducible repeat (first | refine blk_drewN ?_ _ | refine blk_drew ?_ | refine blk_alloc ?_ _)); refine blk_far ?_ NB266_274.out _; (with_reducible repeat (first | refine blk_drewN ?_ _ | refine blk_drew ?_ | refine blk_alloc ?_ _)); exact BK266.out) NB266_0.out (by simp)); have n1_ := Aside0.mk (Kd.R_mono (Kd.R_keep (IsS116.apart (show IsS116 w0 _ g s0_0 t273 from by repeat (first | (with_reducible first | exact HI0.out | apply IsS116.alloc | apply IsS116.drewN | apply IsS116.drew | apply IsS116.set_1 | refine IsS116.far ?_ NB0_266.out _ | refine IsS116.far ?_ NB0_274.out _) | exact HI0.out)) (by (with_reducible repeat (first | apply Kd.R_alloc | apply Kd.R_drewN | apply Kd.R_drew)); exact (Kd.R_mono (Kd.R_far (p := ⟨gb274, 1, none⟩) (Kd.R_far (p := ⟨gb274, 0, none⟩) (Kd.R_types HO269.out BK274.out (by decide)) (fun _ hk => hk.2) (.slice Ao8 t267.length co8)) (fun _ hk => hk.2) (.slice Ao12 t270.length co12)) (fun _ h_ => h_.1))) (by decide)) hk (fun _ h => h.2)) (fun _ h => h.1)); have n2_ := Aside0.mk (Kd.R_mono (Kd.R_keep (IsS116.apart (show IsS116 w0 _ g s0_0 t273 from by repeat (first | (with_reducible first | exact HI0.out | apply IsS116.alloc | apply IsS116.drewN | apply IsS116.drew | apply IsS116.set_1 | refine IsS116.far ?_ NB0_266.out _ | refine IsS116.far ?_ NB0_274.out _) | exact HI0.out)) (by (with_reducible repeat (first | apply Kd.R_alloc | apply Kd.R_drewN | apply Kd.R_drew)); exact (Kd.R_mono (Kd.R_far (p := ⟨gb274, 1, none⟩) (Kd.R_far (p := ⟨gb274, 0, none⟩) (Kd.R_types HO272.out BK274.out (by decide)) (fun _ hk => hk.2) (.slice Ao8 t267.length co8)) (fun _ hk => hk.2) (.slice Ao12 t270.length co12)) (fun _ h_ => h_.1))) (by decide)) hk (fun _ h => h.2)) (fun _ h => h.1)); have n3_ := Aside0.mk (KeepBut.blk hk (g' := gb274) (o := .cells #[.slice Ao8 t267.length co8, .slice Ao12 t270.length co12] 31 (0, 0)) (by (with_reducible repeat (first | refine blk_drewN ?_ _ | refine blk_drew ?_ | refine blk_alloc ?_ _)); refine blk_put (cs := #[.slice Ao8 t267.length co8, .slice none 0 0]) ?_ 1 _ rfl; (with_reducible repeat (first | refine blk_drewN ?_ _ | refine blk_drew ?_ | refine blk_alloc ?_ _)); refine blk_put (cs := #[.slice none 0 0, .slice none 0 0]) ?_ 0 _ rfl; (with_reducible repeat (first | refine blk_drewN ?_ _ | refine blk_drew ?_ | refine blk_alloc ?_ _)); exact BK274.out) NB274_0.out (by simp)); have n4_ := Aside0.mk (KeepBut.trans (by repeat (first | (with_reducible first | exact HK.out | apply KeepBut.set_ | apply keep_drewN | apply keep_drew | apply keep_alloc | refine keep_far ?_ GW266.out _ | refine keep_far ?_ GW274.out _) | exact HK.out)) hk (.inl rfl)); have n5_ := Aside0.mk (hb); have n6_ := Aside0.mk (hi); clear BK266; clear HO269; clear HO272; clear BK274; clear HK; clear HB; clear HI0; have BK266 := n0_; have HO269 := n1_; have HO272 := n2_; have BK274 := n3_; have HK := n4_; have HB := n5_; have HI0 := n6_; clear n0_ n1_ n2_ n3_ n4_ n5_ n6_; (try clear hb); (try clear hb2); (try clear hk); (try clear hi)))
 (try simp only [Act.put, List.setIfInBounds_toArray, List.set_cons_zero, List.set_cons_succ])
 go_cut [] (fun wc => ∃ (kq : Nat) (x275000_3 : List (S43)) (x275001_3 : List (S66)) (u275000 : Value) (u275001 : Value), Aside0 (spec_l7Bent.j0 kq s0_0 t276 x275000_3 x275001_3 = some (r1, r2, r3)) ∧ Aside0 (kq ≤ k) ∧ Aside0 (Kd.R k43 43 wc w.heap.size (fun _ => True) u275000 x275000_3) ∧ Aside0 (Kd.R k66 66 wc w.heap.size (fun _ => True) u275001 x275001_3) ∧ Aside0 (wc.heap[gb266]? = some (.cells #[(.slice none 0 0), (.slice none 0 0)] 31 (0, 0))) ∧ Aside0 (wc.heap[gb274]? = some (.cells #[u275000, u275001] 31 (0, 0))) ∧ Aside0 (IsS116 w0 wc g s0_0 t276) ∧ Aside0 (KeepBut w wc g none) ∧ Aside0 (Below w0.heap.size w0 wc))
 case first =>
  have H := HC4.out
  clear HC4
  by_cases c14 : t275 = 0
  rotate_left
  · rw [if_neg c14] at H
    have c14b0 : (t275 == 0) = false := beq_eq_false_iff_ne.mpr c14
    have c14b1 : (t275 != 0) = true := bne_iff_ne.mpr c14
    (first | rw [c14b0] | (simp only [i64_w, i32_w]; rw [c14b0]) | skip)
    have H' := Aside0.mk H
    clear H
    go_wp2
    go_meet
    case rel => exact ⟨_, (t267), (t270), (.slice Ao8 t267.length co8), (.slice Ao12 t270.length co12), H', ⟨by first | omega | exact Nat.le_refl _⟩, ⟨by (with_reducible repeat (first | apply Kd.R_alloc | apply Kd.R_drewN | apply Kd.R_drew)); exact HO269.out⟩, ⟨by (with_reducible repeat (first | apply Kd.R_alloc | apply Kd.R_drewN | apply Kd.R_drew)); exact HO272.out⟩, ⟨by (with_reducible repeat (first | refine blk_drewN ?_ _ | refine blk_drew ?_ | refine blk_alloc ?_ _)); exact BK266.out⟩, ⟨by (with_reducible repeat (first | refine blk_drewN ?_ _ | refine blk_drew ?_ | refine blk_alloc ?_ _)); exact BK274.out⟩, ⟨by repeat (first | (with_reducible first | exact HI0.out | apply IsS116.alloc | apply IsS116.drewN | apply IsS116.drew | apply IsS116.set_1 | refine IsS116.far ?_ NB0_266.out _ | refine IsS116.far ?_ NB0_274.out _) | exact HI0.out)⟩, ⟨by repeat (first | (with_reducible first | exact HK.out | apply KeepBut.set_ | apply keep_drewN | apply keep_drew | apply keep_alloc | refine keep_far ?_ GW266.out _ | refine keep_far ?_ GW274.out _) | exact HK.out)⟩, ⟨by repeat (first | (with_reducible first | exact HB.out | apply below_alloc | apply pw_below_drewN | apply below_drew1 | refine below_set ?_ (IsS116.ge HI0.out) | refine below_set ?_ GE266.out | refine below_set ?_ GE274.out) | exact HB.out)⟩⟩
  rw [if_pos c14] at H
  have c14b0 : (t275 == 0) = true := beq_iff_eq.mpr c14
  have c14b1 : (t275 != 0) = false := bne_eq_false_iff_eq.mpr c14
  clear c14
  (first | rw [c14b0] | (simp only [i64_w, i32_w]; rw [c14b0]) | skip)
  replace H := Option.bind_eq_some_iff.mp H
  obtain ⟨⟨t277, t280⟩, A150, H⟩ := H
  replace H : (spec_l7Bent.j0 k s0_0 t276 t277 t280) = some (r1, r2, r3) := H
  have A15 := Aside0.mk A150
  clear A150
  have H' := Aside0.mk H
  clear H
  have hnb16 := NB274_266.out
  have hnc16 := NB266_274.out
  have hnb17 := NB274_0.out
  have hnc17 := NB0_274.out
  have hcz18_0 : w13.cell? ⟨gb274, 0, none⟩ = some (.slice Ao8 t267.length co8) := (blk_cell BK274.out 0).trans rfl
  have hcz18_1 : w13.cell? ⟨gb274, 1, none⟩ = some (.slice Ao12 t270.length co12) := (blk_cell BK274.out 1).trans rfl
  have hfz18_0 := blk_frozen BK274.out 0
  have hfz18_1 := blk_frozen BK274.out 1
  go_wp2_with (first | ((with_reducible refine gate_callee (f := 65) rfl ?_); refine goesL_ (some 11) rfl rfl Tryz.func65 (by kernel_rfl) rfl #[.agg #[.slice Ao8 t267.length co8, .slice Ao12 t270.length co12]] rfl (by (try simp only [List.map_toArray, List.map_cons, List.map_nil]); first | done | rfl | (simp only [List.length_drop, List.length_take]; rfl)) ?_; (with_reducible refine (spec_l7Turned.calls k _ _ t267 _ _ t270 t277 t280 _ ?side1 ?side2 ?side3 ?side4 A15.out).mono ?_); (case side1 => repeat (first | exact (Kd.R_reads' HO269.out).2.2 | (with_reducible refine Kd.C_alloc ?_ _) | (with_reducible refine Kd.C_drewN ?_ _) | (with_reducible refine Kd.C_drew ?_))); (case side2 => exact (Kd.R_reads' HO269.out).2.1); (case side3 => repeat (first | exact (Kd.R_reads' HO272.out).2.2 | (with_reducible refine Kd.C_alloc ?_ _) | (with_reducible refine Kd.C_drewN ?_ _) | (with_reducible refine Kd.C_drew ?_))); (case side4 => exact (Kd.R_reads' HO272.out).2.1); rintro e w19 ⟨v278, v281, rfl, ho0, ho1, hb⟩; refine ⟨_, rfl, ?_⟩; have n0_ := Aside0.mk (Kd.R_elder' (by (with_reducible repeat (first | apply Kd.R_alloc | apply Kd.R_drewN | apply Kd.R_drew)); exact HO269.out) (Kd.R_base ho0) hb); have n1_ := Aside0.mk (Kd.R_elder' (by (with_reducible repeat (first | apply Kd.R_alloc | apply Kd.R_drewN | apply Kd.R_drew)); exact HO272.out) (Kd.R_base ho1) hb); have n2_ := Aside0.mk (Kd.R_lower (Kd.R_new' ho0 (Kd.R_lt (by (with_reducible repeat (first | apply Kd.R_alloc | apply Kd.R_drewN | apply Kd.R_drew)); exact HO269.out))) (keep_size (w := w) (g := g) (row := none) (by repeat (first | (with_reducible first | exact HK.out | apply KeepBut.set_ | apply keep_drewN | apply keep_drew | apply keep_alloc | refine keep_far ?_ GW266.out _ | refine keep_far ?_ GW274.out _) | exact HK.out)))); have n3_ := Aside0.mk (Kd.R_lower (Kd.R_new' ho1 (Kd.R_lt (by (with_reducible repeat (first | apply Kd.R_alloc | apply Kd.R_drewN | apply Kd.R_drew)); exact HO272.out))) (keep_size (w := w) (g := g) (row := none) (by repeat (first | (with_reducible first | exact HK.out | apply KeepBut.set_ | apply keep_drewN | apply keep_drew | apply keep_alloc | refine keep_far ?_ GW266.out _ | refine keep_far ?_ GW274.out _) | exact HK.out)))); have n4_ := Aside0.mk (IsS116.below (by repeat (first | (with_reducible first | exact HI0.out | apply IsS116.alloc | apply IsS116.drewN | apply IsS116.drew | apply IsS116.set_1 | refine IsS116.far ?_ NB0_266.out _ | refine IsS116.far ?_ NB0_274.out _) | exact HI0.out)) hb); have n5_ := Aside0.mk (blk_below (g := gb266) (o := .cells #[.slice none 0 0, .slice none 0 0] 31 (0, 0)) (by (with_reducible repeat (first | refine blk_drewN ?_ _ | refine blk_drew ?_ | refine blk_alloc ?_ _)); exact BK266.out) hb); have n6_ := Aside0.mk (blk_below (g := gb274) (o := .cells #[.slice Ao8 t267.length co8, .slice Ao12 t270.length co12] 31 (0, 0)) (by (with_reducible repeat (first | refine blk_drewN ?_ _ | refine blk_drew ?_ | refine blk_alloc ?_ _)); exact BK274.out) hb); have n7_ := Aside0.mk (KeepBut.trans (by repeat (first | (with_reducible first | exact HK.out | apply KeepBut.set_ | apply keep_drewN | apply keep_drew | apply keep_alloc | refine keep_far ?_ GW266.out _ | refine keep_far ?_ GW274.out _) | exact HK.out)) (KeepBut.of_below hb g none) (.inl rfl)); have n8_ := Aside0.mk (below_step (by repeat (first | (with_reducible first | exact HB.out | apply below_alloc | apply pw_below_drewN | apply below_drew1 | refine below_set ?_ (IsS116.ge HI0.out) | refine below_set ?_ GE266.out | refine below_set ?_ GE274.out) | exact HB.out)) hb); clear HO269; clear HO272; clear HI0; clear BK266; clear BK274; clear HK; clear HB; have HO269 := n0_; have HO272 := n1_; have HO279 := n2_; have HO282 := n3_; have HI0 := n4_; have BK266 := n5_; have BK274 := n6_; have HK := n7_; have HB := n8_; clear n0_ n1_ n2_ n3_ n4_ n5_ n6_ n7_ n8_; (try clear hb); (try clear hb2); (try clear hk); (try clear hi); (try clear ho0); (try clear ho1); obtain ⟨Ao20, co20, eo20⟩ := Kd.R_slice HO279.out; subst eo20; have hcz21_0 : w19.cell? ⟨gb274, 0, none⟩ = some (.slice Ao8 t267.length co8) := (blk_cell BK274.out 0).trans rfl; have hcz21_1 : w19.cell? ⟨gb274, 1, none⟩ = some (.slice Ao12 t270.length co12) := (blk_cell BK274.out 1).trans rfl; have hfz21_0 := blk_frozen BK274.out 0; have hfz21_1 := blk_frozen BK274.out 1; obtain ⟨Ao22, co22, eo22⟩ := Kd.R_slice HO282.out; subst eo22))
  go_meet
  case rel => exact ⟨_, (t277), (t280), (.slice Ao20 t277.length co20), (.slice Ao22 t280.length co22), H', ⟨by first | omega | exact Nat.le_refl _⟩, ⟨by (with_reducible repeat (first | apply Kd.R_alloc | apply Kd.R_drewN | apply Kd.R_drew)); exact Kd.R_mono (Kd.R_far (p := ⟨gb274, 1, none⟩) (Kd.R_far (p := ⟨gb274, 0, none⟩) (Kd.R_types HO279.out BK274.out (by decide)) (fun _ hk => hk.2) (.slice Ao20 t277.length co20)) (fun _ hk => hk.2) (.slice Ao22 t280.length co22)) (fun _ hk => trivial)⟩, ⟨by (with_reducible repeat (first | apply Kd.R_alloc | apply Kd.R_drewN | apply Kd.R_drew)); exact Kd.R_mono (Kd.R_far (p := ⟨gb274, 1, none⟩) (Kd.R_far (p := ⟨gb274, 0, none⟩) (Kd.R_types HO282.out BK274.out (by decide)) (fun _ hk => hk.2) (.slice Ao20 t277.length co20)) (fun _ hk => hk.2) (.slice Ao22 t280.length co22)) (fun _ hk => trivial)⟩, ⟨by (with_reducible repeat (first | refine blk_drewN ?_ _ | refine blk_drew ?_ | refine blk_alloc ?_ _)); refine blk_far ?_ NB266_274.out _; (with_reducible repeat (first | refine blk_drewN ?_ _ | refine blk_drew ?_ | refine blk_alloc ?_ _)); refine blk_far ?_ NB266_274.out _; (with_reducible repeat (first | refine blk_drewN ?_ _ | refine blk_drew ?_ | refine blk_alloc ?_ _)); exact BK266.out⟩, ⟨by (with_reducible repeat (first | refine blk_drewN ?_ _ | refine blk_drew ?_ | refine blk_alloc ?_ _)); refine blk_put (cs := #[.slice Ao20 t277.length co20, .slice Ao12 t270.length co12]) ?_ 1 _ rfl; (with_reducible repeat (first | refine blk_drewN ?_ _ | refine blk_drew ?_ | refine blk_alloc ?_ _)); refine blk_put (cs := #[.slice Ao8 t267.length co8, .slice Ao12 t270.length co12]) ?_ 0 _ rfl; (with_reducible repeat (first | refine blk_drewN ?_ _ | refine blk_drew ?_ | refine blk_alloc ?_ _)); exact BK274.out⟩, ⟨by repeat (first | (with_reducible first | exact HI0.out | apply IsS116.alloc | apply IsS116.drewN | apply IsS116.drew | apply IsS116.set_1 | refine IsS116.far ?_ NB0_266.out _ | refine IsS116.far ?_ NB0_274.out _) | exact HI0.out)⟩, ⟨by repeat (first | (with_reducible first | exact HK.out | apply KeepBut.set_ | apply keep_drewN | apply keep_drew | apply keep_alloc | refine keep_far ?_ GW266.out _ | refine keep_far ?_ GW274.out _) | exact HK.out)⟩, ⟨by repeat (first | (with_reducible first | exact HB.out | apply below_alloc | apply pw_below_drewN | apply below_drew1 | refine below_set ?_ (IsS116.ge HI0.out) | refine below_set ?_ GE266.out | refine below_set ?_ GE274.out) | exact HB.out)⟩⟩
 case rest =>
  clear HC4
  try clear c1
  try clear p2
  try clear c3
  try clear c6
  try clear c9
  try clear c10
  try clear c14
  try clear c14b0
  try clear c14b1
  try clear c16
  try clear c17
  try clear hcz11_0
  try clear hcz11_1
  try clear hcz18_0
  try clear hcz18_1
  try clear hcz21_0
  try clear hcz21_1
  try clear hfz11_0
  try clear hfz11_1
  try clear hfz18_0
  try clear hfz18_1
  try clear hfz21_0
  try clear hfz21_1
  obtain ⟨kq, x275000_3, x275001_3, u275000, u275001, HA, HJ3, HO_275000, HO_275001, BK266, BK274, HI0, HK, HB⟩ := hcut
  cases kq with
  | zero => exact absurd HA.out (by simp [spec_l7Bent.j0])
  | succ kj3 =>
   have H := HA.out
   clear HA
   simp only [spec_l7Bent.j0] at H
   by_cases c23 : (x275000_3.length : Int) = 0
   · rw [if_pos c23] at H
     have c23b0 : ((x275000_3.length : Int) == 0) = true := beq_iff_eq.mpr c23
     have c23b1 : ((x275000_3.length : Int) != 0) = false := bne_eq_false_iff_eq.mpr c23
     clear c23
     simp only [Option.some.injEq, Prod.mk.injEq] at H
     obtain ⟨rfl, rfl, rfl⟩ := H
     have hnb24 := NB274_266.out
     have hnc24 := NB266_274.out
     have hnb25 := NB274_0.out
     have hnc25 := NB0_274.out
     have hcz26_0 : wc.cell? ⟨gb274, 0, none⟩ = some (u275000) := (blk_cell BK274.out 0).trans rfl
     have hcz26_1 : wc.cell? ⟨gb274, 1, none⟩ = some (u275001) := (blk_cell BK274.out 1).trans rfl
     have hfz26_0 := blk_frozen BK274.out 0
     have hfz26_1 := blk_frozen BK274.out 1
     obtain ⟨Ao27, co27, eo27⟩ := Kd.R_slice HO_275000.out
     subst eo27
     have hnb28 := NB266_0.out
     have hnc28 := NB0_266.out
     have hcz29_0 : wc.cell? ⟨gb266, 0, none⟩ = some (.slice none 0 0) := (blk_cell BK266.out 0).trans rfl
     have hcz29_1 : wc.cell? ⟨gb266, 1, none⟩ = some (.slice none 0 0) := (blk_cell BK266.out 1).trans rfl
     have hfz29_0 := blk_frozen BK266.out 0
     have hfz29_1 := blk_frozen BK266.out 1
     obtain ⟨Ao30, co30, eo30⟩ := Kd.R_slice HO_275001.out
     subst eo30
     go_wp2
     refine bodyPost_ret (results_cell_row rfl _ _ gb266 31 #[.slice Ao27 x275000_3.length co27, .slice Ao30 x275001_3.length co30] (0, 0) _ rfl (by (with_reducible repeat (first | refine blk_drewN ?_ _ | refine blk_drew ?_ | refine blk_alloc ?_ _)); refine blk_put (cs := #[.slice Ao27 x275000_3.length co27, .slice none 0 0]) ?_ 1 _ rfl; (with_reducible repeat (first | refine blk_drewN ?_ _ | refine blk_drew ?_ | refine blk_alloc ?_ _)); refine blk_put (cs := #[.slice none 0 0, .slice none 0 0]) ?_ 0 _ rfl; (with_reducible repeat (first | refine blk_drewN ?_ _ | refine blk_drew ?_ | refine blk_alloc ?_ _)); exact BK266.out) Tryz.underlying31 rfl (by kernel_rfl)) rfl ?_
     exact ⟨_, _, by first | rfl | (simp [errW_none, errW_some] <;> rfl) | (simp [*, errW_none, errW_some] <;> rfl), by (with_reducible repeat (first | apply Kd.R_alloc | apply Kd.R_drewN | apply Kd.R_drew)); exact Kd.R_mono (Kd.R_far (p := ⟨gb266, 1, none⟩) (Kd.R_far (p := ⟨gb266, 0, none⟩) (Kd.R_types HO_275000.out BK266.out (by decide)) (fun _ hk => hk.2) (.slice Ao27 x275000_3.length co27)) (fun _ hk => hk.2) (.slice Ao30 x275001_3.length co30)) (fun _ hk => trivial), by (with_reducible repeat (first | apply Kd.R_alloc | apply Kd.R_drewN | apply Kd.R_drew)); exact Kd.R_mono (Kd.R_far (p := ⟨gb266, 1, none⟩) (Kd.R_far (p := ⟨gb266, 0, none⟩) (Kd.R_types HO_275001.out BK266.out (by decide)) (fun _ hk => hk.2) (.slice Ao27 x275000_3.length co27)) (fun _ hk => hk.2) (.slice Ao30 x275001_3.length co30)) (fun _ hk => trivial), by repeat (first | (with_reducible first | exact HI0.out | apply IsS116.alloc | apply IsS116.drewN | apply IsS116.drew | apply IsS116.set_1 | refine IsS116.far ?_ NB0_266.out _ | refine IsS116.far ?_ NB0_274.out _) | exact HI0.out), by repeat (first | (with_reducible first | exact HB.out | apply below_alloc | apply pw_below_drewN | apply below_drew1 | refine below_set ?_ (IsS116.ge HI0.out) | refine below_set ?_ GE266.out | refine below_set ?_ GE274.out) | exact HB.out), by repeat (first | (with_reducible first | exact HK.out | apply KeepBut.set_ | apply keep_drewN | apply keep_drew | apply keep_alloc | refine keep_far ?_ GW266.out _ | refine keep_far ?_ GW274.out _) | exact HK.out)⟩
   rw [if_neg c23] at H
   have c23b0 : ((x275000_3.length : Int) == 0) = false := beq_eq_false_iff_ne.mpr c23
   have c23b1 : ((x275000_3.length : Int) != 0) = true := bne_iff_ne.mpr c23
   have c23b2 : ¬ (x275000_3 = []) := fun h_ => c23 (by rw [h_]; rfl)
   replace H := Option.bind_eq_some_iff.mp H
   obtain ⟨⟨t283, t284⟩, A310, H⟩ := H
   replace H : ((spec_l12Rd_pick.f kj3 s0_0 t284 40).bind fun bt285 => (if bt285.1 = 0 then (if 0 ≤ t283 then (if t283 < (x275000_3.length : Int) then (some ((x275000_3.set (t283 : Int).toNat (⟨(rd_T43 x275000_3 t283).f0, (rd_T43 x275000_3 t283).f1, (⟨2, t283, (⟨0, 0⟩ : S39), false⟩ : S41), (⟨(rd_T43 x275000_3 t283).f3.f0, (rd_T43 x275000_3 t283).f3.f1, (⟨(rd_T43 x275000_3 t283).f3.f2.f0, (rd_T43 x275000_3 t283).f3.f2.f1⟩ : S39), (rd_T43 x275000_3 t283).f3.f3⟩ : S41)⟩ : S43)), x275001_3, bt285.2)) else (none)) else (none)) else (if bt285.1 = 1 then ((spec_l12Rd_num.f kj3 s0_0 bt285.2 (([0, 6, 14, 4] : List Int))).bind fun bt291 => (if 0 ≤ t283 then (if t283 < (x275000_3.length : Int) then (some ((x275000_3.set (t283 : Int).toNat (⟨bt291.1, (rd_T43 x275000_3 t283).f1, (⟨(rd_T43 x275000_3 t283).f2.f0, (rd_T43 x275000_3 t283).f2.f1, (⟨(rd_T43 x275000_3 t283).f2.f2.f0, (rd_T43 x275000_3 t283).f2.f2.f1⟩ : S39), (rd_T43 x275000_3 t283).f2.f3⟩ : S41), (⟨(rd_T43 x275000_3 t283).f3.f0, (rd_T43 x275000_3 t283).f3.f1, (⟨(rd_T43 x275000_3 t283).f3.f2.f0, (rd_T43 x275000_3 t283).f3.f2.f1⟩ : S39), (rd_T43 x275000_3 t283).f3.f3⟩ : S41)⟩ : S43)), x275001_3, bt291.2)) else (none)) else (none))) else (if bt285.1 = 2 then ((spec_l12Rd_num.f kj3 s0_0 bt285.2 (([(-1), 1, 1001] : List Int))).bind fun bt297 => (if 0 ≤ t283 then (if t283 < (x275000_3.length : Int) then (some ((x275000_3.set (t283 : Int).toNat (⟨(rd_T43 x275000_3 t283).f0, bt297.1, (⟨(rd_T43 x275000_3 t283).f2.f0, (rd_T43 x275000_3 t283).f2.f1, (⟨(rd_T43 x275000_3 t283).f2.f2.f0, (rd_T43 x275000_3 t283).f2.f2.f1⟩ : S39), (rd_T43 x275000_3 t283).f2.f3⟩ : S41), (⟨(rd_T43 x275000_3 t283).f3.f0, (rd_T43 x275000_3 t283).f3.f1, (⟨(rd_T43 x275000_3 t283).f3.f2.f0, (rd_T43 x275000_3 t283).f3.f2.f1⟩ : S39), (rd_T43 x275000_3 t283).f3.f3⟩ : S41)⟩ : S43)), x275001_3, bt297.2)) else (none)) else (none))) else (if bt285.1 = 3 then ((spec_l12Rd_pick.f kj3 s0_0 bt285.2 5).bind fun bt300 => ((spec_l12Rd_pick.f kj3 s0_0 bt300.2 9).bind fun bt302 => (if x275001_3.length < 5864062014805 then (some (x275000_3, (x275001_3 ++ [(⟨(⟨bt300.1, 5⟩ : S39), bt302.1⟩ : S66)]), bt302.2)) else (none)))) else (some (x275000_3, x275001_3, bt285.2))))))) = some (r1, r2, r3) := H
   have A31 := Aside0.mk A310
   clear A310
   replace H := Option.bind_eq_some_iff.mp H
   obtain ⟨⟨t285, t286⟩, A320, H⟩ := H
   replace H : (if t285 = 0 then (if 0 ≤ t283 then (if t283 < (x275000_3.length : Int) then (some ((x275000_3.set (t283 : Int).toNat (⟨(rd_T43 x275000_3 t283).f0, (rd_T43 x275000_3 t283).f1, (⟨2, t283, (⟨0, 0⟩ : S39), false⟩ : S41), (⟨(rd_T43 x275000_3 t283).f3.f0, (rd_T43 x275000_3 t283).f3.f1, (⟨(rd_T43 x275000_3 t283).f3.f2.f0, (rd_T43 x275000_3 t283).f3.f2.f1⟩ : S39), (rd_T43 x275000_3 t283).f3.f3⟩ : S41)⟩ : S43)), x275001_3, t286)) else (none)) else (none)) else (if t285 = 1 then ((spec_l12Rd_num.f kj3 s0_0 t286 (([0, 6, 14, 4] : List Int))).bind fun bt291 => (if 0 ≤ t283 then (if t283 < (x275000_3.length : Int) then (some ((x275000_3.set (t283 : Int).toNat (⟨bt291.1, (rd_T43 x275000_3 t283).f1, (⟨(rd_T43 x275000_3 t283).f2.f0, (rd_T43 x275000_3 t283).f2.f1, (⟨(rd_T43 x275000_3 t283).f2.f2.f0, (rd_T43 x275000_3 t283).f2.f2.f1⟩ : S39), (rd_T43 x275000_3 t283).f2.f3⟩ : S41), (⟨(rd_T43 x275000_3 t283).f3.f0, (rd_T43 x275000_3 t283).f3.f1, (⟨(rd_T43 x275000_3 t283).f3.f2.f0, (rd_T43 x275000_3 t283).f3.f2.f1⟩ : S39), (rd_T43 x275000_3 t283).f3.f3⟩ : S41)⟩ : S43)), x275001_3, bt291.2)) else (none)) else (none))) else (if t285 = 2 then ((spec_l12Rd_num.f kj3 s0_0 t286 (([(-1), 1, 1001] : List Int))).bind fun bt297 => (if 0 ≤ t283 then (if t283 < (x275000_3.length : Int) then (some ((x275000_3.set (t283 : Int).toNat (⟨(rd_T43 x275000_3 t283).f0, bt297.1, (⟨(rd_T43 x275000_3 t283).f2.f0, (rd_T43 x275000_3 t283).f2.f1, (⟨(rd_T43 x275000_3 t283).f2.f2.f0, (rd_T43 x275000_3 t283).f2.f2.f1⟩ : S39), (rd_T43 x275000_3 t283).f2.f3⟩ : S41), (⟨(rd_T43 x275000_3 t283).f3.f0, (rd_T43 x275000_3 t283).f3.f1, (⟨(rd_T43 x275000_3 t283).f3.f2.f0, (rd_T43 x275000_3 t283).f3.f2.f1⟩ : S39), (rd_T43 x275000_3 t283).f3.f3⟩ : S41)⟩ : S43)), x275001_3, bt297.2)) else (none)) else (none))) else (if t285 = 3 then ((spec_l12Rd_pick.f kj3 s0_0 t286 5).bind fun bt300 => ((spec_l12Rd_pick.f kj3 s0_0 bt300.2 9).bind fun bt302 => (if x275001_3.length < 5864062014805 then (some (x275000_3, (x275001_3 ++ [(⟨(⟨bt300.1, 5⟩ : S39), bt302.1⟩ : S66)]), bt302.2)) else (none)))) else (some (x275000_3, x275001_3, t286)))))) = some (r1, r2, r3) := H
   have A32 := Aside0.mk A320
   clear A320
   by_cases c33 : t285 = 0
   · rw [if_pos c33] at H
     have c33b0 : (t285 == 0) = true := beq_iff_eq.mpr c33
     have c33b1 : (t285 != 0) = false := bne_eq_false_iff_eq.mpr c33
     clear c33
     by_cases c34 : 0 ≤ t283
     rotate_left
     · rw [if_neg c34] at H
       exact absurd H (by simp)
     rw [if_pos c34] at H
     have c34b0 : decide (0 ≤ t283) = true := decide_eq_true c34
     clear c34
     by_cases c35 : t283 < (x275000_3.length : Int)
     rotate_left
     · rw [if_neg c35] at H
       exact absurd H (by simp)
     rw [if_pos c35] at H
     have c35b0 : decide (t283 < (x275000_3.length : Int)) = true := decide_eq_true c35
     clear c35
     obtain ⟨y287, hy287⟩ : ∃ y_ : List (S43), y_ = (x275000_3.set (t283 : Int).toNat (⟨(rd_T43 x275000_3 t283).f0, (rd_T43 x275000_3 t283).f1, (⟨2, t283, (⟨0, 0⟩ : S39), false⟩ : S41), (⟨(rd_T43 x275000_3 t283).f3.f0, (rd_T43 x275000_3 t283).f3.f1, (⟨(rd_T43 x275000_3 t283).f3.f2.f0, (rd_T43 x275000_3 t283).f3.f2.f1⟩ : S39), (rd_T43 x275000_3 t283).f3.f3⟩ : S41)⟩ : S43)) := ⟨_, rfl⟩
     replace H : (some (y287, x275001_3, t286)) = some (r1, r2, r3) := by first | (rw [hy287]; with_reducible exact H) | (have H2_ := (Option.bind_some _ _).symm.trans H; rw [hy287]; with_reducible exact H2_) | (have H2_ := (Option.bind_some _ _).symm.trans H; with_reducible exact H2_) | with_reducible exact H | (rw [hy287]; exact H) | exact H
     have Ny287 := Aside0.mk hy287
     clear hy287
     simp only [Option.some.injEq, Prod.mk.injEq] at H
     obtain ⟨rfl, rfl, rfl⟩ := H
     have hnb37 := NB274_266.out
     have hnc37 := NB266_274.out
     have hnb38 := NB274_0.out
     have hnc38 := NB0_274.out
     have hcz39_0 : wc.cell? ⟨gb274, 0, none⟩ = some (u275000) := (blk_cell BK274.out 0).trans rfl
     have hcz39_1 : wc.cell? ⟨gb274, 1, none⟩ = some (u275001) := (blk_cell BK274.out 1).trans rfl
     have hfz39_0 := blk_frozen BK274.out 0
     have hfz39_1 := blk_frozen BK274.out 1
     obtain ⟨Ao40, co40, eo40⟩ := Kd.R_slice HO_275000.out
     subst eo40
     go_wp2_with (first | ((with_reducible refine gate_callee (f := 64) rfl ?_); refine goesL_ (some 21) rfl rfl Tryz.func64 (by kernel_rfl) rfl #[.pointer (some ⟨g, 0, none⟩), .int .i64 (x275000_3.length : Int)] rfl (by (try simp only [List.map_toArray, List.map_cons, List.map_nil]); first | done | rfl | (simp only [List.length_drop, List.length_take]; rfl)) ?_; (with_reducible refine (spec_l12Rd_pick.calls kj3 g s0_0 t276 (x275000_3.length : Int) t283 t284 w0 _ ?side1 ?side2 A31.out).mono ?_); (case side1 => repeat (first | (with_reducible first | exact HI0.out | apply IsS116.alloc | apply IsS116.drewN | apply IsS116.drew | apply IsS116.set_1 | refine IsS116.far ?_ NB0_266.out _ | refine IsS116.far ?_ NB0_274.out _) | exact HI0.out)); (case side2 => repeat (first | (with_reducible first | exact HB.out | apply below_alloc | apply pw_below_drewN | apply below_drew1 | refine below_set ?_ (IsS116.ge HI0.out) | refine below_set ?_ GE266.out | refine below_set ?_ GE274.out) | exact HB.out)); rintro e w41 ⟨rfl, hi, hb, hk⟩; refine ⟨_, rfl, ?_⟩; have n0_ := Aside0.mk (Kd.R_mono (Kd.R_keep (IsS116.apart (show IsS116 w0 _ g s0_0 t276 from by repeat (first | (with_reducible first | exact HI0.out | apply IsS116.alloc | apply IsS116.drewN | apply IsS116.drew | apply IsS116.set_1 | refine IsS116.far ?_ NB0_266.out _ | refine IsS116.far ?_ NB0_274.out _) | exact HI0.out)) (by (with_reducible repeat (first | apply Kd.R_alloc | apply Kd.R_drewN | apply Kd.R_drew)); exact HO_275000.out) (by decide)) hk (fun _ h => h.2)) (fun _ h => h.1)); have n1_ := Aside0.mk (Kd.R_mono (Kd.R_keep (IsS116.apart (show IsS116 w0 _ g s0_0 t276 from by repeat (first | (with_reducible first | exact HI0.out | apply IsS116.alloc | apply IsS116.drewN | apply IsS116.drew | apply IsS116.set_1 | refine IsS116.far ?_ NB0_266.out _ | refine IsS116.far ?_ NB0_274.out _) | exact HI0.out)) (by (with_reducible repeat (first | apply Kd.R_alloc | apply Kd.R_drewN | apply Kd.R_drew)); exact HO_275001.out) (by decide)) hk (fun _ h => h.2)) (fun _ h => h.1)); have n2_ := Aside0.mk (KeepBut.blk hk (g' := gb266) (o := .cells #[.slice none 0 0, .slice none 0 0] 31 (0, 0)) (by (with_reducible repeat (first | refine blk_drewN ?_ _ | refine blk_drew ?_ | refine blk_alloc ?_ _)); exact BK266.out) NB266_0.out (by simp)); have n3_ := Aside0.mk (KeepBut.blk hk (g' := gb274) (o := .cells #[.slice Ao40 x275000_3.length co40, u275001] 31 (0, 0)) (by (with_reducible repeat (first | refine blk_drewN ?_ _ | refine blk_drew ?_ | refine blk_alloc ?_ _)); exact BK274.out) NB274_0.out (by simp)); have n4_ := Aside0.mk (KeepBut.trans (by repeat (first | (with_reducible first | exact HK.out | apply KeepBut.set_ | apply keep_drewN | apply keep_drew | apply keep_alloc | refine keep_far ?_ GW266.out _ | refine keep_far ?_ GW274.out _) | exact HK.out)) hk (.inl rfl)); have n5_ := Aside0.mk (hb); have n6_ := Aside0.mk (hi); clear HO_275000; clear HO_275001; clear BK266; clear BK274; clear HK; clear HB; clear HI0; have HO_275000 := n0_; have HO_275001 := n1_; have BK266 := n2_; have BK274 := n3_; have HK := n4_; have HB := n5_; have HI0 := n6_; clear n0_ n1_ n2_ n3_ n4_ n5_ n6_; (try clear hb); (try clear hb2); (try clear hk); (try clear hi)) | ((with_reducible refine gate_callee (f := 64) rfl ?_); refine goesL_ (some 23) rfl rfl Tryz.func64 (by kernel_rfl) rfl #[.pointer (some ⟨g, 0, none⟩), .int .i64 40] rfl (by (try simp only [List.map_toArray, List.map_cons, List.map_nil]); first | done | rfl | (simp only [List.length_drop, List.length_take]; rfl)) ?_; (with_reducible refine (spec_l12Rd_pick.calls kj3 g s0_0 t284 40 t285 t286 w0 _ ?side1 ?side2 A32.out).mono ?_); (case side1 => repeat (first | (with_reducible first | exact HI0.out | apply IsS116.alloc | apply IsS116.drewN | apply IsS116.drew | apply IsS116.set_1 | refine IsS116.far ?_ NB0_266.out _ | refine IsS116.far ?_ NB0_274.out _) | exact HI0.out)); (case side2 => repeat (first | (with_reducible first | exact HB.out | apply below_alloc | apply pw_below_drewN | apply below_drew1 | refine below_set ?_ (IsS116.ge HI0.out) | refine below_set ?_ GE266.out | refine below_set ?_ GE274.out) | exact HB.out)); rintro e w42 ⟨rfl, hi, hb, hk⟩; refine ⟨_, rfl, ?_⟩; have n0_ := Aside0.mk (Kd.R_mono (Kd.R_keep (IsS116.apart (show IsS116 w0 _ g s0_0 t284 from by repeat (first | (with_reducible first | exact HI0.out | apply IsS116.alloc | apply IsS116.drewN | apply IsS116.drew | apply IsS116.set_1 | refine IsS116.far ?_ NB0_266.out _ | refine IsS116.far ?_ NB0_274.out _) | exact HI0.out)) (by (with_reducible repeat (first | apply Kd.R_alloc | apply Kd.R_drewN | apply Kd.R_drew)); exact HO_275000.out) (by decide)) hk (fun _ h => h.2)) (fun _ h => h.1)); have n1_ := Aside0.mk (Kd.R_mono (Kd.R_keep (IsS116.apart (show IsS116 w0 _ g s0_0 t284 from by repeat (first | (with_reducible first | exact HI0.out | apply IsS116.alloc | apply IsS116.drewN | apply IsS116.drew | apply IsS116.set_1 | refine IsS116.far ?_ NB0_266.out _ | refine IsS116.far ?_ NB0_274.out _) | exact HI0.out)) (by (with_reducible repeat (first | apply Kd.R_alloc | apply Kd.R_drewN | apply Kd.R_drew)); exact HO_275001.out) (by decide)) hk (fun _ h => h.2)) (fun _ h => h.1)); have n2_ := Aside0.mk (KeepBut.blk hk (g' := gb266) (o := .cells #[.slice none 0 0, .slice none 0 0] 31 (0, 0)) (by (with_reducible repeat (first | refine blk_drewN ?_ _ | refine blk_drew ?_ | refine blk_alloc ?_ _)); exact BK266.out) NB266_0.out (by simp)); have n3_ := Aside0.mk (KeepBut.blk hk (g' := gb274) (o := .cells #[.slice Ao40 x275000_3.length co40, u275001] 31 (0, 0)) (by (with_reducible repeat (first | refine blk_drewN ?_ _ | refine blk_drew ?_ | refine blk_alloc ?_ _)); exact BK274.out) NB274_0.out (by simp)); have n4_ := Aside0.mk (KeepBut.trans (by repeat (first | (with_reducible first | exact HK.out | apply KeepBut.set_ | apply keep_drewN | apply keep_drew | apply keep_alloc | refine keep_far ?_ GW266.out _ | refine keep_far ?_ GW274.out _) | exact HK.out)) hk (.inl rfl)); have n5_ := Aside0.mk (hb); have n6_ := Aside0.mk (hi); clear HO_275000; clear HO_275001; clear BK266; clear BK274; clear HK; clear HB; clear HI0; have HO_275000 := n0_; have HO_275001 := n1_; have BK266 := n2_; have BK274 := n3_; have HK := n4_; have HB := n5_; have HI0 := n6_; clear n0_ n1_ n2_ n3_ n4_ n5_ n6_; (try clear hb); (try clear hb2); (try clear hk); (try clear hi); have hcz43_0 : w42.cell? ⟨gb274, 0, none⟩ = some (.slice Ao40 x275000_3.length co40) := (blk_cell BK274.out 0).trans rfl; have hcz43_1 : w42.cell? ⟨gb274, 1, none⟩ = some (u275001) := (blk_cell BK274.out 1).trans rfl; have hfz43_0 := blk_frozen BK274.out 0; have hfz43_1 := blk_frozen BK274.out 1; have p36 : 0 ≤ (t283 : Int) := of_decide_eq_true (by first | (with_reducible assumption) | assumption); have q36 : (t283 : Int) < ((x275000_3.length : Int) : Int) := of_decide_eq_true (by first | (with_reducible assumption) | assumption); obtain ⟨go36, co36, eo36, gb36, gl36, cl36, HG36⟩ := Kd.R_form HO_275000.out (by omega); (first | cases eo36 | (injection eo36 with ea_ en_ ec_; (first | subst ea_ | (injection ea_ with ea_; subst ea_)); subst ec_; clear en_)); have GB36 := Aside0.mk gb36; have GG36 := Aside0.mk HG36; clear gb36 gl36 HG36; obtain ⟨ce36, hcl36, hM36, hcc36, hfr36⟩ := Kd.R_elem HO_275000.out z43 (t283 : Int) p36 q36; obtain rfl := k43_openM hM36; have hx36_0 : w42.cell? ⟨go36, (t283 : Int).toNat * 12, none⟩ = some (.int .i64 ((rd_T43 x275000_3 t283).f0)) := hcc36 0 _ rfl; have hx36_1 : w42.cell? ⟨go36, (t283 : Int).toNat * 12 + 1, none⟩ = some (.int .i64 ((rd_T43 x275000_3 t283).f1)) := hcc36 1 _ rfl; have hx36_2 : w42.cell? ⟨go36, (t283 : Int).toNat * 12 + 2, none⟩ = some (.int .i64 ((rd_T43 x275000_3 t283).f2.f0)) := hcc36 2 _ rfl; have hx36_3 : w42.cell? ⟨go36, (t283 : Int).toNat * 12 + 3, none⟩ = some (.int .i64 ((rd_T43 x275000_3 t283).f2.f1)) := hcc36 3 _ rfl; have hx36_4 : w42.cell? ⟨go36, (t283 : Int).toNat * 12 + 4, none⟩ = some (.int .i64 ((rd_T43 x275000_3 t283).f2.f2.f0)) := hcc36 4 _ rfl; have hx36_5 : w42.cell? ⟨go36, (t283 : Int).toNat * 12 + 5, none⟩ = some (.int .i64 ((rd_T43 x275000_3 t283).f2.f2.f1)) := hcc36 5 _ rfl; have hx36_6 : w42.cell? ⟨go36, (t283 : Int).toNat * 12 + 6, none⟩ = some (.bool ((rd_T43 x275000_3 t283).f2.f3)) := hcc36 6 _ rfl; have hx36_7 : w42.cell? ⟨go36, (t283 : Int).toNat * 12 + 7, none⟩ = some (.int .i64 ((rd_T43 x275000_3 t283).f3.f0)) := hcc36 7 _ rfl; have hx36_8 : w42.cell? ⟨go36, (t283 : Int).toNat * 12 + 8, none⟩ = some (.int .i64 ((rd_T43 x275000_3 t283).f3.f1)) := hcc36 8 _ rfl; have hx36_9 : w42.cell? ⟨go36, (t283 : Int).toNat * 12 + 9, none⟩ = some (.int .i64 ((rd_T43 x275000_3 t283).f3.f2.f0)) := hcc36 9 _ rfl; have hx36_10 : w42.cell? ⟨go36, (t283 : Int).toNat * 12 + 10, none⟩ = some (.int .i64 ((rd_T43 x275000_3 t283).f3.f2.f1)) := hcc36 10 _ rfl; have hx36_11 : w42.cell? ⟨go36, (t283 : Int).toNat * 12 + 11, none⟩ = some (.bool ((rd_T43 x275000_3 t283).f3.f3)) := hcc36 11 _ rfl; have hf36_0 : w42.frozen? ⟨go36, (t283 : Int).toNat * 12, none⟩ = false := hfr36 0; have hf36_1 : w42.frozen? ⟨go36, (t283 : Int).toNat * 12 + 1, none⟩ = false := hfr36 1; have hf36_2 : w42.frozen? ⟨go36, (t283 : Int).toNat * 12 + 2, none⟩ = false := hfr36 2; have hf36_3 : w42.frozen? ⟨go36, (t283 : Int).toNat * 12 + 3, none⟩ = false := hfr36 3; have hf36_4 : w42.frozen? ⟨go36, (t283 : Int).toNat * 12 + 4, none⟩ = false := hfr36 4; have hf36_5 : w42.frozen? ⟨go36, (t283 : Int).toNat * 12 + 5, none⟩ = false := hfr36 5; have hf36_6 : w42.frozen? ⟨go36, (t283 : Int).toNat * 12 + 6, none⟩ = false := hfr36 6; have hf36_7 : w42.frozen? ⟨go36, (t283 : Int).toNat * 12 + 7, none⟩ = false := hfr36 7; have hf36_8 : w42.frozen? ⟨go36, (t283 : Int).toNat * 12 + 8, none⟩ = false := hfr36 8; have hf36_9 : w42.frozen? ⟨go36, (t283 : Int).toNat * 12 + 9, none⟩ = false := hfr36 9; have hf36_10 : w42.frozen? ⟨go36, (t283 : Int).toNat * 12 + 10, none⟩ = false := hfr36 10; have hf36_11 : w42.frozen? ⟨go36, (t283 : Int).toNat * 12 + 11, none⟩ = false := hfr36 11; clear hcl36 hcc36 hfr36 hM36; replace p36 := eq_true p36; replace q36 := eq_true q36; have HX44 := Aside0.mk (show Kd.R k43 43 w42 w.heap.size (fun _ => True) (.slice (some ⟨go36, 0, none⟩) x275000_3.length co40) x275000_3 from (by (with_reducible repeat (first | apply Kd.R_alloc | apply Kd.R_drewN | apply Kd.R_drew)); exact HO_275000.out)); obtain ⟨ce44, hcl44, hM44, hcc44, hfr44⟩ := Kd.R_elem HX44.out z43 (t283 : Int) (of_decide_eq_true (by first | (with_reducible assumption) | assumption)) (by have h_ : (t283 : Int) < ((x275000_3.length : Int) : Int) := of_decide_eq_true (by first | (with_reducible assumption) | assumption); first | exact h_ | (have e_ := (Kd.R_reads' HO_275000.out).1; omega) | simpa using h_); obtain rfl := k43_openM hM44; have HP44 := Kd.R_seg HX44.out (t283 : Int) (of_decide_eq_true (by first | (with_reducible assumption) | assumption)) (by have h_ : (t283 : Int) < ((x275000_3.length : Int) : Int) := of_decide_eq_true (by first | (with_reducible assumption) | assumption); first | exact h_ | (have e_ := (Kd.R_reads' HO_275000.out).1; omega) | simpa using h_) (seg := [.int .i64 2, .int .i64 t283, .int .i64 0, .int .i64 0, .bool false]) (j := 2) hcl44 hcc44 (show 7 ≤ 12 from by decide) (x' := (⟨(rd_T43 x275000_3 t283).f0, (rd_T43 x275000_3 t283).f1, (⟨2, t283, (⟨0, 0⟩ : S39), false⟩ : S41), (⟨(rd_T43 x275000_3 t283).f3.f0, (rd_T43 x275000_3 t283).f3.f1, (⟨(rd_T43 x275000_3 t283).f3.f2.f0, (rd_T43 x275000_3 t283).f3.f2.f1⟩ : S39), (rd_T43 x275000_3 t283).f3.f3⟩ : S41)⟩ : S43)) (k43_mkM _ _ _ (⟨(rd_T43 x275000_3 t283).f0, (rd_T43 x275000_3 t283).f1, (⟨2, t283, (⟨0, 0⟩ : S39), false⟩ : S41), (⟨(rd_T43 x275000_3 t283).f3.f0, (rd_T43 x275000_3 t283).f3.f1, (⟨(rd_T43 x275000_3 t283).f3.f2.f0, (rd_T43 x275000_3 t283).f3.f2.f1⟩ : S39), (rd_T43 x275000_3 t283).f3.f3⟩ : S41)⟩ : S43) ) (fun _ hk => hk); have hx44_2 := hcc44 2 _ rfl; (try simp only [show (k43).sz = 12 from rfl, Nat.mul_one, Nat.add_zero] at hx44_2); have hf44_2 := hfr44 2; (try simp only [show (k43).sz = 12 from rfl, Nat.mul_one, Nat.add_zero] at hf44_2); have hx44_3 := hcc44 3 _ rfl; (try simp only [show (k43).sz = 12 from rfl, Nat.mul_one, Nat.add_zero] at hx44_3); have hf44_3 := hfr44 3; (try simp only [show (k43).sz = 12 from rfl, Nat.mul_one, Nat.add_zero] at hf44_3); have hx44_4 := hcc44 4 _ rfl; (try simp only [show (k43).sz = 12 from rfl, Nat.mul_one, Nat.add_zero] at hx44_4); have hf44_4 := hfr44 4; (try simp only [show (k43).sz = 12 from rfl, Nat.mul_one, Nat.add_zero] at hf44_4); have hx44_5 := hcc44 5 _ rfl; (try simp only [show (k43).sz = 12 from rfl, Nat.mul_one, Nat.add_zero] at hx44_5); have hf44_5 := hfr44 5; (try simp only [show (k43).sz = 12 from rfl, Nat.mul_one, Nat.add_zero] at hf44_5); have hx44_6 := hcc44 6 _ rfl; (try simp only [show (k43).sz = 12 from rfl, Nat.mul_one, Nat.add_zero] at hx44_6); have hf44_6 := hfr44 6; (try simp only [show (k43).sz = 12 from rfl, Nat.mul_one, Nat.add_zero] at hf44_6); clear hcl44 hcc44 hfr44 hM44) | ((with_reducible refine gate_store (t := 41) (p := 32) rfl ?_); refine store_event (t := 41) (p := 32) (v := ?vo_w45) (w1 := (((((w42.setCell ⟨go36, (t283 : Int).toNat * 12 + 2, none⟩ (.int .i64 2)).setCell ⟨go36, (t283 : Int).toNat * 12 + 3, none⟩ (.int .i64 t283)).setCell ⟨go36, (t283 : Int).toNat * 12 + 4, none⟩ (.int .i64 0)).setCell ⟨go36, (t283 : Int).toNat * 12 + 5, none⟩ (.int .i64 0)).setCell ⟨go36, (t283 : Int).toNat * 12 + 6, none⟩ (.bool false))) ?hg ?ho ?hn ?hr ?_; (case ho => rfl); (case hg => rfl); (case hn => rfl); (case hr => first | (go_simp; done) | (go_simp; rfl)); intro w45 hw; have hg : w42.grownBy w45 (some go36) := (by rw [hw]; exact HP44.2); have hp_ : Kd.R k43 43 w45 w.heap.size (fun _ => True) (.slice (some ⟨go36, 0, none⟩) x275000_3.length co40) y287 := (by rw [hw, Ny287.out]; exact HP44.1); clear HP44; have n0_ := Aside0.mk (hp_); have n1_ := Aside0.mk (Kd.R_over' (v := (.slice (some ⟨go36, 0, none⟩) x275000_3.length co40)) (by (with_reducible repeat (first | apply Kd.R_alloc | apply Kd.R_drewN | apply Kd.R_drew)); exact HO_275001.out) (Kd.R_typed HO_275000.out) (by decide) hg); have n2_ := Aside0.mk (blk_grown (g := gb266) (o := .cells #[.slice none 0 0, .slice none 0 0] 31 (0, 0)) (by (with_reducible repeat (first | refine blk_drewN ?_ _ | refine blk_drew ?_ | refine blk_alloc ?_ _)); exact BK266.out) hg (Kd.R_ne HO_275000.out BK266.out (by decide))); have n3_ := Aside0.mk (blk_grown (g := gb274) (o := .cells #[.slice (some ⟨go36, 0, none⟩) x275000_3.length co40, u275001] 31 (0, 0)) (by (with_reducible repeat (first | refine blk_drewN ?_ _ | refine blk_drew ?_ | refine blk_alloc ?_ _)); exact BK274.out) hg (Kd.R_ne HO_275000.out BK274.out (by decide))); have n4_ := Aside0.mk (IsS116.grown (by repeat (first | (with_reducible first | exact HI0.out | apply IsS116.alloc | apply IsS116.drewN | apply IsS116.drew | apply IsS116.set_1 | refine IsS116.far ?_ NB0_266.out _ | refine IsS116.far ?_ NB0_274.out _) | exact HI0.out)) hg (IsS116.own_ne HI0.out HO_275000.out (by decide))); have n5_ := Aside0.mk ((by rw [hw]; exact below_set (below_set (below_set (below_set (below_set (HB.out) (Nat.le_trans HL.out GB36.out)) (Nat.le_trans HL.out GB36.out)) (Nat.le_trans HL.out GB36.out)) (Nat.le_trans HL.out GB36.out)) (Nat.le_trans HL.out GB36.out) : Below w0.heap.size w0 w45)); have n6_ := Aside0.mk (KeepBut.trans (by repeat (first | (with_reducible first | exact HK.out | apply KeepBut.set_ | apply keep_drewN | apply keep_drew | apply keep_alloc | refine keep_far ?_ GW266.out _ | refine keep_far ?_ GW274.out _) | exact HK.out)) (KeepBut.of_grown hg g) (Kd.R_base2 HO_275000.out)); clear HO_275000; clear HO_275001; clear BK266; clear BK274; clear HI0; clear HB; clear HK; have HO_275000 := n0_; have HO_275001 := n1_; have BK266 := n2_; have BK274 := n3_; have HI0 := n4_; have HB := n5_; have HK := n6_; clear n0_ n1_ n2_ n3_ n4_ n5_ n6_; clear hg hw hp_; have hcz46_0 : w45.cell? ⟨gb274, 0, none⟩ = some (.slice (some ⟨go36, 0, none⟩) x275000_3.length co40) := (blk_cell BK274.out 0).trans rfl; have hcz46_1 : w45.cell? ⟨gb274, 1, none⟩ = some (u275001) := (blk_cell BK274.out 1).trans rfl; have hfz46_0 := blk_frozen BK274.out 0; have hfz46_1 := blk_frozen BK274.out 1; have hnb47 := NB266_0.out; have hnc47 := NB0_266.out; have hcz48_0 : w45.cell? ⟨gb266, 0, none⟩ = some (.slice none 0 0) := (blk_cell BK266.out 0).trans rfl; have hcz48_1 : w45.cell? ⟨gb266, 1, none⟩ = some (.slice none 0 0) := (blk_cell BK266.out 1).trans rfl; have hfz48_0 := blk_frozen BK266.out 0; have hfz48_1 := blk_frozen BK266.out 1; obtain ⟨Ao49, co49, eo49⟩ := Kd.R_slice HO_275001.out; subst eo49))
     refine bodyPost_ret (results_cell_row rfl _ _ gb266 31 #[.slice (some ⟨go36, 0, none⟩) x275000_3.length co40, .slice Ao49 x275001_3.length co49] (0, 0) _ rfl (by (with_reducible repeat (first | refine blk_drewN ?_ _ | refine blk_drew ?_ | refine blk_alloc ?_ _)); refine blk_put (cs := #[.slice (some ⟨go36, 0, none⟩) x275000_3.length co40, .slice none 0 0]) ?_ 1 _ rfl; (with_reducible repeat (first | refine blk_drewN ?_ _ | refine blk_drew ?_ | refine blk_alloc ?_ _)); refine blk_put (cs := #[.slice none 0 0, .slice none 0 0]) ?_ 0 _ rfl; (with_reducible repeat (first | refine blk_drewN ?_ _ | refine blk_drew ?_ | refine blk_alloc ?_ _)); exact BK266.out) Tryz.underlying31 rfl (by kernel_rfl)) rfl ?_
     exact ⟨_, _, by first | rfl | (simp [errW_none, errW_some] <;> rfl) | (simp [*, errW_none, errW_some] <;> rfl), by (with_reducible repeat (first | apply Kd.R_alloc | apply Kd.R_drewN | apply Kd.R_drew)); exact Kd.R_mono (Kd.R_far (p := ⟨gb266, 1, none⟩) (Kd.R_far (p := ⟨gb266, 0, none⟩) (Kd.R_types HO_275000.out BK266.out (by decide)) (fun _ hk => hk.2) (.slice (some ⟨go36, 0, none⟩) x275000_3.length co40)) (fun _ hk => hk.2) (.slice Ao49 x275001_3.length co49)) (fun _ hk => trivial), by (with_reducible repeat (first | apply Kd.R_alloc | apply Kd.R_drewN | apply Kd.R_drew)); exact Kd.R_mono (Kd.R_far (p := ⟨gb266, 1, none⟩) (Kd.R_far (p := ⟨gb266, 0, none⟩) (Kd.R_types HO_275001.out BK266.out (by decide)) (fun _ hk => hk.2) (.slice (some ⟨go36, 0, none⟩) x275000_3.length co40)) (fun _ hk => hk.2) (.slice Ao49 x275001_3.length co49)) (fun _ hk => trivial), by repeat (first | (with_reducible first | exact HI0.out | apply IsS116.alloc | apply IsS116.drewN | apply IsS116.drew | apply IsS116.set_1 | refine IsS116.far ?_ NB0_266.out _ | refine IsS116.far ?_ NB0_274.out _) | exact HI0.out), by repeat (first | (with_reducible first | exact HB.out | apply below_alloc | apply pw_below_drewN | apply below_drew1 | refine below_set ?_ (IsS116.ge HI0.out) | refine below_set ?_ GE266.out | refine below_set ?_ GE274.out) | exact HB.out), by repeat (first | (with_reducible first | exact HK.out | apply KeepBut.set_ | apply keep_drewN | apply keep_drew | apply keep_alloc | refine keep_far ?_ GW266.out _ | refine keep_far ?_ GW274.out _) | exact HK.out)⟩
   rw [if_neg c33] at H
   have c33b0 : (t285 == 0) = false := beq_eq_false_iff_ne.mpr c33
   have c33b1 : (t285 != 0) = true := bne_iff_ne.mpr c33
   by_cases c50 : t285 = 1
   · rw [if_pos c50] at H
     have c50b0 : (t285 == 1) = true := beq_iff_eq.mpr c50
     have c50b1 : (t285 != 1) = false := bne_eq_false_iff_eq.mpr c50
     clear c50
     obtain ⟨y288, hy288⟩ : ∃ y_ : List Int, y_ = (([0, 6, 14, 4] : List Int)) := ⟨_, rfl⟩
     replace H : ((spec_l12Rd_num.f kj3 s0_0 t286 y288).bind fun bt291 => (if 0 ≤ t283 then (if t283 < (x275000_3.length : Int) then (some ((x275000_3.set (t283 : Int).toNat (⟨bt291.1, (rd_T43 x275000_3 t283).f1, (⟨(rd_T43 x275000_3 t283).f2.f0, (rd_T43 x275000_3 t283).f2.f1, (⟨(rd_T43 x275000_3 t283).f2.f2.f0, (rd_T43 x275000_3 t283).f2.f2.f1⟩ : S39), (rd_T43 x275000_3 t283).f2.f3⟩ : S41), (⟨(rd_T43 x275000_3 t283).f3.f0, (rd_T43 x275000_3 t283).f3.f1, (⟨(rd_T43 x275000_3 t283).f3.f2.f0, (rd_T43 x275000_3 t283).f3.f2.f1⟩ : S39), (rd_T43 x275000_3 t283).f3.f3⟩ : S41)⟩ : S43)), x275001_3, bt291.2)) else (none)) else (none))) = some (r1, r2, r3) := by first | (rw [hy288]; with_reducible exact H) | (have H2_ := (Option.bind_some _ _).symm.trans H; rw [hy288]; with_reducible exact H2_) | (have H2_ := (Option.bind_some _ _).symm.trans H; with_reducible exact H2_) | with_reducible exact H | (rw [hy288]; exact H) | exact H
     have Ny288 := Aside0.mk hy288
     clear hy288
     replace H := Option.bind_eq_some_iff.mp H
     obtain ⟨⟨t291, t292⟩, A510, H⟩ := H
     replace H : (if 0 ≤ t283 then (if t283 < (x275000_3.length : Int) then (some ((x275000_3.set (t283 : Int).toNat (⟨t291, (rd_T43 x275000_3 t283).f1, (⟨(rd_T43 x275000_3 t283).f2.f0, (rd_T43 x275000_3 t283).f2.f1, (⟨(rd_T43 x275000_3 t283).f2.f2.f0, (rd_T43 x275000_3 t283).f2.f2.f1⟩ : S39), (rd_T43 x275000_3 t283).f2.f3⟩ : S41), (⟨(rd_T43 x275000_3 t283).f3.f0, (rd_T43 x275000_3 t283).f3.f1, (⟨(rd_T43 x275000_3 t283).f3.f2.f0, (rd_T43 x275000_3 t283).f3.f2.f1⟩ : S39), (rd_T43 x275000_3 t283).f3.f3⟩ : S41)⟩ : S43)), x275001_3, t292)) else (none)) else (none)) = some (r1, r2, r3) := H
     have A51 := Aside0.mk A510
     clear A510
     by_cases c52 : 0 ≤ t283
     rotate_left
     · rw [if_neg c52] at H
       exact absurd H (by simp)
     rw [if_pos c52] at H
     have c52b0 : decide (0 ≤ t283) = true := decide_eq_true c52
     clear c52
     by_cases c53 : t283 < (x275000_3.length : Int)
     rotate_left
     · rw [if_neg c53] at H
       exact absurd H (by simp)
     rw [if_pos c53] at H
     have c53b0 : decide (t283 < (x275000_3.length : Int)) = true := decide_eq_true c53
     clear c53
     obtain ⟨y293, hy293⟩ : ∃ y_ : List (S43), y_ = (x275000_3.set (t283 : Int).toNat (⟨t291, (rd_T43 x275000_3 t283).f1, (⟨(rd_T43 x275000_3 t283).f2.f0, (rd_T43 x275000_3 t283).f2.f1, (⟨(rd_T43 x275000_3 t283).f2.f2.f0, (rd_T43 x275000_3 t283).f2.f2.f1⟩ : S39), (rd_T43 x275000_3 t283).f2.f3⟩ : S41), (⟨(rd_T43 x275000_3 t283).f3.f0, (rd_T43 x275000_3 t283).f3.f1, (⟨(rd_T43 x275000_3 t283).f3.f2.f0, (rd_T43 x275000_3 t283).f3.f2.f1⟩ : S39), (rd_T43 x275000_3 t283).f3.f3⟩ : S41)⟩ : S43)) := ⟨_, rfl⟩
     replace H : (some (y293, x275001_3, t292)) = some (r1, r2, r3) := by first | (rw [hy293]; with_reducible exact H) | (have H2_ := (Option.bind_some _ _).symm.trans H; rw [hy293]; with_reducible exact H2_) | (have H2_ := (Option.bind_some _ _).symm.trans H; with_reducible exact H2_) | with_reducible exact H | (rw [hy293]; exact H) | exact H
     have Ny293 := Aside0.mk hy293
     clear hy293
     simp only [Option.some.injEq, Prod.mk.injEq] at H
     obtain ⟨rfl, rfl, rfl⟩ := H
     have hnb55 := NB274_266.out
     have hnc55 := NB266_274.out
     have hnb56 := NB274_0.out
     have hnc56 := NB0_274.out
     have hcz57_0 : wc.cell? ⟨gb274, 0, none⟩ = some (u275000) := (blk_cell BK274.out 0).trans rfl
     have hcz57_1 : wc.cell? ⟨gb274, 1, none⟩ = some (u275001) := (blk_cell BK274.out 1).trans rfl
     have hfz57_0 := blk_frozen BK274.out 0
     have hfz57_1 := blk_frozen BK274.out 1
     obtain ⟨Ao58, co58, eo58⟩ := Kd.R_slice HO_275000.out
     subst eo58
     try go_wp2_with (first | ((with_reducible refine gate_callee (f := 64) rfl ?_); refine goesL_ (some 21) rfl rfl Tryz.func64 (by kernel_rfl) rfl #[.pointer (some ⟨g, 0, none⟩), .int .i64 (x275000_3.length : Int)] rfl (by (try simp only [List.map_toArray, List.map_cons, List.map_nil]); first | done | rfl | (simp only [List.length_drop, List.length_take]; rfl)) ?_; (with_reducible refine (spec_l12Rd_pick.calls kj3 g s0_0 t276 (x275000_3.length : Int) t283 t284 w0 _ ?side1 ?side2 A31.out).mono ?_); (case side1 => repeat (first | (with_reducible first | exact HI0.out | apply IsS116.alloc | apply IsS116.drewN | apply IsS116.drew | apply IsS116.set_1 | refine IsS116.far ?_ NB0_266.out _ | refine IsS116.far ?_ NB0_274.out _) | exact HI0.out)); (case side2 => repeat (first | (with_reducible first | exact HB.out | apply below_alloc | apply pw_below_drewN | apply below_drew1 | refine below_set ?_ (IsS116.ge HI0.out) | refine below_set ?_ GE266.out | refine below_set ?_ GE274.out) | exact HB.out)); rintro e w59 ⟨rfl, hi, hb, hk⟩; refine ⟨_, rfl, ?_⟩; have n0_ := Aside0.mk (Kd.R_mono (Kd.R_keep (IsS116.apart (show IsS116 w0 _ g s0_0 t276 from by repeat (first | (with_reducible first | exact HI0.out | apply IsS116.alloc | apply IsS116.drewN | apply IsS116.drew | apply IsS116.set_1 | refine IsS116.far ?_ NB0_266.out _ | refine IsS116.far ?_ NB0_274.out _) | exact HI0.out)) (by (with_reducible repeat (first | apply Kd.R_alloc | apply Kd.R_drewN | apply Kd.R_drew)); exact HO_275000.out) (by decide)) hk (fun _ h => h.2)) (fun _ h => h.1)); have n1_ := Aside0.mk (Kd.R_mono (Kd.R_keep (IsS116.apart (show IsS116 w0 _ g s0_0 t276 from by repeat (first | (with_reducible first | exact HI0.out | apply IsS116.alloc | apply IsS116.drewN | apply IsS116.drew | apply IsS116.set_1 | refine IsS116.far ?_ NB0_266.out _ | refine IsS116.far ?_ NB0_274.out _) | exact HI0.out)) (by (with_reducible repeat (first | apply Kd.R_alloc | apply Kd.R_drewN | apply Kd.R_drew)); exact HO_275001.out) (by decide)) hk (fun _ h => h.2)) (fun _ h => h.1)); have n2_ := Aside0.mk (KeepBut.blk hk (g' := gb266) (o := .cells #[.slice none 0 0, .slice none 0 0] 31 (0, 0)) (by (with_reducible repeat (first | refine blk_drewN ?_ _ | refine blk_drew ?_ | refine blk_alloc ?_ _)); exact BK266.out) NB266_0.out (by simp)); have n3_ := Aside0.mk (KeepBut.blk hk (g' := gb274) (o := .cells #[.slice Ao58 x275000_3.length co58, u275001] 31 (0, 0)) (by (with_reducible repeat (first | refine blk_drewN ?_ _ | refine blk_drew ?_ | refine blk_alloc ?_ _)); exact BK274.out) NB274_0.out (by simp)); have n4_ := Aside0.mk (KeepBut.trans (by repeat (first | (with_reducible first | exact HK.out | apply KeepBut.set_ | apply keep_drewN | apply keep_drew | apply keep_alloc | refine keep_far ?_ GW266.out _ | refine keep_far ?_ GW274.out _) | exact HK.out)) hk (.inl rfl)); have n5_ := Aside0.mk (hb); have n6_ := Aside0.mk (hi); clear HO_275000; clear HO_275001; clear BK266; clear BK274; clear HK; clear HB; clear HI0; have HO_275000 := n0_; have HO_275001 := n1_; have BK266 := n2_; have BK274 := n3_; have HK := n4_; have HB := n5_; have HI0 := n6_; clear n0_ n1_ n2_ n3_ n4_ n5_ n6_; (try clear hb); (try clear hb2); (try clear hk); (try clear hi)) | ((with_reducible refine gate_callee (f := 64) rfl ?_); refine goesL_ (some 23) rfl rfl Tryz.func64 (by kernel_rfl) rfl #[.pointer (some ⟨g, 0, none⟩), .int .i64 40] rfl (by (try simp only [List.map_toArray, List.map_cons, List.map_nil]); first | done | rfl | (simp only [List.length_drop, List.length_take]; rfl)) ?_; (with_reducible refine (spec_l12Rd_pick.calls kj3 g s0_0 t284 40 t285 t286 w0 _ ?side1 ?side2 A32.out).mono ?_); (case side1 => repeat (first | (with_reducible first | exact HI0.out | apply IsS116.alloc | apply IsS116.drewN | apply IsS116.drew | apply IsS116.set_1 | refine IsS116.far ?_ NB0_266.out _ | refine IsS116.far ?_ NB0_274.out _) | exact HI0.out)); (case side2 => repeat (first | (with_reducible first | exact HB.out | apply below_alloc | apply pw_below_drewN | apply below_drew1 | refine below_set ?_ (IsS116.ge HI0.out) | refine below_set ?_ GE266.out | refine below_set ?_ GE274.out) | exact HB.out)); rintro e w60 ⟨rfl, hi, hb, hk⟩; refine ⟨_, rfl, ?_⟩; have n0_ := Aside0.mk (Kd.R_mono (Kd.R_keep (IsS116.apart (show IsS116 w0 _ g s0_0 t284 from by repeat (first | (with_reducible first | exact HI0.out | apply IsS116.alloc | apply IsS116.drewN | apply IsS116.drew | apply IsS116.set_1 | refine IsS116.far ?_ NB0_266.out _ | refine IsS116.far ?_ NB0_274.out _) | exact HI0.out)) (by (with_reducible repeat (first | apply Kd.R_alloc | apply Kd.R_drewN | apply Kd.R_drew)); exact HO_275000.out) (by decide)) hk (fun _ h => h.2)) (fun _ h => h.1)); have n1_ := Aside0.mk (Kd.R_mono (Kd.R_keep (IsS116.apart (show IsS116 w0 _ g s0_0 t284 from by repeat (first | (with_reducible first | exact HI0.out | apply IsS116.alloc | apply IsS116.drewN | apply IsS116.drew | apply IsS116.set_1 | refine IsS116.far ?_ NB0_266.out _ | refine IsS116.far ?_ NB0_274.out _) | exact HI0.out)) (by (with_reducible repeat (first | apply Kd.R_alloc | apply Kd.R_drewN | apply Kd.R_drew)); exact HO_275001.out) (by decide)) hk (fun _ h => h.2)) (fun _ h => h.1)); have n2_ := Aside0.mk (KeepBut.blk hk (g' := gb266) (o := .cells #[.slice none 0 0, .slice none 0 0] 31 (0, 0)) (by (with_reducible repeat (first | refine blk_drewN ?_ _ | refine blk_drew ?_ | refine blk_alloc ?_ _)); exact BK266.out) NB266_0.out (by simp)); have n3_ := Aside0.mk (KeepBut.blk hk (g' := gb274) (o := .cells #[.slice Ao58 x275000_3.length co58, u275001] 31 (0, 0)) (by (with_reducible repeat (first | refine blk_drewN ?_ _ | refine blk_drew ?_ | refine blk_alloc ?_ _)); exact BK274.out) NB274_0.out (by simp)); have n4_ := Aside0.mk (KeepBut.trans (by repeat (first | (with_reducible first | exact HK.out | apply KeepBut.set_ | apply keep_drewN | apply keep_drew | apply keep_alloc | refine keep_far ?_ GW266.out _ | refine keep_far ?_ GW274.out _) | exact HK.out)) hk (.inl rfl)); have n5_ := Aside0.mk (hb); have n6_ := Aside0.mk (hi); clear HO_275000; clear HO_275001; clear BK266; clear BK274; clear HK; clear HB; clear HI0; have HO_275000 := n0_; have HO_275001 := n1_; have BK266 := n2_; have BK274 := n3_; have HK := n4_; have HB := n5_; have HI0 := n6_; clear n0_ n1_ n2_ n3_ n4_ n5_ n6_; (try clear hb); (try clear hb2); (try clear hk); (try clear hi)))
     have n0_ := Aside0.mk (Kd.R_drew HO_275000.out)
     have n1_ := Aside0.mk (Kd.R_drew HO_275001.out)
     have n2_ := Aside0.mk (blk_drew BK266.out)
     have n3_ := Aside0.mk (blk_drew BK274.out)
     have n4_ := Aside0.mk (IsS116.drew HI0.out)
     have n5_ := Aside0.mk (keep_drew HK.out)
     have n6_ := Aside0.mk (below_drew1 HB.out)
     clear HO_275000
     clear HO_275001
     clear BK266
     clear BK274
     clear HI0
     clear HK
     clear HB
     have HO_275000 := n0_
     have HO_275001 := n1_
     have BK266 := n2_
     have BK274 := n3_
     have HI0 := n4_
     have HK := n5_
     have HB := n6_
     clear n0_ n1_ n2_ n3_ n4_ n5_ n6_
     refine start_ (n := 9) (S := fun w' => w'.cell? ⟨gb274, 0, none⟩ = some (.slice Ao58 x275000_3.length co58) ∧ w'.cell? ⟨gb274, 1, none⟩ = some (u275001)) (ds := [8]) #[false, false, false, false, false, false, false, false, false] (by kernel_rfl) rfl rfl ⟨(blk_cell BK274.out 0).trans rfl, (blk_cell BK274.out 1).trans rfl⟩ (fun hHeld => ?_); refine with_tabW spec_l7Bent.tab11 spec_l7Bent.bits11 (fun HT_ HW_ => ?_)
     generalize w60.drew = w61 at HO_275000 HO_275001 BK266 BK274 HI0 HK HB hHeld ⊢
     refine pure_ (i := 0) (N := some 35) (v := ?_) (a' := ?_) #[true, false, false, false, false, false, false, false, false] rfl rfl (any_of HT_.out (by kernel_rfl)) (fun _ _ _ h => h) (Or.inl ⟨by rfl, ?_⟩) ?_ ?_
     rotate_left
     · intro w'
       go_simp
       with_reducible rfl
     rotate_left
     · simp only [Act.put, List.setIfInBounds_toArray, List.set_cons_zero, List.set_cons_succ, i64_w, i32_w]
       rfl
     refine pure_ (i := 2) (N := some 37) (v := ?_) (a' := ?_) #[true, false, true, false, false, false, false, false, false] rfl rfl (any_of HT_.out (by kernel_rfl)) (fun _ _ _ h => h) (Or.inl ⟨by rfl, ?_⟩) ?_ ?_
     rotate_left
     · intro w'
       go_simp
       with_reducible rfl
     rotate_left
     · simp only [Act.put, List.setIfInBounds_toArray, List.set_cons_zero, List.set_cons_succ, i64_w, i32_w]
       rfl
     refine pure_ (i := 3) (N := some 38) (v := ?_) (a' := ?_) #[true, false, true, true, false, false, false, false, false] rfl rfl (any_of HT_.out (by kernel_rfl)) (fun _ _ _ h => h) (Or.inl ⟨by rfl, ?_⟩) ?_ ?_
     rotate_left
     · intro w'
       go_simp
       with_reducible rfl
     rotate_left
     · simp only [Act.put, List.setIfInBounds_toArray, List.set_cons_zero, List.set_cons_succ, i64_w, i32_w]
       rfl
     refine take_ (i := 1) (N := some 36) (v := ?_) (a' := ?_) #[true, true, true, true, false, false, false, false, false] rfl rfl (take_ofW HT_.out HW_.out (by kernel_rfl)) (fun _ _ _ h => h) (Or.inl ⟨by rfl, ?_⟩) hHeld ?_ ?_
     rotate_left
     · rintro w' ⟨s0, s1⟩
       go_simp
       with_reducible rfl
     rotate_left
     · simp only [Act.put, List.setIfInBounds_toArray, List.set_cons_zero, List.set_cons_succ, i64_w, i32_w]
       rfl
     refine one_ (i := 4) (N := some 39) #[true, true, true, true, true, false, false, false, false] rfl rfl (one_of HT_.out (by kernel_rfl)) (by decide) (fun K hK => ?_)
     refine Kd.R_lit_step (Kd.int .i64) _ 3 ?hg (N := 39) ?hd (xs := ([0, 6, 14, 4] : List Int)) (inner := [.int .i64 0, .int .i64 6, .int .i64 14, .int .i64 4]) (ok := fun _ => True) (okp := fun _ => True) ?hr ?hp (fun _ hk => hk) trivial (Below.refl _ _) (Nat.le_refl _) (by simp) ?_; (case hd => rfl); (case hg => rfl); (case hr => first | (go_simp; done) | (go_simp; rfl)); (case hp => exact (Reps.one (show Kd.M (Kd.int .i64) _ _ _ 0 [.int .i64 0] from rfl) (Reps.one (show Kd.M (Kd.int .i64) _ _ _ 6 [.int .i64 6] from rfl) (Reps.one (show Kd.M (Kd.int .i64) _ _ _ 14 [.int .i64 14] from rfl) (Reps.one (show Kd.M (Kd.int .i64) _ _ _ 4 [.int .i64 4] from rfl) (Reps.none _ _))))))
     intro v289 w62 ho63 hb hg_ hnew_
     clear hg_ hnew_
     (first | rw [← Ny288.out] at ho63 | (simp only [Int.reduceToNat] at ho63; rw [← Ny288.out] at ho63))
     have n0_ := Aside0.mk (Kd.R_below (by (with_reducible repeat (first | apply Kd.R_alloc | apply Kd.R_drewN | apply Kd.R_drew)); exact HO_275000.out) hb)
     have n1_ := Aside0.mk (Kd.R_below (by (with_reducible repeat (first | apply Kd.R_alloc | apply Kd.R_drewN | apply Kd.R_drew)); exact HO_275001.out) hb)
     have n2_ := Aside0.mk (Kd.R_lower ho63 (keep_size (w := w) (g := g) (row := none) (by repeat (first | (with_reducible first | exact HK.out | apply KeepBut.set_ | apply keep_drewN | apply keep_drew | apply keep_alloc | refine keep_far ?_ GW266.out _ | refine keep_far ?_ GW274.out _) | exact HK.out))))
     have n3_ := Aside0.mk (blk_below (g := gb266) (o := .cells #[.slice none 0 0, .slice none 0 0] 31 (0, 0)) (by (with_reducible repeat (first | refine blk_drewN ?_ _ | refine blk_drew ?_ | refine blk_alloc ?_ _)); exact BK266.out) hb)
     have n4_ := Aside0.mk (blk_below (g := gb274) (o := .cells #[.slice Ao58 x275000_3.length co58, u275001] 31 (0, 0)) (by (with_reducible repeat (first | refine blk_drewN ?_ _ | refine blk_drew ?_ | refine blk_alloc ?_ _)); exact BK274.out) hb)
     have n5_ := Aside0.mk (IsS116.below (by repeat (first | (with_reducible first | exact HI0.out | apply IsS116.alloc | apply IsS116.drewN | apply IsS116.drew | apply IsS116.set_1 | refine IsS116.far ?_ NB0_266.out _ | refine IsS116.far ?_ NB0_274.out _) | exact HI0.out)) hb)
     have n6_ := Aside0.mk (KeepBut.trans (by repeat (first | (with_reducible first | exact HK.out | apply KeepBut.set_ | apply keep_drewN | apply keep_drew | apply keep_alloc | refine keep_far ?_ GW266.out _ | refine keep_far ?_ GW274.out _) | exact HK.out)) (KeepBut.of_below hb g none) (.inl rfl))
     have n7_ := Aside0.mk (below_step (by repeat (first | (with_reducible first | exact HB.out | apply below_alloc | apply pw_below_drewN | apply below_drew1 | refine below_set ?_ (IsS116.ge HI0.out) | refine below_set ?_ GE266.out | refine below_set ?_ GE274.out) | exact HB.out)) hb)
     clear HO_275000
     clear HO_275001
     clear BK266
     clear BK274
     clear HI0
     clear HK
     clear HB
     have HO_275000 := n0_
     have HO_275001 := n1_
     have HO290 := n2_
     have BK266 := n3_
     have BK274 := n4_
     have HI0 := n5_
     have HK := n6_
     have HB := n7_
     clear n0_ n1_ n2_ n3_ n4_ n5_ n6_ n7_
     clear hb ho63
     obtain ⟨Ao64, co64, eo64⟩ := Kd.R_slice HO290.out
     (first | subst eo64 | (injection eo64 with f1_ f2_ f3_; have f4_ := f1_.symm; have f5_ := f3_.symm; clear f1_ f2_ f3_; subst f4_; subst f5_))
     refine hK.out _ _ ⟨(blk_cell BK274.out 0).trans rfl, (blk_cell BK274.out 1).trans rfl⟩ (fun hHeld => ?_)
     clear hK K
     refine norm_ (a' := ?_) ?_ ?_
     rotate_left
     · show Act.put _ (some 39) _ = _
       simp only [Act.put, List.setIfInBounds_toArray, List.set_cons_zero, List.set_cons_succ, i64_w, i32_w]
       rfl
     refine one_ (i := 5) (N := some 40) #[true, true, true, true, true, true, false, false, false] rfl rfl (one_of HT_.out (by kernel_rfl)) (by decide) (fun K hK => ?_)
     refine goes_ Tryz.func66 (by kernel_rfl) rfl #[.pointer (some ⟨g, 0, none⟩), .slice Ao64 y288.length co64] (by rfl) rfl rfl (by (try simp only [List.map_toArray, List.map_cons, List.map_nil]); first | done | rfl | (simp only [List.length_drop, List.length_take]; rfl)) ?_
     with_reducible refine (spec_l12Rd_num.calls kj3 g s0_0 t286 _ _ y288 t291 t292 w0 _ ?side1 ?side2 ?side3 ?side4 ?side5 A51.out).mono ?_
     (case side1 => repeat (first | (with_reducible first | exact HI0.out | apply IsS116.alloc | apply IsS116.drewN | apply IsS116.drew | apply IsS116.set_1 | refine IsS116.far ?_ NB0_266.out _ | refine IsS116.far ?_ NB0_274.out _) | exact HI0.out))
     (case side2 => repeat (first | (with_reducible first | exact HB.out | apply below_alloc | apply pw_below_drewN | apply below_drew1 | refine below_set ?_ (IsS116.ge HI0.out) | refine below_set ?_ GE266.out | refine below_set ?_ GE274.out) | exact HB.out))
     (case side3 => repeat (first | exact (Kd.R_reads' HO290.out).2.2 | (with_reducible refine Kd.C_alloc ?_ _) | (with_reducible refine Kd.C_drewN ?_ _) | (with_reducible refine Kd.C_drew ?_)))
     (case side4 => exact (Kd.R_reads' HO290.out).2.1)
     (case side5 => exact far_slice (IsS116.own_ne HI0.out HO290.out (by decide)))
     rintro e w65 ⟨rfl, hi, hb, hk⟩
     refine ⟨_, rfl, ?_⟩
     have n0_ := Aside0.mk (Kd.R_mono (Kd.R_keep (IsS116.apart (show IsS116 w0 _ g s0_0 t286 from by repeat (first | (with_reducible first | exact HI0.out | apply IsS116.alloc | apply IsS116.drewN | apply IsS116.drew | apply IsS116.set_1 | refine IsS116.far ?_ NB0_266.out _ | refine IsS116.far ?_ NB0_274.out _) | exact HI0.out)) (by (with_reducible repeat (first | apply Kd.R_alloc | apply Kd.R_drewN | apply Kd.R_drew)); exact HO_275000.out) (by decide)) hk (fun _ h => h.2)) (fun _ h => h.1))
     have n1_ := Aside0.mk (Kd.R_mono (Kd.R_keep (IsS116.apart (show IsS116 w0 _ g s0_0 t286 from by repeat (first | (with_reducible first | exact HI0.out | apply IsS116.alloc | apply IsS116.drewN | apply IsS116.drew | apply IsS116.set_1 | refine IsS116.far ?_ NB0_266.out _ | refine IsS116.far ?_ NB0_274.out _) | exact HI0.out)) (by (with_reducible repeat (first | apply Kd.R_alloc | apply Kd.R_drewN | apply Kd.R_drew)); exact HO_275001.out) (by decide)) hk (fun _ h => h.2)) (fun _ h => h.1))
     have n2_ := Aside0.mk (KeepBut.blk hk (g' := gb266) (o := .cells #[.slice none 0 0, .slice none 0 0] 31 (0, 0)) (by (with_reducible repeat (first | refine blk_drewN ?_ _ | refine blk_drew ?_ | refine blk_alloc ?_ _)); exact BK266.out) NB266_0.out (by simp))
     have n3_ := Aside0.mk (KeepBut.blk hk (g' := gb274) (o := .cells #[.slice Ao58 x275000_3.length co58, u275001] 31 (0, 0)) (by (with_reducible repeat (first | refine blk_drewN ?_ _ | refine blk_drew ?_ | refine blk_alloc ?_ _)); exact BK274.out) NB274_0.out (by simp))
     have n4_ := Aside0.mk (Kd.R_mono (Kd.R_keep (IsS116.apart (show IsS116 w0 _ g s0_0 t286 from by repeat (first | (with_reducible first | exact HI0.out | apply IsS116.alloc | apply IsS116.drewN | apply IsS116.drew | apply IsS116.set_1 | refine IsS116.far ?_ NB0_266.out _ | refine IsS116.far ?_ NB0_274.out _) | exact HI0.out)) (by (with_reducible repeat (first | apply Kd.R_alloc | apply Kd.R_drewN | apply Kd.R_drew)); exact HO290.out) (by decide)) hk (fun _ h => h.2)) (fun _ h => h.1))
     have n5_ := Aside0.mk (KeepBut.trans (by repeat (first | (with_reducible first | exact HK.out | apply KeepBut.set_ | apply keep_drewN | apply keep_drew | apply keep_alloc | refine keep_far ?_ GW266.out _ | refine keep_far ?_ GW274.out _) | exact HK.out)) hk (.inl rfl))
     have n6_ := Aside0.mk (hb)
     have n7_ := Aside0.mk (hi)
     clear HO_275000
     clear HO_275001
     clear BK266
     clear BK274
     clear HO290
     clear HK
     clear HB
     clear HI0
     have HO_275000 := n0_
     have HO_275001 := n1_
     have BK266 := n2_
     have BK274 := n3_
     have HO290 := n4_
     have HK := n5_
     have HB := n6_
     have HI0 := n7_
     clear n0_ n1_ n2_ n3_ n4_ n5_ n6_ n7_
     (try clear hb)
     (try clear hb2)
     (try clear hk)
     (try clear hi)
     have p54 : 0 ≤ (t283 : Int) := of_decide_eq_true (by first | (with_reducible assumption) | assumption)
     have q54 : (t283 : Int) < ((x275000_3.length : Int) : Int) := of_decide_eq_true (by first | (with_reducible assumption) | assumption)
     obtain ⟨go54, co54, eo54, gb54, gl54, cl54, HG54⟩ := Kd.R_form HO_275000.out (by omega)
     (first | cases eo54 | (injection eo54 with ea_ en_ ec_; (first | subst ea_ | (injection ea_ with ea_; subst ea_)); subst ec_; clear en_))
     have GB54 := Aside0.mk gb54
     have GG54 := Aside0.mk HG54
     clear gb54 gl54 HG54
     obtain ⟨ce54, hcl54, hM54, hcc54, hfr54⟩ := Kd.R_elem HO_275000.out z43 (t283 : Int) p54 q54
     obtain rfl := k43_openM hM54
     have hx54_0 : World.cell? _ ⟨go54, (t283 : Int).toNat * 12, none⟩ = some (.int .i64 ((rd_T43 x275000_3 t283).f0)) := hcc54 0 _ rfl
     have hx54_1 : World.cell? _ ⟨go54, (t283 : Int).toNat * 12 + 1, none⟩ = some (.int .i64 ((rd_T43 x275000_3 t283).f1)) := hcc54 1 _ rfl
     have hx54_2 : World.cell? _ ⟨go54, (t283 : Int).toNat * 12 + 2, none⟩ = some (.int .i64 ((rd_T43 x275000_3 t283).f2.f0)) := hcc54 2 _ rfl
     have hx54_3 : World.cell? _ ⟨go54, (t283 : Int).toNat * 12 + 3, none⟩ = some (.int .i64 ((rd_T43 x275000_3 t283).f2.f1)) := hcc54 3 _ rfl
     have hx54_4 : World.cell? _ ⟨go54, (t283 : Int).toNat * 12 + 4, none⟩ = some (.int .i64 ((rd_T43 x275000_3 t283).f2.f2.f0)) := hcc54 4 _ rfl
     have hx54_5 : World.cell? _ ⟨go54, (t283 : Int).toNat * 12 + 5, none⟩ = some (.int .i64 ((rd_T43 x275000_3 t283).f2.f2.f1)) := hcc54 5 _ rfl
     have hx54_6 : World.cell? _ ⟨go54, (t283 : Int).toNat * 12 + 6, none⟩ = some (.bool ((rd_T43 x275000_3 t283).f2.f3)) := hcc54 6 _ rfl
     have hx54_7 : World.cell? _ ⟨go54, (t283 : Int).toNat * 12 + 7, none⟩ = some (.int .i64 ((rd_T43 x275000_3 t283).f3.f0)) := hcc54 7 _ rfl
     have hx54_8 : World.cell? _ ⟨go54, (t283 : Int).toNat * 12 + 8, none⟩ = some (.int .i64 ((rd_T43 x275000_3 t283).f3.f1)) := hcc54 8 _ rfl
     have hx54_9 : World.cell? _ ⟨go54, (t283 : Int).toNat * 12 + 9, none⟩ = some (.int .i64 ((rd_T43 x275000_3 t283).f3.f2.f0)) := hcc54 9 _ rfl
     have hx54_10 : World.cell? _ ⟨go54, (t283 : Int).toNat * 12 + 10, none⟩ = some (.int .i64 ((rd_T43 x275000_3 t283).f3.f2.f1)) := hcc54 10 _ rfl
     have hx54_11 : World.cell? _ ⟨go54, (t283 : Int).toNat * 12 + 11, none⟩ = some (.bool ((rd_T43 x275000_3 t283).f3.f3)) := hcc54 11 _ rfl
     have hf54_0 : World.frozen? _ ⟨go54, (t283 : Int).toNat * 12, none⟩ = false := hfr54 0
     have hf54_1 : World.frozen? _ ⟨go54, (t283 : Int).toNat * 12 + 1, none⟩ = false := hfr54 1
     have hf54_2 : World.frozen? _ ⟨go54, (t283 : Int).toNat * 12 + 2, none⟩ = false := hfr54 2
     have hf54_3 : World.frozen? _ ⟨go54, (t283 : Int).toNat * 12 + 3, none⟩ = false := hfr54 3
     have hf54_4 : World.frozen? _ ⟨go54, (t283 : Int).toNat * 12 + 4, none⟩ = false := hfr54 4
     have hf54_5 : World.frozen? _ ⟨go54, (t283 : Int).toNat * 12 + 5, none⟩ = false := hfr54 5
     have hf54_6 : World.frozen? _ ⟨go54, (t283 : Int).toNat * 12 + 6, none⟩ = false := hfr54 6
     have hf54_7 : World.frozen? _ ⟨go54, (t283 : Int).toNat * 12 + 7, none⟩ = false := hfr54 7
     have hf54_8 : World.frozen? _ ⟨go54, (t283 : Int).toNat * 12 + 8, none⟩ = false := hfr54 8
     have hf54_9 : World.frozen? _ ⟨go54, (t283 : Int).toNat * 12 + 9, none⟩ = false := hfr54 9
     have hf54_10 : World.frozen? _ ⟨go54, (t283 : Int).toNat * 12 + 10, none⟩ = false := hfr54 10
     have hf54_11 : World.frozen? _ ⟨go54, (t283 : Int).toNat * 12 + 11, none⟩ = false := hfr54 11
     clear hcl54 hcc54 hfr54 hM54
     replace p54 := eq_true p54
     replace q54 := eq_true q54
     have HN0_go54 := Aside0.mk (show g ≠ go54 from by have h_ := IsS116.own_ne HI0.out HO_275000.out (by decide); intro e_; exact h_ (by rw [e_]; rfl))
     obtain ⟨ce66, hcl66, hM66, hcc66, hfr66⟩ := Kd.R_elem HO_275000.out z43 (t283 : Int) (of_decide_eq_true (by first | (with_reducible assumption) | assumption)) (by have h_ : (t283 : Int) < ((x275000_3.length : Int) : Int) := of_decide_eq_true (by first | (with_reducible assumption) | assumption); first | exact h_ | (have e_ := (Kd.R_reads' HO_275000.out).1; omega) | simpa using h_)
     obtain rfl := k43_openM hM66
     have HP66 := (Kd.R_seg HO_275000.out (t283 : Int) (of_decide_eq_true (by first | (with_reducible assumption) | assumption)) (by have h_ : (t283 : Int) < ((x275000_3.length : Int) : Int) := of_decide_eq_true (by first | (with_reducible assumption) | assumption); first | exact h_ | (have e_ := (Kd.R_reads' HO_275000.out).1; omega) | simpa using h_) (seg := [.int .i64 t291]) (j := 0) hcl66 hcc66 (show 1 ≤ 12 from by decide) (x' := (⟨t291, (rd_T43 x275000_3 t283).f1, (⟨(rd_T43 x275000_3 t283).f2.f0, (rd_T43 x275000_3 t283).f2.f1, (⟨(rd_T43 x275000_3 t283).f2.f2.f0, (rd_T43 x275000_3 t283).f2.f2.f1⟩ : S39), (rd_T43 x275000_3 t283).f2.f3⟩ : S41), (⟨(rd_T43 x275000_3 t283).f3.f0, (rd_T43 x275000_3 t283).f3.f1, (⟨(rd_T43 x275000_3 t283).f3.f2.f0, (rd_T43 x275000_3 t283).f3.f2.f1⟩ : S39), (rd_T43 x275000_3 t283).f3.f3⟩ : S41)⟩ : S43)) (k43_mkM _ _ _ (⟨t291, (rd_T43 x275000_3 t283).f1, (⟨(rd_T43 x275000_3 t283).f2.f0, (rd_T43 x275000_3 t283).f2.f1, (⟨(rd_T43 x275000_3 t283).f2.f2.f0, (rd_T43 x275000_3 t283).f2.f2.f1⟩ : S39), (rd_T43 x275000_3 t283).f2.f3⟩ : S41), (⟨(rd_T43 x275000_3 t283).f3.f0, (rd_T43 x275000_3 t283).f3.f1, (⟨(rd_T43 x275000_3 t283).f3.f2.f0, (rd_T43 x275000_3 t283).f3.f2.f1⟩ : S39), (rd_T43 x275000_3 t283).f3.f3⟩ : S41)⟩ : S43) ) (fun _ hk => hk)).1
     rw [← Ny293.out] at HP66
     have HQ66 := Aside0.mk HP66
     clear hcl66 hcc66 hfr66 hM66 HP66
     refine hK.out _ _ ⟨(blk_cell BK274.out 0).trans rfl, (blk_cell BK274.out 1).trans rfl⟩ (fun hHeld => ?_)
     clear hK K
     refine norm_ (a' := ?_) ?_ ?_
     rotate_left
     · show Act.put _ (some 40) _ = _
       simp only [Act.put, List.setIfInBounds_toArray, List.set_cons_zero, List.set_cons_succ, i64_w, i32_w]
       rfl
     refine pure_ (i := 6) (N := some 41) (v := ?_) (a' := ?_) #[true, true, true, true, true, true, true, false, false] rfl rfl (any_of HT_.out (by kernel_rfl)) (fun _ _ _ h => h) (Or.inl ⟨by rfl, ?_⟩) ?_ ?_
     rotate_left
     · intro w'
       go_simp
       with_reducible rfl
     rotate_left
     · simp only [Act.put, List.setIfInBounds_toArray, List.set_cons_zero, List.set_cons_succ, i64_w, i32_w]
       rfl
     refine pure_ (i := 7) (N := some 42) (v := ?_) (a' := ?_) #[true, true, true, true, true, true, true, true, false] rfl rfl (any_of HT_.out (by kernel_rfl)) (fun _ _ _ h => h) (Or.inl ⟨by rfl, ?_⟩) ?_ ?_
     rotate_left
     · intro w'
       go_simp
       with_reducible rfl
     rotate_left
     · simp only [Act.put, List.setIfInBounds_toArray, List.set_cons_zero, List.set_cons_succ, i64_w, i32_w]
       rfl
     refine last_ (i := 8) (N := none) #[true, true, true, true, true, true, true, true, true] rfl rfl (one_of HT_.out (by kernel_rfl)) (by decide) (fun K hK => ?_)
     refine skip_ (w1 := ?_) (by rfl) rfl ?_ ?_
     rotate_left
     · go_simp
       rfl
     refine hK.out _ _ ?_
     clear hK K
     refine done_ (done_of HT_.out (by kernel_rfl)) ?_
     have n0_ : Aside0 (Kd.R k43 43 (w65.setCell ⟨go54, (t283 : Int).toNat * 12, none⟩ (.int .i64 t291)) w.heap.size (fun _ => True) (.slice (some ⟨go54, 0, none⟩) x275000_3.length co58) y293) := ⟨by (with_reducible repeat (first | apply Kd.R_alloc | apply Kd.R_drewN | apply Kd.R_drew)); exact HQ66.out⟩
     have n1_ : Aside0 (Kd.R k66 66 (w65.setCell ⟨go54, (t283 : Int).toNat * 12, none⟩ (.int .i64 t291)) w.heap.size (fun _ => True) u275001 x275001_3) := ⟨by (with_reducible repeat (first | apply Kd.R_alloc | apply Kd.R_drewN | apply Kd.R_drew)); exact Kd.R_mono (Kd.R_far (p := ⟨go54, (t283 : Int).toNat * 12, none⟩) (Kd.R_types HO_275001.out GG54.out (by decide)) (fun _ hk => hk.2) (.int .i64 t291)) (fun _ hk => trivial)⟩
     have n2_ : Aside0 (Kd.R (Kd.int .i64) 3 (w65.setCell ⟨go54, (t283 : Int).toNat * 12, none⟩ (.int .i64 t291)) w.heap.size (fun _ => True) (.slice Ao64 y288.length co64) y288) := ⟨by (with_reducible repeat (first | apply Kd.R_alloc | apply Kd.R_drewN | apply Kd.R_drew)); exact Kd.R_mono (Kd.R_far (p := ⟨go54, (t283 : Int).toNat * 12, none⟩) (Kd.R_types HO290.out GG54.out (by decide)) (fun _ hk => hk.2) (.int .i64 t291)) (fun _ hk => trivial)⟩
     have n3_ : Aside0 ((w65.setCell ⟨go54, (t283 : Int).toNat * 12, none⟩ (.int .i64 t291)).heap[gb266]? = some (.cells #[.slice none 0 0, .slice none 0 0] 31 (0, 0))) := ⟨by (with_reducible repeat (first | refine blk_drewN ?_ _ | refine blk_drew ?_ | refine blk_alloc ?_ _)); refine blk_far ?_ (by have h_ := Kd.R_ne HO_275000.out BK266.out (by decide); intro e_; exact h_ (by rw [e_]; rfl)) _; (with_reducible repeat (first | refine blk_drewN ?_ _ | refine blk_drew ?_ | refine blk_alloc ?_ _)); exact BK266.out⟩
     have n4_ : Aside0 ((w65.setCell ⟨go54, (t283 : Int).toNat * 12, none⟩ (.int .i64 t291)).heap[gb274]? = some (.cells #[.slice (some ⟨go54, 0, none⟩) x275000_3.length co58, u275001] 31 (0, 0))) := ⟨by (with_reducible repeat (first | refine blk_drewN ?_ _ | refine blk_drew ?_ | refine blk_alloc ?_ _)); refine blk_far ?_ (by have h_ := Kd.R_ne HO_275000.out BK274.out (by decide); intro e_; exact h_ (by rw [e_]; rfl)) _; (with_reducible repeat (first | refine blk_drewN ?_ _ | refine blk_drew ?_ | refine blk_alloc ?_ _)); exact BK274.out⟩
     have n5_ : Aside0 (IsS116 w0 (w65.setCell ⟨go54, (t283 : Int).toNat * 12, none⟩ (.int .i64 t291)) g s0_0 t292) := ⟨by repeat (first | (with_reducible first | exact HI0.out | apply IsS116.alloc | apply IsS116.drewN | apply IsS116.drew | apply IsS116.set_1 | refine IsS116.far ?_ HN0_go54.out _ | refine IsS116.far ?_ NB0_266.out _ | refine IsS116.far ?_ NB0_274.out _) | exact HI0.out)⟩
     have n6_ : Aside0 (KeepBut w (w65.setCell ⟨go54, (t283 : Int).toNat * 12, none⟩ (.int .i64 t291)) g none) := ⟨by repeat (first | (with_reducible first | exact HK.out | apply KeepBut.set_ | apply keep_drewN | apply keep_drew | apply keep_alloc | refine keep_far ?_ GB54.out _ | refine keep_far ?_ GW266.out _ | refine keep_far ?_ GW274.out _) | exact HK.out)⟩
     have n7_ : Aside0 (Below w0.heap.size w0 (w65.setCell ⟨go54, (t283 : Int).toNat * 12, none⟩ (.int .i64 t291))) := ⟨by repeat (first | (with_reducible first | exact HB.out | apply below_alloc | apply pw_below_drewN | apply below_drew1 | refine below_set ?_ (Nat.le_trans HL.out GB54.out) | refine below_set ?_ (IsS116.ge HI0.out) | refine below_set ?_ GE266.out | refine below_set ?_ GE274.out) | exact HB.out)⟩
     (try clear HO_275000)
     (try clear HO_275001)
     (try clear HO290)
     (try clear BK266)
     (try clear BK274)
     (try clear HI0)
     (try clear HK)
     (try clear HB)
     generalize (w65.setCell ⟨go54, (t283 : Int).toNat * 12, none⟩ (.int .i64 t291)) = w67 at n0_ n1_ n2_ n3_ n4_ n5_ n6_ n7_ ⊢
     have HO_275000 := n0_
     have HO_275001 := n1_
     have HO290 := n2_
     have BK266 := n3_
     have BK274 := n4_
     have HI0 := n5_
     have HK := n6_
     have HB := n7_
     clear n0_ n1_ n2_ n3_ n4_ n5_ n6_ n7_
     have hcz68_0 : w67.cell? ⟨gb274, 0, none⟩ = some (.slice (some ⟨go54, 0, none⟩) x275000_3.length co58) := (blk_cell BK274.out 0).trans rfl
     have hcz68_1 : w67.cell? ⟨gb274, 1, none⟩ = some (u275001) := (blk_cell BK274.out 1).trans rfl
     have hfz68_0 := blk_frozen BK274.out 0
     have hfz68_1 := blk_frozen BK274.out 1
     have hnb69 := NB266_0.out
     have hnc69 := NB0_266.out
     have hcz70_0 : w67.cell? ⟨gb266, 0, none⟩ = some (.slice none 0 0) := (blk_cell BK266.out 0).trans rfl
     have hcz70_1 : w67.cell? ⟨gb266, 1, none⟩ = some (.slice none 0 0) := (blk_cell BK266.out 1).trans rfl
     have hfz70_0 := blk_frozen BK266.out 0
     have hfz70_1 := blk_frozen BK266.out 1
     obtain ⟨Ao71, co71, eo71⟩ := Kd.R_slice HO_275001.out
     subst eo71
     try go_wp2
     refine bodyPost_ret (results_cell_row rfl _ _ gb266 31 #[.slice (some ⟨go54, 0, none⟩) x275000_3.length co58, .slice Ao71 x275001_3.length co71] (0, 0) _ rfl (by (with_reducible repeat (first | refine blk_drewN ?_ _ | refine blk_drew ?_ | refine blk_alloc ?_ _)); refine blk_put (cs := #[.slice (some ⟨go54, 0, none⟩) x275000_3.length co58, .slice none 0 0]) ?_ 1 _ rfl; (with_reducible repeat (first | refine blk_drewN ?_ _ | refine blk_drew ?_ | refine blk_alloc ?_ _)); refine blk_put (cs := #[.slice none 0 0, .slice none 0 0]) ?_ 0 _ rfl; (with_reducible repeat (first | refine blk_drewN ?_ _ | refine blk_drew ?_ | refine blk_alloc ?_ _)); exact BK266.out) Tryz.underlying31 rfl (by kernel_rfl)) rfl ?_
     exact ⟨_, _, by first | rfl | (simp [errW_none, errW_some] <;> rfl) | (simp [*, errW_none, errW_some] <;> rfl), by (with_reducible repeat (first | apply Kd.R_alloc | apply Kd.R_drewN | apply Kd.R_drew)); exact Kd.R_mono (Kd.R_far (p := ⟨gb266, 1, none⟩) (Kd.R_far (p := ⟨gb266, 0, none⟩) (Kd.R_types HO_275000.out BK266.out (by decide)) (fun _ hk => hk.2) (.slice (some ⟨go54, 0, none⟩) x275000_3.length co58)) (fun _ hk => hk.2) (.slice Ao71 x275001_3.length co71)) (fun _ hk => trivial), by (with_reducible repeat (first | apply Kd.R_alloc | apply Kd.R_drewN | apply Kd.R_drew)); exact Kd.R_mono (Kd.R_far (p := ⟨gb266, 1, none⟩) (Kd.R_far (p := ⟨gb266, 0, none⟩) (Kd.R_types HO_275001.out BK266.out (by decide)) (fun _ hk => hk.2) (.slice (some ⟨go54, 0, none⟩) x275000_3.length co58)) (fun _ hk => hk.2) (.slice Ao71 x275001_3.length co71)) (fun _ hk => trivial), by repeat (first | (with_reducible first | exact HI0.out | apply IsS116.alloc | apply IsS116.drewN | apply IsS116.drew | apply IsS116.set_1 | refine IsS116.far ?_ NB0_266.out _ | refine IsS116.far ?_ NB0_274.out _) | exact HI0.out), by repeat (first | (with_reducible first | exact HB.out | apply below_alloc | apply pw_below_drewN | apply below_drew1 | refine below_set ?_ (IsS116.ge HI0.out) | refine below_set ?_ GE266.out | refine below_set ?_ GE274.out) | exact HB.out), by repeat (first | (with_reducible first | exact HK.out | apply KeepBut.set_ | apply keep_drewN | apply keep_drew | apply keep_alloc | refine keep_far ?_ GW266.out _ | refine keep_far ?_ GW274.out _) | exact HK.out)⟩
   rw [if_neg c50] at H
   have c50b0 : (t285 == 1) = false := beq_eq_false_iff_ne.mpr c50
   have c50b1 : (t285 != 1) = true := bne_iff_ne.mpr c50
   by_cases c72 : t285 = 2
   · rw [if_pos c72] at H
     have c72b0 : (t285 == 2) = true := beq_iff_eq.mpr c72
     have c72b1 : (t285 != 2) = false := bne_eq_false_iff_eq.mpr c72
     clear c72
     obtain ⟨y294, hy294⟩ : ∃ y_ : List Int, y_ = (([(-1), 1, 1001] : List Int)) := ⟨_, rfl⟩
     replace H : ((spec_l12Rd_num.f kj3 s0_0 t286 y294).bind fun bt297 => (if 0 ≤ t283 then (if t283 < (x275000_3.length : Int) then (some ((x275000_3.set (t283 : Int).toNat (⟨(rd_T43 x275000_3 t283).f0, bt297.1, (⟨(rd_T43 x275000_3 t283).f2.f0, (rd_T43 x275000_3 t283).f2.f1, (⟨(rd_T43 x275000_3 t283).f2.f2.f0, (rd_T43 x275000_3 t283).f2.f2.f1⟩ : S39), (rd_T43 x275000_3 t283).f2.f3⟩ : S41), (⟨(rd_T43 x275000_3 t283).f3.f0, (rd_T43 x275000_3 t283).f3.f1, (⟨(rd_T43 x275000_3 t283).f3.f2.f0, (rd_T43 x275000_3 t283).f3.f2.f1⟩ : S39), (rd_T43 x275000_3 t283).f3.f3⟩ : S41)⟩ : S43)), x275001_3, bt297.2)) else (none)) else (none))) = some (r1, r2, r3) := by first | (rw [hy294]; with_reducible exact H) | (have H2_ := (Option.bind_some _ _).symm.trans H; rw [hy294]; with_reducible exact H2_) | (have H2_ := (Option.bind_some _ _).symm.trans H; with_reducible exact H2_) | with_reducible exact H | (rw [hy294]; exact H) | exact H
     have Ny294 := Aside0.mk hy294
     clear hy294
     replace H := Option.bind_eq_some_iff.mp H
     obtain ⟨⟨t297, t298⟩, A730, H⟩ := H
     replace H : (if 0 ≤ t283 then (if t283 < (x275000_3.length : Int) then (some ((x275000_3.set (t283 : Int).toNat (⟨(rd_T43 x275000_3 t283).f0, t297, (⟨(rd_T43 x275000_3 t283).f2.f0, (rd_T43 x275000_3 t283).f2.f1, (⟨(rd_T43 x275000_3 t283).f2.f2.f0, (rd_T43 x275000_3 t283).f2.f2.f1⟩ : S39), (rd_T43 x275000_3 t283).f2.f3⟩ : S41), (⟨(rd_T43 x275000_3 t283).f3.f0, (rd_T43 x275000_3 t283).f3.f1, (⟨(rd_T43 x275000_3 t283).f3.f2.f0, (rd_T43 x275000_3 t283).f3.f2.f1⟩ : S39), (rd_T43 x275000_3 t283).f3.f3⟩ : S41)⟩ : S43)), x275001_3, t298)) else (none)) else (none)) = some (r1, r2, r3) := H
     have A73 := Aside0.mk A730
     clear A730
     by_cases c74 : 0 ≤ t283
     rotate_left
     · rw [if_neg c74] at H
       exact absurd H (by simp)
     rw [if_pos c74] at H
     have c74b0 : decide (0 ≤ t283) = true := decide_eq_true c74
     clear c74
     by_cases c75 : t283 < (x275000_3.length : Int)
     rotate_left
     · rw [if_neg c75] at H
       exact absurd H (by simp)
     rw [if_pos c75] at H
     have c75b0 : decide (t283 < (x275000_3.length : Int)) = true := decide_eq_true c75
     clear c75
     obtain ⟨y299, hy299⟩ : ∃ y_ : List (S43), y_ = (x275000_3.set (t283 : Int).toNat (⟨(rd_T43 x275000_3 t283).f0, t297, (⟨(rd_T43 x275000_3 t283).f2.f0, (rd_T43 x275000_3 t283).f2.f1, (⟨(rd_T43 x275000_3 t283).f2.f2.f0, (rd_T43 x275000_3 t283).f2.f2.f1⟩ : S39), (rd_T43 x275000_3 t283).f2.f3⟩ : S41), (⟨(rd_T43 x275000_3 t283).f3.f0, (rd_T43 x275000_3 t283).f3.f1, (⟨(rd_T43 x275000_3 t283).f3.f2.f0, (rd_T43 x275000_3 t283).f3.f2.f1⟩ : S39), (rd_T43 x275000_3 t283).f3.f3⟩ : S41)⟩ : S43)) := ⟨_, rfl⟩
     replace H : (some (y299, x275001_3, t298)) = some (r1, r2, r3) := by first | (rw [hy299]; with_reducible exact H) | (have H2_ := (Option.bind_some _ _).symm.trans H; rw [hy299]; with_reducible exact H2_) | (have H2_ := (Option.bind_some _ _).symm.trans H; with_reducible exact H2_) | with_reducible exact H | (rw [hy299]; exact H) | exact H
     have Ny299 := Aside0.mk hy299
     clear hy299
     simp only [Option.some.injEq, Prod.mk.injEq] at H
     obtain ⟨rfl, rfl, rfl⟩ := H
     have hnb77 := NB274_266.out
     have hnc77 := NB266_274.out
     have hnb78 := NB274_0.out
     have hnc78 := NB0_274.out
     have hcz79_0 : wc.cell? ⟨gb274, 0, none⟩ = some (u275000) := (blk_cell BK274.out 0).trans rfl
     have hcz79_1 : wc.cell? ⟨gb274, 1, none⟩ = some (u275001) := (blk_cell BK274.out 1).trans rfl
     have hfz79_0 := blk_frozen BK274.out 0
     have hfz79_1 := blk_frozen BK274.out 1
     obtain ⟨Ao80, co80, eo80⟩ := Kd.R_slice HO_275000.out
     subst eo80
     try go_wp2_with (first | ((with_reducible refine gate_callee (f := 64) rfl ?_); refine goesL_ (some 21) rfl rfl Tryz.func64 (by kernel_rfl) rfl #[.pointer (some ⟨g, 0, none⟩), .int .i64 (x275000_3.length : Int)] rfl (by (try simp only [List.map_toArray, List.map_cons, List.map_nil]); first | done | rfl | (simp only [List.length_drop, List.length_take]; rfl)) ?_; (with_reducible refine (spec_l12Rd_pick.calls kj3 g s0_0 t276 (x275000_3.length : Int) t283 t284 w0 _ ?side1 ?side2 A31.out).mono ?_); (case side1 => repeat (first | (with_reducible first | exact HI0.out | apply IsS116.alloc | apply IsS116.drewN | apply IsS116.drew | apply IsS116.set_1 | refine IsS116.far ?_ NB0_266.out _ | refine IsS116.far ?_ NB0_274.out _) | exact HI0.out)); (case side2 => repeat (first | (with_reducible first | exact HB.out | apply below_alloc | apply pw_below_drewN | apply below_drew1 | refine below_set ?_ (IsS116.ge HI0.out) | refine below_set ?_ GE266.out | refine below_set ?_ GE274.out) | exact HB.out)); rintro e w81 ⟨rfl, hi, hb, hk⟩; refine ⟨_, rfl, ?_⟩; have n0_ := Aside0.mk (Kd.R_mono (Kd.R_keep (IsS116.apart (show IsS116 w0 _ g s0_0 t276 from by repeat (first | (with_reducible first | exact HI0.out | apply IsS116.alloc | apply IsS116.drewN | apply IsS116.drew | apply IsS116.set_1 | refine IsS116.far ?_ NB0_266.out _ | refine IsS116.far ?_ NB0_274.out _) | exact HI0.out)) (by (with_reducible repeat (first | apply Kd.R_alloc | apply Kd.R_drewN | apply Kd.R_drew)); exact HO_275000.out) (by decide)) hk (fun _ h => h.2)) (fun _ h => h.1)); have n1_ := Aside0.mk (Kd.R_mono (Kd.R_keep (IsS116.apart (show IsS116 w0 _ g s0_0 t276 from by repeat (first | (with_reducible first | exact HI0.out | apply IsS116.alloc | apply IsS116.drewN | apply IsS116.drew | apply IsS116.set_1 | refine IsS116.far ?_ NB0_266.out _ | refine IsS116.far ?_ NB0_274.out _) | exact HI0.out)) (by (with_reducible repeat (first | apply Kd.R_alloc | apply Kd.R_drewN | apply Kd.R_drew)); exact HO_275001.out) (by decide)) hk (fun _ h => h.2)) (fun _ h => h.1)); have n2_ := Aside0.mk (KeepBut.blk hk (g' := gb266) (o := .cells #[.slice none 0 0, .slice none 0 0] 31 (0, 0)) (by (with_reducible repeat (first | refine blk_drewN ?_ _ | refine blk_drew ?_ | refine blk_alloc ?_ _)); exact BK266.out) NB266_0.out (by simp)); have n3_ := Aside0.mk (KeepBut.blk hk (g' := gb274) (o := .cells #[.slice Ao80 x275000_3.length co80, u275001] 31 (0, 0)) (by (with_reducible repeat (first | refine blk_drewN ?_ _ | refine blk_drew ?_ | refine blk_alloc ?_ _)); exact BK274.out) NB274_0.out (by simp)); have n4_ := Aside0.mk (KeepBut.trans (by repeat (first | (with_reducible first | exact HK.out | apply KeepBut.set_ | apply keep_drewN | apply keep_drew | apply keep_alloc | refine keep_far ?_ GW266.out _ | refine keep_far ?_ GW274.out _) | exact HK.out)) hk (.inl rfl)); have n5_ := Aside0.mk (hb); have n6_ := Aside0.mk (hi); clear HO_275000; clear HO_275001; clear BK266; clear BK274; clear HK; clear HB; clear HI0; have HO_275000 := n0_; have HO_275001 := n1_; have BK266 := n2_; have BK274 := n3_; have HK := n4_; have HB := n5_; have HI0 := n6_; clear n0_ n1_ n2_ n3_ n4_ n5_ n6_; (try clear hb); (try clear hb2); (try clear hk); (try clear hi)) | ((with_reducible refine gate_callee (f := 64) rfl ?_); refine goesL_ (some 23) rfl rfl Tryz.func64 (by kernel_rfl) rfl #[.pointer (some ⟨g, 0, none⟩), .int .i64 40] rfl (by (try simp only [List.map_toArray, List.map_cons, List.map_nil]); first | done | rfl | (simp only [List.length_drop, List.length_take]; rfl)) ?_; (with_reducible refine (spec_l12Rd_pick.calls kj3 g s0_0 t284 40 t285 t286 w0 _ ?side1 ?side2 A32.out).mono ?_); (case side1 => repeat (first | (with_reducible first | exact HI0.out | apply IsS116.alloc | apply IsS116.drewN | apply IsS116.drew | apply IsS116.set_1 | refine IsS116.far ?_ NB0_266.out _ | refine IsS116.far ?_ NB0_274.out _) | exact HI0.out)); (case side2 => repeat (first | (with_reducible first | exact HB.out | apply below_alloc | apply pw_below_drewN | apply below_drew1 | refine below_set ?_ (IsS116.ge HI0.out) | refine below_set ?_ GE266.out | refine below_set ?_ GE274.out) | exact HB.out)); rintro e w82 ⟨rfl, hi, hb, hk⟩; refine ⟨_, rfl, ?_⟩; have n0_ := Aside0.mk (Kd.R_mono (Kd.R_keep (IsS116.apart (show IsS116 w0 _ g s0_0 t284 from by repeat (first | (with_reducible first | exact HI0.out | apply IsS116.alloc | apply IsS116.drewN | apply IsS116.drew | apply IsS116.set_1 | refine IsS116.far ?_ NB0_266.out _ | refine IsS116.far ?_ NB0_274.out _) | exact HI0.out)) (by (with_reducible repeat (first | apply Kd.R_alloc | apply Kd.R_drewN | apply Kd.R_drew)); exact HO_275000.out) (by decide)) hk (fun _ h => h.2)) (fun _ h => h.1)); have n1_ := Aside0.mk (Kd.R_mono (Kd.R_keep (IsS116.apart (show IsS116 w0 _ g s0_0 t284 from by repeat (first | (with_reducible first | exact HI0.out | apply IsS116.alloc | apply IsS116.drewN | apply IsS116.drew | apply IsS116.set_1 | refine IsS116.far ?_ NB0_266.out _ | refine IsS116.far ?_ NB0_274.out _) | exact HI0.out)) (by (with_reducible repeat (first | apply Kd.R_alloc | apply Kd.R_drewN | apply Kd.R_drew)); exact HO_275001.out) (by decide)) hk (fun _ h => h.2)) (fun _ h => h.1)); have n2_ := Aside0.mk (KeepBut.blk hk (g' := gb266) (o := .cells #[.slice none 0 0, .slice none 0 0] 31 (0, 0)) (by (with_reducible repeat (first | refine blk_drewN ?_ _ | refine blk_drew ?_ | refine blk_alloc ?_ _)); exact BK266.out) NB266_0.out (by simp)); have n3_ := Aside0.mk (KeepBut.blk hk (g' := gb274) (o := .cells #[.slice Ao80 x275000_3.length co80, u275001] 31 (0, 0)) (by (with_reducible repeat (first | refine blk_drewN ?_ _ | refine blk_drew ?_ | refine blk_alloc ?_ _)); exact BK274.out) NB274_0.out (by simp)); have n4_ := Aside0.mk (KeepBut.trans (by repeat (first | (with_reducible first | exact HK.out | apply KeepBut.set_ | apply keep_drewN | apply keep_drew | apply keep_alloc | refine keep_far ?_ GW266.out _ | refine keep_far ?_ GW274.out _) | exact HK.out)) hk (.inl rfl)); have n5_ := Aside0.mk (hb); have n6_ := Aside0.mk (hi); clear HO_275000; clear HO_275001; clear BK266; clear BK274; clear HK; clear HB; clear HI0; have HO_275000 := n0_; have HO_275001 := n1_; have BK266 := n2_; have BK274 := n3_; have HK := n4_; have HB := n5_; have HI0 := n6_; clear n0_ n1_ n2_ n3_ n4_ n5_ n6_; (try clear hb); (try clear hb2); (try clear hk); (try clear hi)))
     have n0_ := Aside0.mk (Kd.R_drew HO_275000.out)
     have n1_ := Aside0.mk (Kd.R_drew HO_275001.out)
     have n2_ := Aside0.mk (blk_drew BK266.out)
     have n3_ := Aside0.mk (blk_drew BK274.out)
     have n4_ := Aside0.mk (IsS116.drew HI0.out)
     have n5_ := Aside0.mk (keep_drew HK.out)
     have n6_ := Aside0.mk (below_drew1 HB.out)
     clear HO_275000
     clear HO_275001
     clear BK266
     clear BK274
     clear HI0
     clear HK
     clear HB
     have HO_275000 := n0_
     have HO_275001 := n1_
     have BK266 := n2_
     have BK274 := n3_
     have HI0 := n4_
     have HK := n5_
     have HB := n6_
     clear n0_ n1_ n2_ n3_ n4_ n5_ n6_
     refine start_ (n := 9) (S := fun w' => w'.cell? ⟨gb274, 0, none⟩ = some (.slice Ao80 x275000_3.length co80) ∧ w'.cell? ⟨gb274, 1, none⟩ = some (u275001)) (ds := [8]) #[false, false, false, false, false, false, false, false, false] (by kernel_rfl) rfl rfl ⟨(blk_cell BK274.out 0).trans rfl, (blk_cell BK274.out 1).trans rfl⟩ (fun hHeld => ?_); refine with_tabW spec_l7Bent.tab13 spec_l7Bent.bits13 (fun HT_ HW_ => ?_)
     generalize w82.drew = w83 at HO_275000 HO_275001 BK266 BK274 HI0 HK HB hHeld ⊢
     refine pure_ (i := 0) (N := some 45) (v := ?_) (a' := ?_) #[true, false, false, false, false, false, false, false, false] rfl rfl (any_of HT_.out (by kernel_rfl)) (fun _ _ _ h => h) (Or.inl ⟨by rfl, ?_⟩) ?_ ?_
     rotate_left
     · intro w'
       go_simp
       with_reducible rfl
     rotate_left
     · simp only [Act.put, List.setIfInBounds_toArray, List.set_cons_zero, List.set_cons_succ, i64_w, i32_w]
       rfl
     refine pure_ (i := 2) (N := some 47) (v := ?_) (a' := ?_) #[true, false, true, false, false, false, false, false, false] rfl rfl (any_of HT_.out (by kernel_rfl)) (fun _ _ _ h => h) (Or.inl ⟨by rfl, ?_⟩) ?_ ?_
     rotate_left
     · intro w'
       go_simp
       with_reducible rfl
     rotate_left
     · simp only [Act.put, List.setIfInBounds_toArray, List.set_cons_zero, List.set_cons_succ, i64_w, i32_w]
       rfl
     refine pure_ (i := 3) (N := some 48) (v := ?_) (a' := ?_) #[true, false, true, true, false, false, false, false, false] rfl rfl (any_of HT_.out (by kernel_rfl)) (fun _ _ _ h => h) (Or.inl ⟨by rfl, ?_⟩) ?_ ?_
     rotate_left
     · intro w'
       go_simp
       with_reducible rfl
     rotate_left
     · simp only [Act.put, List.setIfInBounds_toArray, List.set_cons_zero, List.set_cons_succ, i64_w, i32_w]
       rfl
     refine take_ (i := 1) (N := some 46) (v := ?_) (a' := ?_) #[true, true, true, true, false, false, false, false, false] rfl rfl (take_ofW HT_.out HW_.out (by kernel_rfl)) (fun _ _ _ h => h) (Or.inl ⟨by rfl, ?_⟩) hHeld ?_ ?_
     rotate_left
     · rintro w' ⟨s0, s1⟩
       go_simp
       with_reducible rfl
     rotate_left
     · simp only [Act.put, List.setIfInBounds_toArray, List.set_cons_zero, List.set_cons_succ, i64_w, i32_w]
       rfl
     refine one_ (i := 4) (N := some 49) #[true, true, true, true, true, false, false, false, false] rfl rfl (one_of HT_.out (by kernel_rfl)) (by decide) (fun K hK => ?_)
     refine Kd.R_lit_step (Kd.int .i64) _ 3 ?hg (N := 49) ?hd (xs := ([(-1), 1, 1001] : List Int)) (inner := [.int .i64 (-1), .int .i64 1, .int .i64 1001]) (ok := fun _ => True) (okp := fun _ => True) ?hr ?hp (fun _ hk => hk) trivial (Below.refl _ _) (Nat.le_refl _) (by simp) ?_; (case hd => rfl); (case hg => rfl); (case hr => first | (go_simp; done) | (go_simp; rfl)); (case hp => exact (Reps.one (show Kd.M (Kd.int .i64) _ _ _ (-1) [.int .i64 (-1)] from rfl) (Reps.one (show Kd.M (Kd.int .i64) _ _ _ 1 [.int .i64 1] from rfl) (Reps.one (show Kd.M (Kd.int .i64) _ _ _ 1001 [.int .i64 1001] from rfl) (Reps.none _ _)))))
     intro v295 w84 ho85 hb hg_ hnew_
     clear hg_ hnew_
     (first | rw [← Ny294.out] at ho85 | (simp only [Int.reduceToNat] at ho85; rw [← Ny294.out] at ho85))
     have n0_ := Aside0.mk (Kd.R_below (by (with_reducible repeat (first | apply Kd.R_alloc | apply Kd.R_drewN | apply Kd.R_drew)); exact HO_275000.out) hb)
     have n1_ := Aside0.mk (Kd.R_below (by (with_reducible repeat (first | apply Kd.R_alloc | apply Kd.R_drewN | apply Kd.R_drew)); exact HO_275001.out) hb)
     have n2_ := Aside0.mk (Kd.R_lower ho85 (keep_size (w := w) (g := g) (row := none) (by repeat (first | (with_reducible first | exact HK.out | apply KeepBut.set_ | apply keep_drewN | apply keep_drew | apply keep_alloc | refine keep_far ?_ GW266.out _ | refine keep_far ?_ GW274.out _) | exact HK.out))))
     have n3_ := Aside0.mk (blk_below (g := gb266) (o := .cells #[.slice none 0 0, .slice none 0 0] 31 (0, 0)) (by (with_reducible repeat (first | refine blk_drewN ?_ _ | refine blk_drew ?_ | refine blk_alloc ?_ _)); exact BK266.out) hb)
     have n4_ := Aside0.mk (blk_below (g := gb274) (o := .cells #[.slice Ao80 x275000_3.length co80, u275001] 31 (0, 0)) (by (with_reducible repeat (first | refine blk_drewN ?_ _ | refine blk_drew ?_ | refine blk_alloc ?_ _)); exact BK274.out) hb)
     have n5_ := Aside0.mk (IsS116.below (by repeat (first | (with_reducible first | exact HI0.out | apply IsS116.alloc | apply IsS116.drewN | apply IsS116.drew | apply IsS116.set_1 | refine IsS116.far ?_ NB0_266.out _ | refine IsS116.far ?_ NB0_274.out _) | exact HI0.out)) hb)
     have n6_ := Aside0.mk (KeepBut.trans (by repeat (first | (with_reducible first | exact HK.out | apply KeepBut.set_ | apply keep_drewN | apply keep_drew | apply keep_alloc | refine keep_far ?_ GW266.out _ | refine keep_far ?_ GW274.out _) | exact HK.out)) (KeepBut.of_below hb g none) (.inl rfl))
     have n7_ := Aside0.mk (below_step (by repeat (first | (with_reducible first | exact HB.out | apply below_alloc | apply pw_below_drewN | apply below_drew1 | refine below_set ?_ (IsS116.ge HI0.out) | refine below_set ?_ GE266.out | refine below_set ?_ GE274.out) | exact HB.out)) hb)
     clear HO_275000
     clear HO_275001
     clear BK266
     clear BK274
     clear HI0
     clear HK
     clear HB
     have HO_275000 := n0_
     have HO_275001 := n1_
     have HO296 := n2_
     have BK266 := n3_
     have BK274 := n4_
     have HI0 := n5_
     have HK := n6_
     have HB := n7_
     clear n0_ n1_ n2_ n3_ n4_ n5_ n6_ n7_
     clear hb ho85
     obtain ⟨Ao86, co86, eo86⟩ := Kd.R_slice HO296.out
     (first | subst eo86 | (injection eo86 with f1_ f2_ f3_; have f4_ := f1_.symm; have f5_ := f3_.symm; clear f1_ f2_ f3_; subst f4_; subst f5_))
     refine hK.out _ _ ⟨(blk_cell BK274.out 0).trans rfl, (blk_cell BK274.out 1).trans rfl⟩ (fun hHeld => ?_)
     clear hK K
     refine norm_ (a' := ?_) ?_ ?_
     rotate_left
     · show Act.put _ (some 49) _ = _
       simp only [Act.put, List.setIfInBounds_toArray, List.set_cons_zero, List.set_cons_succ, i64_w, i32_w]
       rfl
     refine one_ (i := 5) (N := some 50) #[true, true, true, true, true, true, false, false, false] rfl rfl (one_of HT_.out (by kernel_rfl)) (by decide) (fun K hK => ?_)
     refine goes_ Tryz.func66 (by kernel_rfl) rfl #[.pointer (some ⟨g, 0, none⟩), .slice Ao86 y294.length co86] (by rfl) rfl rfl (by (try simp only [List.map_toArray, List.map_cons, List.map_nil]); first | done | rfl | (simp only [List.length_drop, List.length_take]; rfl)) ?_
     with_reducible refine (spec_l12Rd_num.calls kj3 g s0_0 t286 _ _ y294 t297 t298 w0 _ ?side1 ?side2 ?side3 ?side4 ?side5 A73.out).mono ?_
     (case side1 => repeat (first | (with_reducible first | exact HI0.out | apply IsS116.alloc | apply IsS116.drewN | apply IsS116.drew | apply IsS116.set_1 | refine IsS116.far ?_ NB0_266.out _ | refine IsS116.far ?_ NB0_274.out _) | exact HI0.out))
     (case side2 => repeat (first | (with_reducible first | exact HB.out | apply below_alloc | apply pw_below_drewN | apply below_drew1 | refine below_set ?_ (IsS116.ge HI0.out) | refine below_set ?_ GE266.out | refine below_set ?_ GE274.out) | exact HB.out))
     (case side3 => repeat (first | exact (Kd.R_reads' HO296.out).2.2 | (with_reducible refine Kd.C_alloc ?_ _) | (with_reducible refine Kd.C_drewN ?_ _) | (with_reducible refine Kd.C_drew ?_)))
     (case side4 => exact (Kd.R_reads' HO296.out).2.1)
     (case side5 => exact far_slice (IsS116.own_ne HI0.out HO296.out (by decide)))
     rintro e w87 ⟨rfl, hi, hb, hk⟩
     refine ⟨_, rfl, ?_⟩
     have n0_ := Aside0.mk (Kd.R_mono (Kd.R_keep (IsS116.apart (show IsS116 w0 _ g s0_0 t286 from by repeat (first | (with_reducible first | exact HI0.out | apply IsS116.alloc | apply IsS116.drewN | apply IsS116.drew | apply IsS116.set_1 | refine IsS116.far ?_ NB0_266.out _ | refine IsS116.far ?_ NB0_274.out _) | exact HI0.out)) (by (with_reducible repeat (first | apply Kd.R_alloc | apply Kd.R_drewN | apply Kd.R_drew)); exact HO_275000.out) (by decide)) hk (fun _ h => h.2)) (fun _ h => h.1))
     have n1_ := Aside0.mk (Kd.R_mono (Kd.R_keep (IsS116.apart (show IsS116 w0 _ g s0_0 t286 from by repeat (first | (with_reducible first | exact HI0.out | apply IsS116.alloc | apply IsS116.drewN | apply IsS116.drew | apply IsS116.set_1 | refine IsS116.far ?_ NB0_266.out _ | refine IsS116.far ?_ NB0_274.out _) | exact HI0.out)) (by (with_reducible repeat (first | apply Kd.R_alloc | apply Kd.R_drewN | apply Kd.R_drew)); exact HO_275001.out) (by decide)) hk (fun _ h => h.2)) (fun _ h => h.1))
     have n2_ := Aside0.mk (KeepBut.blk hk (g' := gb266) (o := .cells #[.slice none 0 0, .slice none 0 0] 31 (0, 0)) (by (with_reducible repeat (first | refine blk_drewN ?_ _ | refine blk_drew ?_ | refine blk_alloc ?_ _)); exact BK266.out) NB266_0.out (by simp))
     have n3_ := Aside0.mk (KeepBut.blk hk (g' := gb274) (o := .cells #[.slice Ao80 x275000_3.length co80, u275001] 31 (0, 0)) (by (with_reducible repeat (first | refine blk_drewN ?_ _ | refine blk_drew ?_ | refine blk_alloc ?_ _)); exact BK274.out) NB274_0.out (by simp))
     have n4_ := Aside0.mk (Kd.R_mono (Kd.R_keep (IsS116.apart (show IsS116 w0 _ g s0_0 t286 from by repeat (first | (with_reducible first | exact HI0.out | apply IsS116.alloc | apply IsS116.drewN | apply IsS116.drew | apply IsS116.set_1 | refine IsS116.far ?_ NB0_266.out _ | refine IsS116.far ?_ NB0_274.out _) | exact HI0.out)) (by (with_reducible repeat (first | apply Kd.R_alloc | apply Kd.R_drewN | apply Kd.R_drew)); exact HO296.out) (by decide)) hk (fun _ h => h.2)) (fun _ h => h.1))
     have n5_ := Aside0.mk (KeepBut.trans (by repeat (first | (with_reducible first | exact HK.out | apply KeepBut.set_ | apply keep_drewN | apply keep_drew | apply keep_alloc | refine keep_far ?_ GW266.out _ | refine keep_far ?_ GW274.out _) | exact HK.out)) hk (.inl rfl))
     have n6_ := Aside0.mk (hb)
     have n7_ := Aside0.mk (hi)
     clear HO_275000
     clear HO_275001
     clear BK266
     clear BK274
     clear HO296
     clear HK
     clear HB
     clear HI0
     have HO_275000 := n0_
     have HO_275001 := n1_
     have BK266 := n2_
     have BK274 := n3_
     have HO296 := n4_
     have HK := n5_
     have HB := n6_
     have HI0 := n7_
     clear n0_ n1_ n2_ n3_ n4_ n5_ n6_ n7_
     (try clear hb)
     (try clear hb2)
     (try clear hk)
     (try clear hi)
     have p76 : 0 ≤ (t283 : Int) := of_decide_eq_true (by first | (with_reducible assumption) | assumption)
     have q76 : (t283 : Int) < ((x275000_3.length : Int) : Int) := of_decide_eq_true (by first | (with_reducible assumption) | assumption)
     obtain ⟨go76, co76, eo76, gb76, gl76, cl76, HG76⟩ := Kd.R_form HO_275000.out (by omega)
     (first | cases eo76 | (injection eo76 with ea_ en_ ec_; (first | subst ea_ | (injection ea_ with ea_; subst ea_)); subst ec_; clear en_))
     have GB76 := Aside0.mk gb76
     have GG76 := Aside0.mk HG76
     clear gb76 gl76 HG76
     obtain ⟨ce76, hcl76, hM76, hcc76, hfr76⟩ := Kd.R_elem HO_275000.out z43 (t283 : Int) p76 q76
     obtain rfl := k43_openM hM76
     have hx76_0 : World.cell? _ ⟨go76, (t283 : Int).toNat * 12, none⟩ = some (.int .i64 ((rd_T43 x275000_3 t283).f0)) := hcc76 0 _ rfl
     have hx76_1 : World.cell? _ ⟨go76, (t283 : Int).toNat * 12 + 1, none⟩ = some (.int .i64 ((rd_T43 x275000_3 t283).f1)) := hcc76 1 _ rfl
     have hx76_2 : World.cell? _ ⟨go76, (t283 : Int).toNat * 12 + 2, none⟩ = some (.int .i64 ((rd_T43 x275000_3 t283).f2.f0)) := hcc76 2 _ rfl
     have hx76_3 : World.cell? _ ⟨go76, (t283 : Int).toNat * 12 + 3, none⟩ = some (.int .i64 ((rd_T43 x275000_3 t283).f2.f1)) := hcc76 3 _ rfl
     have hx76_4 : World.cell? _ ⟨go76, (t283 : Int).toNat * 12 + 4, none⟩ = some (.int .i64 ((rd_T43 x275000_3 t283).f2.f2.f0)) := hcc76 4 _ rfl
     have hx76_5 : World.cell? _ ⟨go76, (t283 : Int).toNat * 12 + 5, none⟩ = some (.int .i64 ((rd_T43 x275000_3 t283).f2.f2.f1)) := hcc76 5 _ rfl
     have hx76_6 : World.cell? _ ⟨go76, (t283 : Int).toNat * 12 + 6, none⟩ = some (.bool ((rd_T43 x275000_3 t283).f2.f3)) := hcc76 6 _ rfl
     have hx76_7 : World.cell? _ ⟨go76, (t283 : Int).toNat * 12 + 7, none⟩ = some (.int .i64 ((rd_T43 x275000_3 t283).f3.f0)) := hcc76 7 _ rfl
     have hx76_8 : World.cell? _ ⟨go76, (t283 : Int).toNat * 12 + 8, none⟩ = some (.int .i64 ((rd_T43 x275000_3 t283).f3.f1)) := hcc76 8 _ rfl
     have hx76_9 : World.cell? _ ⟨go76, (t283 : Int).toNat * 12 + 9, none⟩ = some (.int .i64 ((rd_T43 x275000_3 t283).f3.f2.f0)) := hcc76 9 _ rfl
     have hx76_10 : World.cell? _ ⟨go76, (t283 : Int).toNat * 12 + 10, none⟩ = some (.int .i64 ((rd_T43 x275000_3 t283).f3.f2.f1)) := hcc76 10 _ rfl
     have hx76_11 : World.cell? _ ⟨go76, (t283 : Int).toNat * 12 + 11, none⟩ = some (.bool ((rd_T43 x275000_3 t283).f3.f3)) := hcc76 11 _ rfl
     have hf76_0 : World.frozen? _ ⟨go76, (t283 : Int).toNat * 12, none⟩ = false := hfr76 0
     have hf76_1 : World.frozen? _ ⟨go76, (t283 : Int).toNat * 12 + 1, none⟩ = false := hfr76 1
     have hf76_2 : World.frozen? _ ⟨go76, (t283 : Int).toNat * 12 + 2, none⟩ = false := hfr76 2
     have hf76_3 : World.frozen? _ ⟨go76, (t283 : Int).toNat * 12 + 3, none⟩ = false := hfr76 3
     have hf76_4 : World.frozen? _ ⟨go76, (t283 : Int).toNat * 12 + 4, none⟩ = false := hfr76 4
     have hf76_5 : World.frozen? _ ⟨go76, (t283 : Int).toNat * 12 + 5, none⟩ = false := hfr76 5
     have hf76_6 : World.frozen? _ ⟨go76, (t283 : Int).toNat * 12 + 6, none⟩ = false := hfr76 6
     have hf76_7 : World.frozen? _ ⟨go76, (t283 : Int).toNat * 12 + 7, none⟩ = false := hfr76 7
     have hf76_8 : World.frozen? _ ⟨go76, (t283 : Int).toNat * 12 + 8, none⟩ = false := hfr76 8
     have hf76_9 : World.frozen? _ ⟨go76, (t283 : Int).toNat * 12 + 9, none⟩ = false := hfr76 9
     have hf76_10 : World.frozen? _ ⟨go76, (t283 : Int).toNat * 12 + 10, none⟩ = false := hfr76 10
     have hf76_11 : World.frozen? _ ⟨go76, (t283 : Int).toNat * 12 + 11, none⟩ = false := hfr76 11
     clear hcl76 hcc76 hfr76 hM76
     replace p76 := eq_true p76
     replace q76 := eq_true q76
     have HN0_go76 := Aside0.mk (show g ≠ go76 from by have h_ := IsS116.own_ne HI0.out HO_275000.out (by decide); intro e_; exact h_ (by rw [e_]; rfl))
     obtain ⟨ce88, hcl88, hM88, hcc88, hfr88⟩ := Kd.R_elem HO_275000.out z43 (t283 : Int) (of_decide_eq_true (by first | (with_reducible assumption) | assumption)) (by have h_ : (t283 : Int) < ((x275000_3.length : Int) : Int) := of_decide_eq_true (by first | (with_reducible assumption) | assumption); first | exact h_ | (have e_ := (Kd.R_reads' HO_275000.out).1; omega) | simpa using h_)
     obtain rfl := k43_openM hM88
     have HP88 := (Kd.R_seg HO_275000.out (t283 : Int) (of_decide_eq_true (by first | (with_reducible assumption) | assumption)) (by have h_ : (t283 : Int) < ((x275000_3.length : Int) : Int) := of_decide_eq_true (by first | (with_reducible assumption) | assumption); first | exact h_ | (have e_ := (Kd.R_reads' HO_275000.out).1; omega) | simpa using h_) (seg := [.int .i64 t297]) (j := 1) hcl88 hcc88 (show 2 ≤ 12 from by decide) (x' := (⟨(rd_T43 x275000_3 t283).f0, t297, (⟨(rd_T43 x275000_3 t283).f2.f0, (rd_T43 x275000_3 t283).f2.f1, (⟨(rd_T43 x275000_3 t283).f2.f2.f0, (rd_T43 x275000_3 t283).f2.f2.f1⟩ : S39), (rd_T43 x275000_3 t283).f2.f3⟩ : S41), (⟨(rd_T43 x275000_3 t283).f3.f0, (rd_T43 x275000_3 t283).f3.f1, (⟨(rd_T43 x275000_3 t283).f3.f2.f0, (rd_T43 x275000_3 t283).f3.f2.f1⟩ : S39), (rd_T43 x275000_3 t283).f3.f3⟩ : S41)⟩ : S43)) (k43_mkM _ _ _ (⟨(rd_T43 x275000_3 t283).f0, t297, (⟨(rd_T43 x275000_3 t283).f2.f0, (rd_T43 x275000_3 t283).f2.f1, (⟨(rd_T43 x275000_3 t283).f2.f2.f0, (rd_T43 x275000_3 t283).f2.f2.f1⟩ : S39), (rd_T43 x275000_3 t283).f2.f3⟩ : S41), (⟨(rd_T43 x275000_3 t283).f3.f0, (rd_T43 x275000_3 t283).f3.f1, (⟨(rd_T43 x275000_3 t283).f3.f2.f0, (rd_T43 x275000_3 t283).f3.f2.f1⟩ : S39), (rd_T43 x275000_3 t283).f3.f3⟩ : S41)⟩ : S43) ) (fun _ hk => hk)).1
     rw [← Ny299.out] at HP88
     have HQ88 := Aside0.mk HP88
     clear hcl88 hcc88 hfr88 hM88 HP88
     refine hK.out _ _ ⟨(blk_cell BK274.out 0).trans rfl, (blk_cell BK274.out 1).trans rfl⟩ (fun hHeld => ?_)
     clear hK K
     refine norm_ (a' := ?_) ?_ ?_
     rotate_left
     · show Act.put _ (some 50) _ = _
       simp only [Act.put, List.setIfInBounds_toArray, List.set_cons_zero, List.set_cons_succ, i64_w, i32_w]
       rfl
     refine pure_ (i := 6) (N := some 51) (v := ?_) (a' := ?_) #[true, true, true, true, true, true, true, false, false] rfl rfl (any_of HT_.out (by kernel_rfl)) (fun _ _ _ h => h) (Or.inl ⟨by rfl, ?_⟩) ?_ ?_
     rotate_left
     · intro w'
       go_simp
       with_reducible rfl
     rotate_left
     · simp only [Act.put, List.setIfInBounds_toArray, List.set_cons_zero, List.set_cons_succ, i64_w, i32_w]
       rfl
     refine pure_ (i := 7) (N := some 52) (v := ?_) (a' := ?_) #[true, true, true, true, true, true, true, true, false] rfl rfl (any_of HT_.out (by kernel_rfl)) (fun _ _ _ h => h) (Or.inl ⟨by rfl, ?_⟩) ?_ ?_
     rotate_left
     · intro w'
       go_simp
       with_reducible rfl
     rotate_left
     · simp only [Act.put, List.setIfInBounds_toArray, List.set_cons_zero, List.set_cons_succ, i64_w, i32_w]
       rfl
     refine last_ (i := 8) (N := none) #[true, true, true, true, true, true, true, true, true] rfl rfl (one_of HT_.out (by kernel_rfl)) (by decide) (fun K hK => ?_)
     refine skip_ (w1 := ?_) (by rfl) rfl ?_ ?_
     rotate_left
     · go_simp
       rfl
     refine hK.out _ _ ?_
     clear hK K
     refine done_ (done_of HT_.out (by kernel_rfl)) ?_
     have n0_ : Aside0 (Kd.R k43 43 (w87.setCell ⟨go76, (t283 : Int).toNat * 12 + 1, none⟩ (.int .i64 t297)) w.heap.size (fun _ => True) (.slice (some ⟨go76, 0, none⟩) x275000_3.length co80) y299) := ⟨by (with_reducible repeat (first | apply Kd.R_alloc | apply Kd.R_drewN | apply Kd.R_drew)); exact HQ88.out⟩
     have n1_ : Aside0 (Kd.R k66 66 (w87.setCell ⟨go76, (t283 : Int).toNat * 12 + 1, none⟩ (.int .i64 t297)) w.heap.size (fun _ => True) u275001 x275001_3) := ⟨by (with_reducible repeat (first | apply Kd.R_alloc | apply Kd.R_drewN | apply Kd.R_drew)); exact Kd.R_mono (Kd.R_far (p := ⟨go76, (t283 : Int).toNat * 12 + 1, none⟩) (Kd.R_types HO_275001.out GG76.out (by decide)) (fun _ hk => hk.2) (.int .i64 t297)) (fun _ hk => trivial)⟩
     have n2_ : Aside0 (Kd.R (Kd.int .i64) 3 (w87.setCell ⟨go76, (t283 : Int).toNat * 12 + 1, none⟩ (.int .i64 t297)) w.heap.size (fun _ => True) (.slice Ao86 y294.length co86) y294) := ⟨by (with_reducible repeat (first | apply Kd.R_alloc | apply Kd.R_drewN | apply Kd.R_drew)); exact Kd.R_mono (Kd.R_far (p := ⟨go76, (t283 : Int).toNat * 12 + 1, none⟩) (Kd.R_types HO296.out GG76.out (by decide)) (fun _ hk => hk.2) (.int .i64 t297)) (fun _ hk => trivial)⟩
     have n3_ : Aside0 ((w87.setCell ⟨go76, (t283 : Int).toNat * 12 + 1, none⟩ (.int .i64 t297)).heap[gb266]? = some (.cells #[.slice none 0 0, .slice none 0 0] 31 (0, 0))) := ⟨by (with_reducible repeat (first | refine blk_drewN ?_ _ | refine blk_drew ?_ | refine blk_alloc ?_ _)); refine blk_far ?_ (by have h_ := Kd.R_ne HO_275000.out BK266.out (by decide); intro e_; exact h_ (by rw [e_]; rfl)) _; (with_reducible repeat (first | refine blk_drewN ?_ _ | refine blk_drew ?_ | refine blk_alloc ?_ _)); exact BK266.out⟩
     have n4_ : Aside0 ((w87.setCell ⟨go76, (t283 : Int).toNat * 12 + 1, none⟩ (.int .i64 t297)).heap[gb274]? = some (.cells #[.slice (some ⟨go76, 0, none⟩) x275000_3.length co80, u275001] 31 (0, 0))) := ⟨by (with_reducible repeat (first | refine blk_drewN ?_ _ | refine blk_drew ?_ | refine blk_alloc ?_ _)); refine blk_far ?_ (by have h_ := Kd.R_ne HO_275000.out BK274.out (by decide); intro e_; exact h_ (by rw [e_]; rfl)) _; (with_reducible repeat (first | refine blk_drewN ?_ _ | refine blk_drew ?_ | refine blk_alloc ?_ _)); exact BK274.out⟩
     have n5_ : Aside0 (IsS116 w0 (w87.setCell ⟨go76, (t283 : Int).toNat * 12 + 1, none⟩ (.int .i64 t297)) g s0_0 t298) := ⟨by repeat (first | (with_reducible first | exact HI0.out | apply IsS116.alloc | apply IsS116.drewN | apply IsS116.drew | apply IsS116.set_1 | refine IsS116.far ?_ HN0_go76.out _ | refine IsS116.far ?_ NB0_266.out _ | refine IsS116.far ?_ NB0_274.out _) | exact HI0.out)⟩
     have n6_ : Aside0 (KeepBut w (w87.setCell ⟨go76, (t283 : Int).toNat * 12 + 1, none⟩ (.int .i64 t297)) g none) := ⟨by repeat (first | (with_reducible first | exact HK.out | apply KeepBut.set_ | apply keep_drewN | apply keep_drew | apply keep_alloc | refine keep_far ?_ GB76.out _ | refine keep_far ?_ GW266.out _ | refine keep_far ?_ GW274.out _) | exact HK.out)⟩
     have n7_ : Aside0 (Below w0.heap.size w0 (w87.setCell ⟨go76, (t283 : Int).toNat * 12 + 1, none⟩ (.int .i64 t297))) := ⟨by repeat (first | (with_reducible first | exact HB.out | apply below_alloc | apply pw_below_drewN | apply below_drew1 | refine below_set ?_ (Nat.le_trans HL.out GB76.out) | refine below_set ?_ (IsS116.ge HI0.out) | refine below_set ?_ GE266.out | refine below_set ?_ GE274.out) | exact HB.out)⟩
     (try clear HO_275000)
     (try clear HO_275001)
     (try clear HO296)
     (try clear BK266)
     (try clear BK274)
     (try clear HI0)
     (try clear HK)
     (try clear HB)
     generalize (w87.setCell ⟨go76, (t283 : Int).toNat * 12 + 1, none⟩ (.int .i64 t297)) = w89 at n0_ n1_ n2_ n3_ n4_ n5_ n6_ n7_ ⊢
     have HO_275000 := n0_
     have HO_275001 := n1_
     have HO296 := n2_
     have BK266 := n3_
     have BK274 := n4_
     have HI0 := n5_
     have HK := n6_
     have HB := n7_
     clear n0_ n1_ n2_ n3_ n4_ n5_ n6_ n7_
     have hcz90_0 : w89.cell? ⟨gb274, 0, none⟩ = some (.slice (some ⟨go76, 0, none⟩) x275000_3.length co80) := (blk_cell BK274.out 0).trans rfl
     have hcz90_1 : w89.cell? ⟨gb274, 1, none⟩ = some (u275001) := (blk_cell BK274.out 1).trans rfl
     have hfz90_0 := blk_frozen BK274.out 0
     have hfz90_1 := blk_frozen BK274.out 1
     have hnb91 := NB266_0.out
     have hnc91 := NB0_266.out
     have hcz92_0 : w89.cell? ⟨gb266, 0, none⟩ = some (.slice none 0 0) := (blk_cell BK266.out 0).trans rfl
     have hcz92_1 : w89.cell? ⟨gb266, 1, none⟩ = some (.slice none 0 0) := (blk_cell BK266.out 1).trans rfl
     have hfz92_0 := blk_frozen BK266.out 0
     have hfz92_1 := blk_frozen BK266.out 1
     obtain ⟨Ao93, co93, eo93⟩ := Kd.R_slice HO_275001.out
     subst eo93
     try go_wp2
     refine bodyPost_ret (results_cell_row rfl _ _ gb266 31 #[.slice (some ⟨go76, 0, none⟩) x275000_3.length co80, .slice Ao93 x275001_3.length co93] (0, 0) _ rfl (by (with_reducible repeat (first | refine blk_drewN ?_ _ | refine blk_drew ?_ | refine blk_alloc ?_ _)); refine blk_put (cs := #[.slice (some ⟨go76, 0, none⟩) x275000_3.length co80, .slice none 0 0]) ?_ 1 _ rfl; (with_reducible repeat (first | refine blk_drewN ?_ _ | refine blk_drew ?_ | refine blk_alloc ?_ _)); refine blk_put (cs := #[.slice none 0 0, .slice none 0 0]) ?_ 0 _ rfl; (with_reducible repeat (first | refine blk_drewN ?_ _ | refine blk_drew ?_ | refine blk_alloc ?_ _)); exact BK266.out) Tryz.underlying31 rfl (by kernel_rfl)) rfl ?_
     exact ⟨_, _, by first | rfl | (simp [errW_none, errW_some] <;> rfl) | (simp [*, errW_none, errW_some] <;> rfl), by (with_reducible repeat (first | apply Kd.R_alloc | apply Kd.R_drewN | apply Kd.R_drew)); exact Kd.R_mono (Kd.R_far (p := ⟨gb266, 1, none⟩) (Kd.R_far (p := ⟨gb266, 0, none⟩) (Kd.R_types HO_275000.out BK266.out (by decide)) (fun _ hk => hk.2) (.slice (some ⟨go76, 0, none⟩) x275000_3.length co80)) (fun _ hk => hk.2) (.slice Ao93 x275001_3.length co93)) (fun _ hk => trivial), by (with_reducible repeat (first | apply Kd.R_alloc | apply Kd.R_drewN | apply Kd.R_drew)); exact Kd.R_mono (Kd.R_far (p := ⟨gb266, 1, none⟩) (Kd.R_far (p := ⟨gb266, 0, none⟩) (Kd.R_types HO_275001.out BK266.out (by decide)) (fun _ hk => hk.2) (.slice (some ⟨go76, 0, none⟩) x275000_3.length co80)) (fun _ hk => hk.2) (.slice Ao93 x275001_3.length co93)) (fun _ hk => trivial), by repeat (first | (with_reducible first | exact HI0.out | apply IsS116.alloc | apply IsS116.drewN | apply IsS116.drew | apply IsS116.set_1 | refine IsS116.far ?_ NB0_266.out _ | refine IsS116.far ?_ NB0_274.out _) | exact HI0.out), by repeat (first | (with_reducible first | exact HB.out | apply below_alloc | apply pw_below_drewN | apply below_drew1 | refine below_set ?_ (IsS116.ge HI0.out) | refine below_set ?_ GE266.out | refine below_set ?_ GE274.out) | exact HB.out), by repeat (first | (with_reducible first | exact HK.out | apply KeepBut.set_ | apply keep_drewN | apply keep_drew | apply keep_alloc | refine keep_far ?_ GW266.out _ | refine keep_far ?_ GW274.out _) | exact HK.out)⟩
   rw [if_neg c72] at H
   have c72b0 : (t285 == 2) = false := beq_eq_false_iff_ne.mpr c72
   have c72b1 : (t285 != 2) = true := bne_iff_ne.mpr c72
   by_cases c94 : t285 = 3
   rotate_left
   · rw [if_neg c94] at H
     have c94b0 : (t285 == 3) = false := beq_eq_false_iff_ne.mpr c94
     have c94b1 : (t285 != 3) = true := bne_iff_ne.mpr c94
     simp only [Option.some.injEq, Prod.mk.injEq] at H
     obtain ⟨rfl, rfl, rfl⟩ := H
     have hnb113 := NB274_266.out
     have hnc113 := NB266_274.out
     have hnb114 := NB274_0.out
     have hnc114 := NB0_274.out
     have hcz115_0 : wc.cell? ⟨gb274, 0, none⟩ = some (u275000) := (blk_cell BK274.out 0).trans rfl
     have hcz115_1 : wc.cell? ⟨gb274, 1, none⟩ = some (u275001) := (blk_cell BK274.out 1).trans rfl
     have hfz115_0 := blk_frozen BK274.out 0
     have hfz115_1 := blk_frozen BK274.out 1
     obtain ⟨Ao116, co116, eo116⟩ := Kd.R_slice HO_275000.out
     subst eo116
     go_wp2_with (first | ((with_reducible refine gate_callee (f := 64) rfl ?_); refine goesL_ (some 21) rfl rfl Tryz.func64 (by kernel_rfl) rfl #[.pointer (some ⟨g, 0, none⟩), .int .i64 (x275000_3.length : Int)] rfl (by (try simp only [List.map_toArray, List.map_cons, List.map_nil]); first | done | rfl | (simp only [List.length_drop, List.length_take]; rfl)) ?_; (with_reducible refine (spec_l12Rd_pick.calls kj3 g s0_0 t276 (x275000_3.length : Int) t283 t284 w0 _ ?side1 ?side2 A31.out).mono ?_); (case side1 => repeat (first | (with_reducible first | exact HI0.out | apply IsS116.alloc | apply IsS116.drewN | apply IsS116.drew | apply IsS116.set_1 | refine IsS116.far ?_ NB0_266.out _ | refine IsS116.far ?_ NB0_274.out _) | exact HI0.out)); (case side2 => repeat (first | (with_reducible first | exact HB.out | apply below_alloc | apply pw_below_drewN | apply below_drew1 | refine below_set ?_ (IsS116.ge HI0.out) | refine below_set ?_ GE266.out | refine below_set ?_ GE274.out) | exact HB.out)); rintro e w117 ⟨rfl, hi, hb, hk⟩; refine ⟨_, rfl, ?_⟩; have n0_ := Aside0.mk (Kd.R_mono (Kd.R_keep (IsS116.apart (show IsS116 w0 _ g s0_0 t276 from by repeat (first | (with_reducible first | exact HI0.out | apply IsS116.alloc | apply IsS116.drewN | apply IsS116.drew | apply IsS116.set_1 | refine IsS116.far ?_ NB0_266.out _ | refine IsS116.far ?_ NB0_274.out _) | exact HI0.out)) (by (with_reducible repeat (first | apply Kd.R_alloc | apply Kd.R_drewN | apply Kd.R_drew)); exact HO_275000.out) (by decide)) hk (fun _ h => h.2)) (fun _ h => h.1)); have n1_ := Aside0.mk (Kd.R_mono (Kd.R_keep (IsS116.apart (show IsS116 w0 _ g s0_0 t276 from by repeat (first | (with_reducible first | exact HI0.out | apply IsS116.alloc | apply IsS116.drewN | apply IsS116.drew | apply IsS116.set_1 | refine IsS116.far ?_ NB0_266.out _ | refine IsS116.far ?_ NB0_274.out _) | exact HI0.out)) (by (with_reducible repeat (first | apply Kd.R_alloc | apply Kd.R_drewN | apply Kd.R_drew)); exact HO_275001.out) (by decide)) hk (fun _ h => h.2)) (fun _ h => h.1)); have n2_ := Aside0.mk (KeepBut.blk hk (g' := gb266) (o := .cells #[.slice none 0 0, .slice none 0 0] 31 (0, 0)) (by (with_reducible repeat (first | refine blk_drewN ?_ _ | refine blk_drew ?_ | refine blk_alloc ?_ _)); exact BK266.out) NB266_0.out (by simp)); have n3_ := Aside0.mk (KeepBut.blk hk (g' := gb274) (o := .cells #[.slice Ao116 x275000_3.length co116, u275001] 31 (0, 0)) (by (with_reducible repeat (first | refine blk_drewN ?_ _ | refine blk_drew ?_ | refine blk_alloc ?_ _)); exact BK274.out) NB274_0.out (by simp)); have n4_ := Aside0.mk (KeepBut.trans (by repeat (first | (with_reducible first | exact HK.out | apply KeepBut.set_ | apply keep_drewN | apply keep_drew | apply keep_alloc | refine keep_far ?_ GW266.out _ | refine keep_far ?_ GW274.out _) | exact HK.out)) hk (.inl rfl)); have n5_ := Aside0.mk (hb); have n6_ := Aside0.mk (hi); clear HO_275000; clear HO_275001; clear BK266; clear BK274; clear HK; clear HB; clear HI0; have HO_275000 := n0_; have HO_275001 := n1_; have BK266 := n2_; have BK274 := n3_; have HK := n4_; have HB := n5_; have HI0 := n6_; clear n0_ n1_ n2_ n3_ n4_ n5_ n6_; (try clear hb); (try clear hb2); (try clear hk); (try clear hi)) | ((with_reducible refine gate_callee (f := 64) rfl ?_); refine goesL_ (some 23) rfl rfl Tryz.func64 (by kernel_rfl) rfl #[.pointer (some ⟨g, 0, none⟩), .int .i64 40] rfl (by (try simp only [List.map_toArray, List.map_cons, List.map_nil]); first | done | rfl | (simp only [List.length_drop, List.length_take]; rfl)) ?_; (with_reducible refine (spec_l12Rd_pick.calls kj3 g s0_0 t284 40 t285 t286 w0 _ ?side1 ?side2 A32.out).mono ?_); (case side1 => repeat (first | (with_reducible first | exact HI0.out | apply IsS116.alloc | apply IsS116.drewN | apply IsS116.drew | apply IsS116.set_1 | refine IsS116.far ?_ NB0_266.out _ | refine IsS116.far ?_ NB0_274.out _) | exact HI0.out)); (case side2 => repeat (first | (with_reducible first | exact HB.out | apply below_alloc | apply pw_below_drewN | apply below_drew1 | refine below_set ?_ (IsS116.ge HI0.out) | refine below_set ?_ GE266.out | refine below_set ?_ GE274.out) | exact HB.out)); rintro e w118 ⟨rfl, hi, hb, hk⟩; refine ⟨_, rfl, ?_⟩; have n0_ := Aside0.mk (Kd.R_mono (Kd.R_keep (IsS116.apart (show IsS116 w0 _ g s0_0 t284 from by repeat (first | (with_reducible first | exact HI0.out | apply IsS116.alloc | apply IsS116.drewN | apply IsS116.drew | apply IsS116.set_1 | refine IsS116.far ?_ NB0_266.out _ | refine IsS116.far ?_ NB0_274.out _) | exact HI0.out)) (by (with_reducible repeat (first | apply Kd.R_alloc | apply Kd.R_drewN | apply Kd.R_drew)); exact HO_275000.out) (by decide)) hk (fun _ h => h.2)) (fun _ h => h.1)); have n1_ := Aside0.mk (Kd.R_mono (Kd.R_keep (IsS116.apart (show IsS116 w0 _ g s0_0 t284 from by repeat (first | (with_reducible first | exact HI0.out | apply IsS116.alloc | apply IsS116.drewN | apply IsS116.drew | apply IsS116.set_1 | refine IsS116.far ?_ NB0_266.out _ | refine IsS116.far ?_ NB0_274.out _) | exact HI0.out)) (by (with_reducible repeat (first | apply Kd.R_alloc | apply Kd.R_drewN | apply Kd.R_drew)); exact HO_275001.out) (by decide)) hk (fun _ h => h.2)) (fun _ h => h.1)); have n2_ := Aside0.mk (KeepBut.blk hk (g' := gb266) (o := .cells #[.slice none 0 0, .slice none 0 0] 31 (0, 0)) (by (with_reducible repeat (first | refine blk_drewN ?_ _ | refine blk_drew ?_ | refine blk_alloc ?_ _)); exact BK266.out) NB266_0.out (by simp)); have n3_ := Aside0.mk (KeepBut.blk hk (g' := gb274) (o := .cells #[.slice Ao116 x275000_3.length co116, u275001] 31 (0, 0)) (by (with_reducible repeat (first | refine blk_drewN ?_ _ | refine blk_drew ?_ | refine blk_alloc ?_ _)); exact BK274.out) NB274_0.out (by simp)); have n4_ := Aside0.mk (KeepBut.trans (by repeat (first | (with_reducible first | exact HK.out | apply KeepBut.set_ | apply keep_drewN | apply keep_drew | apply keep_alloc | refine keep_far ?_ GW266.out _ | refine keep_far ?_ GW274.out _) | exact HK.out)) hk (.inl rfl)); have n5_ := Aside0.mk (hb); have n6_ := Aside0.mk (hi); clear HO_275000; clear HO_275001; clear BK266; clear BK274; clear HK; clear HB; clear HI0; have HO_275000 := n0_; have HO_275001 := n1_; have BK266 := n2_; have BK274 := n3_; have HK := n4_; have HB := n5_; have HI0 := n6_; clear n0_ n1_ n2_ n3_ n4_ n5_ n6_; (try clear hb); (try clear hb2); (try clear hk); (try clear hi); have hcz119_0 : w118.cell? ⟨gb274, 0, none⟩ = some (.slice Ao116 x275000_3.length co116) := (blk_cell BK274.out 0).trans rfl; have hcz119_1 : w118.cell? ⟨gb274, 1, none⟩ = some (u275001) := (blk_cell BK274.out 1).trans rfl; have hfz119_0 := blk_frozen BK274.out 0; have hfz119_1 := blk_frozen BK274.out 1; have hnb120 := NB266_0.out; have hnc120 := NB0_266.out; have hcz121_0 : w118.cell? ⟨gb266, 0, none⟩ = some (.slice none 0 0) := (blk_cell BK266.out 0).trans rfl; have hcz121_1 : w118.cell? ⟨gb266, 1, none⟩ = some (.slice none 0 0) := (blk_cell BK266.out 1).trans rfl; have hfz121_0 := blk_frozen BK266.out 0; have hfz121_1 := blk_frozen BK266.out 1; obtain ⟨Ao122, co122, eo122⟩ := Kd.R_slice HO_275001.out; subst eo122))
     refine bodyPost_ret (results_cell_row rfl _ _ gb266 31 #[.slice Ao116 x275000_3.length co116, .slice Ao122 x275001_3.length co122] (0, 0) _ rfl (by (with_reducible repeat (first | refine blk_drewN ?_ _ | refine blk_drew ?_ | refine blk_alloc ?_ _)); refine blk_put (cs := #[.slice Ao116 x275000_3.length co116, .slice none 0 0]) ?_ 1 _ rfl; (with_reducible repeat (first | refine blk_drewN ?_ _ | refine blk_drew ?_ | refine blk_alloc ?_ _)); refine blk_put (cs := #[.slice none 0 0, .slice none 0 0]) ?_ 0 _ rfl; (with_reducible repeat (first | refine blk_drewN ?_ _ | refine blk_drew ?_ | refine blk_alloc ?_ _)); exact BK266.out) Tryz.underlying31 rfl (by kernel_rfl)) rfl ?_
     exact ⟨_, _, by first | rfl | (simp [errW_none, errW_some] <;> rfl) | (simp [*, errW_none, errW_some] <;> rfl), by (with_reducible repeat (first | apply Kd.R_alloc | apply Kd.R_drewN | apply Kd.R_drew)); exact Kd.R_mono (Kd.R_far (p := ⟨gb266, 1, none⟩) (Kd.R_far (p := ⟨gb266, 0, none⟩) (Kd.R_types HO_275000.out BK266.out (by decide)) (fun _ hk => hk.2) (.slice Ao116 x275000_3.length co116)) (fun _ hk => hk.2) (.slice Ao122 x275001_3.length co122)) (fun _ hk => trivial), by (with_reducible repeat (first | apply Kd.R_alloc | apply Kd.R_drewN | apply Kd.R_drew)); exact Kd.R_mono (Kd.R_far (p := ⟨gb266, 1, none⟩) (Kd.R_far (p := ⟨gb266, 0, none⟩) (Kd.R_types HO_275001.out BK266.out (by decide)) (fun _ hk => hk.2) (.slice Ao116 x275000_3.length co116)) (fun _ hk => hk.2) (.slice Ao122 x275001_3.length co122)) (fun _ hk => trivial), by repeat (first | (with_reducible first | exact HI0.out | apply IsS116.alloc | apply IsS116.drewN | apply IsS116.drew | apply IsS116.set_1 | refine IsS116.far ?_ NB0_266.out _ | refine IsS116.far ?_ NB0_274.out _) | exact HI0.out), by repeat (first | (with_reducible first | exact HB.out | apply below_alloc | apply pw_below_drewN | apply below_drew1 | refine below_set ?_ (IsS116.ge HI0.out) | refine below_set ?_ GE266.out | refine below_set ?_ GE274.out) | exact HB.out), by repeat (first | (with_reducible first | exact HK.out | apply KeepBut.set_ | apply keep_drewN | apply keep_drew | apply keep_alloc | refine keep_far ?_ GW266.out _ | refine keep_far ?_ GW274.out _) | exact HK.out)⟩
   rw [if_pos c94] at H
   have c94b0 : (t285 == 3) = true := beq_iff_eq.mpr c94
   have c94b1 : (t285 != 3) = false := bne_eq_false_iff_eq.mpr c94
   clear c94
   replace H := Option.bind_eq_some_iff.mp H
   obtain ⟨⟨t300, t301⟩, A950, H⟩ := H
   replace H : ((spec_l12Rd_pick.f kj3 s0_0 t301 9).bind fun bt302 => (if x275001_3.length < 5864062014805 then (some (x275000_3, (x275001_3 ++ [(⟨(⟨t300, 5⟩ : S39), bt302.1⟩ : S66)]), bt302.2)) else (none))) = some (r1, r2, r3) := H
   have A95 := Aside0.mk A950
   clear A950
   replace H := Option.bind_eq_some_iff.mp H
   obtain ⟨⟨t302, t303⟩, A960, H⟩ := H
   replace H : (if x275001_3.length < 5864062014805 then (some (x275000_3, (x275001_3 ++ [(⟨(⟨t300, 5⟩ : S39), t302⟩ : S66)]), t303)) else (none)) = some (r1, r2, r3) := H
   have A96 := Aside0.mk A960
   clear A960
   by_cases c97 : x275001_3.length < 5864062014805
   rotate_left
   · rw [if_neg c97] at H
     exact absurd H (by simp)
   rw [if_pos c97] at H
   have LMc97 := Aside0.mk c97
   clear c97
   obtain ⟨y304, hy304⟩ : ∃ y_ : List (S66), y_ = (x275001_3 ++ [(⟨(⟨t300, 5⟩ : S39), t302⟩ : S66)]) := ⟨_, rfl⟩
   replace H : (some (x275000_3, y304, t303)) = some (r1, r2, r3) := by first | (rw [hy304]; with_reducible exact H) | (have H2_ := (Option.bind_some _ _).symm.trans H; rw [hy304]; with_reducible exact H2_) | (have H2_ := (Option.bind_some _ _).symm.trans H; with_reducible exact H2_) | with_reducible exact H | (rw [hy304]; exact H) | exact H
   have Ny304 := Aside0.mk hy304
   clear hy304
   simp only [Option.some.injEq, Prod.mk.injEq] at H
   obtain ⟨rfl, rfl, rfl⟩ := H
   have hnb98 := NB274_266.out
   have hnc98 := NB266_274.out
   have hnb99 := NB274_0.out
   have hnc99 := NB0_274.out
   have hcz100_0 : wc.cell? ⟨gb274, 0, none⟩ = some (u275000) := (blk_cell BK274.out 0).trans rfl
   have hcz100_1 : wc.cell? ⟨gb274, 1, none⟩ = some (u275001) := (blk_cell BK274.out 1).trans rfl
   have hfz100_0 := blk_frozen BK274.out 0
   have hfz100_1 := blk_frozen BK274.out 1
   obtain ⟨Ao101, co101, eo101⟩ := Kd.R_slice HO_275000.out
   subst eo101
   try go_wp2_with (first | ((with_reducible refine gate_callee (f := 64) rfl ?_); refine goesL_ (some 21) rfl rfl Tryz.func64 (by kernel_rfl) rfl #[.pointer (some ⟨g, 0, none⟩), .int .i64 (x275000_3.length : Int)] rfl (by (try simp only [List.map_toArray, List.map_cons, List.map_nil]); first | done | rfl | (simp only [List.length_drop, List.length_take]; rfl)) ?_; (with_reducible refine (spec_l12Rd_pick.calls kj3 g s0_0 t276 (x275000_3.length : Int) t283 t284 w0 _ ?side1 ?side2 A31.out).mono ?_); (case side1 => repeat (first | (with_reducible first | exact HI0.out | apply IsS116.alloc | apply IsS116.drewN | apply IsS116.drew | apply IsS116.set_1 | refine IsS116.far ?_ NB0_266.out _ | refine IsS116.far ?_ NB0_274.out _) | exact HI0.out)); (case side2 => repeat (first | (with_reducible first | exact HB.out | apply below_alloc | apply pw_below_drewN | apply below_drew1 | refine below_set ?_ (IsS116.ge HI0.out) | refine below_set ?_ GE266.out | refine below_set ?_ GE274.out) | exact HB.out)); rintro e w102 ⟨rfl, hi, hb, hk⟩; refine ⟨_, rfl, ?_⟩; have n0_ := Aside0.mk (Kd.R_mono (Kd.R_keep (IsS116.apart (show IsS116 w0 _ g s0_0 t276 from by repeat (first | (with_reducible first | exact HI0.out | apply IsS116.alloc | apply IsS116.drewN | apply IsS116.drew | apply IsS116.set_1 | refine IsS116.far ?_ NB0_266.out _ | refine IsS116.far ?_ NB0_274.out _) | exact HI0.out)) (by (with_reducible repeat (first | apply Kd.R_alloc | apply Kd.R_drewN | apply Kd.R_drew)); exact HO_275000.out) (by decide)) hk (fun _ h => h.2)) (fun _ h => h.1)); have n1_ := Aside0.mk (Kd.R_mono (Kd.R_keep (IsS116.apart (show IsS116 w0 _ g s0_0 t276 from by repeat (first | (with_reducible first | exact HI0.out | apply IsS116.alloc | apply IsS116.drewN | apply IsS116.drew | apply IsS116.set_1 | refine IsS116.far ?_ NB0_266.out _ | refine IsS116.far ?_ NB0_274.out _) | exact HI0.out)) (by (with_reducible repeat (first | apply Kd.R_alloc | apply Kd.R_drewN | apply Kd.R_drew)); exact HO_275001.out) (by decide)) hk (fun _ h => h.2)) (fun _ h => h.1)); have n2_ := Aside0.mk (KeepBut.blk hk (g' := gb266) (o := .cells #[.slice none 0 0, .slice none 0 0] 31 (0, 0)) (by (with_reducible repeat (first | refine blk_drewN ?_ _ | refine blk_drew ?_ | refine blk_alloc ?_ _)); exact BK266.out) NB266_0.out (by simp)); have n3_ := Aside0.mk (KeepBut.blk hk (g' := gb274) (o := .cells #[.slice Ao101 x275000_3.length co101, u275001] 31 (0, 0)) (by (with_reducible repeat (first | refine blk_drewN ?_ _ | refine blk_drew ?_ | refine blk_alloc ?_ _)); exact BK274.out) NB274_0.out (by simp)); have n4_ := Aside0.mk (KeepBut.trans (by repeat (first | (with_reducible first | exact HK.out | apply KeepBut.set_ | apply keep_drewN | apply keep_drew | apply keep_alloc | refine keep_far ?_ GW266.out _ | refine keep_far ?_ GW274.out _) | exact HK.out)) hk (.inl rfl)); have n5_ := Aside0.mk (hb); have n6_ := Aside0.mk (hi); clear HO_275000; clear HO_275001; clear BK266; clear BK274; clear HK; clear HB; clear HI0; have HO_275000 := n0_; have HO_275001 := n1_; have BK266 := n2_; have BK274 := n3_; have HK := n4_; have HB := n5_; have HI0 := n6_; clear n0_ n1_ n2_ n3_ n4_ n5_ n6_; (try clear hb); (try clear hb2); (try clear hk); (try clear hi)) | ((with_reducible refine gate_callee (f := 64) rfl ?_); refine goesL_ (some 23) rfl rfl Tryz.func64 (by kernel_rfl) rfl #[.pointer (some ⟨g, 0, none⟩), .int .i64 40] rfl (by (try simp only [List.map_toArray, List.map_cons, List.map_nil]); first | done | rfl | (simp only [List.length_drop, List.length_take]; rfl)) ?_; (with_reducible refine (spec_l12Rd_pick.calls kj3 g s0_0 t284 40 t285 t286 w0 _ ?side1 ?side2 A32.out).mono ?_); (case side1 => repeat (first | (with_reducible first | exact HI0.out | apply IsS116.alloc | apply IsS116.drewN | apply IsS116.drew | apply IsS116.set_1 | refine IsS116.far ?_ NB0_266.out _ | refine IsS116.far ?_ NB0_274.out _) | exact HI0.out)); (case side2 => repeat (first | (with_reducible first | exact HB.out | apply below_alloc | apply pw_below_drewN | apply below_drew1 | refine below_set ?_ (IsS116.ge HI0.out) | refine below_set ?_ GE266.out | refine below_set ?_ GE274.out) | exact HB.out)); rintro e w103 ⟨rfl, hi, hb, hk⟩; refine ⟨_, rfl, ?_⟩; have n0_ := Aside0.mk (Kd.R_mono (Kd.R_keep (IsS116.apart (show IsS116 w0 _ g s0_0 t284 from by repeat (first | (with_reducible first | exact HI0.out | apply IsS116.alloc | apply IsS116.drewN | apply IsS116.drew | apply IsS116.set_1 | refine IsS116.far ?_ NB0_266.out _ | refine IsS116.far ?_ NB0_274.out _) | exact HI0.out)) (by (with_reducible repeat (first | apply Kd.R_alloc | apply Kd.R_drewN | apply Kd.R_drew)); exact HO_275000.out) (by decide)) hk (fun _ h => h.2)) (fun _ h => h.1)); have n1_ := Aside0.mk (Kd.R_mono (Kd.R_keep (IsS116.apart (show IsS116 w0 _ g s0_0 t284 from by repeat (first | (with_reducible first | exact HI0.out | apply IsS116.alloc | apply IsS116.drewN | apply IsS116.drew | apply IsS116.set_1 | refine IsS116.far ?_ NB0_266.out _ | refine IsS116.far ?_ NB0_274.out _) | exact HI0.out)) (by (with_reducible repeat (first | apply Kd.R_alloc | apply Kd.R_drewN | apply Kd.R_drew)); exact HO_275001.out) (by decide)) hk (fun _ h => h.2)) (fun _ h => h.1)); have n2_ := Aside0.mk (KeepBut.blk hk (g' := gb266) (o := .cells #[.slice none 0 0, .slice none 0 0] 31 (0, 0)) (by (with_reducible repeat (first | refine blk_drewN ?_ _ | refine blk_drew ?_ | refine blk_alloc ?_ _)); exact BK266.out) NB266_0.out (by simp)); have n3_ := Aside0.mk (KeepBut.blk hk (g' := gb274) (o := .cells #[.slice Ao101 x275000_3.length co101, u275001] 31 (0, 0)) (by (with_reducible repeat (first | refine blk_drewN ?_ _ | refine blk_drew ?_ | refine blk_alloc ?_ _)); exact BK274.out) NB274_0.out (by simp)); have n4_ := Aside0.mk (KeepBut.trans (by repeat (first | (with_reducible first | exact HK.out | apply KeepBut.set_ | apply keep_drewN | apply keep_drew | apply keep_alloc | refine keep_far ?_ GW266.out _ | refine keep_far ?_ GW274.out _) | exact HK.out)) hk (.inl rfl)); have n5_ := Aside0.mk (hb); have n6_ := Aside0.mk (hi); clear HO_275000; clear HO_275001; clear BK266; clear BK274; clear HK; clear HB; clear HI0; have HO_275000 := n0_; have HO_275001 := n1_; have BK266 := n2_; have BK274 := n3_; have HK := n4_; have HB := n5_; have HI0 := n6_; clear n0_ n1_ n2_ n3_ n4_ n5_ n6_; (try clear hb); (try clear hb2); (try clear hk); (try clear hi)))
   have n0_ := Aside0.mk (Kd.R_drew HO_275000.out)
   have n1_ := Aside0.mk (Kd.R_drew HO_275001.out)
   have n2_ := Aside0.mk (blk_drew BK266.out)
   have n3_ := Aside0.mk (blk_drew BK274.out)
   have n4_ := Aside0.mk (IsS116.drew HI0.out)
   have n5_ := Aside0.mk (keep_drew HK.out)
   have n6_ := Aside0.mk (below_drew1 HB.out)
   clear HO_275000
   clear HO_275001
   clear BK266
   clear BK274
   clear HI0
   clear HK
   clear HB
   have HO_275000 := n0_
   have HO_275001 := n1_
   have BK266 := n2_
   have BK274 := n3_
   have HI0 := n4_
   have HK := n5_
   have HB := n6_
   clear n0_ n1_ n2_ n3_ n4_ n5_ n6_
   refine start_ (n := 12) (S := fun w' => w'.cell? ⟨gb274, 0, none⟩ = some (.slice Ao101 x275000_3.length co101) ∧ w'.cell? ⟨gb274, 1, none⟩ = some (u275001)) (ds := [11]) #[false, false, false, false, false, false, false, false, false, false, false, false] (by kernel_rfl) rfl rfl ⟨(blk_cell BK274.out 0).trans rfl, (blk_cell BK274.out 1).trans rfl⟩ (fun hHeld => ?_); refine with_tabW spec_l7Bent.tab15 spec_l7Bent.bits15 (fun HT_ HW_ => ?_)
   generalize w103.drew = w104 at HO_275000 HO_275001 BK266 BK274 HI0 HK HB hHeld ⊢
   refine pure_ (i := 0) (N := some 55) (v := ?_) (a' := ?_) #[true, false, false, false, false, false, false, false, false, false, false, false] rfl rfl (any_of HT_.out (by kernel_rfl)) (fun _ _ _ h => h) (Or.inl ⟨by rfl, ?_⟩) ?_ ?_
   rotate_left
   · intro w'
     go_simp
     with_reducible rfl
   rotate_left
   · simp only [Act.put, List.setIfInBounds_toArray, List.set_cons_zero, List.set_cons_succ, i64_w, i32_w]
     rfl
   refine pure_ (i := 2) (N := some 57) (v := ?_) (a' := ?_) #[true, false, true, false, false, false, false, false, false, false, false, false] rfl rfl (any_of HT_.out (by kernel_rfl)) (fun _ _ _ h => h) (Or.inl ⟨by rfl, ?_⟩) ?_ ?_
   rotate_left
   · intro w'
     go_simp
     with_reducible rfl
   rotate_left
   · simp only [Act.put, List.setIfInBounds_toArray, List.set_cons_zero, List.set_cons_succ, i64_w, i32_w]
     rfl
   refine pure_ (i := 5) (N := some 60) (v := ?_) (a' := ?_) #[true, false, true, false, false, true, false, false, false, false, false, false] rfl rfl (any_of HT_.out (by kernel_rfl)) (fun _ _ _ h => h) (Or.inl ⟨by rfl, ?_⟩) ?_ ?_
   rotate_left
   · intro w'
     go_simp
     with_reducible rfl
   rotate_left
   · simp only [Act.put, List.setIfInBounds_toArray, List.set_cons_zero, List.set_cons_succ, i64_w, i32_w]
     rfl
   refine take_ (i := 1) (N := some 56) (v := ?_) (a' := ?_) #[true, true, true, false, false, true, false, false, false, false, false, false] rfl rfl (take_ofW HT_.out HW_.out (by kernel_rfl)) (fun _ _ _ h => h) (Or.inl ⟨by rfl, ?_⟩) hHeld ?_ ?_
   rotate_left
   · rintro w' ⟨s0, s1⟩
     go_simp
     with_reducible rfl
   rotate_left
   · simp only [Act.put, List.setIfInBounds_toArray, List.set_cons_zero, List.set_cons_succ, i64_w, i32_w]
     rfl
   refine one_ (i := 3) (N := some 58) #[true, true, true, true, false, true, false, false, false, false, false, false] rfl rfl (one_of HT_.out (by kernel_rfl)) (by decide) (fun K hK => ?_)
   refine goes_ Tryz.func64 (by kernel_rfl) rfl #[.pointer (some ⟨g, 0, none⟩), .int .i64 5] (by rfl) rfl rfl (by (try simp only [List.map_toArray, List.map_cons, List.map_nil]); first | done | rfl | (simp only [List.length_drop, List.length_take]; rfl)) ?_
   with_reducible refine (spec_l12Rd_pick.calls kj3 g s0_0 t286 5 t300 t301 w0 _ ?side1 ?side2 A95.out).mono ?_
   (case side1 => repeat (first | (with_reducible first | exact HI0.out | apply IsS116.alloc | apply IsS116.drewN | apply IsS116.drew | apply IsS116.set_1 | refine IsS116.far ?_ NB0_266.out _ | refine IsS116.far ?_ NB0_274.out _) | exact HI0.out))
   (case side2 => repeat (first | (with_reducible first | exact HB.out | apply below_alloc | apply pw_below_drewN | apply below_drew1 | refine below_set ?_ (IsS116.ge HI0.out) | refine below_set ?_ GE266.out | refine below_set ?_ GE274.out) | exact HB.out))
   rintro e w105 ⟨rfl, hi, hb, hk⟩
   refine ⟨_, rfl, ?_⟩
   have n0_ := Aside0.mk (Kd.R_mono (Kd.R_keep (IsS116.apart (show IsS116 w0 _ g s0_0 t286 from by repeat (first | (with_reducible first | exact HI0.out | apply IsS116.alloc | apply IsS116.drewN | apply IsS116.drew | apply IsS116.set_1 | refine IsS116.far ?_ NB0_266.out _ | refine IsS116.far ?_ NB0_274.out _) | exact HI0.out)) (by (with_reducible repeat (first | apply Kd.R_alloc | apply Kd.R_drewN | apply Kd.R_drew)); exact HO_275000.out) (by decide)) hk (fun _ h => h.2)) (fun _ h => h.1))
   have n1_ := Aside0.mk (Kd.R_mono (Kd.R_keep (IsS116.apart (show IsS116 w0 _ g s0_0 t286 from by repeat (first | (with_reducible first | exact HI0.out | apply IsS116.alloc | apply IsS116.drewN | apply IsS116.drew | apply IsS116.set_1 | refine IsS116.far ?_ NB0_266.out _ | refine IsS116.far ?_ NB0_274.out _) | exact HI0.out)) (by (with_reducible repeat (first | apply Kd.R_alloc | apply Kd.R_drewN | apply Kd.R_drew)); exact HO_275001.out) (by decide)) hk (fun _ h => h.2)) (fun _ h => h.1))
   have n2_ := Aside0.mk (KeepBut.blk hk (g' := gb266) (o := .cells #[.slice none 0 0, .slice none 0 0] 31 (0, 0)) (by (with_reducible repeat (first | refine blk_drewN ?_ _ | refine blk_drew ?_ | refine blk_alloc ?_ _)); exact BK266.out) NB266_0.out (by simp))
   have n3_ := Aside0.mk (KeepBut.blk hk (g' := gb274) (o := .cells #[.slice Ao101 x275000_3.length co101, u275001] 31 (0, 0)) (by (with_reducible repeat (first | refine blk_drewN ?_ _ | refine blk_drew ?_ | refine blk_alloc ?_ _)); exact BK274.out) NB274_0.out (by simp))
   have n4_ := Aside0.mk (KeepBut.trans (by repeat (first | (with_reducible first | exact HK.out | apply KeepBut.set_ | apply keep_drewN | apply keep_drew | apply keep_alloc | refine keep_far ?_ GW266.out _ | refine keep_far ?_ GW274.out _) | exact HK.out)) hk (.inl rfl))
   have n5_ := Aside0.mk (hb)
   have n6_ := Aside0.mk (hi)
   clear HO_275000
   clear HO_275001
   clear BK266
   clear BK274
   clear HK
   clear HB
   clear HI0
   have HO_275000 := n0_
   have HO_275001 := n1_
   have BK266 := n2_
   have BK274 := n3_
   have HK := n4_
   have HB := n5_
   have HI0 := n6_
   clear n0_ n1_ n2_ n3_ n4_ n5_ n6_
   (try clear hb)
   (try clear hb2)
   (try clear hk)
   (try clear hi)
   refine hK.out _ _ ⟨(blk_cell BK274.out 0).trans rfl, (blk_cell BK274.out 1).trans rfl⟩ (fun hHeld => ?_)
   clear hK K
   refine norm_ (a' := ?_) ?_ ?_
   rotate_left
   · show Act.put _ (some 58) _ = _
     simp only [Act.put, List.setIfInBounds_toArray, List.set_cons_zero, List.set_cons_succ, i64_w, i32_w]
     rfl
   refine pure_ (i := 4) (N := some 59) (v := ?_) (a' := ?_) #[true, true, true, true, true, true, false, false, false, false, false, false] rfl rfl (any_of HT_.out (by kernel_rfl)) (fun _ _ _ h => h) (Or.inl ⟨by rfl, ?_⟩) ?_ ?_
   rotate_left
   · intro w'
     go_simp
     with_reducible rfl
   rotate_left
   · simp only [Act.put, List.setIfInBounds_toArray, List.set_cons_zero, List.set_cons_succ, i64_w, i32_w]
     rfl
   refine one_ (i := 6) (N := some 61) #[true, true, true, true, true, true, true, false, false, false, false, false] rfl rfl (one_of HT_.out (by kernel_rfl)) (by decide) (fun K hK => ?_)
   refine goes_ Tryz.func64 (by kernel_rfl) rfl #[.pointer (some ⟨g, 0, none⟩), .int .i64 9] (by rfl) rfl rfl (by (try simp only [List.map_toArray, List.map_cons, List.map_nil]); first | done | rfl | (simp only [List.length_drop, List.length_take]; rfl)) ?_
   with_reducible refine (spec_l12Rd_pick.calls kj3 g s0_0 t301 9 t302 t303 w0 _ ?side1 ?side2 A96.out).mono ?_
   (case side1 => repeat (first | (with_reducible first | exact HI0.out | apply IsS116.alloc | apply IsS116.drewN | apply IsS116.drew | apply IsS116.set_1 | refine IsS116.far ?_ NB0_266.out _ | refine IsS116.far ?_ NB0_274.out _) | exact HI0.out))
   (case side2 => repeat (first | (with_reducible first | exact HB.out | apply below_alloc | apply pw_below_drewN | apply below_drew1 | refine below_set ?_ (IsS116.ge HI0.out) | refine below_set ?_ GE266.out | refine below_set ?_ GE274.out) | exact HB.out))
   rintro e w106 ⟨rfl, hi, hb, hk⟩
   refine ⟨_, rfl, ?_⟩
   have n0_ := Aside0.mk (Kd.R_mono (Kd.R_keep (IsS116.apart (show IsS116 w0 _ g s0_0 t301 from by repeat (first | (with_reducible first | exact HI0.out | apply IsS116.alloc | apply IsS116.drewN | apply IsS116.drew | apply IsS116.set_1 | refine IsS116.far ?_ NB0_266.out _ | refine IsS116.far ?_ NB0_274.out _) | exact HI0.out)) (by (with_reducible repeat (first | apply Kd.R_alloc | apply Kd.R_drewN | apply Kd.R_drew)); exact HO_275000.out) (by decide)) hk (fun _ h => h.2)) (fun _ h => h.1))
   have n1_ := Aside0.mk (Kd.R_mono (Kd.R_keep (IsS116.apart (show IsS116 w0 _ g s0_0 t301 from by repeat (first | (with_reducible first | exact HI0.out | apply IsS116.alloc | apply IsS116.drewN | apply IsS116.drew | apply IsS116.set_1 | refine IsS116.far ?_ NB0_266.out _ | refine IsS116.far ?_ NB0_274.out _) | exact HI0.out)) (by (with_reducible repeat (first | apply Kd.R_alloc | apply Kd.R_drewN | apply Kd.R_drew)); exact HO_275001.out) (by decide)) hk (fun _ h => h.2)) (fun _ h => h.1))
   have n2_ := Aside0.mk (KeepBut.blk hk (g' := gb266) (o := .cells #[.slice none 0 0, .slice none 0 0] 31 (0, 0)) (by (with_reducible repeat (first | refine blk_drewN ?_ _ | refine blk_drew ?_ | refine blk_alloc ?_ _)); exact BK266.out) NB266_0.out (by simp))
   have n3_ := Aside0.mk (KeepBut.blk hk (g' := gb274) (o := .cells #[.slice Ao101 x275000_3.length co101, u275001] 31 (0, 0)) (by (with_reducible repeat (first | refine blk_drewN ?_ _ | refine blk_drew ?_ | refine blk_alloc ?_ _)); exact BK274.out) NB274_0.out (by simp))
   have n4_ := Aside0.mk (KeepBut.trans (by repeat (first | (with_reducible first | exact HK.out | apply KeepBut.set_ | apply keep_drewN | apply keep_drew | apply keep_alloc | refine keep_far ?_ GW266.out _ | refine keep_far ?_ GW274.out _) | exact HK.out)) hk (.inl rfl))
   have n5_ := Aside0.mk (hb)
   have n6_ := Aside0.mk (hi)
   clear HO_275000
   clear HO_275001
   clear BK266
   clear BK274
   clear HK
   clear HB
   clear HI0
   have HO_275000 := n0_
   have HO_275001 := n1_
   have BK266 := n2_
   have BK274 := n3_
   have HK := n4_
   have HB := n5_
   have HI0 := n6_
   clear n0_ n1_ n2_ n3_ n4_ n5_ n6_
   (try clear hb)
   (try clear hb2)
   (try clear hk)
   (try clear hi)
   refine hK.out _ _ ⟨(blk_cell BK274.out 0).trans rfl, (blk_cell BK274.out 1).trans rfl⟩ (fun hHeld => ?_)
   clear hK K
   refine norm_ (a' := ?_) ?_ ?_
   rotate_left
   · show Act.put _ (some 61) _ = _
     simp only [Act.put, List.setIfInBounds_toArray, List.set_cons_zero, List.set_cons_succ, i64_w, i32_w]
     rfl
   refine pure_ (i := 7) (N := some 62) (v := ?_) (a' := ?_) #[true, true, true, true, true, true, true, true, false, false, false, false] rfl rfl (any_of HT_.out (by kernel_rfl)) (fun _ _ _ h => h) (Or.inl ⟨by rfl, ?_⟩) ?_ ?_
   rotate_left
   · intro w'
     go_simp
     with_reducible rfl
   rotate_left
   · simp only [Act.put, List.setIfInBounds_toArray, List.set_cons_zero, List.set_cons_succ, i64_w, i32_w]
     rfl
   refine one_ (i := 8) (N := some 63) #[true, true, true, true, true, true, true, true, true, false, false, false] rfl rfl (one_of HT_.out (by kernel_rfl)) (by decide) (fun K hK => ?_)
   refine value_ (w1 := ?_) (v := ?_) (by rfl) rfl ?_ ?_
   rotate_left 2
   · go_simp
     constructor
     · rfl
     · rfl
   refine hK.out _ _ ⟨(blk_cell (blk_alloc BK274.out _) 0).trans rfl, (blk_cell (blk_alloc BK274.out _) 1).trans rfl⟩ (fun hHeld => ?_)
   clear hK K
   refine norm_ (a' := ?_) ?_ ?_
   rotate_left
   · show Act.put _ (some 63) _ = _
     simp only [Act.put, List.setIfInBounds_toArray, List.set_cons_zero, List.set_cons_succ, i64_w, i32_w]
     rfl
   refine one_ (i := 9) (N := some 64) #[true, true, true, true, true, true, true, true, true, true, false, false] rfl rfl (one_of HT_.out (by kernel_rfl)) (by decide) (fun K hK => ?_)
   refine Kd.R_append_step k66 w.heap.size (by rfl) (.tmp 56) (.tmp 63) 29 66 (.agg #[(.int .i64 0), (.int .i64 0), (.int .i64 0)]) 24 rfl Tryz.underlying29 info66 rfl (by decide) (by omega) u275001 x275001_3 (⟨(⟨t300, 5⟩ : S39), t302⟩ : S66) [.int .i64 t300, .int .i64 5, .int .i64 t302] (fun _ => True) (fun _ => False) rfl rfl ?aP (fun _ hk => hk.elim) ?aF ?aO (Below.refl _ _) ?aS ?aL ?_
   (case aP => exact k66_mkM _ _ _ (⟨(⟨t300, 5⟩ : S39), t302⟩ : S66))
   (case aF => exact (fun _ _ => trivial))
   (case aO => exact (by (with_reducible repeat (first | apply Kd.R_alloc | apply Kd.R_drewN | apply Kd.R_drew)); exact HO_275001.out))
   (case aS => exact (keep_size (w := w) (g := g) (row := none) (by repeat (first | (with_reducible first | exact HK.out | apply KeepBut.set_ | apply keep_drewN | apply keep_drew | apply keep_alloc | refine keep_far ?_ GW266.out _ | refine keep_far ?_ GW274.out _) | exact HK.out))))
   (case aL => have := LMc97.out; omega)
   intro v305 w107 ho hb hg hat
   rw [← Ny304.out] at ho
   have n0_ := Aside0.mk (Kd.R_over' (by (with_reducible repeat (first | apply Kd.R_alloc | apply Kd.R_drewN | apply Kd.R_drew)); exact HO_275000.out) (Kd.R_typed (by (with_reducible repeat (first | apply Kd.R_alloc | apply Kd.R_drewN | apply Kd.R_drew)); exact HO_275001.out)) (by decide) hg)
   have n1_ := Aside0.mk (blk_grown (g := gb266) (o := .cells #[.slice none 0 0, .slice none 0 0] 31 (0, 0)) (by (with_reducible repeat (first | refine blk_drewN ?_ _ | refine blk_drew ?_ | refine blk_alloc ?_ _)); exact BK266.out) hg (Kd.R_ne HO_275001.out BK266.out (by decide)))
   have n2_ := Aside0.mk (blk_grown (g := gb274) (o := .cells #[.slice Ao101 x275000_3.length co101, u275001] 31 (0, 0)) (by (with_reducible repeat (first | refine blk_drewN ?_ _ | refine blk_drew ?_ | refine blk_alloc ?_ _)); exact BK274.out) hg (Kd.R_ne HO_275001.out BK274.out (by decide)))
   have n3_ := Aside0.mk (IsS116.grown (by repeat (first | (with_reducible first | exact HI0.out | apply IsS116.alloc | apply IsS116.drewN | apply IsS116.drew | apply IsS116.set_1 | refine IsS116.far ?_ NB0_266.out _ | refine IsS116.far ?_ NB0_274.out _) | exact HI0.out)) hg (IsS116.own_ne HI0.out HO_275001.out (by decide)))
   have n4_ := Aside0.mk (below_weaken (by repeat (first | (with_reducible first | exact HB.out | apply below_alloc | apply pw_below_drewN | apply below_drew1 | refine below_set ?_ (IsS116.ge HI0.out) | refine below_set ?_ GE266.out | refine below_set ?_ GE274.out) | exact HB.out)) HL.out hb)
   have n5_ := Aside0.mk (KeepBut.trans (by repeat (first | (with_reducible first | exact HK.out | apply KeepBut.set_ | apply keep_drewN | apply keep_drew | apply keep_alloc | refine keep_far ?_ GW266.out _ | refine keep_far ?_ GW274.out _) | exact HK.out)) (KeepBut.of_grown hg g) (Kd.R_base2 HO_275001.out))
   have n6_ := Aside0.mk (ho)
   clear HO_275000
   clear BK266
   clear BK274
   clear HI0
   clear HB
   clear HK
   clear HO_275001
   have HO_275000 := n0_
   have BK266 := n1_
   have BK274 := n2_
   have HI0 := n3_
   have HB := n4_
   have HK := n5_
   have HO306 := n6_
   clear n0_ n1_ n2_ n3_ n4_ n5_ n6_
   clear ho hb hg hat
   obtain ⟨Ao108, co108, eo108⟩ := Kd.R_slice HO306.out
   (first | subst eo108 | (injection eo108 with f1_ f2_ f3_; have f4_ := f1_.symm; have f5_ := f3_.symm; clear f1_ f2_ f3_; subst f4_; subst f5_))
   refine hK.out _ _ ⟨(blk_cell BK274.out 0).trans rfl, (blk_cell BK274.out 1).trans rfl⟩ (fun hHeld => ?_)
   clear hK K
   refine norm_ (a' := ?_) ?_ ?_
   rotate_left
   · show Act.put _ (some 64) _ = _
     simp only [Act.put, List.setIfInBounds_toArray, List.set_cons_zero, List.set_cons_succ, i64_w, i32_w]
     rfl
   refine pure_ (i := 10) (N := some 65) (v := ?_) (a' := ?_) #[true, true, true, true, true, true, true, true, true, true, true, false] rfl rfl (any_of HT_.out (by kernel_rfl)) (fun _ _ _ h => h) (Or.inl ⟨by rfl, ?_⟩) ?_ ?_
   rotate_left
   · intro w'
     go_simp
     with_reducible rfl
   rotate_left
   · simp only [Act.put, List.setIfInBounds_toArray, List.set_cons_zero, List.set_cons_succ, i64_w, i32_w]
     rfl
   refine last_ (i := 11) (N := none) #[true, true, true, true, true, true, true, true, true, true, true, true] rfl rfl (one_of HT_.out (by kernel_rfl)) (by decide) (fun K hK => ?_)
   have hs109 : w107.cell? ⟨gb274, 1, none⟩ = some (u275001) := (blk_cell BK274.out 1).trans rfl
   have hfs109 := blk_frozen BK274.out 1
   have hns109_0 := NB266_274.out
   have hms109_0 := NB274_266.out
   refine skip_ (w1 := ?_) (by rfl) rfl ?_ ?_
   rotate_left
   · go_simp
     rfl
   refine hK.out _ _ ?_
   clear hK K
   refine done_ (done_of HT_.out (by kernel_rfl)) ?_
   have hcz110_0 : w107.cell? ⟨gb274, 0, none⟩ = some (.slice Ao101 x275000_3.length co101) := (blk_cell BK274.out 0).trans rfl
   have hcz110_1 : w107.cell? ⟨gb274, 1, none⟩ = some (u275001) := (blk_cell BK274.out 1).trans rfl
   have hfz110_0 := blk_frozen BK274.out 0
   have hfz110_1 := blk_frozen BK274.out 1
   have hnb111 := NB266_0.out
   have hnc111 := NB0_266.out
   have hcz112_0 : w107.cell? ⟨gb266, 0, none⟩ = some (.slice none 0 0) := (blk_cell BK266.out 0).trans rfl
   have hcz112_1 : w107.cell? ⟨gb266, 1, none⟩ = some (.slice none 0 0) := (blk_cell BK266.out 1).trans rfl
   have hfz112_0 := blk_frozen BK266.out 0
   have hfz112_1 := blk_frozen BK266.out 1
   try go_wp2
   refine bodyPost_ret (results_cell_row rfl _ _ gb266 31 #[.slice Ao101 x275000_3.length co101, .slice Ao108 y304.length co108] (0, 0) _ rfl (by (with_reducible repeat (first | refine blk_drewN ?_ _ | refine blk_drew ?_ | refine blk_alloc ?_ _)); refine blk_put (cs := #[.slice Ao101 x275000_3.length co101, .slice none 0 0]) ?_ 1 _ rfl; (with_reducible repeat (first | refine blk_drewN ?_ _ | refine blk_drew ?_ | refine blk_alloc ?_ _)); refine blk_put (cs := #[.slice none 0 0, .slice none 0 0]) ?_ 0 _ rfl; (with_reducible repeat (first | refine blk_drewN ?_ _ | refine blk_drew ?_ | refine blk_alloc ?_ _)); refine blk_far ?_ NB266_274.out _; (with_reducible repeat (first | refine blk_drewN ?_ _ | refine blk_drew ?_ | refine blk_alloc ?_ _)); exact BK266.out) Tryz.underlying31 rfl (by kernel_rfl)) rfl ?_
   exact ⟨_, _, by first | rfl | (simp [errW_none, errW_some] <;> rfl) | (simp [*, errW_none, errW_some] <;> rfl), by (with_reducible repeat (first | apply Kd.R_alloc | apply Kd.R_drewN | apply Kd.R_drew)); exact Kd.R_mono (Kd.R_far (p := ⟨gb266, 1, none⟩) (Kd.R_far (p := ⟨gb266, 0, none⟩) (Kd.R_far (p := ⟨gb274, 1, none⟩) (Kd.R_types (Kd.R_types HO_275000.out BK274.out (by decide)) BK266.out (by decide)) (fun _ hk => hk.1.2) (.slice Ao108 y304.length co108)) (fun _ hk => hk.2) (.slice Ao101 x275000_3.length co101)) (fun _ hk => hk.2) (.slice Ao108 y304.length co108)) (fun _ hk => trivial), by (with_reducible repeat (first | apply Kd.R_alloc | apply Kd.R_drewN | apply Kd.R_drew)); exact Kd.R_mono (Kd.R_far (p := ⟨gb266, 1, none⟩) (Kd.R_far (p := ⟨gb266, 0, none⟩) (Kd.R_far (p := ⟨gb274, 1, none⟩) (Kd.R_types (Kd.R_types HO306.out BK274.out (by decide)) BK266.out (by decide)) (fun _ hk => hk.1.2) (.slice Ao108 y304.length co108)) (fun _ hk => hk.2) (.slice Ao101 x275000_3.length co101)) (fun _ hk => hk.2) (.slice Ao108 y304.length co108)) (fun _ hk => trivial), by repeat (first | (with_reducible first | exact HI0.out | apply IsS116.alloc | apply IsS116.drewN | apply IsS116.drew | apply IsS116.set_1 | refine IsS116.far ?_ NB0_266.out _ | refine IsS116.far ?_ NB0_274.out _) | exact HI0.out), by repeat (first | (with_reducible first | exact HB.out | apply below_alloc | apply pw_below_drewN | apply below_drew1 | refine below_set ?_ (IsS116.ge HI0.out) | refine below_set ?_ GE266.out | refine below_set ?_ GE274.out) | exact HB.out), by repeat (first | (with_reducible first | exact HK.out | apply KeepBut.set_ | apply keep_drewN | apply keep_drew | apply keep_alloc | refine keep_far ?_ GW266.out _ | refine keep_far ?_ GW274.out _) | exact HK.out)⟩

end Go.Proofs.YtphblfmjdiigkaaGreatDoor.HFnNetBent
