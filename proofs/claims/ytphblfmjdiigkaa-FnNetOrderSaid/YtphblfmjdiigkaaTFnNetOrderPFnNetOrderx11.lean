/- Words of the kit's print for this seat, those alone that this claim's theorem reaches. -/
import Derived.Test.YtphblfmjdiigkaaTFnNetOrderPFnNetOrderx0
import Derived.Test.YtphblfmjdiigkaaTFnNetOrderPFnNetOrderx8
import Derived.Test.YtphblfmjdiigkaaTFnNetOrderPFnNetOrderx9
import Derived.Test.YtphblfmjdiigkaaTFnNetOrderPFnNetOrderx10
namespace Go.Proofs.Ytphblfmjdiigkaa.PFnNetOrder
open Go.RowKit Go.Proofs.YtphblfmjdiigkaaW.PrintWords Go.Proofs.YtphblfmjdiigkaaW.PrintLast Go.Proofs.YtphblfmjdiigkaaW.PrintMore
attribute [local go_sem] max2_int min2_int max_two min_two max_three min_three max_four min_four   -- for this text's walks alone
set_option linter.unusedVariables false
set_option linter.unusedSimpArgs false

/-! ### spec_l7Bent: function 31 -/
def spec_l7Bent.j0 : Nat → List Int → Int → List (S48) → List (S62) → Option ((List (S48)) × (List (S62)) × Int)
  | 0, _, _, _, _ => none
  | k + 1, x1000, x1001, x305000, x305001 => if (x305000.length : Int) = 0 then (some (x305000, x305001, x1001)) else ((spec_l12Rd_pick.f k x1000 x1001 (x305000.length : Int)).bind fun bt313 => ((spec_l12Rd_pick.f k x1000 bt313.2 40).bind fun bt315 => (if bt315.1 = 0 then (if 0 ≤ bt313.1 then (if bt313.1 < (x305000.length : Int) then (some ((x305000.set (bt313.1 : Int).toNat (⟨(rd_T48 x305000 bt313.1).f0, (rd_T48 x305000 bt313.1).f1, (⟨2, bt313.1, (⟨0, 0⟩ : S44), false⟩ : S46), (⟨(rd_T48 x305000 bt313.1).f3.f0, (rd_T48 x305000 bt313.1).f3.f1, (⟨(rd_T48 x305000 bt313.1).f3.f2.f0, (rd_T48 x305000 bt313.1).f3.f2.f1⟩ : S44), (rd_T48 x305000 bt313.1).f3.f3⟩ : S46)⟩ : S48)), x305001, bt315.2)) else (none)) else (none)) else (if bt315.1 = 1 then ((spec_l12Rd_num.f k x1000 bt315.2 (([0, 6, 14, 4] : List Int))).bind fun bt321 => (if 0 ≤ bt313.1 then (if bt313.1 < (x305000.length : Int) then (some ((x305000.set (bt313.1 : Int).toNat (⟨bt321.1, (rd_T48 x305000 bt313.1).f1, (⟨(rd_T48 x305000 bt313.1).f2.f0, (rd_T48 x305000 bt313.1).f2.f1, (⟨(rd_T48 x305000 bt313.1).f2.f2.f0, (rd_T48 x305000 bt313.1).f2.f2.f1⟩ : S44), (rd_T48 x305000 bt313.1).f2.f3⟩ : S46), (⟨(rd_T48 x305000 bt313.1).f3.f0, (rd_T48 x305000 bt313.1).f3.f1, (⟨(rd_T48 x305000 bt313.1).f3.f2.f0, (rd_T48 x305000 bt313.1).f3.f2.f1⟩ : S44), (rd_T48 x305000 bt313.1).f3.f3⟩ : S46)⟩ : S48)), x305001, bt321.2)) else (none)) else (none))) else (if bt315.1 = 2 then ((spec_l12Rd_num.f k x1000 bt315.2 (([(-1), 1, 1001] : List Int))).bind fun bt327 => (if 0 ≤ bt313.1 then (if bt313.1 < (x305000.length : Int) then (some ((x305000.set (bt313.1 : Int).toNat (⟨(rd_T48 x305000 bt313.1).f0, bt327.1, (⟨(rd_T48 x305000 bt313.1).f2.f0, (rd_T48 x305000 bt313.1).f2.f1, (⟨(rd_T48 x305000 bt313.1).f2.f2.f0, (rd_T48 x305000 bt313.1).f2.f2.f1⟩ : S44), (rd_T48 x305000 bt313.1).f2.f3⟩ : S46), (⟨(rd_T48 x305000 bt313.1).f3.f0, (rd_T48 x305000 bt313.1).f3.f1, (⟨(rd_T48 x305000 bt313.1).f3.f2.f0, (rd_T48 x305000 bt313.1).f3.f2.f1⟩ : S44), (rd_T48 x305000 bt313.1).f3.f3⟩ : S46)⟩ : S48)), x305001, bt327.2)) else (none)) else (none))) else (if bt315.1 = 3 then ((spec_l12Rd_pick.f k x1000 bt315.2 5).bind fun bt330 => ((spec_l12Rd_pick.f k x1000 bt330.2 9).bind fun bt332 => (if x305001.length < 5864062014805 then (some (x305000, (x305001 ++ [(⟨(⟨bt330.1, 5⟩ : S44), bt332.1⟩ : S62)]), bt332.2)) else (none)))) else (some (x305000, x305001, bt315.2))))))))
def spec_l7Bent.f (k : Nat) (s0_0 : List Int) (s0_1 : Int) : Option ((List (S48)) × (List (S62)) × Int) := (spec_l7Net.f k s0_0 s0_1).bind fun bt297 => ((spec_l12Rd_pick.f k s0_0 bt297.2.2 3).bind fun bt305 => (if bt305.1 = 0 then ((spec_l7Turned.f k bt297.1 bt297.2.1).bind fun bt307 => (spec_l7Bent.j0 k s0_0 bt305.2 bt307.1 bt307.2)) else (spec_l7Bent.j0 k s0_0 bt305.2 bt297.1 bt297.2.1)))
def spec_l7Bent.T11 : Bool × List (List Nat × List Nat) := (true, [([], []), ([0], [0]), ([], []), ([], []), ([], []), ([3, 4], [3, 4]), ([1, 2, 0, 1, 2, 3, 4, 5], [1, 2]), ([6, 0, 1, 2, 3, 4, 5], [6]), ([7, 5, 5, 0, 1, 2, 3, 4, 5], [5, 7])])
def spec_l7Bent.B11 : List Nat := [0, 1, 0, 0, 0, 24, 63, 127, 255]
theorem spec_l7Bent.tab11 : rtab .any (opsOf Try.f31 11) = spec_l7Bent.T11 := by kernel_rfl
theorem spec_l7Bent.bits11 : waitsOk spec_l7Bent.T11.2 spec_l7Bent.B11 = true := by kernel_rfl
def spec_l7Bent.T13 : Bool × List (List Nat × List Nat) := (true, [([], []), ([0], [0]), ([], []), ([], []), ([], []), ([3, 4], [3, 4]), ([1, 2, 0, 1, 2, 3, 4, 5], [1, 2]), ([6, 0, 1, 2, 3, 4, 5], [6]), ([7, 5, 5, 0, 1, 2, 3, 4, 5], [5, 7])])
def spec_l7Bent.B13 : List Nat := [0, 1, 0, 0, 0, 24, 63, 127, 255]
theorem spec_l7Bent.tab13 : rtab .any (opsOf Try.f31 13) = spec_l7Bent.T13 := by kernel_rfl
theorem spec_l7Bent.bits13 : waitsOk spec_l7Bent.T13.2 spec_l7Bent.B13 = true := by kernel_rfl
def spec_l7Bent.T15 : Bool × List (List Nat × List Nat) := (true, [([], []), ([0], [0]), ([], []), ([2], [2]), ([3], [3]), ([], []), ([5, 3], [5]), ([4, 6], [4, 6]), ([7], [7]), ([1, 8, 6], [1, 8]), ([0, 1, 2, 3, 4, 5, 6, 7, 8, 9], []), ([10, 9, 9, 0, 1, 2, 3, 4, 5, 6, 7, 8, 9], [9, 10])])
def spec_l7Bent.B15 : List Nat := [0, 1, 0, 4, 12, 0, 44, 124, 252, 511, 1023, 2047]
theorem spec_l7Bent.tab15 : rtab .any (opsOf Try.f31 15) = spec_l7Bent.T15 := by kernel_rfl
theorem spec_l7Bent.bits15 : waitsOk spec_l7Bent.T15.2 spec_l7Bent.B15 = true := by kernel_rfl
set_option maxHeartbeats 8000000 in
set_option maxRecDepth 100000 in
theorem spec_l7Bent.calls (k : Nat) (g : Nat) (s0_0 : List Int) (s0_1 : Int) (r1 : List (S48)) (r2 : List (S62)) (r3 : Int) (w0 w : World) (hI : IsS91 w0 w g s0_0 s0_1) (hB : Below w0.heap.size w0 w) (h : spec_l7Bent.f k s0_0 s0_1 = some (r1, r2, r3)) :
    Calls Try.prog 31 #[.pointer (some ⟨g, 0, none⟩)] w fun e w' => ∃ v0_ v1_ : Value, e = .returned (.agg #[v0_, v1_]) ∧ Kd.R k48 48 w' w.heap.size (fun _ => True) v0_ r1 ∧ Kd.R k62 62 w' w.heap.size (fun _ => True) v1_ r2 ∧ IsS91 w0 w' g s0_0 r3 ∧ Below w0.heap.size w0 w' ∧ KeepBut w w' g none := by
 have hu32 := Try.underlying32
 have hu46 := Try.underlying46
 have hu44 := Try.underlying44
 have hu62 := Try.underlying62
 have HI0 := Aside0.mk hI
 have HK := Aside0.mk (KeepBut.refl w g none)
 have HL := Aside0.mk hB.size
 clear hI
 have HW0 := Aside0.mk hB.size
 have HB := Aside0.mk hB
 clear hB
 have H : ((spec_l7Net.f k s0_0 s0_1).bind fun bt297 => ((spec_l12Rd_pick.f k s0_0 bt297.2.2 3).bind fun bt305 => (if bt305.1 = 0 then ((spec_l7Turned.f k bt297.1 bt297.2.1).bind fun bt307 => (spec_l7Bent.j0 k s0_0 bt305.2 bt307.1 bt307.2)) else (spec_l7Bent.j0 k s0_0 bt305.2 bt297.1 bt297.2.1)))) = some (r1, r2, r3) := h
 clear h
 replace H := Option.bind_eq_some_iff.mp H
 obtain ⟨⟨t297, t300, t303⟩, A20, H⟩ := H
 replace H : ((spec_l12Rd_pick.f k s0_0 t303 3).bind fun bt305 => (if bt305.1 = 0 then ((spec_l7Turned.f k t297 t300).bind fun bt307 => (spec_l7Bent.j0 k s0_0 bt305.2 bt307.1 bt307.2)) else (spec_l7Bent.j0 k s0_0 bt305.2 t297 t300))) = some (r1, r2, r3) := H
 have A2 := Aside0.mk A20
 clear A20
 replace H := Option.bind_eq_some_iff.mp H
 obtain ⟨⟨t305, t306⟩, A30, H⟩ := H
 replace H : (if t305 = 0 then ((spec_l7Turned.f k t297 t300).bind fun bt307 => (spec_l7Bent.j0 k s0_0 t306 bt307.1 bt307.2)) else (spec_l7Bent.j0 k s0_0 t306 t297 t300)) = some (r1, r2, r3) := H
 have A3 := Aside0.mk A30
 clear A30
 have HC4 := Aside0.mk H
 clear H
 go_enter Try.func31, Try.ntmps31
 go_upto_if 9 with (first | ((with_reducible refine gate_dst (N := 2) rfl ?_); refine box_event ?hg (N := 2) ?hd (cs := #[.slice none 0 0, .slice none 0 0]) (t := 32) ?hr ?_; (case hd => rfl); (case hg => rfl); (case hr => first | (go_simp; done) | (go_simp; rfl)); intro gb296 hg w5 hbox hb; have n0_ := Aside0.mk (IsS91.below (by repeat (first | (with_reducible first | exact HI0.out | apply IsS91.alloc | apply IsS91.drewN | apply IsS91.drew | apply IsS91.set_1) | exact HI0.out)) hb); have n1_ := Aside0.mk (KeepBut.trans (by repeat (first | (with_reducible first | exact HK.out | apply KeepBut.set_ | apply keep_drewN | apply keep_drew | apply keep_alloc) | exact HK.out)) (KeepBut.of_below hb g none) (.inl rfl)); have n2_ := Aside0.mk (below_step (by repeat (first | (with_reducible first | exact HB.out | apply below_alloc | apply pw_below_drewN | apply below_drew1 | refine below_set ?_ (IsS91.ge HI0.out)) | exact HB.out)) hb); have n3_ := Aside0.mk (hbox); have n4_ := Aside0.mk ((by rw [hg]; exact (keep_size (w := w) (g := g) (row := none) (by repeat (first | (with_reducible first | exact HK.out | apply KeepBut.set_ | apply keep_drewN | apply keep_drew | apply keep_alloc) | exact HK.out))) : w.heap.size ≤ gb296)); have n5_ := Aside0.mk ((Nat.le_trans HW0.out (by rw [hg]; exact (keep_size (w := w) (g := g) (row := none) (by repeat (first | (with_reducible first | exact HK.out | apply KeepBut.set_ | apply keep_drewN | apply keep_drew | apply keep_alloc) | exact HK.out))) : w.heap.size ≤ gb296) : w0.heap.size ≤ gb296)); have n6_ := Aside0.mk ((by rw [hg]; exact Nat.ne_of_lt (IsS91.lt (show IsS91 w0 _ g s0_0 s0_1 from by repeat (first | (with_reducible first | exact HI0.out | apply IsS91.alloc | apply IsS91.drewN | apply IsS91.drew | apply IsS91.set_1) | exact HI0.out))) : g ≠ gb296)); have n7_ := Aside0.mk ((by rw [hg]; exact Nat.ne_of_gt (IsS91.lt (show IsS91 w0 _ g s0_0 s0_1 from by repeat (first | (with_reducible first | exact HI0.out | apply IsS91.alloc | apply IsS91.drewN | apply IsS91.drew | apply IsS91.set_1) | exact HI0.out))) : gb296 ≠ g)); clear HI0; clear HK; clear HB; have HI0 := n0_; have HK := n1_; have HB := n2_; have BK296 := n3_; have GW296 := n4_; have GE296 := n5_; have NB0_296 := n6_; have NB296_0 := n7_; clear n0_ n1_ n2_ n3_ n4_ n5_ n6_ n7_; clear hb hbox hg) | ((with_reducible refine gate_callee (f := 50) rfl ?_); refine goesL_ (some 6) rfl rfl Try.func50 (by kernel_rfl) rfl #[.pointer (some ⟨g, 0, none⟩)] rfl (by (try simp only [List.map_toArray, List.map_cons, List.map_nil]); first | done | rfl | (simp only [List.length_drop, List.length_take]; rfl)) ?_; (with_reducible refine (spec_l7Net.calls k g s0_0 s0_1 t297 t300 t303 w0 _ ?side1 ?side2 A2.out).mono ?_); (case side1 => repeat (first | (with_reducible first | exact HI0.out | apply IsS91.alloc | apply IsS91.drewN | apply IsS91.drew | apply IsS91.set_1 | refine IsS91.far ?_ NB0_296.out _) | exact HI0.out)); (case side2 => repeat (first | (with_reducible first | exact HB.out | apply below_alloc | apply pw_below_drewN | apply below_drew1 | refine below_set ?_ (IsS91.ge HI0.out) | refine below_set ?_ GE296.out) | exact HB.out)); rintro e w6 ⟨v298, v301, rfl, ho0, ho1, hi, hb, hk⟩; refine ⟨_, rfl, ?_⟩; have n0_ := Aside0.mk (KeepBut.blk hk (g' := gb296) (o := .cells #[.slice none 0 0, .slice none 0 0] 32 (0, 0)) (by (with_reducible repeat (first | refine blk_drewN ?_ _ | refine blk_drew ?_ | refine blk_alloc ?_ _)); exact BK296.out) NB296_0.out (by simp)); have n1_ := Aside0.mk (Kd.R_lower ho0 (keep_size (w := w) (g := g) (row := none) (by repeat (first | (with_reducible first | exact HK.out | apply KeepBut.set_ | apply keep_drewN | apply keep_drew | apply keep_alloc | refine keep_far ?_ GW296.out _) | exact HK.out)))); have n2_ := Aside0.mk (Kd.R_lower ho1 (keep_size (w := w) (g := g) (row := none) (by repeat (first | (with_reducible first | exact HK.out | apply KeepBut.set_ | apply keep_drewN | apply keep_drew | apply keep_alloc | refine keep_far ?_ GW296.out _) | exact HK.out)))); have n3_ := Aside0.mk (KeepBut.trans (by repeat (first | (with_reducible first | exact HK.out | apply KeepBut.set_ | apply keep_drewN | apply keep_drew | apply keep_alloc | refine keep_far ?_ GW296.out _) | exact HK.out)) hk (.inl rfl)); have n4_ := Aside0.mk (hb); have n5_ := Aside0.mk (hi); clear BK296; clear HK; clear HB; clear HI0; have BK296 := n0_; have HO299 := n1_; have HO302 := n2_; have HK := n3_; have HB := n4_; have HI0 := n5_; clear n0_ n1_ n2_ n3_ n4_ n5_; (try clear hb); (try clear hb2); (try clear hk); (try clear hi); (try clear ho0); (try clear ho1)) | ((with_reducible refine gate_dst (N := 3) rfl ?_); refine box_event ?hg (N := 3) ?hd (cs := #[.slice none 0 0, .slice none 0 0]) (t := 32) ?hr ?_; (case hd => rfl); (case hg => rfl); (case hr => first | (go_simp; done) | (go_simp; rfl)); intro gb304 hg w7 hbox hb; have n0_ := Aside0.mk (Kd.R_below (by (with_reducible repeat (first | apply Kd.R_alloc | apply Kd.R_drewN | apply Kd.R_drew)); exact HO299.out) hb); have n1_ := Aside0.mk (Kd.R_below (by (with_reducible repeat (first | apply Kd.R_alloc | apply Kd.R_drewN | apply Kd.R_drew)); exact HO302.out) hb); have n2_ := Aside0.mk (IsS91.below (by repeat (first | (with_reducible first | exact HI0.out | apply IsS91.alloc | apply IsS91.drewN | apply IsS91.drew | apply IsS91.set_1 | refine IsS91.far ?_ NB0_296.out _) | exact HI0.out)) hb); have n3_ := Aside0.mk (blk_below (g := gb296) (o := .cells #[.slice none 0 0, .slice none 0 0] 32 (0, 0)) (by (with_reducible repeat (first | refine blk_drewN ?_ _ | refine blk_drew ?_ | refine blk_alloc ?_ _)); exact BK296.out) hb); have n4_ := Aside0.mk (KeepBut.trans (by repeat (first | (with_reducible first | exact HK.out | apply KeepBut.set_ | apply keep_drewN | apply keep_drew | apply keep_alloc | refine keep_far ?_ GW296.out _) | exact HK.out)) (KeepBut.of_below hb g none) (.inl rfl)); have n5_ := Aside0.mk (below_step (by repeat (first | (with_reducible first | exact HB.out | apply below_alloc | apply pw_below_drewN | apply below_drew1 | refine below_set ?_ (IsS91.ge HI0.out) | refine below_set ?_ GE296.out) | exact HB.out)) hb); have n6_ := Aside0.mk (hbox); have n7_ := Aside0.mk ((by rw [hg]; exact (keep_size (w := w) (g := g) (row := none) (by repeat (first | (with_reducible first | exact HK.out | apply KeepBut.set_ | apply keep_drewN | apply keep_drew | apply keep_alloc | refine keep_far ?_ GW296.out _) | exact HK.out))) : w.heap.size ≤ gb304)); have n8_ := Aside0.mk ((Nat.le_trans HW0.out (by rw [hg]; exact (keep_size (w := w) (g := g) (row := none) (by repeat (first | (with_reducible first | exact HK.out | apply KeepBut.set_ | apply keep_drewN | apply keep_drew | apply keep_alloc | refine keep_far ?_ GW296.out _) | exact HK.out))) : w.heap.size ≤ gb304) : w0.heap.size ≤ gb304)); have n9_ := Aside0.mk ((by rw [hg]; exact Nat.ne_of_lt (blk_lt (g := gb296) (o := .cells #[.slice none 0 0, .slice none 0 0] 32 (0, 0)) (by (with_reducible repeat (first | refine blk_drewN ?_ _ | refine blk_drew ?_ | refine blk_alloc ?_ _)); exact BK296.out)) : gb296 ≠ gb304)); have n10_ := Aside0.mk ((by rw [hg]; exact Nat.ne_of_gt (blk_lt (g := gb296) (o := .cells #[.slice none 0 0, .slice none 0 0] 32 (0, 0)) (by (with_reducible repeat (first | refine blk_drewN ?_ _ | refine blk_drew ?_ | refine blk_alloc ?_ _)); exact BK296.out)) : gb304 ≠ gb296)); have n11_ := Aside0.mk ((by rw [hg]; exact Nat.ne_of_lt (IsS91.lt (show IsS91 w0 _ g s0_0 t303 from by repeat (first | (with_reducible first | exact HI0.out | apply IsS91.alloc | apply IsS91.drewN | apply IsS91.drew | apply IsS91.set_1 | refine IsS91.far ?_ NB0_296.out _) | exact HI0.out))) : g ≠ gb304)); have n12_ := Aside0.mk ((by rw [hg]; exact Nat.ne_of_gt (IsS91.lt (show IsS91 w0 _ g s0_0 t303 from by repeat (first | (with_reducible first | exact HI0.out | apply IsS91.alloc | apply IsS91.drewN | apply IsS91.drew | apply IsS91.set_1 | refine IsS91.far ?_ NB0_296.out _) | exact HI0.out))) : gb304 ≠ g)); clear HO299; clear HO302; clear HI0; clear BK296; clear HK; clear HB; have HO299 := n0_; have HO302 := n1_; have HI0 := n2_; have BK296 := n3_; have HK := n4_; have HB := n5_; have BK304 := n6_; have GW304 := n7_; have GE304 := n8_; have NB296_304 := n9_; have NB304_296 := n10_; have NB0_304 := n11_; have NB304_0 := n12_; clear n0_ n1_ n2_ n3_ n4_ n5_ n6_ n7_ n8_ n9_ n10_ n11_ n12_; clear hb hbox hg; obtain ⟨Ao8, co8, eo8⟩ := Kd.R_slice HO299.out; subst eo8; have hnb9 := NB304_296.out; have hnc9 := NB296_304.out; have hnb10 := NB304_0.out; have hnc10 := NB0_304.out; have hcz11_0 : w7.cell? ⟨gb304, 0, none⟩ = some (.slice none 0 0) := (blk_cell BK304.out 0).trans rfl; have hcz11_1 : w7.cell? ⟨gb304, 1, none⟩ = some (.slice none 0 0) := (blk_cell BK304.out 1).trans rfl; have hfz11_0 := blk_frozen BK304.out 0; have hfz11_1 := blk_frozen BK304.out 1; obtain ⟨Ao12, co12, eo12⟩ := Kd.R_slice HO302.out; subst eo12) | ((with_reducible refine gate_callee (f := 51) rfl ?_); refine goesL_ (some 8) rfl rfl Try.func51 (by kernel_rfl) rfl #[.pointer (some ⟨g, 0, none⟩), .int .i64 3] rfl (by (try simp only [List.map_toArray, List.map_cons, List.map_nil]); first | done | rfl | (simp only [List.length_drop, List.length_take]; rfl)) ?_; (with_reducible refine (spec_l12Rd_pick.calls k g s0_0 t303 3 t305 t306 w0 _ ?side1 ?side2 A3.out).mono ?_); (case side1 => repeat (first | (with_reducible first | exact HI0.out | apply IsS91.alloc | apply IsS91.drewN | apply IsS91.drew | apply IsS91.set_1 | refine IsS91.far ?_ NB0_296.out _ | refine IsS91.far ?_ NB0_304.out _) | exact HI0.out)); (case side2 => repeat (first | (with_reducible first | exact HB.out | apply below_alloc | apply pw_below_drewN | apply below_drew1 | refine below_set ?_ (IsS91.ge HI0.out) | refine below_set ?_ GE296.out | refine below_set ?_ GE304.out) | exact HB.out)); rintro e w13 ⟨rfl, hi, hb, hk⟩; refine ⟨_, rfl, ?_⟩; have n0_ := Aside0.mk (KeepBut.blk hk (g' := gb296) (o := .cells #[.slice none 0 0, .slice none 0 0] 32 (0, 0)) (by (with_reducible repeat (first | refine blk_drewN ?_ _ | refine blk_drew ?_ | refine blk_alloc ?_ _)); refine blk_far ?_ NB296_304.out _; (with_reducible repeat (first | refine blk_drewN ?_ _ | refine blk_drew ?_ | refine blk_alloc ?_ _)); refine blk_far ?_ NB296_304.out _; (with_reducible repeat (first | refine blk_drewN ?_ _ | refine blk_drew ?_ | refine blk_alloc ?_ _)); exact BK296.out) NB296_0.out (by simp)); have n1_ := Aside0.mk (Kd.R_mono (Kd.R_keep (IsS91.apart (show IsS91 w0 _ g s0_0 t303 from by repeat (first | (with_reducible first | exact HI0.out | apply IsS91.alloc | apply IsS91.drewN | apply IsS91.drew | apply IsS91.set_1 | refine IsS91.far ?_ NB0_296.out _ | refine IsS91.far ?_ NB0_304.out _) | exact HI0.out)) (by (with_reducible repeat (first | apply Kd.R_alloc | apply Kd.R_drewN | apply Kd.R_drew)); exact (Kd.R_mono (Kd.R_far (p := ⟨gb304, 1, none⟩) (Kd.R_far (p := ⟨gb304, 0, none⟩) (Kd.R_types HO299.out BK304.out (by decide)) (fun _ hk => hk.2) (.slice Ao8 t297.length co8)) (fun _ hk => hk.2) (.slice Ao12 t300.length co12)) (fun _ h_ => h_.1))) (by decide)) hk (fun _ h => h.2)) (fun _ h => h.1)); have n2_ := Aside0.mk (Kd.R_mono (Kd.R_keep (IsS91.apart (show IsS91 w0 _ g s0_0 t303 from by repeat (first | (with_reducible first | exact HI0.out | apply IsS91.alloc | apply IsS91.drewN | apply IsS91.drew | apply IsS91.set_1 | refine IsS91.far ?_ NB0_296.out _ | refine IsS91.far ?_ NB0_304.out _) | exact HI0.out)) (by (with_reducible repeat (first | apply Kd.R_alloc | apply Kd.R_drewN | apply Kd.R_drew)); exact (Kd.R_mono (Kd.R_far (p := ⟨gb304, 1, none⟩) (Kd.R_far (p := ⟨gb304, 0, none⟩) (Kd.R_types HO302.out BK304.out (by decide)) (fun _ hk => hk.2) (.slice Ao8 t297.length co8)) (fun _ hk => hk.2) (.slice Ao12 t300.length co12)) (fun _ h_ => h_.1))) (by decide)) hk (fun _ h => h.2)) (fun _ h => h.1)); have n3_ := Aside0.mk (KeepBut.blk hk (g' := gb304) (o := .cells #[.slice Ao8 t297.length co8, .slice Ao12 t300.length co12] 32 (0, 0)) (by (with_reducible repeat (first | refine blk_drewN ?_ _ | refine blk_drew ?_ | refine blk_alloc ?_ _)); refine blk_put (cs := #[.slice Ao8 t297.length co8, .slice none 0 0]) ?_ 1 _ rfl; (with_reducible repeat (first | refine blk_drewN ?_ _ | refine blk_drew ?_ | refine blk_alloc ?_ _)); refine blk_put (cs := #[.slice none 0 0, .slice none 0 0]) ?_ 0 _ rfl; (with_reducible repeat (first | refine blk_drewN ?_ _ | refine blk_drew ?_ | refine blk_alloc ?_ _)); exact BK304.out) NB304_0.out (by simp)); have n4_ := Aside0.mk (KeepBut.trans (by repeat (first | (with_reducible first | exact HK.out | apply KeepBut.set_ | apply keep_drewN | apply keep_drew | apply keep_alloc | refine keep_far ?_ GW296.out _ | refine keep_far ?_ GW304.out _) | exact HK.out)) hk (.inl rfl)); have n5_ := Aside0.mk (hb); have n6_ := Aside0.mk (hi); clear BK296; clear HO299; clear HO302; clear BK304; clear HK; clear HB; clear HI0; have BK296 := n0_; have HO299 := n1_; have HO302 := n2_; have BK304 := n3_; have HK := n4_; have HB := n5_; have HI0 := n6_; clear n0_ n1_ n2_ n3_ n4_ n5_ n6_; (try clear hb); (try clear hb2); (try clear hk); (try clear hi)))
 (try simp only [Act.put, List.setIfInBounds_toArray, List.set_cons_zero, List.set_cons_succ])
 go_cut [] (fun wc => ∃ (kq : Nat) (x305000_3 : List (S48)) (x305001_3 : List (S62)) (u305000 : Value) (u305001 : Value), Aside0 (spec_l7Bent.j0 kq s0_0 t306 x305000_3 x305001_3 = some (r1, r2, r3)) ∧ Aside0 (kq ≤ k) ∧ Aside0 (Kd.R k48 48 wc w.heap.size (fun _ => True) u305000 x305000_3) ∧ Aside0 (Kd.R k62 62 wc w.heap.size (fun _ => True) u305001 x305001_3) ∧ Aside0 (wc.heap[gb296]? = some (.cells #[(.slice none 0 0), (.slice none 0 0)] 32 (0, 0))) ∧ Aside0 (wc.heap[gb304]? = some (.cells #[u305000, u305001] 32 (0, 0))) ∧ Aside0 (IsS91 w0 wc g s0_0 t306) ∧ Aside0 (KeepBut w wc g none) ∧ Aside0 (Below w0.heap.size w0 wc))
 case first =>
  have H := HC4.out
  clear HC4
  by_cases c14 : t305 = 0
  rotate_left
  · rw [if_neg c14] at H
    have c14b0 : (t305 == 0) = false := beq_eq_false_iff_ne.mpr c14
    have c14b1 : (t305 != 0) = true := bne_iff_ne.mpr c14
    (first | rw [c14b0] | (simp only [i64_w, i32_w]; rw [c14b0]) | skip)
    have H' := Aside0.mk H
    clear H
    go_wp2
    go_meet
    case rel => exact ⟨_, (t297), (t300), (.slice Ao8 t297.length co8), (.slice Ao12 t300.length co12), H', ⟨by first | omega | exact Nat.le_refl _⟩, ⟨by (with_reducible repeat (first | apply Kd.R_alloc | apply Kd.R_drewN | apply Kd.R_drew)); exact HO299.out⟩, ⟨by (with_reducible repeat (first | apply Kd.R_alloc | apply Kd.R_drewN | apply Kd.R_drew)); exact HO302.out⟩, ⟨by (with_reducible repeat (first | refine blk_drewN ?_ _ | refine blk_drew ?_ | refine blk_alloc ?_ _)); exact BK296.out⟩, ⟨by (with_reducible repeat (first | refine blk_drewN ?_ _ | refine blk_drew ?_ | refine blk_alloc ?_ _)); exact BK304.out⟩, ⟨by repeat (first | (with_reducible first | exact HI0.out | apply IsS91.alloc | apply IsS91.drewN | apply IsS91.drew | apply IsS91.set_1 | refine IsS91.far ?_ NB0_296.out _ | refine IsS91.far ?_ NB0_304.out _) | exact HI0.out)⟩, ⟨by repeat (first | (with_reducible first | exact HK.out | apply KeepBut.set_ | apply keep_drewN | apply keep_drew | apply keep_alloc | refine keep_far ?_ GW296.out _ | refine keep_far ?_ GW304.out _) | exact HK.out)⟩, ⟨by repeat (first | (with_reducible first | exact HB.out | apply below_alloc | apply pw_below_drewN | apply below_drew1 | refine below_set ?_ (IsS91.ge HI0.out) | refine below_set ?_ GE296.out | refine below_set ?_ GE304.out) | exact HB.out)⟩⟩
  rw [if_pos c14] at H
  have c14b0 : (t305 == 0) = true := beq_iff_eq.mpr c14
  have c14b1 : (t305 != 0) = false := bne_eq_false_iff_eq.mpr c14
  clear c14
  (first | rw [c14b0] | (simp only [i64_w, i32_w]; rw [c14b0]) | skip)
  replace H := Option.bind_eq_some_iff.mp H
  obtain ⟨⟨t307, t310⟩, A150, H⟩ := H
  replace H : (spec_l7Bent.j0 k s0_0 t306 t307 t310) = some (r1, r2, r3) := H
  have A15 := Aside0.mk A150
  clear A150
  have H' := Aside0.mk H
  clear H
  have hnb16 := NB304_296.out
  have hnc16 := NB296_304.out
  have hnb17 := NB304_0.out
  have hnc17 := NB0_304.out
  have hcz18_0 : w13.cell? ⟨gb304, 0, none⟩ = some (.slice Ao8 t297.length co8) := (blk_cell BK304.out 0).trans rfl
  have hcz18_1 : w13.cell? ⟨gb304, 1, none⟩ = some (.slice Ao12 t300.length co12) := (blk_cell BK304.out 1).trans rfl
  have hfz18_0 := blk_frozen BK304.out 0
  have hfz18_1 := blk_frozen BK304.out 1
  go_wp2_with (first | ((with_reducible refine gate_callee (f := 52) rfl ?_); refine goesL_ (some 11) rfl rfl Try.func52 (by kernel_rfl) rfl #[.agg #[.slice Ao8 t297.length co8, .slice Ao12 t300.length co12]] rfl (by (try simp only [List.map_toArray, List.map_cons, List.map_nil]); first | done | rfl | (simp only [List.length_drop, List.length_take]; rfl)) ?_; (with_reducible refine (spec_l7Turned.calls k _ _ t297 _ _ t300 t307 t310 _ ?side1 ?side2 ?side3 ?side4 A15.out).mono ?_); (case side1 => repeat (first | exact (Kd.R_reads' HO299.out).2.2 | (with_reducible refine Kd.C_alloc ?_ _) | (with_reducible refine Kd.C_drewN ?_ _) | (with_reducible refine Kd.C_drew ?_))); (case side2 => exact (Kd.R_reads' HO299.out).2.1); (case side3 => repeat (first | exact (Kd.R_reads' HO302.out).2.2 | (with_reducible refine Kd.C_alloc ?_ _) | (with_reducible refine Kd.C_drewN ?_ _) | (with_reducible refine Kd.C_drew ?_))); (case side4 => exact (Kd.R_reads' HO302.out).2.1); rintro e w19 ⟨v308, v311, rfl, ho0, ho1, hb⟩; refine ⟨_, rfl, ?_⟩; have n0_ := Aside0.mk (Kd.R_elder' (by (with_reducible repeat (first | apply Kd.R_alloc | apply Kd.R_drewN | apply Kd.R_drew)); exact HO299.out) (Kd.R_base ho0) hb); have n1_ := Aside0.mk (Kd.R_elder' (by (with_reducible repeat (first | apply Kd.R_alloc | apply Kd.R_drewN | apply Kd.R_drew)); exact HO302.out) (Kd.R_base ho1) hb); have n2_ := Aside0.mk (Kd.R_lower (Kd.R_new' ho0 (Kd.R_lt (by (with_reducible repeat (first | apply Kd.R_alloc | apply Kd.R_drewN | apply Kd.R_drew)); exact HO299.out))) (keep_size (w := w) (g := g) (row := none) (by repeat (first | (with_reducible first | exact HK.out | apply KeepBut.set_ | apply keep_drewN | apply keep_drew | apply keep_alloc | refine keep_far ?_ GW296.out _ | refine keep_far ?_ GW304.out _) | exact HK.out)))); have n3_ := Aside0.mk (Kd.R_lower (Kd.R_new' ho1 (Kd.R_lt (by (with_reducible repeat (first | apply Kd.R_alloc | apply Kd.R_drewN | apply Kd.R_drew)); exact HO302.out))) (keep_size (w := w) (g := g) (row := none) (by repeat (first | (with_reducible first | exact HK.out | apply KeepBut.set_ | apply keep_drewN | apply keep_drew | apply keep_alloc | refine keep_far ?_ GW296.out _ | refine keep_far ?_ GW304.out _) | exact HK.out)))); have n4_ := Aside0.mk (IsS91.below (by repeat (first | (with_reducible first | exact HI0.out | apply IsS91.alloc | apply IsS91.drewN | apply IsS91.drew | apply IsS91.set_1 | refine IsS91.far ?_ NB0_296.out _ | refine IsS91.far ?_ NB0_304.out _) | exact HI0.out)) hb); have n5_ := Aside0.mk (blk_below (g := gb296) (o := .cells #[.slice none 0 0, .slice none 0 0] 32 (0, 0)) (by (with_reducible repeat (first | refine blk_drewN ?_ _ | refine blk_drew ?_ | refine blk_alloc ?_ _)); exact BK296.out) hb); have n6_ := Aside0.mk (blk_below (g := gb304) (o := .cells #[.slice Ao8 t297.length co8, .slice Ao12 t300.length co12] 32 (0, 0)) (by (with_reducible repeat (first | refine blk_drewN ?_ _ | refine blk_drew ?_ | refine blk_alloc ?_ _)); exact BK304.out) hb); have n7_ := Aside0.mk (KeepBut.trans (by repeat (first | (with_reducible first | exact HK.out | apply KeepBut.set_ | apply keep_drewN | apply keep_drew | apply keep_alloc | refine keep_far ?_ GW296.out _ | refine keep_far ?_ GW304.out _) | exact HK.out)) (KeepBut.of_below hb g none) (.inl rfl)); have n8_ := Aside0.mk (below_step (by repeat (first | (with_reducible first | exact HB.out | apply below_alloc | apply pw_below_drewN | apply below_drew1 | refine below_set ?_ (IsS91.ge HI0.out) | refine below_set ?_ GE296.out | refine below_set ?_ GE304.out) | exact HB.out)) hb); clear HO299; clear HO302; clear HI0; clear BK296; clear BK304; clear HK; clear HB; have HO299 := n0_; have HO302 := n1_; have HO309 := n2_; have HO312 := n3_; have HI0 := n4_; have BK296 := n5_; have BK304 := n6_; have HK := n7_; have HB := n8_; clear n0_ n1_ n2_ n3_ n4_ n5_ n6_ n7_ n8_; (try clear hb); (try clear hb2); (try clear hk); (try clear hi); (try clear ho0); (try clear ho1); obtain ⟨Ao20, co20, eo20⟩ := Kd.R_slice HO309.out; subst eo20; have hcz21_0 : w19.cell? ⟨gb304, 0, none⟩ = some (.slice Ao8 t297.length co8) := (blk_cell BK304.out 0).trans rfl; have hcz21_1 : w19.cell? ⟨gb304, 1, none⟩ = some (.slice Ao12 t300.length co12) := (blk_cell BK304.out 1).trans rfl; have hfz21_0 := blk_frozen BK304.out 0; have hfz21_1 := blk_frozen BK304.out 1; obtain ⟨Ao22, co22, eo22⟩ := Kd.R_slice HO312.out; subst eo22))
  go_meet
  case rel => exact ⟨_, (t307), (t310), (.slice Ao20 t307.length co20), (.slice Ao22 t310.length co22), H', ⟨by first | omega | exact Nat.le_refl _⟩, ⟨by (with_reducible repeat (first | apply Kd.R_alloc | apply Kd.R_drewN | apply Kd.R_drew)); exact Kd.R_mono (Kd.R_far (p := ⟨gb304, 1, none⟩) (Kd.R_far (p := ⟨gb304, 0, none⟩) (Kd.R_types HO309.out BK304.out (by decide)) (fun _ hk => hk.2) (.slice Ao20 t307.length co20)) (fun _ hk => hk.2) (.slice Ao22 t310.length co22)) (fun _ hk => trivial)⟩, ⟨by (with_reducible repeat (first | apply Kd.R_alloc | apply Kd.R_drewN | apply Kd.R_drew)); exact Kd.R_mono (Kd.R_far (p := ⟨gb304, 1, none⟩) (Kd.R_far (p := ⟨gb304, 0, none⟩) (Kd.R_types HO312.out BK304.out (by decide)) (fun _ hk => hk.2) (.slice Ao20 t307.length co20)) (fun _ hk => hk.2) (.slice Ao22 t310.length co22)) (fun _ hk => trivial)⟩, ⟨by (with_reducible repeat (first | refine blk_drewN ?_ _ | refine blk_drew ?_ | refine blk_alloc ?_ _)); refine blk_far ?_ NB296_304.out _; (with_reducible repeat (first | refine blk_drewN ?_ _ | refine blk_drew ?_ | refine blk_alloc ?_ _)); refine blk_far ?_ NB296_304.out _; (with_reducible repeat (first | refine blk_drewN ?_ _ | refine blk_drew ?_ | refine blk_alloc ?_ _)); exact BK296.out⟩, ⟨by (with_reducible repeat (first | refine blk_drewN ?_ _ | refine blk_drew ?_ | refine blk_alloc ?_ _)); refine blk_put (cs := #[.slice Ao20 t307.length co20, .slice Ao12 t300.length co12]) ?_ 1 _ rfl; (with_reducible repeat (first | refine blk_drewN ?_ _ | refine blk_drew ?_ | refine blk_alloc ?_ _)); refine blk_put (cs := #[.slice Ao8 t297.length co8, .slice Ao12 t300.length co12]) ?_ 0 _ rfl; (with_reducible repeat (first | refine blk_drewN ?_ _ | refine blk_drew ?_ | refine blk_alloc ?_ _)); exact BK304.out⟩, ⟨by repeat (first | (with_reducible first | exact HI0.out | apply IsS91.alloc | apply IsS91.drewN | apply IsS91.drew | apply IsS91.set_1 | refine IsS91.far ?_ NB0_296.out _ | refine IsS91.far ?_ NB0_304.out _) | exact HI0.out)⟩, ⟨by repeat (first | (with_reducible first | exact HK.out | apply KeepBut.set_ | apply keep_drewN | apply keep_drew | apply keep_alloc | refine keep_far ?_ GW296.out _ | refine keep_far ?_ GW304.out _) | exact HK.out)⟩, ⟨by repeat (first | (with_reducible first | exact HB.out | apply below_alloc | apply pw_below_drewN | apply below_drew1 | refine below_set ?_ (IsS91.ge HI0.out) | refine below_set ?_ GE296.out | refine below_set ?_ GE304.out) | exact HB.out)⟩⟩
 case rest =>
  clear HC4
  try clear c1
  try clear p2
  try clear c3
  try clear c5
  try clear c9
  try clear c10
  try clear c14
  try clear c14b0
  try clear c14b1
  try clear c16
  try clear c17
  try clear hcz11_0
  try clear hcz11_1
  try clear hcz18_0
  try clear hcz18_1
  try clear hcz21_0
  try clear hcz21_1
  try clear hfz11_0
  try clear hfz11_1
  try clear hfz18_0
  try clear hfz18_1
  try clear hfz21_0
  try clear hfz21_1
  obtain ⟨kq, x305000_3, x305001_3, u305000, u305001, HA, HJ3, HO_305000, HO_305001, BK296, BK304, HI0, HK, HB⟩ := hcut
  cases kq with
  | zero => exact absurd HA.out (by simp [spec_l7Bent.j0])
  | succ kj3 =>
   have H := HA.out
   clear HA
   simp only [spec_l7Bent.j0] at H
   by_cases c23 : (x305000_3.length : Int) = 0
   · rw [if_pos c23] at H
     have c23b0 : ((x305000_3.length : Int) == 0) = true := beq_iff_eq.mpr c23
     have c23b1 : ((x305000_3.length : Int) != 0) = false := bne_eq_false_iff_eq.mpr c23
     clear c23
     simp only [Option.some.injEq, Prod.mk.injEq] at H
     obtain ⟨rfl, rfl, rfl⟩ := H
     have hnb24 := NB304_296.out
     have hnc24 := NB296_304.out
     have hnb25 := NB304_0.out
     have hnc25 := NB0_304.out
     have hcz26_0 : wc.cell? ⟨gb304, 0, none⟩ = some (u305000) := (blk_cell BK304.out 0).trans rfl
     have hcz26_1 : wc.cell? ⟨gb304, 1, none⟩ = some (u305001) := (blk_cell BK304.out 1).trans rfl
     have hfz26_0 := blk_frozen BK304.out 0
     have hfz26_1 := blk_frozen BK304.out 1
     obtain ⟨Ao27, co27, eo27⟩ := Kd.R_slice HO_305000.out
     subst eo27
     have hnb28 := NB296_0.out
     have hnc28 := NB0_296.out
     have hcz29_0 : wc.cell? ⟨gb296, 0, none⟩ = some (.slice none 0 0) := (blk_cell BK296.out 0).trans rfl
     have hcz29_1 : wc.cell? ⟨gb296, 1, none⟩ = some (.slice none 0 0) := (blk_cell BK296.out 1).trans rfl
     have hfz29_0 := blk_frozen BK296.out 0
     have hfz29_1 := blk_frozen BK296.out 1
     obtain ⟨Ao30, co30, eo30⟩ := Kd.R_slice HO_305001.out
     subst eo30
     go_wp2
     refine bodyPost_ret (results_cell_row rfl _ _ gb296 32 #[.slice Ao27 x305000_3.length co27, .slice Ao30 x305001_3.length co30] (0, 0) _ rfl (by (with_reducible repeat (first | refine blk_drewN ?_ _ | refine blk_drew ?_ | refine blk_alloc ?_ _)); refine blk_put (cs := #[.slice Ao27 x305000_3.length co27, .slice none 0 0]) ?_ 1 _ rfl; (with_reducible repeat (first | refine blk_drewN ?_ _ | refine blk_drew ?_ | refine blk_alloc ?_ _)); refine blk_put (cs := #[.slice none 0 0, .slice none 0 0]) ?_ 0 _ rfl; (with_reducible repeat (first | refine blk_drewN ?_ _ | refine blk_drew ?_ | refine blk_alloc ?_ _)); exact BK296.out) Try.underlying32 rfl (by kernel_rfl)) rfl ?_
     exact ⟨_, _, by first | rfl | (simp [errW_none, errW_some] <;> rfl) | (simp [*, errW_none, errW_some] <;> rfl), by (with_reducible repeat (first | apply Kd.R_alloc | apply Kd.R_drewN | apply Kd.R_drew)); exact Kd.R_mono (Kd.R_far (p := ⟨gb296, 1, none⟩) (Kd.R_far (p := ⟨gb296, 0, none⟩) (Kd.R_types HO_305000.out BK296.out (by decide)) (fun _ hk => hk.2) (.slice Ao27 x305000_3.length co27)) (fun _ hk => hk.2) (.slice Ao30 x305001_3.length co30)) (fun _ hk => trivial), by (with_reducible repeat (first | apply Kd.R_alloc | apply Kd.R_drewN | apply Kd.R_drew)); exact Kd.R_mono (Kd.R_far (p := ⟨gb296, 1, none⟩) (Kd.R_far (p := ⟨gb296, 0, none⟩) (Kd.R_types HO_305001.out BK296.out (by decide)) (fun _ hk => hk.2) (.slice Ao27 x305000_3.length co27)) (fun _ hk => hk.2) (.slice Ao30 x305001_3.length co30)) (fun _ hk => trivial), by repeat (first | (with_reducible first | exact HI0.out | apply IsS91.alloc | apply IsS91.drewN | apply IsS91.drew | apply IsS91.set_1 | refine IsS91.far ?_ NB0_296.out _ | refine IsS91.far ?_ NB0_304.out _) | exact HI0.out), by repeat (first | (with_reducible first | exact HB.out | apply below_alloc | apply pw_below_drewN | apply below_drew1 | refine below_set ?_ (IsS91.ge HI0.out) | refine below_set ?_ GE296.out | refine below_set ?_ GE304.out) | exact HB.out), by repeat (first | (with_reducible first | exact HK.out | apply KeepBut.set_ | apply keep_drewN | apply keep_drew | apply keep_alloc | refine keep_far ?_ GW296.out _ | refine keep_far ?_ GW304.out _) | exact HK.out)⟩
   rw [if_neg c23] at H
   have c23b0 : ((x305000_3.length : Int) == 0) = false := beq_eq_false_iff_ne.mpr c23
   have c23b1 : ((x305000_3.length : Int) != 0) = true := bne_iff_ne.mpr c23
   have c23b2 : ¬ (x305000_3 = []) := fun h_ => c23 (by rw [h_]; rfl)
   replace H := Option.bind_eq_some_iff.mp H
   obtain ⟨⟨t313, t314⟩, A310, H⟩ := H
   replace H : ((spec_l12Rd_pick.f kj3 s0_0 t314 40).bind fun bt315 => (if bt315.1 = 0 then (if 0 ≤ t313 then (if t313 < (x305000_3.length : Int) then (some ((x305000_3.set (t313 : Int).toNat (⟨(rd_T48 x305000_3 t313).f0, (rd_T48 x305000_3 t313).f1, (⟨2, t313, (⟨0, 0⟩ : S44), false⟩ : S46), (⟨(rd_T48 x305000_3 t313).f3.f0, (rd_T48 x305000_3 t313).f3.f1, (⟨(rd_T48 x305000_3 t313).f3.f2.f0, (rd_T48 x305000_3 t313).f3.f2.f1⟩ : S44), (rd_T48 x305000_3 t313).f3.f3⟩ : S46)⟩ : S48)), x305001_3, bt315.2)) else (none)) else (none)) else (if bt315.1 = 1 then ((spec_l12Rd_num.f kj3 s0_0 bt315.2 (([0, 6, 14, 4] : List Int))).bind fun bt321 => (if 0 ≤ t313 then (if t313 < (x305000_3.length : Int) then (some ((x305000_3.set (t313 : Int).toNat (⟨bt321.1, (rd_T48 x305000_3 t313).f1, (⟨(rd_T48 x305000_3 t313).f2.f0, (rd_T48 x305000_3 t313).f2.f1, (⟨(rd_T48 x305000_3 t313).f2.f2.f0, (rd_T48 x305000_3 t313).f2.f2.f1⟩ : S44), (rd_T48 x305000_3 t313).f2.f3⟩ : S46), (⟨(rd_T48 x305000_3 t313).f3.f0, (rd_T48 x305000_3 t313).f3.f1, (⟨(rd_T48 x305000_3 t313).f3.f2.f0, (rd_T48 x305000_3 t313).f3.f2.f1⟩ : S44), (rd_T48 x305000_3 t313).f3.f3⟩ : S46)⟩ : S48)), x305001_3, bt321.2)) else (none)) else (none))) else (if bt315.1 = 2 then ((spec_l12Rd_num.f kj3 s0_0 bt315.2 (([(-1), 1, 1001] : List Int))).bind fun bt327 => (if 0 ≤ t313 then (if t313 < (x305000_3.length : Int) then (some ((x305000_3.set (t313 : Int).toNat (⟨(rd_T48 x305000_3 t313).f0, bt327.1, (⟨(rd_T48 x305000_3 t313).f2.f0, (rd_T48 x305000_3 t313).f2.f1, (⟨(rd_T48 x305000_3 t313).f2.f2.f0, (rd_T48 x305000_3 t313).f2.f2.f1⟩ : S44), (rd_T48 x305000_3 t313).f2.f3⟩ : S46), (⟨(rd_T48 x305000_3 t313).f3.f0, (rd_T48 x305000_3 t313).f3.f1, (⟨(rd_T48 x305000_3 t313).f3.f2.f0, (rd_T48 x305000_3 t313).f3.f2.f1⟩ : S44), (rd_T48 x305000_3 t313).f3.f3⟩ : S46)⟩ : S48)), x305001_3, bt327.2)) else (none)) else (none))) else (if bt315.1 = 3 then ((spec_l12Rd_pick.f kj3 s0_0 bt315.2 5).bind fun bt330 => ((spec_l12Rd_pick.f kj3 s0_0 bt330.2 9).bind fun bt332 => (if x305001_3.length < 5864062014805 then (some (x305000_3, (x305001_3 ++ [(⟨(⟨bt330.1, 5⟩ : S44), bt332.1⟩ : S62)]), bt332.2)) else (none)))) else (some (x305000_3, x305001_3, bt315.2))))))) = some (r1, r2, r3) := H
   have A31 := Aside0.mk A310
   clear A310
   replace H := Option.bind_eq_some_iff.mp H
   obtain ⟨⟨t315, t316⟩, A320, H⟩ := H
   replace H : (if t315 = 0 then (if 0 ≤ t313 then (if t313 < (x305000_3.length : Int) then (some ((x305000_3.set (t313 : Int).toNat (⟨(rd_T48 x305000_3 t313).f0, (rd_T48 x305000_3 t313).f1, (⟨2, t313, (⟨0, 0⟩ : S44), false⟩ : S46), (⟨(rd_T48 x305000_3 t313).f3.f0, (rd_T48 x305000_3 t313).f3.f1, (⟨(rd_T48 x305000_3 t313).f3.f2.f0, (rd_T48 x305000_3 t313).f3.f2.f1⟩ : S44), (rd_T48 x305000_3 t313).f3.f3⟩ : S46)⟩ : S48)), x305001_3, t316)) else (none)) else (none)) else (if t315 = 1 then ((spec_l12Rd_num.f kj3 s0_0 t316 (([0, 6, 14, 4] : List Int))).bind fun bt321 => (if 0 ≤ t313 then (if t313 < (x305000_3.length : Int) then (some ((x305000_3.set (t313 : Int).toNat (⟨bt321.1, (rd_T48 x305000_3 t313).f1, (⟨(rd_T48 x305000_3 t313).f2.f0, (rd_T48 x305000_3 t313).f2.f1, (⟨(rd_T48 x305000_3 t313).f2.f2.f0, (rd_T48 x305000_3 t313).f2.f2.f1⟩ : S44), (rd_T48 x305000_3 t313).f2.f3⟩ : S46), (⟨(rd_T48 x305000_3 t313).f3.f0, (rd_T48 x305000_3 t313).f3.f1, (⟨(rd_T48 x305000_3 t313).f3.f2.f0, (rd_T48 x305000_3 t313).f3.f2.f1⟩ : S44), (rd_T48 x305000_3 t313).f3.f3⟩ : S46)⟩ : S48)), x305001_3, bt321.2)) else (none)) else (none))) else (if t315 = 2 then ((spec_l12Rd_num.f kj3 s0_0 t316 (([(-1), 1, 1001] : List Int))).bind fun bt327 => (if 0 ≤ t313 then (if t313 < (x305000_3.length : Int) then (some ((x305000_3.set (t313 : Int).toNat (⟨(rd_T48 x305000_3 t313).f0, bt327.1, (⟨(rd_T48 x305000_3 t313).f2.f0, (rd_T48 x305000_3 t313).f2.f1, (⟨(rd_T48 x305000_3 t313).f2.f2.f0, (rd_T48 x305000_3 t313).f2.f2.f1⟩ : S44), (rd_T48 x305000_3 t313).f2.f3⟩ : S46), (⟨(rd_T48 x305000_3 t313).f3.f0, (rd_T48 x305000_3 t313).f3.f1, (⟨(rd_T48 x305000_3 t313).f3.f2.f0, (rd_T48 x305000_3 t313).f3.f2.f1⟩ : S44), (rd_T48 x305000_3 t313).f3.f3⟩ : S46)⟩ : S48)), x305001_3, bt327.2)) else (none)) else (none))) else (if t315 = 3 then ((spec_l12Rd_pick.f kj3 s0_0 t316 5).bind fun bt330 => ((spec_l12Rd_pick.f kj3 s0_0 bt330.2 9).bind fun bt332 => (if x305001_3.length < 5864062014805 then (some (x305000_3, (x305001_3 ++ [(⟨(⟨bt330.1, 5⟩ : S44), bt332.1⟩ : S62)]), bt332.2)) else (none)))) else (some (x305000_3, x305001_3, t316)))))) = some (r1, r2, r3) := H
   have A32 := Aside0.mk A320
   clear A320
   by_cases c33 : t315 = 0
   · rw [if_pos c33] at H
     have c33b0 : (t315 == 0) = true := beq_iff_eq.mpr c33
     have c33b1 : (t315 != 0) = false := bne_eq_false_iff_eq.mpr c33
     clear c33
     by_cases c34 : 0 ≤ t313
     rotate_left
     · rw [if_neg c34] at H
       exact absurd H (by simp)
     rw [if_pos c34] at H
     have c34b0 : decide (0 ≤ t313) = true := decide_eq_true c34
     clear c34
     by_cases c35 : t313 < (x305000_3.length : Int)
     rotate_left
     · rw [if_neg c35] at H
       exact absurd H (by simp)
     rw [if_pos c35] at H
     have c35b0 : decide (t313 < (x305000_3.length : Int)) = true := decide_eq_true c35
     clear c35
     obtain ⟨y317, hy317⟩ : ∃ y_ : List (S48), y_ = (x305000_3.set (t313 : Int).toNat (⟨(rd_T48 x305000_3 t313).f0, (rd_T48 x305000_3 t313).f1, (⟨2, t313, (⟨0, 0⟩ : S44), false⟩ : S46), (⟨(rd_T48 x305000_3 t313).f3.f0, (rd_T48 x305000_3 t313).f3.f1, (⟨(rd_T48 x305000_3 t313).f3.f2.f0, (rd_T48 x305000_3 t313).f3.f2.f1⟩ : S44), (rd_T48 x305000_3 t313).f3.f3⟩ : S46)⟩ : S48)) := ⟨_, rfl⟩
     replace H : (some (y317, x305001_3, t316)) = some (r1, r2, r3) := by first | (rw [hy317]; with_reducible exact H) | (have H2_ := (Option.bind_some _ _).symm.trans H; rw [hy317]; with_reducible exact H2_) | (have H2_ := (Option.bind_some _ _).symm.trans H; with_reducible exact H2_) | with_reducible exact H | (rw [hy317]; exact H) | exact H
     have Ny317 := Aside0.mk hy317
     clear hy317
     simp only [Option.some.injEq, Prod.mk.injEq] at H
     obtain ⟨rfl, rfl, rfl⟩ := H
     have hnb37 := NB304_296.out
     have hnc37 := NB296_304.out
     have hnb38 := NB304_0.out
     have hnc38 := NB0_304.out
     have hcz39_0 : wc.cell? ⟨gb304, 0, none⟩ = some (u305000) := (blk_cell BK304.out 0).trans rfl
     have hcz39_1 : wc.cell? ⟨gb304, 1, none⟩ = some (u305001) := (blk_cell BK304.out 1).trans rfl
     have hfz39_0 := blk_frozen BK304.out 0
     have hfz39_1 := blk_frozen BK304.out 1
     obtain ⟨Ao40, co40, eo40⟩ := Kd.R_slice HO_305000.out
     subst eo40
     go_wp2_with (first | ((with_reducible refine gate_callee (f := 51) rfl ?_); refine goesL_ (some 21) rfl rfl Try.func51 (by kernel_rfl) rfl #[.pointer (some ⟨g, 0, none⟩), .int .i64 (x305000_3.length : Int)] rfl (by (try simp only [List.map_toArray, List.map_cons, List.map_nil]); first | done | rfl | (simp only [List.length_drop, List.length_take]; rfl)) ?_; (with_reducible refine (spec_l12Rd_pick.calls kj3 g s0_0 t306 (x305000_3.length : Int) t313 t314 w0 _ ?side1 ?side2 A31.out).mono ?_); (case side1 => repeat (first | (with_reducible first | exact HI0.out | apply IsS91.alloc | apply IsS91.drewN | apply IsS91.drew | apply IsS91.set_1 | refine IsS91.far ?_ NB0_296.out _ | refine IsS91.far ?_ NB0_304.out _) | exact HI0.out)); (case side2 => repeat (first | (with_reducible first | exact HB.out | apply below_alloc | apply pw_below_drewN | apply below_drew1 | refine below_set ?_ (IsS91.ge HI0.out) | refine below_set ?_ GE296.out | refine below_set ?_ GE304.out) | exact HB.out)); rintro e w41 ⟨rfl, hi, hb, hk⟩; refine ⟨_, rfl, ?_⟩; have n0_ := Aside0.mk (Kd.R_mono (Kd.R_keep (IsS91.apart (show IsS91 w0 _ g s0_0 t306 from by repeat (first | (with_reducible first | exact HI0.out | apply IsS91.alloc | apply IsS91.drewN | apply IsS91.drew | apply IsS91.set_1 | refine IsS91.far ?_ NB0_296.out _ | refine IsS91.far ?_ NB0_304.out _) | exact HI0.out)) (by (with_reducible repeat (first | apply Kd.R_alloc | apply Kd.R_drewN | apply Kd.R_drew)); exact HO_305000.out) (by decide)) hk (fun _ h => h.2)) (fun _ h => h.1)); have n1_ := Aside0.mk (Kd.R_mono (Kd.R_keep (IsS91.apart (show IsS91 w0 _ g s0_0 t306 from by repeat (first | (with_reducible first | exact HI0.out | apply IsS91.alloc | apply IsS91.drewN | apply IsS91.drew | apply IsS91.set_1 | refine IsS91.far ?_ NB0_296.out _ | refine IsS91.far ?_ NB0_304.out _) | exact HI0.out)) (by (with_reducible repeat (first | apply Kd.R_alloc | apply Kd.R_drewN | apply Kd.R_drew)); exact HO_305001.out) (by decide)) hk (fun _ h => h.2)) (fun _ h => h.1)); have n2_ := Aside0.mk (KeepBut.blk hk (g' := gb296) (o := .cells #[.slice none 0 0, .slice none 0 0] 32 (0, 0)) (by (with_reducible repeat (first | refine blk_drewN ?_ _ | refine blk_drew ?_ | refine blk_alloc ?_ _)); exact BK296.out) NB296_0.out (by simp)); have n3_ := Aside0.mk (KeepBut.blk hk (g' := gb304) (o := .cells #[.slice Ao40 x305000_3.length co40, u305001] 32 (0, 0)) (by (with_reducible repeat (first | refine blk_drewN ?_ _ | refine blk_drew ?_ | refine blk_alloc ?_ _)); exact BK304.out) NB304_0.out (by simp)); have n4_ := Aside0.mk (KeepBut.trans (by repeat (first | (with_reducible first | exact HK.out | apply KeepBut.set_ | apply keep_drewN | apply keep_drew | apply keep_alloc | refine keep_far ?_ GW296.out _ | refine keep_far ?_ GW304.out _) | exact HK.out)) hk (.inl rfl)); have n5_ := Aside0.mk (hb); have n6_ := Aside0.mk (hi); clear HO_305000; clear HO_305001; clear BK296; clear BK304; clear HK; clear HB; clear HI0; have HO_305000 := n0_; have HO_305001 := n1_; have BK296 := n2_; have BK304 := n3_; have HK := n4_; have HB := n5_; have HI0 := n6_; clear n0_ n1_ n2_ n3_ n4_ n5_ n6_; (try clear hb); (try clear hb2); (try clear hk); (try clear hi)) | ((with_reducible refine gate_callee (f := 51) rfl ?_); refine goesL_ (some 23) rfl rfl Try.func51 (by kernel_rfl) rfl #[.pointer (some ⟨g, 0, none⟩), .int .i64 40] rfl (by (try simp only [List.map_toArray, List.map_cons, List.map_nil]); first | done | rfl | (simp only [List.length_drop, List.length_take]; rfl)) ?_; (with_reducible refine (spec_l12Rd_pick.calls kj3 g s0_0 t314 40 t315 t316 w0 _ ?side1 ?side2 A32.out).mono ?_); (case side1 => repeat (first | (with_reducible first | exact HI0.out | apply IsS91.alloc | apply IsS91.drewN | apply IsS91.drew | apply IsS91.set_1 | refine IsS91.far ?_ NB0_296.out _ | refine IsS91.far ?_ NB0_304.out _) | exact HI0.out)); (case side2 => repeat (first | (with_reducible first | exact HB.out | apply below_alloc | apply pw_below_drewN | apply below_drew1 | refine below_set ?_ (IsS91.ge HI0.out) | refine below_set ?_ GE296.out | refine below_set ?_ GE304.out) | exact HB.out)); rintro e w42 ⟨rfl, hi, hb, hk⟩; refine ⟨_, rfl, ?_⟩; have n0_ := Aside0.mk (Kd.R_mono (Kd.R_keep (IsS91.apart (show IsS91 w0 _ g s0_0 t314 from by repeat (first | (with_reducible first | exact HI0.out | apply IsS91.alloc | apply IsS91.drewN | apply IsS91.drew | apply IsS91.set_1 | refine IsS91.far ?_ NB0_296.out _ | refine IsS91.far ?_ NB0_304.out _) | exact HI0.out)) (by (with_reducible repeat (first | apply Kd.R_alloc | apply Kd.R_drewN | apply Kd.R_drew)); exact HO_305000.out) (by decide)) hk (fun _ h => h.2)) (fun _ h => h.1)); have n1_ := Aside0.mk (Kd.R_mono (Kd.R_keep (IsS91.apart (show IsS91 w0 _ g s0_0 t314 from by repeat (first | (with_reducible first | exact HI0.out | apply IsS91.alloc | apply IsS91.drewN | apply IsS91.drew | apply IsS91.set_1 | refine IsS91.far ?_ NB0_296.out _ | refine IsS91.far ?_ NB0_304.out _) | exact HI0.out)) (by (with_reducible repeat (first | apply Kd.R_alloc | apply Kd.R_drewN | apply Kd.R_drew)); exact HO_305001.out) (by decide)) hk (fun _ h => h.2)) (fun _ h => h.1)); have n2_ := Aside0.mk (KeepBut.blk hk (g' := gb296) (o := .cells #[.slice none 0 0, .slice none 0 0] 32 (0, 0)) (by (with_reducible repeat (first | refine blk_drewN ?_ _ | refine blk_drew ?_ | refine blk_alloc ?_ _)); exact BK296.out) NB296_0.out (by simp)); have n3_ := Aside0.mk (KeepBut.blk hk (g' := gb304) (o := .cells #[.slice Ao40 x305000_3.length co40, u305001] 32 (0, 0)) (by (with_reducible repeat (first | refine blk_drewN ?_ _ | refine blk_drew ?_ | refine blk_alloc ?_ _)); exact BK304.out) NB304_0.out (by simp)); have n4_ := Aside0.mk (KeepBut.trans (by repeat (first | (with_reducible first | exact HK.out | apply KeepBut.set_ | apply keep_drewN | apply keep_drew | apply keep_alloc | refine keep_far ?_ GW296.out _ | refine keep_far ?_ GW304.out _) | exact HK.out)) hk (.inl rfl)); have n5_ := Aside0.mk (hb); have n6_ := Aside0.mk (hi); clear HO_305000; clear HO_305001; clear BK296; clear BK304; clear HK; clear HB; clear HI0; have HO_305000 := n0_; have HO_305001 := n1_; have BK296 := n2_; have BK304 := n3_; have HK := n4_; have HB := n5_; have HI0 := n6_; clear n0_ n1_ n2_ n3_ n4_ n5_ n6_; (try clear hb); (try clear hb2); (try clear hk); (try clear hi); have hcz43_0 : w42.cell? ⟨gb304, 0, none⟩ = some (.slice Ao40 x305000_3.length co40) := (blk_cell BK304.out 0).trans rfl; have hcz43_1 : w42.cell? ⟨gb304, 1, none⟩ = some (u305001) := (blk_cell BK304.out 1).trans rfl; have hfz43_0 := blk_frozen BK304.out 0; have hfz43_1 := blk_frozen BK304.out 1; have p36 : 0 ≤ (t313 : Int) := of_decide_eq_true (by first | (with_reducible assumption) | assumption); have q36 : (t313 : Int) < ((x305000_3.length : Int) : Int) := of_decide_eq_true (by first | (with_reducible assumption) | assumption); obtain ⟨go36, co36, eo36, gb36, gl36, cl36, HG36⟩ := Kd.R_form HO_305000.out (by omega); (first | cases eo36 | (injection eo36 with ea_ en_ ec_; (first | subst ea_ | (injection ea_ with ea_; subst ea_)); subst ec_; clear en_)); have GB36 := Aside0.mk gb36; have GG36 := Aside0.mk HG36; clear gb36 gl36 HG36; obtain ⟨ce36, hcl36, hM36, hcc36, hfr36⟩ := Kd.R_elem HO_305000.out z48 (t313 : Int) p36 q36; obtain rfl := k48_openM hM36; have hx36_0 : w42.cell? ⟨go36, (t313 : Int).toNat * 12, none⟩ = some (.int .i64 ((rd_T48 x305000_3 t313).f0)) := hcc36 0 _ rfl; have hx36_1 : w42.cell? ⟨go36, (t313 : Int).toNat * 12 + 1, none⟩ = some (.int .i64 ((rd_T48 x305000_3 t313).f1)) := hcc36 1 _ rfl; have hx36_2 : w42.cell? ⟨go36, (t313 : Int).toNat * 12 + 2, none⟩ = some (.int .i64 ((rd_T48 x305000_3 t313).f2.f0)) := hcc36 2 _ rfl; have hx36_3 : w42.cell? ⟨go36, (t313 : Int).toNat * 12 + 3, none⟩ = some (.int .i64 ((rd_T48 x305000_3 t313).f2.f1)) := hcc36 3 _ rfl; have hx36_4 : w42.cell? ⟨go36, (t313 : Int).toNat * 12 + 4, none⟩ = some (.int .i64 ((rd_T48 x305000_3 t313).f2.f2.f0)) := hcc36 4 _ rfl; have hx36_5 : w42.cell? ⟨go36, (t313 : Int).toNat * 12 + 5, none⟩ = some (.int .i64 ((rd_T48 x305000_3 t313).f2.f2.f1)) := hcc36 5 _ rfl; have hx36_6 : w42.cell? ⟨go36, (t313 : Int).toNat * 12 + 6, none⟩ = some (.bool ((rd_T48 x305000_3 t313).f2.f3)) := hcc36 6 _ rfl; have hx36_7 : w42.cell? ⟨go36, (t313 : Int).toNat * 12 + 7, none⟩ = some (.int .i64 ((rd_T48 x305000_3 t313).f3.f0)) := hcc36 7 _ rfl; have hx36_8 : w42.cell? ⟨go36, (t313 : Int).toNat * 12 + 8, none⟩ = some (.int .i64 ((rd_T48 x305000_3 t313).f3.f1)) := hcc36 8 _ rfl; have hx36_9 : w42.cell? ⟨go36, (t313 : Int).toNat * 12 + 9, none⟩ = some (.int .i64 ((rd_T48 x305000_3 t313).f3.f2.f0)) := hcc36 9 _ rfl; have hx36_10 : w42.cell? ⟨go36, (t313 : Int).toNat * 12 + 10, none⟩ = some (.int .i64 ((rd_T48 x305000_3 t313).f3.f2.f1)) := hcc36 10 _ rfl; have hx36_11 : w42.cell? ⟨go36, (t313 : Int).toNat * 12 + 11, none⟩ = some (.bool ((rd_T48 x305000_3 t313).f3.f3)) := hcc36 11 _ rfl; have hf36_0 : w42.frozen? ⟨go36, (t313 : Int).toNat * 12, none⟩ = false := hfr36 0; have hf36_1 : w42.frozen? ⟨go36, (t313 : Int).toNat * 12 + 1, none⟩ = false := hfr36 1; have hf36_2 : w42.frozen? ⟨go36, (t313 : Int).toNat * 12 + 2, none⟩ = false := hfr36 2; have hf36_3 : w42.frozen? ⟨go36, (t313 : Int).toNat * 12 + 3, none⟩ = false := hfr36 3; have hf36_4 : w42.frozen? ⟨go36, (t313 : Int).toNat * 12 + 4, none⟩ = false := hfr36 4; have hf36_5 : w42.frozen? ⟨go36, (t313 : Int).toNat * 12 + 5, none⟩ = false := hfr36 5; have hf36_6 : w42.frozen? ⟨go36, (t313 : Int).toNat * 12 + 6, none⟩ = false := hfr36 6; have hf36_7 : w42.frozen? ⟨go36, (t313 : Int).toNat * 12 + 7, none⟩ = false := hfr36 7; have hf36_8 : w42.frozen? ⟨go36, (t313 : Int).toNat * 12 + 8, none⟩ = false := hfr36 8; have hf36_9 : w42.frozen? ⟨go36, (t313 : Int).toNat * 12 + 9, none⟩ = false := hfr36 9; have hf36_10 : w42.frozen? ⟨go36, (t313 : Int).toNat * 12 + 10, none⟩ = false := hfr36 10; have hf36_11 : w42.frozen? ⟨go36, (t313 : Int).toNat * 12 + 11, none⟩ = false := hfr36 11; clear hcl36 hcc36 hfr36 hM36; replace p36 := eq_true p36; replace q36 := eq_true q36; have HX44 := Aside0.mk (show Kd.R k48 48 w42 w.heap.size (fun _ => True) (.slice (some ⟨go36, 0, none⟩) x305000_3.length co40) x305000_3 from (by (with_reducible repeat (first | apply Kd.R_alloc | apply Kd.R_drewN | apply Kd.R_drew)); exact HO_305000.out)); obtain ⟨ce44, hcl44, hM44, hcc44, hfr44⟩ := Kd.R_elem HX44.out z48 (t313 : Int) (of_decide_eq_true (by first | (with_reducible assumption) | assumption)) (by have h_ : (t313 : Int) < ((x305000_3.length : Int) : Int) := of_decide_eq_true (by first | (with_reducible assumption) | assumption); first | exact h_ | (have e_ := (Kd.R_reads' HO_305000.out).1; omega) | simpa using h_); obtain rfl := k48_openM hM44; have HP44 := Kd.R_seg HX44.out (t313 : Int) (of_decide_eq_true (by first | (with_reducible assumption) | assumption)) (by have h_ : (t313 : Int) < ((x305000_3.length : Int) : Int) := of_decide_eq_true (by first | (with_reducible assumption) | assumption); first | exact h_ | (have e_ := (Kd.R_reads' HO_305000.out).1; omega) | simpa using h_) (seg := [.int .i64 2, .int .i64 t313, .int .i64 0, .int .i64 0, .bool false]) (j := 2) hcl44 hcc44 (show 7 ≤ 12 from by decide) (x' := (⟨(rd_T48 x305000_3 t313).f0, (rd_T48 x305000_3 t313).f1, (⟨2, t313, (⟨0, 0⟩ : S44), false⟩ : S46), (⟨(rd_T48 x305000_3 t313).f3.f0, (rd_T48 x305000_3 t313).f3.f1, (⟨(rd_T48 x305000_3 t313).f3.f2.f0, (rd_T48 x305000_3 t313).f3.f2.f1⟩ : S44), (rd_T48 x305000_3 t313).f3.f3⟩ : S46)⟩ : S48)) (k48_mkM _ _ _ (⟨(rd_T48 x305000_3 t313).f0, (rd_T48 x305000_3 t313).f1, (⟨2, t313, (⟨0, 0⟩ : S44), false⟩ : S46), (⟨(rd_T48 x305000_3 t313).f3.f0, (rd_T48 x305000_3 t313).f3.f1, (⟨(rd_T48 x305000_3 t313).f3.f2.f0, (rd_T48 x305000_3 t313).f3.f2.f1⟩ : S44), (rd_T48 x305000_3 t313).f3.f3⟩ : S46)⟩ : S48) ) (fun _ hk => hk); have hx44_2 := hcc44 2 _ rfl; (try simp only [show (k48).sz = 12 from rfl, Nat.mul_one, Nat.add_zero] at hx44_2); have hf44_2 := hfr44 2; (try simp only [show (k48).sz = 12 from rfl, Nat.mul_one, Nat.add_zero] at hf44_2); have hx44_3 := hcc44 3 _ rfl; (try simp only [show (k48).sz = 12 from rfl, Nat.mul_one, Nat.add_zero] at hx44_3); have hf44_3 := hfr44 3; (try simp only [show (k48).sz = 12 from rfl, Nat.mul_one, Nat.add_zero] at hf44_3); have hx44_4 := hcc44 4 _ rfl; (try simp only [show (k48).sz = 12 from rfl, Nat.mul_one, Nat.add_zero] at hx44_4); have hf44_4 := hfr44 4; (try simp only [show (k48).sz = 12 from rfl, Nat.mul_one, Nat.add_zero] at hf44_4); have hx44_5 := hcc44 5 _ rfl; (try simp only [show (k48).sz = 12 from rfl, Nat.mul_one, Nat.add_zero] at hx44_5); have hf44_5 := hfr44 5; (try simp only [show (k48).sz = 12 from rfl, Nat.mul_one, Nat.add_zero] at hf44_5); have hx44_6 := hcc44 6 _ rfl; (try simp only [show (k48).sz = 12 from rfl, Nat.mul_one, Nat.add_zero] at hx44_6); have hf44_6 := hfr44 6; (try simp only [show (k48).sz = 12 from rfl, Nat.mul_one, Nat.add_zero] at hf44_6); clear hcl44 hcc44 hfr44 hM44) | ((with_reducible refine gate_store (t := 46) (p := 32) rfl ?_); refine store_event (t := 46) (p := 32) (v := ?vo_w45) (w1 := (((((w42.setCell ⟨go36, (t313 : Int).toNat * 12 + 2, none⟩ (.int .i64 2)).setCell ⟨go36, (t313 : Int).toNat * 12 + 3, none⟩ (.int .i64 t313)).setCell ⟨go36, (t313 : Int).toNat * 12 + 4, none⟩ (.int .i64 0)).setCell ⟨go36, (t313 : Int).toNat * 12 + 5, none⟩ (.int .i64 0)).setCell ⟨go36, (t313 : Int).toNat * 12 + 6, none⟩ (.bool false))) ?hg ?ho ?hn ?hr ?_; (case ho => rfl); (case hg => rfl); (case hn => rfl); (case hr => first | (go_simp; done) | (go_simp; rfl)); intro w45 hw; have hg : w42.grownBy w45 (some go36) := (by rw [hw]; exact HP44.2); have hp_ : Kd.R k48 48 w45 w.heap.size (fun _ => True) (.slice (some ⟨go36, 0, none⟩) x305000_3.length co40) y317 := (by rw [hw, Ny317.out]; exact HP44.1); clear HP44; have n0_ := Aside0.mk (hp_); have n1_ := Aside0.mk (Kd.R_over' (v := (.slice (some ⟨go36, 0, none⟩) x305000_3.length co40)) (by (with_reducible repeat (first | apply Kd.R_alloc | apply Kd.R_drewN | apply Kd.R_drew)); exact HO_305001.out) (Kd.R_typed HO_305000.out) (by decide) hg); have n2_ := Aside0.mk (blk_grown (g := gb296) (o := .cells #[.slice none 0 0, .slice none 0 0] 32 (0, 0)) (by (with_reducible repeat (first | refine blk_drewN ?_ _ | refine blk_drew ?_ | refine blk_alloc ?_ _)); exact BK296.out) hg (Kd.R_ne HO_305000.out BK296.out (by decide))); have n3_ := Aside0.mk (blk_grown (g := gb304) (o := .cells #[.slice (some ⟨go36, 0, none⟩) x305000_3.length co40, u305001] 32 (0, 0)) (by (with_reducible repeat (first | refine blk_drewN ?_ _ | refine blk_drew ?_ | refine blk_alloc ?_ _)); exact BK304.out) hg (Kd.R_ne HO_305000.out BK304.out (by decide))); have n4_ := Aside0.mk (IsS91.grown (by repeat (first | (with_reducible first | exact HI0.out | apply IsS91.alloc | apply IsS91.drewN | apply IsS91.drew | apply IsS91.set_1 | refine IsS91.far ?_ NB0_296.out _ | refine IsS91.far ?_ NB0_304.out _) | exact HI0.out)) hg (IsS91.own_ne HI0.out HO_305000.out (by decide))); have n5_ := Aside0.mk ((by rw [hw]; exact below_set (below_set (below_set (below_set (below_set (HB.out) (Nat.le_trans HL.out GB36.out)) (Nat.le_trans HL.out GB36.out)) (Nat.le_trans HL.out GB36.out)) (Nat.le_trans HL.out GB36.out)) (Nat.le_trans HL.out GB36.out) : Below w0.heap.size w0 w45)); have n6_ := Aside0.mk (KeepBut.trans (by repeat (first | (with_reducible first | exact HK.out | apply KeepBut.set_ | apply keep_drewN | apply keep_drew | apply keep_alloc | refine keep_far ?_ GW296.out _ | refine keep_far ?_ GW304.out _) | exact HK.out)) (KeepBut.of_grown hg g) (Kd.R_base2 HO_305000.out)); clear HO_305000; clear HO_305001; clear BK296; clear BK304; clear HI0; clear HB; clear HK; have HO_305000 := n0_; have HO_305001 := n1_; have BK296 := n2_; have BK304 := n3_; have HI0 := n4_; have HB := n5_; have HK := n6_; clear n0_ n1_ n2_ n3_ n4_ n5_ n6_; clear hg hw hp_; have hcz46_0 : w45.cell? ⟨gb304, 0, none⟩ = some (.slice (some ⟨go36, 0, none⟩) x305000_3.length co40) := (blk_cell BK304.out 0).trans rfl; have hcz46_1 : w45.cell? ⟨gb304, 1, none⟩ = some (u305001) := (blk_cell BK304.out 1).trans rfl; have hfz46_0 := blk_frozen BK304.out 0; have hfz46_1 := blk_frozen BK304.out 1; have hnb47 := NB296_0.out; have hnc47 := NB0_296.out; have hcz48_0 : w45.cell? ⟨gb296, 0, none⟩ = some (.slice none 0 0) := (blk_cell BK296.out 0).trans rfl; have hcz48_1 : w45.cell? ⟨gb296, 1, none⟩ = some (.slice none 0 0) := (blk_cell BK296.out 1).trans rfl; have hfz48_0 := blk_frozen BK296.out 0; have hfz48_1 := blk_frozen BK296.out 1; obtain ⟨Ao49, co49, eo49⟩ := Kd.R_slice HO_305001.out; subst eo49))
     refine bodyPost_ret (results_cell_row rfl _ _ gb296 32 #[.slice (some ⟨go36, 0, none⟩) x305000_3.length co40, .slice Ao49 x305001_3.length co49] (0, 0) _ rfl (by (with_reducible repeat (first | refine blk_drewN ?_ _ | refine blk_drew ?_ | refine blk_alloc ?_ _)); refine blk_put (cs := #[.slice (some ⟨go36, 0, none⟩) x305000_3.length co40, .slice none 0 0]) ?_ 1 _ rfl; (with_reducible repeat (first | refine blk_drewN ?_ _ | refine blk_drew ?_ | refine blk_alloc ?_ _)); refine blk_put (cs := #[.slice none 0 0, .slice none 0 0]) ?_ 0 _ rfl; (with_reducible repeat (first | refine blk_drewN ?_ _ | refine blk_drew ?_ | refine blk_alloc ?_ _)); exact BK296.out) Try.underlying32 rfl (by kernel_rfl)) rfl ?_
     exact ⟨_, _, by first | rfl | (simp [errW_none, errW_some] <;> rfl) | (simp [*, errW_none, errW_some] <;> rfl), by (with_reducible repeat (first | apply Kd.R_alloc | apply Kd.R_drewN | apply Kd.R_drew)); exact Kd.R_mono (Kd.R_far (p := ⟨gb296, 1, none⟩) (Kd.R_far (p := ⟨gb296, 0, none⟩) (Kd.R_types HO_305000.out BK296.out (by decide)) (fun _ hk => hk.2) (.slice (some ⟨go36, 0, none⟩) x305000_3.length co40)) (fun _ hk => hk.2) (.slice Ao49 x305001_3.length co49)) (fun _ hk => trivial), by (with_reducible repeat (first | apply Kd.R_alloc | apply Kd.R_drewN | apply Kd.R_drew)); exact Kd.R_mono (Kd.R_far (p := ⟨gb296, 1, none⟩) (Kd.R_far (p := ⟨gb296, 0, none⟩) (Kd.R_types HO_305001.out BK296.out (by decide)) (fun _ hk => hk.2) (.slice (some ⟨go36, 0, none⟩) x305000_3.length co40)) (fun _ hk => hk.2) (.slice Ao49 x305001_3.length co49)) (fun _ hk => trivial), by repeat (first | (with_reducible first | exact HI0.out | apply IsS91.alloc | apply IsS91.drewN | apply IsS91.drew | apply IsS91.set_1 | refine IsS91.far ?_ NB0_296.out _ | refine IsS91.far ?_ NB0_304.out _) | exact HI0.out), by repeat (first | (with_reducible first | exact HB.out | apply below_alloc | apply pw_below_drewN | apply below_drew1 | refine below_set ?_ (IsS91.ge HI0.out) | refine below_set ?_ GE296.out | refine below_set ?_ GE304.out) | exact HB.out), by repeat (first | (with_reducible first | exact HK.out | apply KeepBut.set_ | apply keep_drewN | apply keep_drew | apply keep_alloc | refine keep_far ?_ GW296.out _ | refine keep_far ?_ GW304.out _) | exact HK.out)⟩
   rw [if_neg c33] at H
   have c33b0 : (t315 == 0) = false := beq_eq_false_iff_ne.mpr c33
   have c33b1 : (t315 != 0) = true := bne_iff_ne.mpr c33
   by_cases c50 : t315 = 1
   · rw [if_pos c50] at H
     have c50b0 : (t315 == 1) = true := beq_iff_eq.mpr c50
     have c50b1 : (t315 != 1) = false := bne_eq_false_iff_eq.mpr c50
     clear c50
     obtain ⟨y318, hy318⟩ : ∃ y_ : List Int, y_ = (([0, 6, 14, 4] : List Int)) := ⟨_, rfl⟩
     replace H : ((spec_l12Rd_num.f kj3 s0_0 t316 y318).bind fun bt321 => (if 0 ≤ t313 then (if t313 < (x305000_3.length : Int) then (some ((x305000_3.set (t313 : Int).toNat (⟨bt321.1, (rd_T48 x305000_3 t313).f1, (⟨(rd_T48 x305000_3 t313).f2.f0, (rd_T48 x305000_3 t313).f2.f1, (⟨(rd_T48 x305000_3 t313).f2.f2.f0, (rd_T48 x305000_3 t313).f2.f2.f1⟩ : S44), (rd_T48 x305000_3 t313).f2.f3⟩ : S46), (⟨(rd_T48 x305000_3 t313).f3.f0, (rd_T48 x305000_3 t313).f3.f1, (⟨(rd_T48 x305000_3 t313).f3.f2.f0, (rd_T48 x305000_3 t313).f3.f2.f1⟩ : S44), (rd_T48 x305000_3 t313).f3.f3⟩ : S46)⟩ : S48)), x305001_3, bt321.2)) else (none)) else (none))) = some (r1, r2, r3) := by first | (rw [hy318]; with_reducible exact H) | (have H2_ := (Option.bind_some _ _).symm.trans H; rw [hy318]; with_reducible exact H2_) | (have H2_ := (Option.bind_some _ _).symm.trans H; with_reducible exact H2_) | with_reducible exact H | (rw [hy318]; exact H) | exact H
     have Ny318 := Aside0.mk hy318
     clear hy318
     replace H := Option.bind_eq_some_iff.mp H
     obtain ⟨⟨t321, t322⟩, A510, H⟩ := H
     replace H : (if 0 ≤ t313 then (if t313 < (x305000_3.length : Int) then (some ((x305000_3.set (t313 : Int).toNat (⟨t321, (rd_T48 x305000_3 t313).f1, (⟨(rd_T48 x305000_3 t313).f2.f0, (rd_T48 x305000_3 t313).f2.f1, (⟨(rd_T48 x305000_3 t313).f2.f2.f0, (rd_T48 x305000_3 t313).f2.f2.f1⟩ : S44), (rd_T48 x305000_3 t313).f2.f3⟩ : S46), (⟨(rd_T48 x305000_3 t313).f3.f0, (rd_T48 x305000_3 t313).f3.f1, (⟨(rd_T48 x305000_3 t313).f3.f2.f0, (rd_T48 x305000_3 t313).f3.f2.f1⟩ : S44), (rd_T48 x305000_3 t313).f3.f3⟩ : S46)⟩ : S48)), x305001_3, t322)) else (none)) else (none)) = some (r1, r2, r3) := H
     have A51 := Aside0.mk A510
     clear A510
     by_cases c52 : 0 ≤ t313
     rotate_left
     · rw [if_neg c52] at H
       exact absurd H (by simp)
     rw [if_pos c52] at H
     have c52b0 : decide (0 ≤ t313) = true := decide_eq_true c52
     clear c52
     by_cases c53 : t313 < (x305000_3.length : Int)
     rotate_left
     · rw [if_neg c53] at H
       exact absurd H (by simp)
     rw [if_pos c53] at H
     have c53b0 : decide (t313 < (x305000_3.length : Int)) = true := decide_eq_true c53
     clear c53
     obtain ⟨y323, hy323⟩ : ∃ y_ : List (S48), y_ = (x305000_3.set (t313 : Int).toNat (⟨t321, (rd_T48 x305000_3 t313).f1, (⟨(rd_T48 x305000_3 t313).f2.f0, (rd_T48 x305000_3 t313).f2.f1, (⟨(rd_T48 x305000_3 t313).f2.f2.f0, (rd_T48 x305000_3 t313).f2.f2.f1⟩ : S44), (rd_T48 x305000_3 t313).f2.f3⟩ : S46), (⟨(rd_T48 x305000_3 t313).f3.f0, (rd_T48 x305000_3 t313).f3.f1, (⟨(rd_T48 x305000_3 t313).f3.f2.f0, (rd_T48 x305000_3 t313).f3.f2.f1⟩ : S44), (rd_T48 x305000_3 t313).f3.f3⟩ : S46)⟩ : S48)) := ⟨_, rfl⟩
     replace H : (some (y323, x305001_3, t322)) = some (r1, r2, r3) := by first | (rw [hy323]; with_reducible exact H) | (have H2_ := (Option.bind_some _ _).symm.trans H; rw [hy323]; with_reducible exact H2_) | (have H2_ := (Option.bind_some _ _).symm.trans H; with_reducible exact H2_) | with_reducible exact H | (rw [hy323]; exact H) | exact H
     have Ny323 := Aside0.mk hy323
     clear hy323
     simp only [Option.some.injEq, Prod.mk.injEq] at H
     obtain ⟨rfl, rfl, rfl⟩ := H
     have hnb55 := NB304_296.out
     have hnc55 := NB296_304.out
     have hnb56 := NB304_0.out
     have hnc56 := NB0_304.out
     have hcz57_0 : wc.cell? ⟨gb304, 0, none⟩ = some (u305000) := (blk_cell BK304.out 0).trans rfl
     have hcz57_1 : wc.cell? ⟨gb304, 1, none⟩ = some (u305001) := (blk_cell BK304.out 1).trans rfl
     have hfz57_0 := blk_frozen BK304.out 0
     have hfz57_1 := blk_frozen BK304.out 1
     obtain ⟨Ao58, co58, eo58⟩ := Kd.R_slice HO_305000.out
     subst eo58
     try go_wp2_with (first | ((with_reducible refine gate_callee (f := 51) rfl ?_); refine goesL_ (some 21) rfl rfl Try.func51 (by kernel_rfl) rfl #[.pointer (some ⟨g, 0, none⟩), .int .i64 (x305000_3.length : Int)] rfl (by (try simp only [List.map_toArray, List.map_cons, List.map_nil]); first | done | rfl | (simp only [List.length_drop, List.length_take]; rfl)) ?_; (with_reducible refine (spec_l12Rd_pick.calls kj3 g s0_0 t306 (x305000_3.length : Int) t313 t314 w0 _ ?side1 ?side2 A31.out).mono ?_); (case side1 => repeat (first | (with_reducible first | exact HI0.out | apply IsS91.alloc | apply IsS91.drewN | apply IsS91.drew | apply IsS91.set_1 | refine IsS91.far ?_ NB0_296.out _ | refine IsS91.far ?_ NB0_304.out _) | exact HI0.out)); (case side2 => repeat (first | (with_reducible first | exact HB.out | apply below_alloc | apply pw_below_drewN | apply below_drew1 | refine below_set ?_ (IsS91.ge HI0.out) | refine below_set ?_ GE296.out | refine below_set ?_ GE304.out) | exact HB.out)); rintro e w59 ⟨rfl, hi, hb, hk⟩; refine ⟨_, rfl, ?_⟩; have n0_ := Aside0.mk (Kd.R_mono (Kd.R_keep (IsS91.apart (show IsS91 w0 _ g s0_0 t306 from by repeat (first | (with_reducible first | exact HI0.out | apply IsS91.alloc | apply IsS91.drewN | apply IsS91.drew | apply IsS91.set_1 | refine IsS91.far ?_ NB0_296.out _ | refine IsS91.far ?_ NB0_304.out _) | exact HI0.out)) (by (with_reducible repeat (first | apply Kd.R_alloc | apply Kd.R_drewN | apply Kd.R_drew)); exact HO_305000.out) (by decide)) hk (fun _ h => h.2)) (fun _ h => h.1)); have n1_ := Aside0.mk (Kd.R_mono (Kd.R_keep (IsS91.apart (show IsS91 w0 _ g s0_0 t306 from by repeat (first | (with_reducible first | exact HI0.out | apply IsS91.alloc | apply IsS91.drewN | apply IsS91.drew | apply IsS91.set_1 | refine IsS91.far ?_ NB0_296.out _ | refine IsS91.far ?_ NB0_304.out _) | exact HI0.out)) (by (with_reducible repeat (first | apply Kd.R_alloc | apply Kd.R_drewN | apply Kd.R_drew)); exact HO_305001.out) (by decide)) hk (fun _ h => h.2)) (fun _ h => h.1)); have n2_ := Aside0.mk (KeepBut.blk hk (g' := gb296) (o := .cells #[.slice none 0 0, .slice none 0 0] 32 (0, 0)) (by (with_reducible repeat (first | refine blk_drewN ?_ _ | refine blk_drew ?_ | refine blk_alloc ?_ _)); exact BK296.out) NB296_0.out (by simp)); have n3_ := Aside0.mk (KeepBut.blk hk (g' := gb304) (o := .cells #[.slice Ao58 x305000_3.length co58, u305001] 32 (0, 0)) (by (with_reducible repeat (first | refine blk_drewN ?_ _ | refine blk_drew ?_ | refine blk_alloc ?_ _)); exact BK304.out) NB304_0.out (by simp)); have n4_ := Aside0.mk (KeepBut.trans (by repeat (first | (with_reducible first | exact HK.out | apply KeepBut.set_ | apply keep_drewN | apply keep_drew | apply keep_alloc | refine keep_far ?_ GW296.out _ | refine keep_far ?_ GW304.out _) | exact HK.out)) hk (.inl rfl)); have n5_ := Aside0.mk (hb); have n6_ := Aside0.mk (hi); clear HO_305000; clear HO_305001; clear BK296; clear BK304; clear HK; clear HB; clear HI0; have HO_305000 := n0_; have HO_305001 := n1_; have BK296 := n2_; have BK304 := n3_; have HK := n4_; have HB := n5_; have HI0 := n6_; clear n0_ n1_ n2_ n3_ n4_ n5_ n6_; (try clear hb); (try clear hb2); (try clear hk); (try clear hi)) | ((with_reducible refine gate_callee (f := 51) rfl ?_); refine goesL_ (some 23) rfl rfl Try.func51 (by kernel_rfl) rfl #[.pointer (some ⟨g, 0, none⟩), .int .i64 40] rfl (by (try simp only [List.map_toArray, List.map_cons, List.map_nil]); first | done | rfl | (simp only [List.length_drop, List.length_take]; rfl)) ?_; (with_reducible refine (spec_l12Rd_pick.calls kj3 g s0_0 t314 40 t315 t316 w0 _ ?side1 ?side2 A32.out).mono ?_); (case side1 => repeat (first | (with_reducible first | exact HI0.out | apply IsS91.alloc | apply IsS91.drewN | apply IsS91.drew | apply IsS91.set_1 | refine IsS91.far ?_ NB0_296.out _ | refine IsS91.far ?_ NB0_304.out _) | exact HI0.out)); (case side2 => repeat (first | (with_reducible first | exact HB.out | apply below_alloc | apply pw_below_drewN | apply below_drew1 | refine below_set ?_ (IsS91.ge HI0.out) | refine below_set ?_ GE296.out | refine below_set ?_ GE304.out) | exact HB.out)); rintro e w60 ⟨rfl, hi, hb, hk⟩; refine ⟨_, rfl, ?_⟩; have n0_ := Aside0.mk (Kd.R_mono (Kd.R_keep (IsS91.apart (show IsS91 w0 _ g s0_0 t314 from by repeat (first | (with_reducible first | exact HI0.out | apply IsS91.alloc | apply IsS91.drewN | apply IsS91.drew | apply IsS91.set_1 | refine IsS91.far ?_ NB0_296.out _ | refine IsS91.far ?_ NB0_304.out _) | exact HI0.out)) (by (with_reducible repeat (first | apply Kd.R_alloc | apply Kd.R_drewN | apply Kd.R_drew)); exact HO_305000.out) (by decide)) hk (fun _ h => h.2)) (fun _ h => h.1)); have n1_ := Aside0.mk (Kd.R_mono (Kd.R_keep (IsS91.apart (show IsS91 w0 _ g s0_0 t314 from by repeat (first | (with_reducible first | exact HI0.out | apply IsS91.alloc | apply IsS91.drewN | apply IsS91.drew | apply IsS91.set_1 | refine IsS91.far ?_ NB0_296.out _ | refine IsS91.far ?_ NB0_304.out _) | exact HI0.out)) (by (with_reducible repeat (first | apply Kd.R_alloc | apply Kd.R_drewN | apply Kd.R_drew)); exact HO_305001.out) (by decide)) hk (fun _ h => h.2)) (fun _ h => h.1)); have n2_ := Aside0.mk (KeepBut.blk hk (g' := gb296) (o := .cells #[.slice none 0 0, .slice none 0 0] 32 (0, 0)) (by (with_reducible repeat (first | refine blk_drewN ?_ _ | refine blk_drew ?_ | refine blk_alloc ?_ _)); exact BK296.out) NB296_0.out (by simp)); have n3_ := Aside0.mk (KeepBut.blk hk (g' := gb304) (o := .cells #[.slice Ao58 x305000_3.length co58, u305001] 32 (0, 0)) (by (with_reducible repeat (first | refine blk_drewN ?_ _ | refine blk_drew ?_ | refine blk_alloc ?_ _)); exact BK304.out) NB304_0.out (by simp)); have n4_ := Aside0.mk (KeepBut.trans (by repeat (first | (with_reducible first | exact HK.out | apply KeepBut.set_ | apply keep_drewN | apply keep_drew | apply keep_alloc | refine keep_far ?_ GW296.out _ | refine keep_far ?_ GW304.out _) | exact HK.out)) hk (.inl rfl)); have n5_ := Aside0.mk (hb); have n6_ := Aside0.mk (hi); clear HO_305000; clear HO_305001; clear BK296; clear BK304; clear HK; clear HB; clear HI0; have HO_305000 := n0_; have HO_305001 := n1_; have BK296 := n2_; have BK304 := n3_; have HK := n4_; have HB := n5_; have HI0 := n6_; clear n0_ n1_ n2_ n3_ n4_ n5_ n6_; (try clear hb); (try clear hb2); (try clear hk); (try clear hi)))
     have n0_ := Aside0.mk (Kd.R_drew HO_305000.out)
     have n1_ := Aside0.mk (Kd.R_drew HO_305001.out)
     have n2_ := Aside0.mk (blk_drew BK296.out)
     have n3_ := Aside0.mk (blk_drew BK304.out)
     have n4_ := Aside0.mk (IsS91.drew HI0.out)
     have n5_ := Aside0.mk (keep_drew HK.out)
     have n6_ := Aside0.mk (below_drew1 HB.out)
     clear HO_305000
     clear HO_305001
     clear BK296
     clear BK304
     clear HI0
     clear HK
     clear HB
     have HO_305000 := n0_
     have HO_305001 := n1_
     have BK296 := n2_
     have BK304 := n3_
     have HI0 := n4_
     have HK := n5_
     have HB := n6_
     clear n0_ n1_ n2_ n3_ n4_ n5_ n6_
     refine start_ (n := 9) (S := fun w' => w'.cell? ⟨gb304, 0, none⟩ = some (.slice Ao58 x305000_3.length co58) ∧ w'.cell? ⟨gb304, 1, none⟩ = some (u305001)) (ds := [8]) #[false, false, false, false, false, false, false, false, false] (by kernel_rfl) rfl rfl ⟨(blk_cell BK304.out 0).trans rfl, (blk_cell BK304.out 1).trans rfl⟩ (fun hHeld => ?_); refine with_tabW spec_l7Bent.tab11 spec_l7Bent.bits11 (fun HT_ HW_ => ?_)
     generalize w60.drew = w61 at HO_305000 HO_305001 BK296 BK304 HI0 HK HB hHeld ⊢
     refine pure_ (i := 0) (N := some 35) (v := ?_) (a' := ?_) #[true, false, false, false, false, false, false, false, false] rfl rfl (any_of HT_.out (by kernel_rfl)) (fun _ _ _ h => h) (Or.inl ⟨by rfl, ?_⟩) ?_ ?_
     rotate_left
     · intro w'
       go_simp
       with_reducible rfl
     rotate_left
     · simp only [Act.put, List.setIfInBounds_toArray, List.set_cons_zero, List.set_cons_succ, i64_w, i32_w]
       rfl
     refine pure_ (i := 2) (N := some 37) (v := ?_) (a' := ?_) #[true, false, true, false, false, false, false, false, false] rfl rfl (any_of HT_.out (by kernel_rfl)) (fun _ _ _ h => h) (Or.inl ⟨by rfl, ?_⟩) ?_ ?_
     rotate_left
     · intro w'
       go_simp
       with_reducible rfl
     rotate_left
     · simp only [Act.put, List.setIfInBounds_toArray, List.set_cons_zero, List.set_cons_succ, i64_w, i32_w]
       rfl
     refine pure_ (i := 3) (N := some 38) (v := ?_) (a' := ?_) #[true, false, true, true, false, false, false, false, false] rfl rfl (any_of HT_.out (by kernel_rfl)) (fun _ _ _ h => h) (Or.inl ⟨by rfl, ?_⟩) ?_ ?_
     rotate_left
     · intro w'
       go_simp
       with_reducible rfl
     rotate_left
     · simp only [Act.put, List.setIfInBounds_toArray, List.set_cons_zero, List.set_cons_succ, i64_w, i32_w]
       rfl
     refine take_ (i := 1) (N := some 36) (v := ?_) (a' := ?_) #[true, true, true, true, false, false, false, false, false] rfl rfl (take_ofW HT_.out HW_.out (by kernel_rfl)) (fun _ _ _ h => h) (Or.inl ⟨by rfl, ?_⟩) hHeld ?_ ?_
     rotate_left
     · rintro w' ⟨s0, s1⟩
       go_simp
       with_reducible rfl
     rotate_left
     · simp only [Act.put, List.setIfInBounds_toArray, List.set_cons_zero, List.set_cons_succ, i64_w, i32_w]
       rfl
     refine one_ (i := 4) (N := some 39) #[true, true, true, true, true, false, false, false, false] rfl rfl (one_of HT_.out (by kernel_rfl)) (by decide) (fun K hK => ?_)
     refine Kd.R_lit_step (Kd.int .i64) _ 3 ?hg (N := 39) ?hd (xs := ([0, 6, 14, 4] : List Int)) (inner := [.int .i64 0, .int .i64 6, .int .i64 14, .int .i64 4]) (ok := fun _ => True) (okp := fun _ => True) ?hr ?hp (fun _ hk => hk) trivial (Below.refl _ _) (Nat.le_refl _) (by simp) ?_; (case hd => rfl); (case hg => rfl); (case hr => first | (go_simp; done) | (go_simp; rfl)); (case hp => exact (Reps.one (show Kd.M (Kd.int .i64) _ _ _ 0 [.int .i64 0] from rfl) (Reps.one (show Kd.M (Kd.int .i64) _ _ _ 6 [.int .i64 6] from rfl) (Reps.one (show Kd.M (Kd.int .i64) _ _ _ 14 [.int .i64 14] from rfl) (Reps.one (show Kd.M (Kd.int .i64) _ _ _ 4 [.int .i64 4] from rfl) (Reps.none _ _))))))
     intro v319 w62 ho63 hb hg_ hnew_
     clear hg_ hnew_
     (first | rw [← Ny318.out] at ho63 | (simp only [Int.reduceToNat] at ho63; rw [← Ny318.out] at ho63))
     have n0_ := Aside0.mk (Kd.R_below (by (with_reducible repeat (first | apply Kd.R_alloc | apply Kd.R_drewN | apply Kd.R_drew)); exact HO_305000.out) hb)
     have n1_ := Aside0.mk (Kd.R_below (by (with_reducible repeat (first | apply Kd.R_alloc | apply Kd.R_drewN | apply Kd.R_drew)); exact HO_305001.out) hb)
     have n2_ := Aside0.mk (Kd.R_lower ho63 (keep_size (w := w) (g := g) (row := none) (by repeat (first | (with_reducible first | exact HK.out | apply KeepBut.set_ | apply keep_drewN | apply keep_drew | apply keep_alloc | refine keep_far ?_ GW296.out _ | refine keep_far ?_ GW304.out _) | exact HK.out))))
     have n3_ := Aside0.mk (blk_below (g := gb296) (o := .cells #[.slice none 0 0, .slice none 0 0] 32 (0, 0)) (by (with_reducible repeat (first | refine blk_drewN ?_ _ | refine blk_drew ?_ | refine blk_alloc ?_ _)); exact BK296.out) hb)
     have n4_ := Aside0.mk (blk_below (g := gb304) (o := .cells #[.slice Ao58 x305000_3.length co58, u305001] 32 (0, 0)) (by (with_reducible repeat (first | refine blk_drewN ?_ _ | refine blk_drew ?_ | refine blk_alloc ?_ _)); exact BK304.out) hb)
     have n5_ := Aside0.mk (IsS91.below (by repeat (first | (with_reducible first | exact HI0.out | apply IsS91.alloc | apply IsS91.drewN | apply IsS91.drew | apply IsS91.set_1 | refine IsS91.far ?_ NB0_296.out _ | refine IsS91.far ?_ NB0_304.out _) | exact HI0.out)) hb)
     have n6_ := Aside0.mk (KeepBut.trans (by repeat (first | (with_reducible first | exact HK.out | apply KeepBut.set_ | apply keep_drewN | apply keep_drew | apply keep_alloc | refine keep_far ?_ GW296.out _ | refine keep_far ?_ GW304.out _) | exact HK.out)) (KeepBut.of_below hb g none) (.inl rfl))
     have n7_ := Aside0.mk (below_step (by repeat (first | (with_reducible first | exact HB.out | apply below_alloc | apply pw_below_drewN | apply below_drew1 | refine below_set ?_ (IsS91.ge HI0.out) | refine below_set ?_ GE296.out | refine below_set ?_ GE304.out) | exact HB.out)) hb)
     clear HO_305000
     clear HO_305001
     clear BK296
     clear BK304
     clear HI0
     clear HK
     clear HB
     have HO_305000 := n0_
     have HO_305001 := n1_
     have HO320 := n2_
     have BK296 := n3_
     have BK304 := n4_
     have HI0 := n5_
     have HK := n6_
     have HB := n7_
     clear n0_ n1_ n2_ n3_ n4_ n5_ n6_ n7_
     clear hb ho63
     obtain ⟨Ao64, co64, eo64⟩ := Kd.R_slice HO320.out
     (first | subst eo64 | (injection eo64 with f1_ f2_ f3_; have f4_ := f1_.symm; have f5_ := f3_.symm; clear f1_ f2_ f3_; subst f4_; subst f5_))
     refine hK.out _ _ ⟨(blk_cell BK304.out 0).trans rfl, (blk_cell BK304.out 1).trans rfl⟩ (fun hHeld => ?_)
     clear hK K
     refine norm_ (a' := ?_) ?_ ?_
     rotate_left
     · show Act.put _ (some 39) _ = _
       simp only [Act.put, List.setIfInBounds_toArray, List.set_cons_zero, List.set_cons_succ, i64_w, i32_w]
       rfl
     refine one_ (i := 5) (N := some 40) #[true, true, true, true, true, true, false, false, false] rfl rfl (one_of HT_.out (by kernel_rfl)) (by decide) (fun K hK => ?_)
     refine goes_ Try.func53 (by kernel_rfl) rfl #[.pointer (some ⟨g, 0, none⟩), .slice Ao64 y318.length co64] (by rfl) rfl rfl (by (try simp only [List.map_toArray, List.map_cons, List.map_nil]); first | done | rfl | (simp only [List.length_drop, List.length_take]; rfl)) ?_
     with_reducible refine (spec_l12Rd_num.calls kj3 g s0_0 t316 _ _ y318 t321 t322 w0 _ ?side1 ?side2 ?side3 ?side4 ?side5 A51.out).mono ?_
     (case side1 => repeat (first | (with_reducible first | exact HI0.out | apply IsS91.alloc | apply IsS91.drewN | apply IsS91.drew | apply IsS91.set_1 | refine IsS91.far ?_ NB0_296.out _ | refine IsS91.far ?_ NB0_304.out _) | exact HI0.out))
     (case side2 => repeat (first | (with_reducible first | exact HB.out | apply below_alloc | apply pw_below_drewN | apply below_drew1 | refine below_set ?_ (IsS91.ge HI0.out) | refine below_set ?_ GE296.out | refine below_set ?_ GE304.out) | exact HB.out))
     (case side3 => repeat (first | exact (Kd.R_reads' HO320.out).2.2 | (with_reducible refine Kd.C_alloc ?_ _) | (with_reducible refine Kd.C_drewN ?_ _) | (with_reducible refine Kd.C_drew ?_)))
     (case side4 => exact (Kd.R_reads' HO320.out).2.1)
     (case side5 => exact far_slice (IsS91.own_ne HI0.out HO320.out (by decide)))
     rintro e w65 ⟨rfl, hi, hb, hk⟩
     refine ⟨_, rfl, ?_⟩
     have n0_ := Aside0.mk (Kd.R_mono (Kd.R_keep (IsS91.apart (show IsS91 w0 _ g s0_0 t316 from by repeat (first | (with_reducible first | exact HI0.out | apply IsS91.alloc | apply IsS91.drewN | apply IsS91.drew | apply IsS91.set_1 | refine IsS91.far ?_ NB0_296.out _ | refine IsS91.far ?_ NB0_304.out _) | exact HI0.out)) (by (with_reducible repeat (first | apply Kd.R_alloc | apply Kd.R_drewN | apply Kd.R_drew)); exact HO_305000.out) (by decide)) hk (fun _ h => h.2)) (fun _ h => h.1))
     have n1_ := Aside0.mk (Kd.R_mono (Kd.R_keep (IsS91.apart (show IsS91 w0 _ g s0_0 t316 from by repeat (first | (with_reducible first | exact HI0.out | apply IsS91.alloc | apply IsS91.drewN | apply IsS91.drew | apply IsS91.set_1 | refine IsS91.far ?_ NB0_296.out _ | refine IsS91.far ?_ NB0_304.out _) | exact HI0.out)) (by (with_reducible repeat (first | apply Kd.R_alloc | apply Kd.R_drewN | apply Kd.R_drew)); exact HO_305001.out) (by decide)) hk (fun _ h => h.2)) (fun _ h => h.1))
     have n2_ := Aside0.mk (KeepBut.blk hk (g' := gb296) (o := .cells #[.slice none 0 0, .slice none 0 0] 32 (0, 0)) (by (with_reducible repeat (first | refine blk_drewN ?_ _ | refine blk_drew ?_ | refine blk_alloc ?_ _)); exact BK296.out) NB296_0.out (by simp))
     have n3_ := Aside0.mk (KeepBut.blk hk (g' := gb304) (o := .cells #[.slice Ao58 x305000_3.length co58, u305001] 32 (0, 0)) (by (with_reducible repeat (first | refine blk_drewN ?_ _ | refine blk_drew ?_ | refine blk_alloc ?_ _)); exact BK304.out) NB304_0.out (by simp))
     have n4_ := Aside0.mk (Kd.R_mono (Kd.R_keep (IsS91.apart (show IsS91 w0 _ g s0_0 t316 from by repeat (first | (with_reducible first | exact HI0.out | apply IsS91.alloc | apply IsS91.drewN | apply IsS91.drew | apply IsS91.set_1 | refine IsS91.far ?_ NB0_296.out _ | refine IsS91.far ?_ NB0_304.out _) | exact HI0.out)) (by (with_reducible repeat (first | apply Kd.R_alloc | apply Kd.R_drewN | apply Kd.R_drew)); exact HO320.out) (by decide)) hk (fun _ h => h.2)) (fun _ h => h.1))
     have n5_ := Aside0.mk (KeepBut.trans (by repeat (first | (with_reducible first | exact HK.out | apply KeepBut.set_ | apply keep_drewN | apply keep_drew | apply keep_alloc | refine keep_far ?_ GW296.out _ | refine keep_far ?_ GW304.out _) | exact HK.out)) hk (.inl rfl))
     have n6_ := Aside0.mk (hb)
     have n7_ := Aside0.mk (hi)
     clear HO_305000
     clear HO_305001
     clear BK296
     clear BK304
     clear HO320
     clear HK
     clear HB
     clear HI0
     have HO_305000 := n0_
     have HO_305001 := n1_
     have BK296 := n2_
     have BK304 := n3_
     have HO320 := n4_
     have HK := n5_
     have HB := n6_
     have HI0 := n7_
     clear n0_ n1_ n2_ n3_ n4_ n5_ n6_ n7_
     (try clear hb)
     (try clear hb2)
     (try clear hk)
     (try clear hi)
     have p54 : 0 ≤ (t313 : Int) := of_decide_eq_true (by first | (with_reducible assumption) | assumption)
     have q54 : (t313 : Int) < ((x305000_3.length : Int) : Int) := of_decide_eq_true (by first | (with_reducible assumption) | assumption)
     obtain ⟨go54, co54, eo54, gb54, gl54, cl54, HG54⟩ := Kd.R_form HO_305000.out (by omega)
     (first | cases eo54 | (injection eo54 with ea_ en_ ec_; (first | subst ea_ | (injection ea_ with ea_; subst ea_)); subst ec_; clear en_))
     have GB54 := Aside0.mk gb54
     have GG54 := Aside0.mk HG54
     clear gb54 gl54 HG54
     obtain ⟨ce54, hcl54, hM54, hcc54, hfr54⟩ := Kd.R_elem HO_305000.out z48 (t313 : Int) p54 q54
     obtain rfl := k48_openM hM54
     have hx54_0 : World.cell? _ ⟨go54, (t313 : Int).toNat * 12, none⟩ = some (.int .i64 ((rd_T48 x305000_3 t313).f0)) := hcc54 0 _ rfl
     have hx54_1 : World.cell? _ ⟨go54, (t313 : Int).toNat * 12 + 1, none⟩ = some (.int .i64 ((rd_T48 x305000_3 t313).f1)) := hcc54 1 _ rfl
     have hx54_2 : World.cell? _ ⟨go54, (t313 : Int).toNat * 12 + 2, none⟩ = some (.int .i64 ((rd_T48 x305000_3 t313).f2.f0)) := hcc54 2 _ rfl
     have hx54_3 : World.cell? _ ⟨go54, (t313 : Int).toNat * 12 + 3, none⟩ = some (.int .i64 ((rd_T48 x305000_3 t313).f2.f1)) := hcc54 3 _ rfl
     have hx54_4 : World.cell? _ ⟨go54, (t313 : Int).toNat * 12 + 4, none⟩ = some (.int .i64 ((rd_T48 x305000_3 t313).f2.f2.f0)) := hcc54 4 _ rfl
     have hx54_5 : World.cell? _ ⟨go54, (t313 : Int).toNat * 12 + 5, none⟩ = some (.int .i64 ((rd_T48 x305000_3 t313).f2.f2.f1)) := hcc54 5 _ rfl
     have hx54_6 : World.cell? _ ⟨go54, (t313 : Int).toNat * 12 + 6, none⟩ = some (.bool ((rd_T48 x305000_3 t313).f2.f3)) := hcc54 6 _ rfl
     have hx54_7 : World.cell? _ ⟨go54, (t313 : Int).toNat * 12 + 7, none⟩ = some (.int .i64 ((rd_T48 x305000_3 t313).f3.f0)) := hcc54 7 _ rfl
     have hx54_8 : World.cell? _ ⟨go54, (t313 : Int).toNat * 12 + 8, none⟩ = some (.int .i64 ((rd_T48 x305000_3 t313).f3.f1)) := hcc54 8 _ rfl
     have hx54_9 : World.cell? _ ⟨go54, (t313 : Int).toNat * 12 + 9, none⟩ = some (.int .i64 ((rd_T48 x305000_3 t313).f3.f2.f0)) := hcc54 9 _ rfl
     have hx54_10 : World.cell? _ ⟨go54, (t313 : Int).toNat * 12 + 10, none⟩ = some (.int .i64 ((rd_T48 x305000_3 t313).f3.f2.f1)) := hcc54 10 _ rfl
     have hx54_11 : World.cell? _ ⟨go54, (t313 : Int).toNat * 12 + 11, none⟩ = some (.bool ((rd_T48 x305000_3 t313).f3.f3)) := hcc54 11 _ rfl
     have hf54_0 : World.frozen? _ ⟨go54, (t313 : Int).toNat * 12, none⟩ = false := hfr54 0
     have hf54_1 : World.frozen? _ ⟨go54, (t313 : Int).toNat * 12 + 1, none⟩ = false := hfr54 1
     have hf54_2 : World.frozen? _ ⟨go54, (t313 : Int).toNat * 12 + 2, none⟩ = false := hfr54 2
     have hf54_3 : World.frozen? _ ⟨go54, (t313 : Int).toNat * 12 + 3, none⟩ = false := hfr54 3
     have hf54_4 : World.frozen? _ ⟨go54, (t313 : Int).toNat * 12 + 4, none⟩ = false := hfr54 4
     have hf54_5 : World.frozen? _ ⟨go54, (t313 : Int).toNat * 12 + 5, none⟩ = false := hfr54 5
     have hf54_6 : World.frozen? _ ⟨go54, (t313 : Int).toNat * 12 + 6, none⟩ = false := hfr54 6
     have hf54_7 : World.frozen? _ ⟨go54, (t313 : Int).toNat * 12 + 7, none⟩ = false := hfr54 7
     have hf54_8 : World.frozen? _ ⟨go54, (t313 : Int).toNat * 12 + 8, none⟩ = false := hfr54 8
     have hf54_9 : World.frozen? _ ⟨go54, (t313 : Int).toNat * 12 + 9, none⟩ = false := hfr54 9
     have hf54_10 : World.frozen? _ ⟨go54, (t313 : Int).toNat * 12 + 10, none⟩ = false := hfr54 10
     have hf54_11 : World.frozen? _ ⟨go54, (t313 : Int).toNat * 12 + 11, none⟩ = false := hfr54 11
     clear hcl54 hcc54 hfr54 hM54
     replace p54 := eq_true p54
     replace q54 := eq_true q54
     have HN0_go54 := Aside0.mk (show g ≠ go54 from by have h_ := IsS91.own_ne HI0.out HO_305000.out (by decide); intro e_; exact h_ (by rw [e_]; rfl))
     obtain ⟨ce66, hcl66, hM66, hcc66, hfr66⟩ := Kd.R_elem HO_305000.out z48 (t313 : Int) (of_decide_eq_true (by first | (with_reducible assumption) | assumption)) (by have h_ : (t313 : Int) < ((x305000_3.length : Int) : Int) := of_decide_eq_true (by first | (with_reducible assumption) | assumption); first | exact h_ | (have e_ := (Kd.R_reads' HO_305000.out).1; omega) | simpa using h_)
     obtain rfl := k48_openM hM66
     have HP66 := (Kd.R_seg HO_305000.out (t313 : Int) (of_decide_eq_true (by first | (with_reducible assumption) | assumption)) (by have h_ : (t313 : Int) < ((x305000_3.length : Int) : Int) := of_decide_eq_true (by first | (with_reducible assumption) | assumption); first | exact h_ | (have e_ := (Kd.R_reads' HO_305000.out).1; omega) | simpa using h_) (seg := [.int .i64 t321]) (j := 0) hcl66 hcc66 (show 1 ≤ 12 from by decide) (x' := (⟨t321, (rd_T48 x305000_3 t313).f1, (⟨(rd_T48 x305000_3 t313).f2.f0, (rd_T48 x305000_3 t313).f2.f1, (⟨(rd_T48 x305000_3 t313).f2.f2.f0, (rd_T48 x305000_3 t313).f2.f2.f1⟩ : S44), (rd_T48 x305000_3 t313).f2.f3⟩ : S46), (⟨(rd_T48 x305000_3 t313).f3.f0, (rd_T48 x305000_3 t313).f3.f1, (⟨(rd_T48 x305000_3 t313).f3.f2.f0, (rd_T48 x305000_3 t313).f3.f2.f1⟩ : S44), (rd_T48 x305000_3 t313).f3.f3⟩ : S46)⟩ : S48)) (k48_mkM _ _ _ (⟨t321, (rd_T48 x305000_3 t313).f1, (⟨(rd_T48 x305000_3 t313).f2.f0, (rd_T48 x305000_3 t313).f2.f1, (⟨(rd_T48 x305000_3 t313).f2.f2.f0, (rd_T48 x305000_3 t313).f2.f2.f1⟩ : S44), (rd_T48 x305000_3 t313).f2.f3⟩ : S46), (⟨(rd_T48 x305000_3 t313).f3.f0, (rd_T48 x305000_3 t313).f3.f1, (⟨(rd_T48 x305000_3 t313).f3.f2.f0, (rd_T48 x305000_3 t313).f3.f2.f1⟩ : S44), (rd_T48 x305000_3 t313).f3.f3⟩ : S46)⟩ : S48) ) (fun _ hk => hk)).1
     rw [← Ny323.out] at HP66
     have HQ66 := Aside0.mk HP66
     clear hcl66 hcc66 hfr66 hM66 HP66
     refine hK.out _ _ ⟨(blk_cell BK304.out 0).trans rfl, (blk_cell BK304.out 1).trans rfl⟩ (fun hHeld => ?_)
     clear hK K
     refine norm_ (a' := ?_) ?_ ?_
     rotate_left
     · show Act.put _ (some 40) _ = _
       simp only [Act.put, List.setIfInBounds_toArray, List.set_cons_zero, List.set_cons_succ, i64_w, i32_w]
       rfl
     refine pure_ (i := 6) (N := some 41) (v := ?_) (a' := ?_) #[true, true, true, true, true, true, true, false, false] rfl rfl (any_of HT_.out (by kernel_rfl)) (fun _ _ _ h => h) (Or.inl ⟨by rfl, ?_⟩) ?_ ?_
     rotate_left
     · intro w'
       go_simp
       with_reducible rfl
     rotate_left
     · simp only [Act.put, List.setIfInBounds_toArray, List.set_cons_zero, List.set_cons_succ, i64_w, i32_w]
       rfl
     refine pure_ (i := 7) (N := some 42) (v := ?_) (a' := ?_) #[true, true, true, true, true, true, true, true, false] rfl rfl (any_of HT_.out (by kernel_rfl)) (fun _ _ _ h => h) (Or.inl ⟨by rfl, ?_⟩) ?_ ?_
     rotate_left
     · intro w'
       go_simp
       with_reducible rfl
     rotate_left
     · simp only [Act.put, List.setIfInBounds_toArray, List.set_cons_zero, List.set_cons_succ, i64_w, i32_w]
       rfl
     refine last_ (i := 8) (N := none) #[true, true, true, true, true, true, true, true, true] rfl rfl (one_of HT_.out (by kernel_rfl)) (by decide) (fun K hK => ?_)
     refine skip_ (w1 := ?_) (by rfl) rfl ?_ ?_
     rotate_left
     · go_simp
       rfl
     refine hK.out _ _ ?_
     clear hK K
     refine done_ (done_of HT_.out (by kernel_rfl)) ?_
     have n0_ : Aside0 (Kd.R k48 48 (w65.setCell ⟨go54, (t313 : Int).toNat * 12, none⟩ (.int .i64 t321)) w.heap.size (fun _ => True) (.slice (some ⟨go54, 0, none⟩) x305000_3.length co58) y323) := ⟨by (with_reducible repeat (first | apply Kd.R_alloc | apply Kd.R_drewN | apply Kd.R_drew)); exact HQ66.out⟩
     have n1_ : Aside0 (Kd.R k62 62 (w65.setCell ⟨go54, (t313 : Int).toNat * 12, none⟩ (.int .i64 t321)) w.heap.size (fun _ => True) u305001 x305001_3) := ⟨by (with_reducible repeat (first | apply Kd.R_alloc | apply Kd.R_drewN | apply Kd.R_drew)); exact Kd.R_mono (Kd.R_far (p := ⟨go54, (t313 : Int).toNat * 12, none⟩) (Kd.R_types HO_305001.out GG54.out (by decide)) (fun _ hk => hk.2) (.int .i64 t321)) (fun _ hk => trivial)⟩
     have n2_ : Aside0 (Kd.R (Kd.int .i64) 3 (w65.setCell ⟨go54, (t313 : Int).toNat * 12, none⟩ (.int .i64 t321)) w.heap.size (fun _ => True) (.slice Ao64 y318.length co64) y318) := ⟨by (with_reducible repeat (first | apply Kd.R_alloc | apply Kd.R_drewN | apply Kd.R_drew)); exact Kd.R_mono (Kd.R_far (p := ⟨go54, (t313 : Int).toNat * 12, none⟩) (Kd.R_types HO320.out GG54.out (by decide)) (fun _ hk => hk.2) (.int .i64 t321)) (fun _ hk => trivial)⟩
     have n3_ : Aside0 ((w65.setCell ⟨go54, (t313 : Int).toNat * 12, none⟩ (.int .i64 t321)).heap[gb296]? = some (.cells #[.slice none 0 0, .slice none 0 0] 32 (0, 0))) := ⟨by (with_reducible repeat (first | refine blk_drewN ?_ _ | refine blk_drew ?_ | refine blk_alloc ?_ _)); refine blk_far ?_ (by have h_ := Kd.R_ne HO_305000.out BK296.out (by decide); intro e_; exact h_ (by rw [e_]; rfl)) _; (with_reducible repeat (first | refine blk_drewN ?_ _ | refine blk_drew ?_ | refine blk_alloc ?_ _)); exact BK296.out⟩
     have n4_ : Aside0 ((w65.setCell ⟨go54, (t313 : Int).toNat * 12, none⟩ (.int .i64 t321)).heap[gb304]? = some (.cells #[.slice (some ⟨go54, 0, none⟩) x305000_3.length co58, u305001] 32 (0, 0))) := ⟨by (with_reducible repeat (first | refine blk_drewN ?_ _ | refine blk_drew ?_ | refine blk_alloc ?_ _)); refine blk_far ?_ (by have h_ := Kd.R_ne HO_305000.out BK304.out (by decide); intro e_; exact h_ (by rw [e_]; rfl)) _; (with_reducible repeat (first | refine blk_drewN ?_ _ | refine blk_drew ?_ | refine blk_alloc ?_ _)); exact BK304.out⟩
     have n5_ : Aside0 (IsS91 w0 (w65.setCell ⟨go54, (t313 : Int).toNat * 12, none⟩ (.int .i64 t321)) g s0_0 t322) := ⟨by repeat (first | (with_reducible first | exact HI0.out | apply IsS91.alloc | apply IsS91.drewN | apply IsS91.drew | apply IsS91.set_1 | refine IsS91.far ?_ HN0_go54.out _ | refine IsS91.far ?_ NB0_296.out _ | refine IsS91.far ?_ NB0_304.out _) | exact HI0.out)⟩
     have n6_ : Aside0 (KeepBut w (w65.setCell ⟨go54, (t313 : Int).toNat * 12, none⟩ (.int .i64 t321)) g none) := ⟨by repeat (first | (with_reducible first | exact HK.out | apply KeepBut.set_ | apply keep_drewN | apply keep_drew | apply keep_alloc | refine keep_far ?_ GB54.out _ | refine keep_far ?_ GW296.out _ | refine keep_far ?_ GW304.out _) | exact HK.out)⟩
     have n7_ : Aside0 (Below w0.heap.size w0 (w65.setCell ⟨go54, (t313 : Int).toNat * 12, none⟩ (.int .i64 t321))) := ⟨by repeat (first | (with_reducible first | exact HB.out | apply below_alloc | apply pw_below_drewN | apply below_drew1 | refine below_set ?_ (Nat.le_trans HL.out GB54.out) | refine below_set ?_ (IsS91.ge HI0.out) | refine below_set ?_ GE296.out | refine below_set ?_ GE304.out) | exact HB.out)⟩
     (try clear HO_305000)
     (try clear HO_305001)
     (try clear HO320)
     (try clear BK296)
     (try clear BK304)
     (try clear HI0)
     (try clear HK)
     (try clear HB)
     generalize (w65.setCell ⟨go54, (t313 : Int).toNat * 12, none⟩ (.int .i64 t321)) = w67 at n0_ n1_ n2_ n3_ n4_ n5_ n6_ n7_ ⊢
     have HO_305000 := n0_
     have HO_305001 := n1_
     have HO320 := n2_
     have BK296 := n3_
     have BK304 := n4_
     have HI0 := n5_
     have HK := n6_
     have HB := n7_
     clear n0_ n1_ n2_ n3_ n4_ n5_ n6_ n7_
     have hcz68_0 : w67.cell? ⟨gb304, 0, none⟩ = some (.slice (some ⟨go54, 0, none⟩) x305000_3.length co58) := (blk_cell BK304.out 0).trans rfl
     have hcz68_1 : w67.cell? ⟨gb304, 1, none⟩ = some (u305001) := (blk_cell BK304.out 1).trans rfl
     have hfz68_0 := blk_frozen BK304.out 0
     have hfz68_1 := blk_frozen BK304.out 1
     have hnb69 := NB296_0.out
     have hnc69 := NB0_296.out
     have hcz70_0 : w67.cell? ⟨gb296, 0, none⟩ = some (.slice none 0 0) := (blk_cell BK296.out 0).trans rfl
     have hcz70_1 : w67.cell? ⟨gb296, 1, none⟩ = some (.slice none 0 0) := (blk_cell BK296.out 1).trans rfl
     have hfz70_0 := blk_frozen BK296.out 0
     have hfz70_1 := blk_frozen BK296.out 1
     obtain ⟨Ao71, co71, eo71⟩ := Kd.R_slice HO_305001.out
     subst eo71
     try go_wp2
     refine bodyPost_ret (results_cell_row rfl _ _ gb296 32 #[.slice (some ⟨go54, 0, none⟩) x305000_3.length co58, .slice Ao71 x305001_3.length co71] (0, 0) _ rfl (by (with_reducible repeat (first | refine blk_drewN ?_ _ | refine blk_drew ?_ | refine blk_alloc ?_ _)); refine blk_put (cs := #[.slice (some ⟨go54, 0, none⟩) x305000_3.length co58, .slice none 0 0]) ?_ 1 _ rfl; (with_reducible repeat (first | refine blk_drewN ?_ _ | refine blk_drew ?_ | refine blk_alloc ?_ _)); refine blk_put (cs := #[.slice none 0 0, .slice none 0 0]) ?_ 0 _ rfl; (with_reducible repeat (first | refine blk_drewN ?_ _ | refine blk_drew ?_ | refine blk_alloc ?_ _)); exact BK296.out) Try.underlying32 rfl (by kernel_rfl)) rfl ?_
     exact ⟨_, _, by first | rfl | (simp [errW_none, errW_some] <;> rfl) | (simp [*, errW_none, errW_some] <;> rfl), by (with_reducible repeat (first | apply Kd.R_alloc | apply Kd.R_drewN | apply Kd.R_drew)); exact Kd.R_mono (Kd.R_far (p := ⟨gb296, 1, none⟩) (Kd.R_far (p := ⟨gb296, 0, none⟩) (Kd.R_types HO_305000.out BK296.out (by decide)) (fun _ hk => hk.2) (.slice (some ⟨go54, 0, none⟩) x305000_3.length co58)) (fun _ hk => hk.2) (.slice Ao71 x305001_3.length co71)) (fun _ hk => trivial), by (with_reducible repeat (first | apply Kd.R_alloc | apply Kd.R_drewN | apply Kd.R_drew)); exact Kd.R_mono (Kd.R_far (p := ⟨gb296, 1, none⟩) (Kd.R_far (p := ⟨gb296, 0, none⟩) (Kd.R_types HO_305001.out BK296.out (by decide)) (fun _ hk => hk.2) (.slice (some ⟨go54, 0, none⟩) x305000_3.length co58)) (fun _ hk => hk.2) (.slice Ao71 x305001_3.length co71)) (fun _ hk => trivial), by repeat (first | (with_reducible first | exact HI0.out | apply IsS91.alloc | apply IsS91.drewN | apply IsS91.drew | apply IsS91.set_1 | refine IsS91.far ?_ NB0_296.out _ | refine IsS91.far ?_ NB0_304.out _) | exact HI0.out), by repeat (first | (with_reducible first | exact HB.out | apply below_alloc | apply pw_below_drewN | apply below_drew1 | refine below_set ?_ (IsS91.ge HI0.out) | refine below_set ?_ GE296.out | refine below_set ?_ GE304.out) | exact HB.out), by repeat (first | (with_reducible first | exact HK.out | apply KeepBut.set_ | apply keep_drewN | apply keep_drew | apply keep_alloc | refine keep_far ?_ GW296.out _ | refine keep_far ?_ GW304.out _) | exact HK.out)⟩
   rw [if_neg c50] at H
   have c50b0 : (t315 == 1) = false := beq_eq_false_iff_ne.mpr c50
   have c50b1 : (t315 != 1) = true := bne_iff_ne.mpr c50
   by_cases c72 : t315 = 2
   · rw [if_pos c72] at H
     have c72b0 : (t315 == 2) = true := beq_iff_eq.mpr c72
     have c72b1 : (t315 != 2) = false := bne_eq_false_iff_eq.mpr c72
     clear c72
     obtain ⟨y324, hy324⟩ : ∃ y_ : List Int, y_ = (([(-1), 1, 1001] : List Int)) := ⟨_, rfl⟩
     replace H : ((spec_l12Rd_num.f kj3 s0_0 t316 y324).bind fun bt327 => (if 0 ≤ t313 then (if t313 < (x305000_3.length : Int) then (some ((x305000_3.set (t313 : Int).toNat (⟨(rd_T48 x305000_3 t313).f0, bt327.1, (⟨(rd_T48 x305000_3 t313).f2.f0, (rd_T48 x305000_3 t313).f2.f1, (⟨(rd_T48 x305000_3 t313).f2.f2.f0, (rd_T48 x305000_3 t313).f2.f2.f1⟩ : S44), (rd_T48 x305000_3 t313).f2.f3⟩ : S46), (⟨(rd_T48 x305000_3 t313).f3.f0, (rd_T48 x305000_3 t313).f3.f1, (⟨(rd_T48 x305000_3 t313).f3.f2.f0, (rd_T48 x305000_3 t313).f3.f2.f1⟩ : S44), (rd_T48 x305000_3 t313).f3.f3⟩ : S46)⟩ : S48)), x305001_3, bt327.2)) else (none)) else (none))) = some (r1, r2, r3) := by first | (rw [hy324]; with_reducible exact H) | (have H2_ := (Option.bind_some _ _).symm.trans H; rw [hy324]; with_reducible exact H2_) | (have H2_ := (Option.bind_some _ _).symm.trans H; with_reducible exact H2_) | with_reducible exact H | (rw [hy324]; exact H) | exact H
     have Ny324 := Aside0.mk hy324
     clear hy324
     replace H := Option.bind_eq_some_iff.mp H
     obtain ⟨⟨t327, t328⟩, A730, H⟩ := H
     replace H : (if 0 ≤ t313 then (if t313 < (x305000_3.length : Int) then (some ((x305000_3.set (t313 : Int).toNat (⟨(rd_T48 x305000_3 t313).f0, t327, (⟨(rd_T48 x305000_3 t313).f2.f0, (rd_T48 x305000_3 t313).f2.f1, (⟨(rd_T48 x305000_3 t313).f2.f2.f0, (rd_T48 x305000_3 t313).f2.f2.f1⟩ : S44), (rd_T48 x305000_3 t313).f2.f3⟩ : S46), (⟨(rd_T48 x305000_3 t313).f3.f0, (rd_T48 x305000_3 t313).f3.f1, (⟨(rd_T48 x305000_3 t313).f3.f2.f0, (rd_T48 x305000_3 t313).f3.f2.f1⟩ : S44), (rd_T48 x305000_3 t313).f3.f3⟩ : S46)⟩ : S48)), x305001_3, t328)) else (none)) else (none)) = some (r1, r2, r3) := H
     have A73 := Aside0.mk A730
     clear A730
     by_cases c74 : 0 ≤ t313
     rotate_left
     · rw [if_neg c74] at H
       exact absurd H (by simp)
     rw [if_pos c74] at H
     have c74b0 : decide (0 ≤ t313) = true := decide_eq_true c74
     clear c74
     by_cases c75 : t313 < (x305000_3.length : Int)
     rotate_left
     · rw [if_neg c75] at H
       exact absurd H (by simp)
     rw [if_pos c75] at H
     have c75b0 : decide (t313 < (x305000_3.length : Int)) = true := decide_eq_true c75
     clear c75
     obtain ⟨y329, hy329⟩ : ∃ y_ : List (S48), y_ = (x305000_3.set (t313 : Int).toNat (⟨(rd_T48 x305000_3 t313).f0, t327, (⟨(rd_T48 x305000_3 t313).f2.f0, (rd_T48 x305000_3 t313).f2.f1, (⟨(rd_T48 x305000_3 t313).f2.f2.f0, (rd_T48 x305000_3 t313).f2.f2.f1⟩ : S44), (rd_T48 x305000_3 t313).f2.f3⟩ : S46), (⟨(rd_T48 x305000_3 t313).f3.f0, (rd_T48 x305000_3 t313).f3.f1, (⟨(rd_T48 x305000_3 t313).f3.f2.f0, (rd_T48 x305000_3 t313).f3.f2.f1⟩ : S44), (rd_T48 x305000_3 t313).f3.f3⟩ : S46)⟩ : S48)) := ⟨_, rfl⟩
     replace H : (some (y329, x305001_3, t328)) = some (r1, r2, r3) := by first | (rw [hy329]; with_reducible exact H) | (have H2_ := (Option.bind_some _ _).symm.trans H; rw [hy329]; with_reducible exact H2_) | (have H2_ := (Option.bind_some _ _).symm.trans H; with_reducible exact H2_) | with_reducible exact H | (rw [hy329]; exact H) | exact H
     have Ny329 := Aside0.mk hy329
     clear hy329
     simp only [Option.some.injEq, Prod.mk.injEq] at H
     obtain ⟨rfl, rfl, rfl⟩ := H
     have hnb77 := NB304_296.out
     have hnc77 := NB296_304.out
     have hnb78 := NB304_0.out
     have hnc78 := NB0_304.out
     have hcz79_0 : wc.cell? ⟨gb304, 0, none⟩ = some (u305000) := (blk_cell BK304.out 0).trans rfl
     have hcz79_1 : wc.cell? ⟨gb304, 1, none⟩ = some (u305001) := (blk_cell BK304.out 1).trans rfl
     have hfz79_0 := blk_frozen BK304.out 0
     have hfz79_1 := blk_frozen BK304.out 1
     obtain ⟨Ao80, co80, eo80⟩ := Kd.R_slice HO_305000.out
     subst eo80
     try go_wp2_with (first | ((with_reducible refine gate_callee (f := 51) rfl ?_); refine goesL_ (some 21) rfl rfl Try.func51 (by kernel_rfl) rfl #[.pointer (some ⟨g, 0, none⟩), .int .i64 (x305000_3.length : Int)] rfl (by (try simp only [List.map_toArray, List.map_cons, List.map_nil]); first | done | rfl | (simp only [List.length_drop, List.length_take]; rfl)) ?_; (with_reducible refine (spec_l12Rd_pick.calls kj3 g s0_0 t306 (x305000_3.length : Int) t313 t314 w0 _ ?side1 ?side2 A31.out).mono ?_); (case side1 => repeat (first | (with_reducible first | exact HI0.out | apply IsS91.alloc | apply IsS91.drewN | apply IsS91.drew | apply IsS91.set_1 | refine IsS91.far ?_ NB0_296.out _ | refine IsS91.far ?_ NB0_304.out _) | exact HI0.out)); (case side2 => repeat (first | (with_reducible first | exact HB.out | apply below_alloc | apply pw_below_drewN | apply below_drew1 | refine below_set ?_ (IsS91.ge HI0.out) | refine below_set ?_ GE296.out | refine below_set ?_ GE304.out) | exact HB.out)); rintro e w81 ⟨rfl, hi, hb, hk⟩; refine ⟨_, rfl, ?_⟩; have n0_ := Aside0.mk (Kd.R_mono (Kd.R_keep (IsS91.apart (show IsS91 w0 _ g s0_0 t306 from by repeat (first | (with_reducible first | exact HI0.out | apply IsS91.alloc | apply IsS91.drewN | apply IsS91.drew | apply IsS91.set_1 | refine IsS91.far ?_ NB0_296.out _ | refine IsS91.far ?_ NB0_304.out _) | exact HI0.out)) (by (with_reducible repeat (first | apply Kd.R_alloc | apply Kd.R_drewN | apply Kd.R_drew)); exact HO_305000.out) (by decide)) hk (fun _ h => h.2)) (fun _ h => h.1)); have n1_ := Aside0.mk (Kd.R_mono (Kd.R_keep (IsS91.apart (show IsS91 w0 _ g s0_0 t306 from by repeat (first | (with_reducible first | exact HI0.out | apply IsS91.alloc | apply IsS91.drewN | apply IsS91.drew | apply IsS91.set_1 | refine IsS91.far ?_ NB0_296.out _ | refine IsS91.far ?_ NB0_304.out _) | exact HI0.out)) (by (with_reducible repeat (first | apply Kd.R_alloc | apply Kd.R_drewN | apply Kd.R_drew)); exact HO_305001.out) (by decide)) hk (fun _ h => h.2)) (fun _ h => h.1)); have n2_ := Aside0.mk (KeepBut.blk hk (g' := gb296) (o := .cells #[.slice none 0 0, .slice none 0 0] 32 (0, 0)) (by (with_reducible repeat (first | refine blk_drewN ?_ _ | refine blk_drew ?_ | refine blk_alloc ?_ _)); exact BK296.out) NB296_0.out (by simp)); have n3_ := Aside0.mk (KeepBut.blk hk (g' := gb304) (o := .cells #[.slice Ao80 x305000_3.length co80, u305001] 32 (0, 0)) (by (with_reducible repeat (first | refine blk_drewN ?_ _ | refine blk_drew ?_ | refine blk_alloc ?_ _)); exact BK304.out) NB304_0.out (by simp)); have n4_ := Aside0.mk (KeepBut.trans (by repeat (first | (with_reducible first | exact HK.out | apply KeepBut.set_ | apply keep_drewN | apply keep_drew | apply keep_alloc | refine keep_far ?_ GW296.out _ | refine keep_far ?_ GW304.out _) | exact HK.out)) hk (.inl rfl)); have n5_ := Aside0.mk (hb); have n6_ := Aside0.mk (hi); clear HO_305000; clear HO_305001; clear BK296; clear BK304; clear HK; clear HB; clear HI0; have HO_305000 := n0_; have HO_305001 := n1_; have BK296 := n2_; have BK304 := n3_; have HK := n4_; have HB := n5_; have HI0 := n6_; clear n0_ n1_ n2_ n3_ n4_ n5_ n6_; (try clear hb); (try clear hb2); (try clear hk); (try clear hi)) | ((with_reducible refine gate_callee (f := 51) rfl ?_); refine goesL_ (some 23) rfl rfl Try.func51 (by kernel_rfl) rfl #[.pointer (some ⟨g, 0, none⟩), .int .i64 40] rfl (by (try simp only [List.map_toArray, List.map_cons, List.map_nil]); first | done | rfl | (simp only [List.length_drop, List.length_take]; rfl)) ?_; (with_reducible refine (spec_l12Rd_pick.calls kj3 g s0_0 t314 40 t315 t316 w0 _ ?side1 ?side2 A32.out).mono ?_); (case side1 => repeat (first | (with_reducible first | exact HI0.out | apply IsS91.alloc | apply IsS91.drewN | apply IsS91.drew | apply IsS91.set_1 | refine IsS91.far ?_ NB0_296.out _ | refine IsS91.far ?_ NB0_304.out _) | exact HI0.out)); (case side2 => repeat (first | (with_reducible first | exact HB.out | apply below_alloc | apply pw_below_drewN | apply below_drew1 | refine below_set ?_ (IsS91.ge HI0.out) | refine below_set ?_ GE296.out | refine below_set ?_ GE304.out) | exact HB.out)); rintro e w82 ⟨rfl, hi, hb, hk⟩; refine ⟨_, rfl, ?_⟩; have n0_ := Aside0.mk (Kd.R_mono (Kd.R_keep (IsS91.apart (show IsS91 w0 _ g s0_0 t314 from by repeat (first | (with_reducible first | exact HI0.out | apply IsS91.alloc | apply IsS91.drewN | apply IsS91.drew | apply IsS91.set_1 | refine IsS91.far ?_ NB0_296.out _ | refine IsS91.far ?_ NB0_304.out _) | exact HI0.out)) (by (with_reducible repeat (first | apply Kd.R_alloc | apply Kd.R_drewN | apply Kd.R_drew)); exact HO_305000.out) (by decide)) hk (fun _ h => h.2)) (fun _ h => h.1)); have n1_ := Aside0.mk (Kd.R_mono (Kd.R_keep (IsS91.apart (show IsS91 w0 _ g s0_0 t314 from by repeat (first | (with_reducible first | exact HI0.out | apply IsS91.alloc | apply IsS91.drewN | apply IsS91.drew | apply IsS91.set_1 | refine IsS91.far ?_ NB0_296.out _ | refine IsS91.far ?_ NB0_304.out _) | exact HI0.out)) (by (with_reducible repeat (first | apply Kd.R_alloc | apply Kd.R_drewN | apply Kd.R_drew)); exact HO_305001.out) (by decide)) hk (fun _ h => h.2)) (fun _ h => h.1)); have n2_ := Aside0.mk (KeepBut.blk hk (g' := gb296) (o := .cells #[.slice none 0 0, .slice none 0 0] 32 (0, 0)) (by (with_reducible repeat (first | refine blk_drewN ?_ _ | refine blk_drew ?_ | refine blk_alloc ?_ _)); exact BK296.out) NB296_0.out (by simp)); have n3_ := Aside0.mk (KeepBut.blk hk (g' := gb304) (o := .cells #[.slice Ao80 x305000_3.length co80, u305001] 32 (0, 0)) (by (with_reducible repeat (first | refine blk_drewN ?_ _ | refine blk_drew ?_ | refine blk_alloc ?_ _)); exact BK304.out) NB304_0.out (by simp)); have n4_ := Aside0.mk (KeepBut.trans (by repeat (first | (with_reducible first | exact HK.out | apply KeepBut.set_ | apply keep_drewN | apply keep_drew | apply keep_alloc | refine keep_far ?_ GW296.out _ | refine keep_far ?_ GW304.out _) | exact HK.out)) hk (.inl rfl)); have n5_ := Aside0.mk (hb); have n6_ := Aside0.mk (hi); clear HO_305000; clear HO_305001; clear BK296; clear BK304; clear HK; clear HB; clear HI0; have HO_305000 := n0_; have HO_305001 := n1_; have BK296 := n2_; have BK304 := n3_; have HK := n4_; have HB := n5_; have HI0 := n6_; clear n0_ n1_ n2_ n3_ n4_ n5_ n6_; (try clear hb); (try clear hb2); (try clear hk); (try clear hi)))
     have n0_ := Aside0.mk (Kd.R_drew HO_305000.out)
     have n1_ := Aside0.mk (Kd.R_drew HO_305001.out)
     have n2_ := Aside0.mk (blk_drew BK296.out)
     have n3_ := Aside0.mk (blk_drew BK304.out)
     have n4_ := Aside0.mk (IsS91.drew HI0.out)
     have n5_ := Aside0.mk (keep_drew HK.out)
     have n6_ := Aside0.mk (below_drew1 HB.out)
     clear HO_305000
     clear HO_305001
     clear BK296
     clear BK304
     clear HI0
     clear HK
     clear HB
     have HO_305000 := n0_
     have HO_305001 := n1_
     have BK296 := n2_
     have BK304 := n3_
     have HI0 := n4_
     have HK := n5_
     have HB := n6_
     clear n0_ n1_ n2_ n3_ n4_ n5_ n6_
     refine start_ (n := 9) (S := fun w' => w'.cell? ⟨gb304, 0, none⟩ = some (.slice Ao80 x305000_3.length co80) ∧ w'.cell? ⟨gb304, 1, none⟩ = some (u305001)) (ds := [8]) #[false, false, false, false, false, false, false, false, false] (by kernel_rfl) rfl rfl ⟨(blk_cell BK304.out 0).trans rfl, (blk_cell BK304.out 1).trans rfl⟩ (fun hHeld => ?_); refine with_tabW spec_l7Bent.tab13 spec_l7Bent.bits13 (fun HT_ HW_ => ?_)
     generalize w82.drew = w83 at HO_305000 HO_305001 BK296 BK304 HI0 HK HB hHeld ⊢
     refine pure_ (i := 0) (N := some 45) (v := ?_) (a' := ?_) #[true, false, false, false, false, false, false, false, false] rfl rfl (any_of HT_.out (by kernel_rfl)) (fun _ _ _ h => h) (Or.inl ⟨by rfl, ?_⟩) ?_ ?_
     rotate_left
     · intro w'
       go_simp
       with_reducible rfl
     rotate_left
     · simp only [Act.put, List.setIfInBounds_toArray, List.set_cons_zero, List.set_cons_succ, i64_w, i32_w]
       rfl
     refine pure_ (i := 2) (N := some 47) (v := ?_) (a' := ?_) #[true, false, true, false, false, false, false, false, false] rfl rfl (any_of HT_.out (by kernel_rfl)) (fun _ _ _ h => h) (Or.inl ⟨by rfl, ?_⟩) ?_ ?_
     rotate_left
     · intro w'
       go_simp
       with_reducible rfl
     rotate_left
     · simp only [Act.put, List.setIfInBounds_toArray, List.set_cons_zero, List.set_cons_succ, i64_w, i32_w]
       rfl
     refine pure_ (i := 3) (N := some 48) (v := ?_) (a' := ?_) #[true, false, true, true, false, false, false, false, false] rfl rfl (any_of HT_.out (by kernel_rfl)) (fun _ _ _ h => h) (Or.inl ⟨by rfl, ?_⟩) ?_ ?_
     rotate_left
     · intro w'
       go_simp
       with_reducible rfl
     rotate_left
     · simp only [Act.put, List.setIfInBounds_toArray, List.set_cons_zero, List.set_cons_succ, i64_w, i32_w]
       rfl
     refine take_ (i := 1) (N := some 46) (v := ?_) (a' := ?_) #[true, true, true, true, false, false, false, false, false] rfl rfl (take_ofW HT_.out HW_.out (by kernel_rfl)) (fun _ _ _ h => h) (Or.inl ⟨by rfl, ?_⟩) hHeld ?_ ?_
     rotate_left
     · rintro w' ⟨s0, s1⟩
       go_simp
       with_reducible rfl
     rotate_left
     · simp only [Act.put, List.setIfInBounds_toArray, List.set_cons_zero, List.set_cons_succ, i64_w, i32_w]
       rfl
     refine one_ (i := 4) (N := some 49) #[true, true, true, true, true, false, false, false, false] rfl rfl (one_of HT_.out (by kernel_rfl)) (by decide) (fun K hK => ?_)
     refine Kd.R_lit_step (Kd.int .i64) _ 3 ?hg (N := 49) ?hd (xs := ([(-1), 1, 1001] : List Int)) (inner := [.int .i64 (-1), .int .i64 1, .int .i64 1001]) (ok := fun _ => True) (okp := fun _ => True) ?hr ?hp (fun _ hk => hk) trivial (Below.refl _ _) (Nat.le_refl _) (by simp) ?_; (case hd => rfl); (case hg => rfl); (case hr => first | (go_simp; done) | (go_simp; rfl)); (case hp => exact (Reps.one (show Kd.M (Kd.int .i64) _ _ _ (-1) [.int .i64 (-1)] from rfl) (Reps.one (show Kd.M (Kd.int .i64) _ _ _ 1 [.int .i64 1] from rfl) (Reps.one (show Kd.M (Kd.int .i64) _ _ _ 1001 [.int .i64 1001] from rfl) (Reps.none _ _)))))
     intro v325 w84 ho85 hb hg_ hnew_
     clear hg_ hnew_
     (first | rw [← Ny324.out] at ho85 | (simp only [Int.reduceToNat] at ho85; rw [← Ny324.out] at ho85))
     have n0_ := Aside0.mk (Kd.R_below (by (with_reducible repeat (first | apply Kd.R_alloc | apply Kd.R_drewN | apply Kd.R_drew)); exact HO_305000.out) hb)
     have n1_ := Aside0.mk (Kd.R_below (by (with_reducible repeat (first | apply Kd.R_alloc | apply Kd.R_drewN | apply Kd.R_drew)); exact HO_305001.out) hb)
     have n2_ := Aside0.mk (Kd.R_lower ho85 (keep_size (w := w) (g := g) (row := none) (by repeat (first | (with_reducible first | exact HK.out | apply KeepBut.set_ | apply keep_drewN | apply keep_drew | apply keep_alloc | refine keep_far ?_ GW296.out _ | refine keep_far ?_ GW304.out _) | exact HK.out))))
     have n3_ := Aside0.mk (blk_below (g := gb296) (o := .cells #[.slice none 0 0, .slice none 0 0] 32 (0, 0)) (by (with_reducible repeat (first | refine blk_drewN ?_ _ | refine blk_drew ?_ | refine blk_alloc ?_ _)); exact BK296.out) hb)
     have n4_ := Aside0.mk (blk_below (g := gb304) (o := .cells #[.slice Ao80 x305000_3.length co80, u305001] 32 (0, 0)) (by (with_reducible repeat (first | refine blk_drewN ?_ _ | refine blk_drew ?_ | refine blk_alloc ?_ _)); exact BK304.out) hb)
     have n5_ := Aside0.mk (IsS91.below (by repeat (first | (with_reducible first | exact HI0.out | apply IsS91.alloc | apply IsS91.drewN | apply IsS91.drew | apply IsS91.set_1 | refine IsS91.far ?_ NB0_296.out _ | refine IsS91.far ?_ NB0_304.out _) | exact HI0.out)) hb)
     have n6_ := Aside0.mk (KeepBut.trans (by repeat (first | (with_reducible first | exact HK.out | apply KeepBut.set_ | apply keep_drewN | apply keep_drew | apply keep_alloc | refine keep_far ?_ GW296.out _ | refine keep_far ?_ GW304.out _) | exact HK.out)) (KeepBut.of_below hb g none) (.inl rfl))
     have n7_ := Aside0.mk (below_step (by repeat (first | (with_reducible first | exact HB.out | apply below_alloc | apply pw_below_drewN | apply below_drew1 | refine below_set ?_ (IsS91.ge HI0.out) | refine below_set ?_ GE296.out | refine below_set ?_ GE304.out) | exact HB.out)) hb)
     clear HO_305000
     clear HO_305001
     clear BK296
     clear BK304
     clear HI0
     clear HK
     clear HB
     have HO_305000 := n0_
     have HO_305001 := n1_
     have HO326 := n2_
     have BK296 := n3_
     have BK304 := n4_
     have HI0 := n5_
     have HK := n6_
     have HB := n7_
     clear n0_ n1_ n2_ n3_ n4_ n5_ n6_ n7_
     clear hb ho85
     obtain ⟨Ao86, co86, eo86⟩ := Kd.R_slice HO326.out
     (first | subst eo86 | (injection eo86 with f1_ f2_ f3_; have f4_ := f1_.symm; have f5_ := f3_.symm; clear f1_ f2_ f3_; subst f4_; subst f5_))
     refine hK.out _ _ ⟨(blk_cell BK304.out 0).trans rfl, (blk_cell BK304.out 1).trans rfl⟩ (fun hHeld => ?_)
     clear hK K
     refine norm_ (a' := ?_) ?_ ?_
     rotate_left
     · show Act.put _ (some 49) _ = _
       simp only [Act.put, List.setIfInBounds_toArray, List.set_cons_zero, List.set_cons_succ, i64_w, i32_w]
       rfl
     refine one_ (i := 5) (N := some 50) #[true, true, true, true, true, true, false, false, false] rfl rfl (one_of HT_.out (by kernel_rfl)) (by decide) (fun K hK => ?_)
     refine goes_ Try.func53 (by kernel_rfl) rfl #[.pointer (some ⟨g, 0, none⟩), .slice Ao86 y324.length co86] (by rfl) rfl rfl (by (try simp only [List.map_toArray, List.map_cons, List.map_nil]); first | done | rfl | (simp only [List.length_drop, List.length_take]; rfl)) ?_
     with_reducible refine (spec_l12Rd_num.calls kj3 g s0_0 t316 _ _ y324 t327 t328 w0 _ ?side1 ?side2 ?side3 ?side4 ?side5 A73.out).mono ?_
     (case side1 => repeat (first | (with_reducible first | exact HI0.out | apply IsS91.alloc | apply IsS91.drewN | apply IsS91.drew | apply IsS91.set_1 | refine IsS91.far ?_ NB0_296.out _ | refine IsS91.far ?_ NB0_304.out _) | exact HI0.out))
     (case side2 => repeat (first | (with_reducible first | exact HB.out | apply below_alloc | apply pw_below_drewN | apply below_drew1 | refine below_set ?_ (IsS91.ge HI0.out) | refine below_set ?_ GE296.out | refine below_set ?_ GE304.out) | exact HB.out))
     (case side3 => repeat (first | exact (Kd.R_reads' HO326.out).2.2 | (with_reducible refine Kd.C_alloc ?_ _) | (with_reducible refine Kd.C_drewN ?_ _) | (with_reducible refine Kd.C_drew ?_)))
     (case side4 => exact (Kd.R_reads' HO326.out).2.1)
     (case side5 => exact far_slice (IsS91.own_ne HI0.out HO326.out (by decide)))
     rintro e w87 ⟨rfl, hi, hb, hk⟩
     refine ⟨_, rfl, ?_⟩
     have n0_ := Aside0.mk (Kd.R_mono (Kd.R_keep (IsS91.apart (show IsS91 w0 _ g s0_0 t316 from by repeat (first | (with_reducible first | exact HI0.out | apply IsS91.alloc | apply IsS91.drewN | apply IsS91.drew | apply IsS91.set_1 | refine IsS91.far ?_ NB0_296.out _ | refine IsS91.far ?_ NB0_304.out _) | exact HI0.out)) (by (with_reducible repeat (first | apply Kd.R_alloc | apply Kd.R_drewN | apply Kd.R_drew)); exact HO_305000.out) (by decide)) hk (fun _ h => h.2)) (fun _ h => h.1))
     have n1_ := Aside0.mk (Kd.R_mono (Kd.R_keep (IsS91.apart (show IsS91 w0 _ g s0_0 t316 from by repeat (first | (with_reducible first | exact HI0.out | apply IsS91.alloc | apply IsS91.drewN | apply IsS91.drew | apply IsS91.set_1 | refine IsS91.far ?_ NB0_296.out _ | refine IsS91.far ?_ NB0_304.out _) | exact HI0.out)) (by (with_reducible repeat (first | apply Kd.R_alloc | apply Kd.R_drewN | apply Kd.R_drew)); exact HO_305001.out) (by decide)) hk (fun _ h => h.2)) (fun _ h => h.1))
     have n2_ := Aside0.mk (KeepBut.blk hk (g' := gb296) (o := .cells #[.slice none 0 0, .slice none 0 0] 32 (0, 0)) (by (with_reducible repeat (first | refine blk_drewN ?_ _ | refine blk_drew ?_ | refine blk_alloc ?_ _)); exact BK296.out) NB296_0.out (by simp))
     have n3_ := Aside0.mk (KeepBut.blk hk (g' := gb304) (o := .cells #[.slice Ao80 x305000_3.length co80, u305001] 32 (0, 0)) (by (with_reducible repeat (first | refine blk_drewN ?_ _ | refine blk_drew ?_ | refine blk_alloc ?_ _)); exact BK304.out) NB304_0.out (by simp))
     have n4_ := Aside0.mk (Kd.R_mono (Kd.R_keep (IsS91.apart (show IsS91 w0 _ g s0_0 t316 from by repeat (first | (with_reducible first | exact HI0.out | apply IsS91.alloc | apply IsS91.drewN | apply IsS91.drew | apply IsS91.set_1 | refine IsS91.far ?_ NB0_296.out _ | refine IsS91.far ?_ NB0_304.out _) | exact HI0.out)) (by (with_reducible repeat (first | apply Kd.R_alloc | apply Kd.R_drewN | apply Kd.R_drew)); exact HO326.out) (by decide)) hk (fun _ h => h.2)) (fun _ h => h.1))
     have n5_ := Aside0.mk (KeepBut.trans (by repeat (first | (with_reducible first | exact HK.out | apply KeepBut.set_ | apply keep_drewN | apply keep_drew | apply keep_alloc | refine keep_far ?_ GW296.out _ | refine keep_far ?_ GW304.out _) | exact HK.out)) hk (.inl rfl))
     have n6_ := Aside0.mk (hb)
     have n7_ := Aside0.mk (hi)
     clear HO_305000
     clear HO_305001
     clear BK296
     clear BK304
     clear HO326
     clear HK
     clear HB
     clear HI0
     have HO_305000 := n0_
     have HO_305001 := n1_
     have BK296 := n2_
     have BK304 := n3_
     have HO326 := n4_
     have HK := n5_
     have HB := n6_
     have HI0 := n7_
     clear n0_ n1_ n2_ n3_ n4_ n5_ n6_ n7_
     (try clear hb)
     (try clear hb2)
     (try clear hk)
     (try clear hi)
     have p76 : 0 ≤ (t313 : Int) := of_decide_eq_true (by first | (with_reducible assumption) | assumption)
     have q76 : (t313 : Int) < ((x305000_3.length : Int) : Int) := of_decide_eq_true (by first | (with_reducible assumption) | assumption)
     obtain ⟨go76, co76, eo76, gb76, gl76, cl76, HG76⟩ := Kd.R_form HO_305000.out (by omega)
     (first | cases eo76 | (injection eo76 with ea_ en_ ec_; (first | subst ea_ | (injection ea_ with ea_; subst ea_)); subst ec_; clear en_))
     have GB76 := Aside0.mk gb76
     have GG76 := Aside0.mk HG76
     clear gb76 gl76 HG76
     obtain ⟨ce76, hcl76, hM76, hcc76, hfr76⟩ := Kd.R_elem HO_305000.out z48 (t313 : Int) p76 q76
     obtain rfl := k48_openM hM76
     have hx76_0 : World.cell? _ ⟨go76, (t313 : Int).toNat * 12, none⟩ = some (.int .i64 ((rd_T48 x305000_3 t313).f0)) := hcc76 0 _ rfl
     have hx76_1 : World.cell? _ ⟨go76, (t313 : Int).toNat * 12 + 1, none⟩ = some (.int .i64 ((rd_T48 x305000_3 t313).f1)) := hcc76 1 _ rfl
     have hx76_2 : World.cell? _ ⟨go76, (t313 : Int).toNat * 12 + 2, none⟩ = some (.int .i64 ((rd_T48 x305000_3 t313).f2.f0)) := hcc76 2 _ rfl
     have hx76_3 : World.cell? _ ⟨go76, (t313 : Int).toNat * 12 + 3, none⟩ = some (.int .i64 ((rd_T48 x305000_3 t313).f2.f1)) := hcc76 3 _ rfl
     have hx76_4 : World.cell? _ ⟨go76, (t313 : Int).toNat * 12 + 4, none⟩ = some (.int .i64 ((rd_T48 x305000_3 t313).f2.f2.f0)) := hcc76 4 _ rfl
     have hx76_5 : World.cell? _ ⟨go76, (t313 : Int).toNat * 12 + 5, none⟩ = some (.int .i64 ((rd_T48 x305000_3 t313).f2.f2.f1)) := hcc76 5 _ rfl
     have hx76_6 : World.cell? _ ⟨go76, (t313 : Int).toNat * 12 + 6, none⟩ = some (.bool ((rd_T48 x305000_3 t313).f2.f3)) := hcc76 6 _ rfl
     have hx76_7 : World.cell? _ ⟨go76, (t313 : Int).toNat * 12 + 7, none⟩ = some (.int .i64 ((rd_T48 x305000_3 t313).f3.f0)) := hcc76 7 _ rfl
     have hx76_8 : World.cell? _ ⟨go76, (t313 : Int).toNat * 12 + 8, none⟩ = some (.int .i64 ((rd_T48 x305000_3 t313).f3.f1)) := hcc76 8 _ rfl
     have hx76_9 : World.cell? _ ⟨go76, (t313 : Int).toNat * 12 + 9, none⟩ = some (.int .i64 ((rd_T48 x305000_3 t313).f3.f2.f0)) := hcc76 9 _ rfl
     have hx76_10 : World.cell? _ ⟨go76, (t313 : Int).toNat * 12 + 10, none⟩ = some (.int .i64 ((rd_T48 x305000_3 t313).f3.f2.f1)) := hcc76 10 _ rfl
     have hx76_11 : World.cell? _ ⟨go76, (t313 : Int).toNat * 12 + 11, none⟩ = some (.bool ((rd_T48 x305000_3 t313).f3.f3)) := hcc76 11 _ rfl
     have hf76_0 : World.frozen? _ ⟨go76, (t313 : Int).toNat * 12, none⟩ = false := hfr76 0
     have hf76_1 : World.frozen? _ ⟨go76, (t313 : Int).toNat * 12 + 1, none⟩ = false := hfr76 1
     have hf76_2 : World.frozen? _ ⟨go76, (t313 : Int).toNat * 12 + 2, none⟩ = false := hfr76 2
     have hf76_3 : World.frozen? _ ⟨go76, (t313 : Int).toNat * 12 + 3, none⟩ = false := hfr76 3
     have hf76_4 : World.frozen? _ ⟨go76, (t313 : Int).toNat * 12 + 4, none⟩ = false := hfr76 4
     have hf76_5 : World.frozen? _ ⟨go76, (t313 : Int).toNat * 12 + 5, none⟩ = false := hfr76 5
     have hf76_6 : World.frozen? _ ⟨go76, (t313 : Int).toNat * 12 + 6, none⟩ = false := hfr76 6
     have hf76_7 : World.frozen? _ ⟨go76, (t313 : Int).toNat * 12 + 7, none⟩ = false := hfr76 7
     have hf76_8 : World.frozen? _ ⟨go76, (t313 : Int).toNat * 12 + 8, none⟩ = false := hfr76 8
     have hf76_9 : World.frozen? _ ⟨go76, (t313 : Int).toNat * 12 + 9, none⟩ = false := hfr76 9
     have hf76_10 : World.frozen? _ ⟨go76, (t313 : Int).toNat * 12 + 10, none⟩ = false := hfr76 10
     have hf76_11 : World.frozen? _ ⟨go76, (t313 : Int).toNat * 12 + 11, none⟩ = false := hfr76 11
     clear hcl76 hcc76 hfr76 hM76
     replace p76 := eq_true p76
     replace q76 := eq_true q76
     have HN0_go76 := Aside0.mk (show g ≠ go76 from by have h_ := IsS91.own_ne HI0.out HO_305000.out (by decide); intro e_; exact h_ (by rw [e_]; rfl))
     obtain ⟨ce88, hcl88, hM88, hcc88, hfr88⟩ := Kd.R_elem HO_305000.out z48 (t313 : Int) (of_decide_eq_true (by first | (with_reducible assumption) | assumption)) (by have h_ : (t313 : Int) < ((x305000_3.length : Int) : Int) := of_decide_eq_true (by first | (with_reducible assumption) | assumption); first | exact h_ | (have e_ := (Kd.R_reads' HO_305000.out).1; omega) | simpa using h_)
     obtain rfl := k48_openM hM88
     have HP88 := (Kd.R_seg HO_305000.out (t313 : Int) (of_decide_eq_true (by first | (with_reducible assumption) | assumption)) (by have h_ : (t313 : Int) < ((x305000_3.length : Int) : Int) := of_decide_eq_true (by first | (with_reducible assumption) | assumption); first | exact h_ | (have e_ := (Kd.R_reads' HO_305000.out).1; omega) | simpa using h_) (seg := [.int .i64 t327]) (j := 1) hcl88 hcc88 (show 2 ≤ 12 from by decide) (x' := (⟨(rd_T48 x305000_3 t313).f0, t327, (⟨(rd_T48 x305000_3 t313).f2.f0, (rd_T48 x305000_3 t313).f2.f1, (⟨(rd_T48 x305000_3 t313).f2.f2.f0, (rd_T48 x305000_3 t313).f2.f2.f1⟩ : S44), (rd_T48 x305000_3 t313).f2.f3⟩ : S46), (⟨(rd_T48 x305000_3 t313).f3.f0, (rd_T48 x305000_3 t313).f3.f1, (⟨(rd_T48 x305000_3 t313).f3.f2.f0, (rd_T48 x305000_3 t313).f3.f2.f1⟩ : S44), (rd_T48 x305000_3 t313).f3.f3⟩ : S46)⟩ : S48)) (k48_mkM _ _ _ (⟨(rd_T48 x305000_3 t313).f0, t327, (⟨(rd_T48 x305000_3 t313).f2.f0, (rd_T48 x305000_3 t313).f2.f1, (⟨(rd_T48 x305000_3 t313).f2.f2.f0, (rd_T48 x305000_3 t313).f2.f2.f1⟩ : S44), (rd_T48 x305000_3 t313).f2.f3⟩ : S46), (⟨(rd_T48 x305000_3 t313).f3.f0, (rd_T48 x305000_3 t313).f3.f1, (⟨(rd_T48 x305000_3 t313).f3.f2.f0, (rd_T48 x305000_3 t313).f3.f2.f1⟩ : S44), (rd_T48 x305000_3 t313).f3.f3⟩ : S46)⟩ : S48) ) (fun _ hk => hk)).1
     rw [← Ny329.out] at HP88
     have HQ88 := Aside0.mk HP88
     clear hcl88 hcc88 hfr88 hM88 HP88
     refine hK.out _ _ ⟨(blk_cell BK304.out 0).trans rfl, (blk_cell BK304.out 1).trans rfl⟩ (fun hHeld => ?_)
     clear hK K
     refine norm_ (a' := ?_) ?_ ?_
     rotate_left
     · show Act.put _ (some 50) _ = _
       simp only [Act.put, List.setIfInBounds_toArray, List.set_cons_zero, List.set_cons_succ, i64_w, i32_w]
       rfl
     refine pure_ (i := 6) (N := some 51) (v := ?_) (a' := ?_) #[true, true, true, true, true, true, true, false, false] rfl rfl (any_of HT_.out (by kernel_rfl)) (fun _ _ _ h => h) (Or.inl ⟨by rfl, ?_⟩) ?_ ?_
     rotate_left
     · intro w'
       go_simp
       with_reducible rfl
     rotate_left
     · simp only [Act.put, List.setIfInBounds_toArray, List.set_cons_zero, List.set_cons_succ, i64_w, i32_w]
       rfl
     refine pure_ (i := 7) (N := some 52) (v := ?_) (a' := ?_) #[true, true, true, true, true, true, true, true, false] rfl rfl (any_of HT_.out (by kernel_rfl)) (fun _ _ _ h => h) (Or.inl ⟨by rfl, ?_⟩) ?_ ?_
     rotate_left
     · intro w'
       go_simp
       with_reducible rfl
     rotate_left
     · simp only [Act.put, List.setIfInBounds_toArray, List.set_cons_zero, List.set_cons_succ, i64_w, i32_w]
       rfl
     refine last_ (i := 8) (N := none) #[true, true, true, true, true, true, true, true, true] rfl rfl (one_of HT_.out (by kernel_rfl)) (by decide) (fun K hK => ?_)
     refine skip_ (w1 := ?_) (by rfl) rfl ?_ ?_
     rotate_left
     · go_simp
       rfl
     refine hK.out _ _ ?_
     clear hK K
     refine done_ (done_of HT_.out (by kernel_rfl)) ?_
     have n0_ : Aside0 (Kd.R k48 48 (w87.setCell ⟨go76, (t313 : Int).toNat * 12 + 1, none⟩ (.int .i64 t327)) w.heap.size (fun _ => True) (.slice (some ⟨go76, 0, none⟩) x305000_3.length co80) y329) := ⟨by (with_reducible repeat (first | apply Kd.R_alloc | apply Kd.R_drewN | apply Kd.R_drew)); exact HQ88.out⟩
     have n1_ : Aside0 (Kd.R k62 62 (w87.setCell ⟨go76, (t313 : Int).toNat * 12 + 1, none⟩ (.int .i64 t327)) w.heap.size (fun _ => True) u305001 x305001_3) := ⟨by (with_reducible repeat (first | apply Kd.R_alloc | apply Kd.R_drewN | apply Kd.R_drew)); exact Kd.R_mono (Kd.R_far (p := ⟨go76, (t313 : Int).toNat * 12 + 1, none⟩) (Kd.R_types HO_305001.out GG76.out (by decide)) (fun _ hk => hk.2) (.int .i64 t327)) (fun _ hk => trivial)⟩
     have n2_ : Aside0 (Kd.R (Kd.int .i64) 3 (w87.setCell ⟨go76, (t313 : Int).toNat * 12 + 1, none⟩ (.int .i64 t327)) w.heap.size (fun _ => True) (.slice Ao86 y324.length co86) y324) := ⟨by (with_reducible repeat (first | apply Kd.R_alloc | apply Kd.R_drewN | apply Kd.R_drew)); exact Kd.R_mono (Kd.R_far (p := ⟨go76, (t313 : Int).toNat * 12 + 1, none⟩) (Kd.R_types HO326.out GG76.out (by decide)) (fun _ hk => hk.2) (.int .i64 t327)) (fun _ hk => trivial)⟩
     have n3_ : Aside0 ((w87.setCell ⟨go76, (t313 : Int).toNat * 12 + 1, none⟩ (.int .i64 t327)).heap[gb296]? = some (.cells #[.slice none 0 0, .slice none 0 0] 32 (0, 0))) := ⟨by (with_reducible repeat (first | refine blk_drewN ?_ _ | refine blk_drew ?_ | refine blk_alloc ?_ _)); refine blk_far ?_ (by have h_ := Kd.R_ne HO_305000.out BK296.out (by decide); intro e_; exact h_ (by rw [e_]; rfl)) _; (with_reducible repeat (first | refine blk_drewN ?_ _ | refine blk_drew ?_ | refine blk_alloc ?_ _)); exact BK296.out⟩
     have n4_ : Aside0 ((w87.setCell ⟨go76, (t313 : Int).toNat * 12 + 1, none⟩ (.int .i64 t327)).heap[gb304]? = some (.cells #[.slice (some ⟨go76, 0, none⟩) x305000_3.length co80, u305001] 32 (0, 0))) := ⟨by (with_reducible repeat (first | refine blk_drewN ?_ _ | refine blk_drew ?_ | refine blk_alloc ?_ _)); refine blk_far ?_ (by have h_ := Kd.R_ne HO_305000.out BK304.out (by decide); intro e_; exact h_ (by rw [e_]; rfl)) _; (with_reducible repeat (first | refine blk_drewN ?_ _ | refine blk_drew ?_ | refine blk_alloc ?_ _)); exact BK304.out⟩
     have n5_ : Aside0 (IsS91 w0 (w87.setCell ⟨go76, (t313 : Int).toNat * 12 + 1, none⟩ (.int .i64 t327)) g s0_0 t328) := ⟨by repeat (first | (with_reducible first | exact HI0.out | apply IsS91.alloc | apply IsS91.drewN | apply IsS91.drew | apply IsS91.set_1 | refine IsS91.far ?_ HN0_go76.out _ | refine IsS91.far ?_ NB0_296.out _ | refine IsS91.far ?_ NB0_304.out _) | exact HI0.out)⟩
     have n6_ : Aside0 (KeepBut w (w87.setCell ⟨go76, (t313 : Int).toNat * 12 + 1, none⟩ (.int .i64 t327)) g none) := ⟨by repeat (first | (with_reducible first | exact HK.out | apply KeepBut.set_ | apply keep_drewN | apply keep_drew | apply keep_alloc | refine keep_far ?_ GB76.out _ | refine keep_far ?_ GW296.out _ | refine keep_far ?_ GW304.out _) | exact HK.out)⟩
     have n7_ : Aside0 (Below w0.heap.size w0 (w87.setCell ⟨go76, (t313 : Int).toNat * 12 + 1, none⟩ (.int .i64 t327))) := ⟨by repeat (first | (with_reducible first | exact HB.out | apply below_alloc | apply pw_below_drewN | apply below_drew1 | refine below_set ?_ (Nat.le_trans HL.out GB76.out) | refine below_set ?_ (IsS91.ge HI0.out) | refine below_set ?_ GE296.out | refine below_set ?_ GE304.out) | exact HB.out)⟩
     (try clear HO_305000)
     (try clear HO_305001)
     (try clear HO326)
     (try clear BK296)
     (try clear BK304)
     (try clear HI0)
     (try clear HK)
     (try clear HB)
     generalize (w87.setCell ⟨go76, (t313 : Int).toNat * 12 + 1, none⟩ (.int .i64 t327)) = w89 at n0_ n1_ n2_ n3_ n4_ n5_ n6_ n7_ ⊢
     have HO_305000 := n0_
     have HO_305001 := n1_
     have HO326 := n2_
     have BK296 := n3_
     have BK304 := n4_
     have HI0 := n5_
     have HK := n6_
     have HB := n7_
     clear n0_ n1_ n2_ n3_ n4_ n5_ n6_ n7_
     have hcz90_0 : w89.cell? ⟨gb304, 0, none⟩ = some (.slice (some ⟨go76, 0, none⟩) x305000_3.length co80) := (blk_cell BK304.out 0).trans rfl
     have hcz90_1 : w89.cell? ⟨gb304, 1, none⟩ = some (u305001) := (blk_cell BK304.out 1).trans rfl
     have hfz90_0 := blk_frozen BK304.out 0
     have hfz90_1 := blk_frozen BK304.out 1
     have hnb91 := NB296_0.out
     have hnc91 := NB0_296.out
     have hcz92_0 : w89.cell? ⟨gb296, 0, none⟩ = some (.slice none 0 0) := (blk_cell BK296.out 0).trans rfl
     have hcz92_1 : w89.cell? ⟨gb296, 1, none⟩ = some (.slice none 0 0) := (blk_cell BK296.out 1).trans rfl
     have hfz92_0 := blk_frozen BK296.out 0
     have hfz92_1 := blk_frozen BK296.out 1
     obtain ⟨Ao93, co93, eo93⟩ := Kd.R_slice HO_305001.out
     subst eo93
     try go_wp2
     refine bodyPost_ret (results_cell_row rfl _ _ gb296 32 #[.slice (some ⟨go76, 0, none⟩) x305000_3.length co80, .slice Ao93 x305001_3.length co93] (0, 0) _ rfl (by (with_reducible repeat (first | refine blk_drewN ?_ _ | refine blk_drew ?_ | refine blk_alloc ?_ _)); refine blk_put (cs := #[.slice (some ⟨go76, 0, none⟩) x305000_3.length co80, .slice none 0 0]) ?_ 1 _ rfl; (with_reducible repeat (first | refine blk_drewN ?_ _ | refine blk_drew ?_ | refine blk_alloc ?_ _)); refine blk_put (cs := #[.slice none 0 0, .slice none 0 0]) ?_ 0 _ rfl; (with_reducible repeat (first | refine blk_drewN ?_ _ | refine blk_drew ?_ | refine blk_alloc ?_ _)); exact BK296.out) Try.underlying32 rfl (by kernel_rfl)) rfl ?_
     exact ⟨_, _, by first | rfl | (simp [errW_none, errW_some] <;> rfl) | (simp [*, errW_none, errW_some] <;> rfl), by (with_reducible repeat (first | apply Kd.R_alloc | apply Kd.R_drewN | apply Kd.R_drew)); exact Kd.R_mono (Kd.R_far (p := ⟨gb296, 1, none⟩) (Kd.R_far (p := ⟨gb296, 0, none⟩) (Kd.R_types HO_305000.out BK296.out (by decide)) (fun _ hk => hk.2) (.slice (some ⟨go76, 0, none⟩) x305000_3.length co80)) (fun _ hk => hk.2) (.slice Ao93 x305001_3.length co93)) (fun _ hk => trivial), by (with_reducible repeat (first | apply Kd.R_alloc | apply Kd.R_drewN | apply Kd.R_drew)); exact Kd.R_mono (Kd.R_far (p := ⟨gb296, 1, none⟩) (Kd.R_far (p := ⟨gb296, 0, none⟩) (Kd.R_types HO_305001.out BK296.out (by decide)) (fun _ hk => hk.2) (.slice (some ⟨go76, 0, none⟩) x305000_3.length co80)) (fun _ hk => hk.2) (.slice Ao93 x305001_3.length co93)) (fun _ hk => trivial), by repeat (first | (with_reducible first | exact HI0.out | apply IsS91.alloc | apply IsS91.drewN | apply IsS91.drew | apply IsS91.set_1 | refine IsS91.far ?_ NB0_296.out _ | refine IsS91.far ?_ NB0_304.out _) | exact HI0.out), by repeat (first | (with_reducible first | exact HB.out | apply below_alloc | apply pw_below_drewN | apply below_drew1 | refine below_set ?_ (IsS91.ge HI0.out) | refine below_set ?_ GE296.out | refine below_set ?_ GE304.out) | exact HB.out), by repeat (first | (with_reducible first | exact HK.out | apply KeepBut.set_ | apply keep_drewN | apply keep_drew | apply keep_alloc | refine keep_far ?_ GW296.out _ | refine keep_far ?_ GW304.out _) | exact HK.out)⟩
   rw [if_neg c72] at H
   have c72b0 : (t315 == 2) = false := beq_eq_false_iff_ne.mpr c72
   have c72b1 : (t315 != 2) = true := bne_iff_ne.mpr c72
   by_cases c94 : t315 = 3
   rotate_left
   · rw [if_neg c94] at H
     have c94b0 : (t315 == 3) = false := beq_eq_false_iff_ne.mpr c94
     have c94b1 : (t315 != 3) = true := bne_iff_ne.mpr c94
     simp only [Option.some.injEq, Prod.mk.injEq] at H
     obtain ⟨rfl, rfl, rfl⟩ := H
     have hnb113 := NB304_296.out
     have hnc113 := NB296_304.out
     have hnb114 := NB304_0.out
     have hnc114 := NB0_304.out
     have hcz115_0 : wc.cell? ⟨gb304, 0, none⟩ = some (u305000) := (blk_cell BK304.out 0).trans rfl
     have hcz115_1 : wc.cell? ⟨gb304, 1, none⟩ = some (u305001) := (blk_cell BK304.out 1).trans rfl
     have hfz115_0 := blk_frozen BK304.out 0
     have hfz115_1 := blk_frozen BK304.out 1
     obtain ⟨Ao116, co116, eo116⟩ := Kd.R_slice HO_305000.out
     subst eo116
     go_wp2_with (first | ((with_reducible refine gate_callee (f := 51) rfl ?_); refine goesL_ (some 21) rfl rfl Try.func51 (by kernel_rfl) rfl #[.pointer (some ⟨g, 0, none⟩), .int .i64 (x305000_3.length : Int)] rfl (by (try simp only [List.map_toArray, List.map_cons, List.map_nil]); first | done | rfl | (simp only [List.length_drop, List.length_take]; rfl)) ?_; (with_reducible refine (spec_l12Rd_pick.calls kj3 g s0_0 t306 (x305000_3.length : Int) t313 t314 w0 _ ?side1 ?side2 A31.out).mono ?_); (case side1 => repeat (first | (with_reducible first | exact HI0.out | apply IsS91.alloc | apply IsS91.drewN | apply IsS91.drew | apply IsS91.set_1 | refine IsS91.far ?_ NB0_296.out _ | refine IsS91.far ?_ NB0_304.out _) | exact HI0.out)); (case side2 => repeat (first | (with_reducible first | exact HB.out | apply below_alloc | apply pw_below_drewN | apply below_drew1 | refine below_set ?_ (IsS91.ge HI0.out) | refine below_set ?_ GE296.out | refine below_set ?_ GE304.out) | exact HB.out)); rintro e w117 ⟨rfl, hi, hb, hk⟩; refine ⟨_, rfl, ?_⟩; have n0_ := Aside0.mk (Kd.R_mono (Kd.R_keep (IsS91.apart (show IsS91 w0 _ g s0_0 t306 from by repeat (first | (with_reducible first | exact HI0.out | apply IsS91.alloc | apply IsS91.drewN | apply IsS91.drew | apply IsS91.set_1 | refine IsS91.far ?_ NB0_296.out _ | refine IsS91.far ?_ NB0_304.out _) | exact HI0.out)) (by (with_reducible repeat (first | apply Kd.R_alloc | apply Kd.R_drewN | apply Kd.R_drew)); exact HO_305000.out) (by decide)) hk (fun _ h => h.2)) (fun _ h => h.1)); have n1_ := Aside0.mk (Kd.R_mono (Kd.R_keep (IsS91.apart (show IsS91 w0 _ g s0_0 t306 from by repeat (first | (with_reducible first | exact HI0.out | apply IsS91.alloc | apply IsS91.drewN | apply IsS91.drew | apply IsS91.set_1 | refine IsS91.far ?_ NB0_296.out _ | refine IsS91.far ?_ NB0_304.out _) | exact HI0.out)) (by (with_reducible repeat (first | apply Kd.R_alloc | apply Kd.R_drewN | apply Kd.R_drew)); exact HO_305001.out) (by decide)) hk (fun _ h => h.2)) (fun _ h => h.1)); have n2_ := Aside0.mk (KeepBut.blk hk (g' := gb296) (o := .cells #[.slice none 0 0, .slice none 0 0] 32 (0, 0)) (by (with_reducible repeat (first | refine blk_drewN ?_ _ | refine blk_drew ?_ | refine blk_alloc ?_ _)); exact BK296.out) NB296_0.out (by simp)); have n3_ := Aside0.mk (KeepBut.blk hk (g' := gb304) (o := .cells #[.slice Ao116 x305000_3.length co116, u305001] 32 (0, 0)) (by (with_reducible repeat (first | refine blk_drewN ?_ _ | refine blk_drew ?_ | refine blk_alloc ?_ _)); exact BK304.out) NB304_0.out (by simp)); have n4_ := Aside0.mk (KeepBut.trans (by repeat (first | (with_reducible first | exact HK.out | apply KeepBut.set_ | apply keep_drewN | apply keep_drew | apply keep_alloc | refine keep_far ?_ GW296.out _ | refine keep_far ?_ GW304.out _) | exact HK.out)) hk (.inl rfl)); have n5_ := Aside0.mk (hb); have n6_ := Aside0.mk (hi); clear HO_305000; clear HO_305001; clear BK296; clear BK304; clear HK; clear HB; clear HI0; have HO_305000 := n0_; have HO_305001 := n1_; have BK296 := n2_; have BK304 := n3_; have HK := n4_; have HB := n5_; have HI0 := n6_; clear n0_ n1_ n2_ n3_ n4_ n5_ n6_; (try clear hb); (try clear hb2); (try clear hk); (try clear hi)) | ((with_reducible refine gate_callee (f := 51) rfl ?_); refine goesL_ (some 23) rfl rfl Try.func51 (by kernel_rfl) rfl #[.pointer (some ⟨g, 0, none⟩), .int .i64 40] rfl (by (try simp only [List.map_toArray, List.map_cons, List.map_nil]); first | done | rfl | (simp only [List.length_drop, List.length_take]; rfl)) ?_; (with_reducible refine (spec_l12Rd_pick.calls kj3 g s0_0 t314 40 t315 t316 w0 _ ?side1 ?side2 A32.out).mono ?_); (case side1 => repeat (first | (with_reducible first | exact HI0.out | apply IsS91.alloc | apply IsS91.drewN | apply IsS91.drew | apply IsS91.set_1 | refine IsS91.far ?_ NB0_296.out _ | refine IsS91.far ?_ NB0_304.out _) | exact HI0.out)); (case side2 => repeat (first | (with_reducible first | exact HB.out | apply below_alloc | apply pw_below_drewN | apply below_drew1 | refine below_set ?_ (IsS91.ge HI0.out) | refine below_set ?_ GE296.out | refine below_set ?_ GE304.out) | exact HB.out)); rintro e w118 ⟨rfl, hi, hb, hk⟩; refine ⟨_, rfl, ?_⟩; have n0_ := Aside0.mk (Kd.R_mono (Kd.R_keep (IsS91.apart (show IsS91 w0 _ g s0_0 t314 from by repeat (first | (with_reducible first | exact HI0.out | apply IsS91.alloc | apply IsS91.drewN | apply IsS91.drew | apply IsS91.set_1 | refine IsS91.far ?_ NB0_296.out _ | refine IsS91.far ?_ NB0_304.out _) | exact HI0.out)) (by (with_reducible repeat (first | apply Kd.R_alloc | apply Kd.R_drewN | apply Kd.R_drew)); exact HO_305000.out) (by decide)) hk (fun _ h => h.2)) (fun _ h => h.1)); have n1_ := Aside0.mk (Kd.R_mono (Kd.R_keep (IsS91.apart (show IsS91 w0 _ g s0_0 t314 from by repeat (first | (with_reducible first | exact HI0.out | apply IsS91.alloc | apply IsS91.drewN | apply IsS91.drew | apply IsS91.set_1 | refine IsS91.far ?_ NB0_296.out _ | refine IsS91.far ?_ NB0_304.out _) | exact HI0.out)) (by (with_reducible repeat (first | apply Kd.R_alloc | apply Kd.R_drewN | apply Kd.R_drew)); exact HO_305001.out) (by decide)) hk (fun _ h => h.2)) (fun _ h => h.1)); have n2_ := Aside0.mk (KeepBut.blk hk (g' := gb296) (o := .cells #[.slice none 0 0, .slice none 0 0] 32 (0, 0)) (by (with_reducible repeat (first | refine blk_drewN ?_ _ | refine blk_drew ?_ | refine blk_alloc ?_ _)); exact BK296.out) NB296_0.out (by simp)); have n3_ := Aside0.mk (KeepBut.blk hk (g' := gb304) (o := .cells #[.slice Ao116 x305000_3.length co116, u305001] 32 (0, 0)) (by (with_reducible repeat (first | refine blk_drewN ?_ _ | refine blk_drew ?_ | refine blk_alloc ?_ _)); exact BK304.out) NB304_0.out (by simp)); have n4_ := Aside0.mk (KeepBut.trans (by repeat (first | (with_reducible first | exact HK.out | apply KeepBut.set_ | apply keep_drewN | apply keep_drew | apply keep_alloc | refine keep_far ?_ GW296.out _ | refine keep_far ?_ GW304.out _) | exact HK.out)) hk (.inl rfl)); have n5_ := Aside0.mk (hb); have n6_ := Aside0.mk (hi); clear HO_305000; clear HO_305001; clear BK296; clear BK304; clear HK; clear HB; clear HI0; have HO_305000 := n0_; have HO_305001 := n1_; have BK296 := n2_; have BK304 := n3_; have HK := n4_; have HB := n5_; have HI0 := n6_; clear n0_ n1_ n2_ n3_ n4_ n5_ n6_; (try clear hb); (try clear hb2); (try clear hk); (try clear hi); have hcz119_0 : w118.cell? ⟨gb304, 0, none⟩ = some (.slice Ao116 x305000_3.length co116) := (blk_cell BK304.out 0).trans rfl; have hcz119_1 : w118.cell? ⟨gb304, 1, none⟩ = some (u305001) := (blk_cell BK304.out 1).trans rfl; have hfz119_0 := blk_frozen BK304.out 0; have hfz119_1 := blk_frozen BK304.out 1; have hnb120 := NB296_0.out; have hnc120 := NB0_296.out; have hcz121_0 : w118.cell? ⟨gb296, 0, none⟩ = some (.slice none 0 0) := (blk_cell BK296.out 0).trans rfl; have hcz121_1 : w118.cell? ⟨gb296, 1, none⟩ = some (.slice none 0 0) := (blk_cell BK296.out 1).trans rfl; have hfz121_0 := blk_frozen BK296.out 0; have hfz121_1 := blk_frozen BK296.out 1; obtain ⟨Ao122, co122, eo122⟩ := Kd.R_slice HO_305001.out; subst eo122))
     refine bodyPost_ret (results_cell_row rfl _ _ gb296 32 #[.slice Ao116 x305000_3.length co116, .slice Ao122 x305001_3.length co122] (0, 0) _ rfl (by (with_reducible repeat (first | refine blk_drewN ?_ _ | refine blk_drew ?_ | refine blk_alloc ?_ _)); refine blk_put (cs := #[.slice Ao116 x305000_3.length co116, .slice none 0 0]) ?_ 1 _ rfl; (with_reducible repeat (first | refine blk_drewN ?_ _ | refine blk_drew ?_ | refine blk_alloc ?_ _)); refine blk_put (cs := #[.slice none 0 0, .slice none 0 0]) ?_ 0 _ rfl; (with_reducible repeat (first | refine blk_drewN ?_ _ | refine blk_drew ?_ | refine blk_alloc ?_ _)); exact BK296.out) Try.underlying32 rfl (by kernel_rfl)) rfl ?_
     exact ⟨_, _, by first | rfl | (simp [errW_none, errW_some] <;> rfl) | (simp [*, errW_none, errW_some] <;> rfl), by (with_reducible repeat (first | apply Kd.R_alloc | apply Kd.R_drewN | apply Kd.R_drew)); exact Kd.R_mono (Kd.R_far (p := ⟨gb296, 1, none⟩) (Kd.R_far (p := ⟨gb296, 0, none⟩) (Kd.R_types HO_305000.out BK296.out (by decide)) (fun _ hk => hk.2) (.slice Ao116 x305000_3.length co116)) (fun _ hk => hk.2) (.slice Ao122 x305001_3.length co122)) (fun _ hk => trivial), by (with_reducible repeat (first | apply Kd.R_alloc | apply Kd.R_drewN | apply Kd.R_drew)); exact Kd.R_mono (Kd.R_far (p := ⟨gb296, 1, none⟩) (Kd.R_far (p := ⟨gb296, 0, none⟩) (Kd.R_types HO_305001.out BK296.out (by decide)) (fun _ hk => hk.2) (.slice Ao116 x305000_3.length co116)) (fun _ hk => hk.2) (.slice Ao122 x305001_3.length co122)) (fun _ hk => trivial), by repeat (first | (with_reducible first | exact HI0.out | apply IsS91.alloc | apply IsS91.drewN | apply IsS91.drew | apply IsS91.set_1 | refine IsS91.far ?_ NB0_296.out _ | refine IsS91.far ?_ NB0_304.out _) | exact HI0.out), by repeat (first | (with_reducible first | exact HB.out | apply below_alloc | apply pw_below_drewN | apply below_drew1 | refine below_set ?_ (IsS91.ge HI0.out) | refine below_set ?_ GE296.out | refine below_set ?_ GE304.out) | exact HB.out), by repeat (first | (with_reducible first | exact HK.out | apply KeepBut.set_ | apply keep_drewN | apply keep_drew | apply keep_alloc | refine keep_far ?_ GW296.out _ | refine keep_far ?_ GW304.out _) | exact HK.out)⟩
   rw [if_pos c94] at H
   have c94b0 : (t315 == 3) = true := beq_iff_eq.mpr c94
   have c94b1 : (t315 != 3) = false := bne_eq_false_iff_eq.mpr c94
   clear c94
   replace H := Option.bind_eq_some_iff.mp H
   obtain ⟨⟨t330, t331⟩, A950, H⟩ := H
   replace H : ((spec_l12Rd_pick.f kj3 s0_0 t331 9).bind fun bt332 => (if x305001_3.length < 5864062014805 then (some (x305000_3, (x305001_3 ++ [(⟨(⟨t330, 5⟩ : S44), bt332.1⟩ : S62)]), bt332.2)) else (none))) = some (r1, r2, r3) := H
   have A95 := Aside0.mk A950
   clear A950
   replace H := Option.bind_eq_some_iff.mp H
   obtain ⟨⟨t332, t333⟩, A960, H⟩ := H
   replace H : (if x305001_3.length < 5864062014805 then (some (x305000_3, (x305001_3 ++ [(⟨(⟨t330, 5⟩ : S44), t332⟩ : S62)]), t333)) else (none)) = some (r1, r2, r3) := H
   have A96 := Aside0.mk A960
   clear A960
   by_cases c97 : x305001_3.length < 5864062014805
   rotate_left
   · rw [if_neg c97] at H
     exact absurd H (by simp)
   rw [if_pos c97] at H
   have LMc97 := Aside0.mk c97
   clear c97
   obtain ⟨y334, hy334⟩ : ∃ y_ : List (S62), y_ = (x305001_3 ++ [(⟨(⟨t330, 5⟩ : S44), t332⟩ : S62)]) := ⟨_, rfl⟩
   replace H : (some (x305000_3, y334, t333)) = some (r1, r2, r3) := by first | (rw [hy334]; with_reducible exact H) | (have H2_ := (Option.bind_some _ _).symm.trans H; rw [hy334]; with_reducible exact H2_) | (have H2_ := (Option.bind_some _ _).symm.trans H; with_reducible exact H2_) | with_reducible exact H | (rw [hy334]; exact H) | exact H
   have Ny334 := Aside0.mk hy334
   clear hy334
   simp only [Option.some.injEq, Prod.mk.injEq] at H
   obtain ⟨rfl, rfl, rfl⟩ := H
   have hnb98 := NB304_296.out
   have hnc98 := NB296_304.out
   have hnb99 := NB304_0.out
   have hnc99 := NB0_304.out
   have hcz100_0 : wc.cell? ⟨gb304, 0, none⟩ = some (u305000) := (blk_cell BK304.out 0).trans rfl
   have hcz100_1 : wc.cell? ⟨gb304, 1, none⟩ = some (u305001) := (blk_cell BK304.out 1).trans rfl
   have hfz100_0 := blk_frozen BK304.out 0
   have hfz100_1 := blk_frozen BK304.out 1
   obtain ⟨Ao101, co101, eo101⟩ := Kd.R_slice HO_305000.out
   subst eo101
   try go_wp2_with (first | ((with_reducible refine gate_callee (f := 51) rfl ?_); refine goesL_ (some 21) rfl rfl Try.func51 (by kernel_rfl) rfl #[.pointer (some ⟨g, 0, none⟩), .int .i64 (x305000_3.length : Int)] rfl (by (try simp only [List.map_toArray, List.map_cons, List.map_nil]); first | done | rfl | (simp only [List.length_drop, List.length_take]; rfl)) ?_; (with_reducible refine (spec_l12Rd_pick.calls kj3 g s0_0 t306 (x305000_3.length : Int) t313 t314 w0 _ ?side1 ?side2 A31.out).mono ?_); (case side1 => repeat (first | (with_reducible first | exact HI0.out | apply IsS91.alloc | apply IsS91.drewN | apply IsS91.drew | apply IsS91.set_1 | refine IsS91.far ?_ NB0_296.out _ | refine IsS91.far ?_ NB0_304.out _) | exact HI0.out)); (case side2 => repeat (first | (with_reducible first | exact HB.out | apply below_alloc | apply pw_below_drewN | apply below_drew1 | refine below_set ?_ (IsS91.ge HI0.out) | refine below_set ?_ GE296.out | refine below_set ?_ GE304.out) | exact HB.out)); rintro e w102 ⟨rfl, hi, hb, hk⟩; refine ⟨_, rfl, ?_⟩; have n0_ := Aside0.mk (Kd.R_mono (Kd.R_keep (IsS91.apart (show IsS91 w0 _ g s0_0 t306 from by repeat (first | (with_reducible first | exact HI0.out | apply IsS91.alloc | apply IsS91.drewN | apply IsS91.drew | apply IsS91.set_1 | refine IsS91.far ?_ NB0_296.out _ | refine IsS91.far ?_ NB0_304.out _) | exact HI0.out)) (by (with_reducible repeat (first | apply Kd.R_alloc | apply Kd.R_drewN | apply Kd.R_drew)); exact HO_305000.out) (by decide)) hk (fun _ h => h.2)) (fun _ h => h.1)); have n1_ := Aside0.mk (Kd.R_mono (Kd.R_keep (IsS91.apart (show IsS91 w0 _ g s0_0 t306 from by repeat (first | (with_reducible first | exact HI0.out | apply IsS91.alloc | apply IsS91.drewN | apply IsS91.drew | apply IsS91.set_1 | refine IsS91.far ?_ NB0_296.out _ | refine IsS91.far ?_ NB0_304.out _) | exact HI0.out)) (by (with_reducible repeat (first | apply Kd.R_alloc | apply Kd.R_drewN | apply Kd.R_drew)); exact HO_305001.out) (by decide)) hk (fun _ h => h.2)) (fun _ h => h.1)); have n2_ := Aside0.mk (KeepBut.blk hk (g' := gb296) (o := .cells #[.slice none 0 0, .slice none 0 0] 32 (0, 0)) (by (with_reducible repeat (first | refine blk_drewN ?_ _ | refine blk_drew ?_ | refine blk_alloc ?_ _)); exact BK296.out) NB296_0.out (by simp)); have n3_ := Aside0.mk (KeepBut.blk hk (g' := gb304) (o := .cells #[.slice Ao101 x305000_3.length co101, u305001] 32 (0, 0)) (by (with_reducible repeat (first | refine blk_drewN ?_ _ | refine blk_drew ?_ | refine blk_alloc ?_ _)); exact BK304.out) NB304_0.out (by simp)); have n4_ := Aside0.mk (KeepBut.trans (by repeat (first | (with_reducible first | exact HK.out | apply KeepBut.set_ | apply keep_drewN | apply keep_drew | apply keep_alloc | refine keep_far ?_ GW296.out _ | refine keep_far ?_ GW304.out _) | exact HK.out)) hk (.inl rfl)); have n5_ := Aside0.mk (hb); have n6_ := Aside0.mk (hi); clear HO_305000; clear HO_305001; clear BK296; clear BK304; clear HK; clear HB; clear HI0; have HO_305000 := n0_; have HO_305001 := n1_; have BK296 := n2_; have BK304 := n3_; have HK := n4_; have HB := n5_; have HI0 := n6_; clear n0_ n1_ n2_ n3_ n4_ n5_ n6_; (try clear hb); (try clear hb2); (try clear hk); (try clear hi)) | ((with_reducible refine gate_callee (f := 51) rfl ?_); refine goesL_ (some 23) rfl rfl Try.func51 (by kernel_rfl) rfl #[.pointer (some ⟨g, 0, none⟩), .int .i64 40] rfl (by (try simp only [List.map_toArray, List.map_cons, List.map_nil]); first | done | rfl | (simp only [List.length_drop, List.length_take]; rfl)) ?_; (with_reducible refine (spec_l12Rd_pick.calls kj3 g s0_0 t314 40 t315 t316 w0 _ ?side1 ?side2 A32.out).mono ?_); (case side1 => repeat (first | (with_reducible first | exact HI0.out | apply IsS91.alloc | apply IsS91.drewN | apply IsS91.drew | apply IsS91.set_1 | refine IsS91.far ?_ NB0_296.out _ | refine IsS91.far ?_ NB0_304.out _) | exact HI0.out)); (case side2 => repeat (first | (with_reducible first | exact HB.out | apply below_alloc | apply pw_below_drewN | apply below_drew1 | refine below_set ?_ (IsS91.ge HI0.out) | refine below_set ?_ GE296.out | refine below_set ?_ GE304.out) | exact HB.out)); rintro e w103 ⟨rfl, hi, hb, hk⟩; refine ⟨_, rfl, ?_⟩; have n0_ := Aside0.mk (Kd.R_mono (Kd.R_keep (IsS91.apart (show IsS91 w0 _ g s0_0 t314 from by repeat (first | (with_reducible first | exact HI0.out | apply IsS91.alloc | apply IsS91.drewN | apply IsS91.drew | apply IsS91.set_1 | refine IsS91.far ?_ NB0_296.out _ | refine IsS91.far ?_ NB0_304.out _) | exact HI0.out)) (by (with_reducible repeat (first | apply Kd.R_alloc | apply Kd.R_drewN | apply Kd.R_drew)); exact HO_305000.out) (by decide)) hk (fun _ h => h.2)) (fun _ h => h.1)); have n1_ := Aside0.mk (Kd.R_mono (Kd.R_keep (IsS91.apart (show IsS91 w0 _ g s0_0 t314 from by repeat (first | (with_reducible first | exact HI0.out | apply IsS91.alloc | apply IsS91.drewN | apply IsS91.drew | apply IsS91.set_1 | refine IsS91.far ?_ NB0_296.out _ | refine IsS91.far ?_ NB0_304.out _) | exact HI0.out)) (by (with_reducible repeat (first | apply Kd.R_alloc | apply Kd.R_drewN | apply Kd.R_drew)); exact HO_305001.out) (by decide)) hk (fun _ h => h.2)) (fun _ h => h.1)); have n2_ := Aside0.mk (KeepBut.blk hk (g' := gb296) (o := .cells #[.slice none 0 0, .slice none 0 0] 32 (0, 0)) (by (with_reducible repeat (first | refine blk_drewN ?_ _ | refine blk_drew ?_ | refine blk_alloc ?_ _)); exact BK296.out) NB296_0.out (by simp)); have n3_ := Aside0.mk (KeepBut.blk hk (g' := gb304) (o := .cells #[.slice Ao101 x305000_3.length co101, u305001] 32 (0, 0)) (by (with_reducible repeat (first | refine blk_drewN ?_ _ | refine blk_drew ?_ | refine blk_alloc ?_ _)); exact BK304.out) NB304_0.out (by simp)); have n4_ := Aside0.mk (KeepBut.trans (by repeat (first | (with_reducible first | exact HK.out | apply KeepBut.set_ | apply keep_drewN | apply keep_drew | apply keep_alloc | refine keep_far ?_ GW296.out _ | refine keep_far ?_ GW304.out _) | exact HK.out)) hk (.inl rfl)); have n5_ := Aside0.mk (hb); have n6_ := Aside0.mk (hi); clear HO_305000; clear HO_305001; clear BK296; clear BK304; clear HK; clear HB; clear HI0; have HO_305000 := n0_; have HO_305001 := n1_; have BK296 := n2_; have BK304 := n3_; have HK := n4_; have HB := n5_; have HI0 := n6_; clear n0_ n1_ n2_ n3_ n4_ n5_ n6_; (try clear hb); (try clear hb2); (try clear hk); (try clear hi)))
   have n0_ := Aside0.mk (Kd.R_drew HO_305000.out)
   have n1_ := Aside0.mk (Kd.R_drew HO_305001.out)
   have n2_ := Aside0.mk (blk_drew BK296.out)
   have n3_ := Aside0.mk (blk_drew BK304.out)
   have n4_ := Aside0.mk (IsS91.drew HI0.out)
   have n5_ := Aside0.mk (keep_drew HK.out)
   have n6_ := Aside0.mk (below_drew1 HB.out)
   clear HO_305000
   clear HO_305001
   clear BK296
   clear BK304
   clear HI0
   clear HK
   clear HB
   have HO_305000 := n0_
   have HO_305001 := n1_
   have BK296 := n2_
   have BK304 := n3_
   have HI0 := n4_
   have HK := n5_
   have HB := n6_
   clear n0_ n1_ n2_ n3_ n4_ n5_ n6_
   refine start_ (n := 12) (S := fun w' => w'.cell? ⟨gb304, 0, none⟩ = some (.slice Ao101 x305000_3.length co101) ∧ w'.cell? ⟨gb304, 1, none⟩ = some (u305001)) (ds := [11]) #[false, false, false, false, false, false, false, false, false, false, false, false] (by kernel_rfl) rfl rfl ⟨(blk_cell BK304.out 0).trans rfl, (blk_cell BK304.out 1).trans rfl⟩ (fun hHeld => ?_); refine with_tabW spec_l7Bent.tab15 spec_l7Bent.bits15 (fun HT_ HW_ => ?_)
   generalize w103.drew = w104 at HO_305000 HO_305001 BK296 BK304 HI0 HK HB hHeld ⊢
   refine pure_ (i := 0) (N := some 55) (v := ?_) (a' := ?_) #[true, false, false, false, false, false, false, false, false, false, false, false] rfl rfl (any_of HT_.out (by kernel_rfl)) (fun _ _ _ h => h) (Or.inl ⟨by rfl, ?_⟩) ?_ ?_
   rotate_left
   · intro w'
     go_simp
     with_reducible rfl
   rotate_left
   · simp only [Act.put, List.setIfInBounds_toArray, List.set_cons_zero, List.set_cons_succ, i64_w, i32_w]
     rfl
   refine pure_ (i := 2) (N := some 57) (v := ?_) (a' := ?_) #[true, false, true, false, false, false, false, false, false, false, false, false] rfl rfl (any_of HT_.out (by kernel_rfl)) (fun _ _ _ h => h) (Or.inl ⟨by rfl, ?_⟩) ?_ ?_
   rotate_left
   · intro w'
     go_simp
     with_reducible rfl
   rotate_left
   · simp only [Act.put, List.setIfInBounds_toArray, List.set_cons_zero, List.set_cons_succ, i64_w, i32_w]
     rfl
   refine pure_ (i := 5) (N := some 60) (v := ?_) (a' := ?_) #[true, false, true, false, false, true, false, false, false, false, false, false] rfl rfl (any_of HT_.out (by kernel_rfl)) (fun _ _ _ h => h) (Or.inl ⟨by rfl, ?_⟩) ?_ ?_
   rotate_left
   · intro w'
     go_simp
     with_reducible rfl
   rotate_left
   · simp only [Act.put, List.setIfInBounds_toArray, List.set_cons_zero, List.set_cons_succ, i64_w, i32_w]
     rfl
   refine take_ (i := 1) (N := some 56) (v := ?_) (a' := ?_) #[true, true, true, false, false, true, false, false, false, false, false, false] rfl rfl (take_ofW HT_.out HW_.out (by kernel_rfl)) (fun _ _ _ h => h) (Or.inl ⟨by rfl, ?_⟩) hHeld ?_ ?_
   rotate_left
   · rintro w' ⟨s0, s1⟩
     go_simp
     with_reducible rfl
   rotate_left
   · simp only [Act.put, List.setIfInBounds_toArray, List.set_cons_zero, List.set_cons_succ, i64_w, i32_w]
     rfl
   refine one_ (i := 3) (N := some 58) #[true, true, true, true, false, true, false, false, false, false, false, false] rfl rfl (one_of HT_.out (by kernel_rfl)) (by decide) (fun K hK => ?_)
   refine goes_ Try.func51 (by kernel_rfl) rfl #[.pointer (some ⟨g, 0, none⟩), .int .i64 5] (by rfl) rfl rfl (by (try simp only [List.map_toArray, List.map_cons, List.map_nil]); first | done | rfl | (simp only [List.length_drop, List.length_take]; rfl)) ?_
   with_reducible refine (spec_l12Rd_pick.calls kj3 g s0_0 t316 5 t330 t331 w0 _ ?side1 ?side2 A95.out).mono ?_
   (case side1 => repeat (first | (with_reducible first | exact HI0.out | apply IsS91.alloc | apply IsS91.drewN | apply IsS91.drew | apply IsS91.set_1 | refine IsS91.far ?_ NB0_296.out _ | refine IsS91.far ?_ NB0_304.out _) | exact HI0.out))
   (case side2 => repeat (first | (with_reducible first | exact HB.out | apply below_alloc | apply pw_below_drewN | apply below_drew1 | refine below_set ?_ (IsS91.ge HI0.out) | refine below_set ?_ GE296.out | refine below_set ?_ GE304.out) | exact HB.out))
   rintro e w105 ⟨rfl, hi, hb, hk⟩
   refine ⟨_, rfl, ?_⟩
   have n0_ := Aside0.mk (Kd.R_mono (Kd.R_keep (IsS91.apart (show IsS91 w0 _ g s0_0 t316 from by repeat (first | (with_reducible first | exact HI0.out | apply IsS91.alloc | apply IsS91.drewN | apply IsS91.drew | apply IsS91.set_1 | refine IsS91.far ?_ NB0_296.out _ | refine IsS91.far ?_ NB0_304.out _) | exact HI0.out)) (by (with_reducible repeat (first | apply Kd.R_alloc | apply Kd.R_drewN | apply Kd.R_drew)); exact HO_305000.out) (by decide)) hk (fun _ h => h.2)) (fun _ h => h.1))
   have n1_ := Aside0.mk (Kd.R_mono (Kd.R_keep (IsS91.apart (show IsS91 w0 _ g s0_0 t316 from by repeat (first | (with_reducible first | exact HI0.out | apply IsS91.alloc | apply IsS91.drewN | apply IsS91.drew | apply IsS91.set_1 | refine IsS91.far ?_ NB0_296.out _ | refine IsS91.far ?_ NB0_304.out _) | exact HI0.out)) (by (with_reducible repeat (first | apply Kd.R_alloc | apply Kd.R_drewN | apply Kd.R_drew)); exact HO_305001.out) (by decide)) hk (fun _ h => h.2)) (fun _ h => h.1))
   have n2_ := Aside0.mk (KeepBut.blk hk (g' := gb296) (o := .cells #[.slice none 0 0, .slice none 0 0] 32 (0, 0)) (by (with_reducible repeat (first | refine blk_drewN ?_ _ | refine blk_drew ?_ | refine blk_alloc ?_ _)); exact BK296.out) NB296_0.out (by simp))
   have n3_ := Aside0.mk (KeepBut.blk hk (g' := gb304) (o := .cells #[.slice Ao101 x305000_3.length co101, u305001] 32 (0, 0)) (by (with_reducible repeat (first | refine blk_drewN ?_ _ | refine blk_drew ?_ | refine blk_alloc ?_ _)); exact BK304.out) NB304_0.out (by simp))
   have n4_ := Aside0.mk (KeepBut.trans (by repeat (first | (with_reducible first | exact HK.out | apply KeepBut.set_ | apply keep_drewN | apply keep_drew | apply keep_alloc | refine keep_far ?_ GW296.out _ | refine keep_far ?_ GW304.out _) | exact HK.out)) hk (.inl rfl))
   have n5_ := Aside0.mk (hb)
   have n6_ := Aside0.mk (hi)
   clear HO_305000
   clear HO_305001
   clear BK296
   clear BK304
   clear HK
   clear HB
   clear HI0
   have HO_305000 := n0_
   have HO_305001 := n1_
   have BK296 := n2_
   have BK304 := n3_
   have HK := n4_
   have HB := n5_
   have HI0 := n6_
   clear n0_ n1_ n2_ n3_ n4_ n5_ n6_
   (try clear hb)
   (try clear hb2)
   (try clear hk)
   (try clear hi)
   refine hK.out _ _ ⟨(blk_cell BK304.out 0).trans rfl, (blk_cell BK304.out 1).trans rfl⟩ (fun hHeld => ?_)
   clear hK K
   refine norm_ (a' := ?_) ?_ ?_
   rotate_left
   · show Act.put _ (some 58) _ = _
     simp only [Act.put, List.setIfInBounds_toArray, List.set_cons_zero, List.set_cons_succ, i64_w, i32_w]
     rfl
   refine pure_ (i := 4) (N := some 59) (v := ?_) (a' := ?_) #[true, true, true, true, true, true, false, false, false, false, false, false] rfl rfl (any_of HT_.out (by kernel_rfl)) (fun _ _ _ h => h) (Or.inl ⟨by rfl, ?_⟩) ?_ ?_
   rotate_left
   · intro w'
     go_simp
     with_reducible rfl
   rotate_left
   · simp only [Act.put, List.setIfInBounds_toArray, List.set_cons_zero, List.set_cons_succ, i64_w, i32_w]
     rfl
   refine one_ (i := 6) (N := some 61) #[true, true, true, true, true, true, true, false, false, false, false, false] rfl rfl (one_of HT_.out (by kernel_rfl)) (by decide) (fun K hK => ?_)
   refine goes_ Try.func51 (by kernel_rfl) rfl #[.pointer (some ⟨g, 0, none⟩), .int .i64 9] (by rfl) rfl rfl (by (try simp only [List.map_toArray, List.map_cons, List.map_nil]); first | done | rfl | (simp only [List.length_drop, List.length_take]; rfl)) ?_
   with_reducible refine (spec_l12Rd_pick.calls kj3 g s0_0 t331 9 t332 t333 w0 _ ?side1 ?side2 A96.out).mono ?_
   (case side1 => repeat (first | (with_reducible first | exact HI0.out | apply IsS91.alloc | apply IsS91.drewN | apply IsS91.drew | apply IsS91.set_1 | refine IsS91.far ?_ NB0_296.out _ | refine IsS91.far ?_ NB0_304.out _) | exact HI0.out))
   (case side2 => repeat (first | (with_reducible first | exact HB.out | apply below_alloc | apply pw_below_drewN | apply below_drew1 | refine below_set ?_ (IsS91.ge HI0.out) | refine below_set ?_ GE296.out | refine below_set ?_ GE304.out) | exact HB.out))
   rintro e w106 ⟨rfl, hi, hb, hk⟩
   refine ⟨_, rfl, ?_⟩
   have n0_ := Aside0.mk (Kd.R_mono (Kd.R_keep (IsS91.apart (show IsS91 w0 _ g s0_0 t331 from by repeat (first | (with_reducible first | exact HI0.out | apply IsS91.alloc | apply IsS91.drewN | apply IsS91.drew | apply IsS91.set_1 | refine IsS91.far ?_ NB0_296.out _ | refine IsS91.far ?_ NB0_304.out _) | exact HI0.out)) (by (with_reducible repeat (first | apply Kd.R_alloc | apply Kd.R_drewN | apply Kd.R_drew)); exact HO_305000.out) (by decide)) hk (fun _ h => h.2)) (fun _ h => h.1))
   have n1_ := Aside0.mk (Kd.R_mono (Kd.R_keep (IsS91.apart (show IsS91 w0 _ g s0_0 t331 from by repeat (first | (with_reducible first | exact HI0.out | apply IsS91.alloc | apply IsS91.drewN | apply IsS91.drew | apply IsS91.set_1 | refine IsS91.far ?_ NB0_296.out _ | refine IsS91.far ?_ NB0_304.out _) | exact HI0.out)) (by (with_reducible repeat (first | apply Kd.R_alloc | apply Kd.R_drewN | apply Kd.R_drew)); exact HO_305001.out) (by decide)) hk (fun _ h => h.2)) (fun _ h => h.1))
   have n2_ := Aside0.mk (KeepBut.blk hk (g' := gb296) (o := .cells #[.slice none 0 0, .slice none 0 0] 32 (0, 0)) (by (with_reducible repeat (first | refine blk_drewN ?_ _ | refine blk_drew ?_ | refine blk_alloc ?_ _)); exact BK296.out) NB296_0.out (by simp))
   have n3_ := Aside0.mk (KeepBut.blk hk (g' := gb304) (o := .cells #[.slice Ao101 x305000_3.length co101, u305001] 32 (0, 0)) (by (with_reducible repeat (first | refine blk_drewN ?_ _ | refine blk_drew ?_ | refine blk_alloc ?_ _)); exact BK304.out) NB304_0.out (by simp))
   have n4_ := Aside0.mk (KeepBut.trans (by repeat (first | (with_reducible first | exact HK.out | apply KeepBut.set_ | apply keep_drewN | apply keep_drew | apply keep_alloc | refine keep_far ?_ GW296.out _ | refine keep_far ?_ GW304.out _) | exact HK.out)) hk (.inl rfl))
   have n5_ := Aside0.mk (hb)
   have n6_ := Aside0.mk (hi)
   clear HO_305000
   clear HO_305001
   clear BK296
   clear BK304
   clear HK
   clear HB
   clear HI0
   have HO_305000 := n0_
   have HO_305001 := n1_
   have BK296 := n2_
   have BK304 := n3_
   have HK := n4_
   have HB := n5_
   have HI0 := n6_
   clear n0_ n1_ n2_ n3_ n4_ n5_ n6_
   (try clear hb)
   (try clear hb2)
   (try clear hk)
   (try clear hi)
   refine hK.out _ _ ⟨(blk_cell BK304.out 0).trans rfl, (blk_cell BK304.out 1).trans rfl⟩ (fun hHeld => ?_)
   clear hK K
   refine norm_ (a' := ?_) ?_ ?_
   rotate_left
   · show Act.put _ (some 61) _ = _
     simp only [Act.put, List.setIfInBounds_toArray, List.set_cons_zero, List.set_cons_succ, i64_w, i32_w]
     rfl
   refine pure_ (i := 7) (N := some 62) (v := ?_) (a' := ?_) #[true, true, true, true, true, true, true, true, false, false, false, false] rfl rfl (any_of HT_.out (by kernel_rfl)) (fun _ _ _ h => h) (Or.inl ⟨by rfl, ?_⟩) ?_ ?_
   rotate_left
   · intro w'
     go_simp
     with_reducible rfl
   rotate_left
   · simp only [Act.put, List.setIfInBounds_toArray, List.set_cons_zero, List.set_cons_succ, i64_w, i32_w]
     rfl
   refine one_ (i := 8) (N := some 63) #[true, true, true, true, true, true, true, true, true, false, false, false] rfl rfl (one_of HT_.out (by kernel_rfl)) (by decide) (fun K hK => ?_)
   refine value_ (w1 := ?_) (v := ?_) (by rfl) rfl ?_ ?_
   rotate_left 2
   · go_simp
     constructor
     · rfl
     · rfl
   refine hK.out _ _ ⟨(blk_cell (blk_alloc BK304.out _) 0).trans rfl, (blk_cell (blk_alloc BK304.out _) 1).trans rfl⟩ (fun hHeld => ?_)
   clear hK K
   refine norm_ (a' := ?_) ?_ ?_
   rotate_left
   · show Act.put _ (some 63) _ = _
     simp only [Act.put, List.setIfInBounds_toArray, List.set_cons_zero, List.set_cons_succ, i64_w, i32_w]
     rfl
   refine one_ (i := 9) (N := some 64) #[true, true, true, true, true, true, true, true, true, true, false, false] rfl rfl (one_of HT_.out (by kernel_rfl)) (by decide) (fun K hK => ?_)
   refine Kd.R_append_step k62 w.heap.size (by rfl) (.tmp 56) (.tmp 63) 30 62 (.agg #[(.int .i64 0), (.int .i64 0), (.int .i64 0)]) 24 rfl Try.underlying30 info62 rfl (by decide) (by omega) u305001 x305001_3 (⟨(⟨t330, 5⟩ : S44), t332⟩ : S62) [.int .i64 t330, .int .i64 5, .int .i64 t332] (fun _ => True) (fun _ => False) rfl rfl ?aP (fun _ hk => hk.elim) ?aF ?aO (Below.refl _ _) ?aS ?aL ?_
   (case aP => exact k62_mkM _ _ _ (⟨(⟨t330, 5⟩ : S44), t332⟩ : S62))
   (case aF => exact (fun _ _ => trivial))
   (case aO => exact (by (with_reducible repeat (first | apply Kd.R_alloc | apply Kd.R_drewN | apply Kd.R_drew)); exact HO_305001.out))
   (case aS => exact (keep_size (w := w) (g := g) (row := none) (by repeat (first | (with_reducible first | exact HK.out | apply KeepBut.set_ | apply keep_drewN | apply keep_drew | apply keep_alloc | refine keep_far ?_ GW296.out _ | refine keep_far ?_ GW304.out _) | exact HK.out))))
   (case aL => have := LMc97.out; omega)
   intro v335 w107 ho hb hg hat
   rw [← Ny334.out] at ho
   have n0_ := Aside0.mk (Kd.R_over' (by (with_reducible repeat (first | apply Kd.R_alloc | apply Kd.R_drewN | apply Kd.R_drew)); exact HO_305000.out) (Kd.R_typed (by (with_reducible repeat (first | apply Kd.R_alloc | apply Kd.R_drewN | apply Kd.R_drew)); exact HO_305001.out)) (by decide) hg)
   have n1_ := Aside0.mk (blk_grown (g := gb296) (o := .cells #[.slice none 0 0, .slice none 0 0] 32 (0, 0)) (by (with_reducible repeat (first | refine blk_drewN ?_ _ | refine blk_drew ?_ | refine blk_alloc ?_ _)); exact BK296.out) hg (Kd.R_ne HO_305001.out BK296.out (by decide)))
   have n2_ := Aside0.mk (blk_grown (g := gb304) (o := .cells #[.slice Ao101 x305000_3.length co101, u305001] 32 (0, 0)) (by (with_reducible repeat (first | refine blk_drewN ?_ _ | refine blk_drew ?_ | refine blk_alloc ?_ _)); exact BK304.out) hg (Kd.R_ne HO_305001.out BK304.out (by decide)))
   have n3_ := Aside0.mk (IsS91.grown (by repeat (first | (with_reducible first | exact HI0.out | apply IsS91.alloc | apply IsS91.drewN | apply IsS91.drew | apply IsS91.set_1 | refine IsS91.far ?_ NB0_296.out _ | refine IsS91.far ?_ NB0_304.out _) | exact HI0.out)) hg (IsS91.own_ne HI0.out HO_305001.out (by decide)))
   have n4_ := Aside0.mk (below_weaken (by repeat (first | (with_reducible first | exact HB.out | apply below_alloc | apply pw_below_drewN | apply below_drew1 | refine below_set ?_ (IsS91.ge HI0.out) | refine below_set ?_ GE296.out | refine below_set ?_ GE304.out) | exact HB.out)) HL.out hb)
   have n5_ := Aside0.mk (KeepBut.trans (by repeat (first | (with_reducible first | exact HK.out | apply KeepBut.set_ | apply keep_drewN | apply keep_drew | apply keep_alloc | refine keep_far ?_ GW296.out _ | refine keep_far ?_ GW304.out _) | exact HK.out)) (KeepBut.of_grown hg g) (Kd.R_base2 HO_305001.out))
   have n6_ := Aside0.mk (ho)
   clear HO_305000
   clear BK296
   clear BK304
   clear HI0
   clear HB
   clear HK
   clear HO_305001
   have HO_305000 := n0_
   have BK296 := n1_
   have BK304 := n2_
   have HI0 := n3_
   have HB := n4_
   have HK := n5_
   have HO336 := n6_
   clear n0_ n1_ n2_ n3_ n4_ n5_ n6_
   clear ho hb hg hat
   obtain ⟨Ao108, co108, eo108⟩ := Kd.R_slice HO336.out
   (first | subst eo108 | (injection eo108 with f1_ f2_ f3_; have f4_ := f1_.symm; have f5_ := f3_.symm; clear f1_ f2_ f3_; subst f4_; subst f5_))
   refine hK.out _ _ ⟨(blk_cell BK304.out 0).trans rfl, (blk_cell BK304.out 1).trans rfl⟩ (fun hHeld => ?_)
   clear hK K
   refine norm_ (a' := ?_) ?_ ?_
   rotate_left
   · show Act.put _ (some 64) _ = _
     simp only [Act.put, List.setIfInBounds_toArray, List.set_cons_zero, List.set_cons_succ, i64_w, i32_w]
     rfl
   refine pure_ (i := 10) (N := some 65) (v := ?_) (a' := ?_) #[true, true, true, true, true, true, true, true, true, true, true, false] rfl rfl (any_of HT_.out (by kernel_rfl)) (fun _ _ _ h => h) (Or.inl ⟨by rfl, ?_⟩) ?_ ?_
   rotate_left
   · intro w'
     go_simp
     with_reducible rfl
   rotate_left
   · simp only [Act.put, List.setIfInBounds_toArray, List.set_cons_zero, List.set_cons_succ, i64_w, i32_w]
     rfl
   refine last_ (i := 11) (N := none) #[true, true, true, true, true, true, true, true, true, true, true, true] rfl rfl (one_of HT_.out (by kernel_rfl)) (by decide) (fun K hK => ?_)
   have hs109 : w107.cell? ⟨gb304, 1, none⟩ = some (u305001) := (blk_cell BK304.out 1).trans rfl
   have hfs109 := blk_frozen BK304.out 1
   have hns109_0 := NB296_304.out
   have hms109_0 := NB304_296.out
   refine skip_ (w1 := ?_) (by rfl) rfl ?_ ?_
   rotate_left
   · go_simp
     rfl
   refine hK.out _ _ ?_
   clear hK K
   refine done_ (done_of HT_.out (by kernel_rfl)) ?_
   have hcz110_0 : w107.cell? ⟨gb304, 0, none⟩ = some (.slice Ao101 x305000_3.length co101) := (blk_cell BK304.out 0).trans rfl
   have hcz110_1 : w107.cell? ⟨gb304, 1, none⟩ = some (u305001) := (blk_cell BK304.out 1).trans rfl
   have hfz110_0 := blk_frozen BK304.out 0
   have hfz110_1 := blk_frozen BK304.out 1
   have hnb111 := NB296_0.out
   have hnc111 := NB0_296.out
   have hcz112_0 : w107.cell? ⟨gb296, 0, none⟩ = some (.slice none 0 0) := (blk_cell BK296.out 0).trans rfl
   have hcz112_1 : w107.cell? ⟨gb296, 1, none⟩ = some (.slice none 0 0) := (blk_cell BK296.out 1).trans rfl
   have hfz112_0 := blk_frozen BK296.out 0
   have hfz112_1 := blk_frozen BK296.out 1
   try go_wp2
   refine bodyPost_ret (results_cell_row rfl _ _ gb296 32 #[.slice Ao101 x305000_3.length co101, .slice Ao108 y334.length co108] (0, 0) _ rfl (by (with_reducible repeat (first | refine blk_drewN ?_ _ | refine blk_drew ?_ | refine blk_alloc ?_ _)); refine blk_put (cs := #[.slice Ao101 x305000_3.length co101, .slice none 0 0]) ?_ 1 _ rfl; (with_reducible repeat (first | refine blk_drewN ?_ _ | refine blk_drew ?_ | refine blk_alloc ?_ _)); refine blk_put (cs := #[.slice none 0 0, .slice none 0 0]) ?_ 0 _ rfl; (with_reducible repeat (first | refine blk_drewN ?_ _ | refine blk_drew ?_ | refine blk_alloc ?_ _)); refine blk_far ?_ NB296_304.out _; (with_reducible repeat (first | refine blk_drewN ?_ _ | refine blk_drew ?_ | refine blk_alloc ?_ _)); exact BK296.out) Try.underlying32 rfl (by kernel_rfl)) rfl ?_
   exact ⟨_, _, by first | rfl | (simp [errW_none, errW_some] <;> rfl) | (simp [*, errW_none, errW_some] <;> rfl), by (with_reducible repeat (first | apply Kd.R_alloc | apply Kd.R_drewN | apply Kd.R_drew)); exact Kd.R_mono (Kd.R_far (p := ⟨gb296, 1, none⟩) (Kd.R_far (p := ⟨gb296, 0, none⟩) (Kd.R_far (p := ⟨gb304, 1, none⟩) (Kd.R_types (Kd.R_types HO_305000.out BK304.out (by decide)) BK296.out (by decide)) (fun _ hk => hk.1.2) (.slice Ao108 y334.length co108)) (fun _ hk => hk.2) (.slice Ao101 x305000_3.length co101)) (fun _ hk => hk.2) (.slice Ao108 y334.length co108)) (fun _ hk => trivial), by (with_reducible repeat (first | apply Kd.R_alloc | apply Kd.R_drewN | apply Kd.R_drew)); exact Kd.R_mono (Kd.R_far (p := ⟨gb296, 1, none⟩) (Kd.R_far (p := ⟨gb296, 0, none⟩) (Kd.R_far (p := ⟨gb304, 1, none⟩) (Kd.R_types (Kd.R_types HO336.out BK304.out (by decide)) BK296.out (by decide)) (fun _ hk => hk.1.2) (.slice Ao108 y334.length co108)) (fun _ hk => hk.2) (.slice Ao101 x305000_3.length co101)) (fun _ hk => hk.2) (.slice Ao108 y334.length co108)) (fun _ hk => trivial), by repeat (first | (with_reducible first | exact HI0.out | apply IsS91.alloc | apply IsS91.drewN | apply IsS91.drew | apply IsS91.set_1 | refine IsS91.far ?_ NB0_296.out _ | refine IsS91.far ?_ NB0_304.out _) | exact HI0.out), by repeat (first | (with_reducible first | exact HB.out | apply below_alloc | apply pw_below_drewN | apply below_drew1 | refine below_set ?_ (IsS91.ge HI0.out) | refine below_set ?_ GE296.out | refine below_set ?_ GE304.out) | exact HB.out), by repeat (first | (with_reducible first | exact HK.out | apply KeepBut.set_ | apply keep_drewN | apply keep_drew | apply keep_alloc | refine keep_far ?_ GW296.out _ | refine keep_far ?_ GW304.out _) | exact HK.out)⟩

end Go.Proofs.Ytphblfmjdiigkaa.PFnNetOrder
