-- Made by a program of this session (hp.py) over the kit's print: functions told by hand stand beside printed ones. Lean checks it.
import Derived.Test.YtphblfmjdiigkaaGreatDoorTFnNetSameHFnNetSamex12
namespace Go.Proofs.YtphblfmjdiigkaaGreatDoor.HFnNetSame
open Go.RowKit Go.Proofs.YtphblfmjdiigkaaGreatDoorW.PrintWords Go.Proofs.YtphblfmjdiigkaaGreatDoorW.PrintLast Go.Proofs.YtphblfmjdiigkaaGreatDoorW.PrintMore
attribute [local go_sem] max2_int min2_int max_two min_two max_three min_three max_four min_four
set_option linter.unusedVariables false
set_option linter.unusedSimpArgs false
def spec_l7Bent.j0 : Nat → List Int → Int → List (S43) → List (S66) → Option ((List (S43)) × (List (S66)) × Int)
  | 0, _, _, _, _ => none
  | k + 1, x1000, x1001, x317000, x317001 => if (x317000.length : Int) = 0 then (some (x317000, x317001, x1001)) else ((spec_l12Rd_pick.f k x1000 x1001 (x317000.length : Int)).bind fun bt325 => ((spec_l12Rd_pick.f k x1000 bt325.2 40).bind fun bt327 => (if bt327.1 = 0 then (if 0 ≤ bt325.1 then (if bt325.1 < (x317000.length : Int) then (some ((x317000.set (bt325.1 : Int).toNat (⟨(rd_T43 x317000 bt325.1).f0, (rd_T43 x317000 bt325.1).f1, (⟨2, bt325.1, (⟨0, 0⟩ : S39), false⟩ : S41), (⟨(rd_T43 x317000 bt325.1).f3.f0, (rd_T43 x317000 bt325.1).f3.f1, (⟨(rd_T43 x317000 bt325.1).f3.f2.f0, (rd_T43 x317000 bt325.1).f3.f2.f1⟩ : S39), (rd_T43 x317000 bt325.1).f3.f3⟩ : S41)⟩ : S43)), x317001, bt327.2)) else (none)) else (none)) else (if bt327.1 = 1 then ((spec_l12Rd_num.f k x1000 bt327.2 (([0, 6, 14, 4] : List Int))).bind fun bt333 => (if 0 ≤ bt325.1 then (if bt325.1 < (x317000.length : Int) then (some ((x317000.set (bt325.1 : Int).toNat (⟨bt333.1, (rd_T43 x317000 bt325.1).f1, (⟨(rd_T43 x317000 bt325.1).f2.f0, (rd_T43 x317000 bt325.1).f2.f1, (⟨(rd_T43 x317000 bt325.1).f2.f2.f0, (rd_T43 x317000 bt325.1).f2.f2.f1⟩ : S39), (rd_T43 x317000 bt325.1).f2.f3⟩ : S41), (⟨(rd_T43 x317000 bt325.1).f3.f0, (rd_T43 x317000 bt325.1).f3.f1, (⟨(rd_T43 x317000 bt325.1).f3.f2.f0, (rd_T43 x317000 bt325.1).f3.f2.f1⟩ : S39), (rd_T43 x317000 bt325.1).f3.f3⟩ : S41)⟩ : S43)), x317001, bt333.2)) else (none)) else (none))) else (if bt327.1 = 2 then ((spec_l12Rd_num.f k x1000 bt327.2 (([(-1), 1, 1001] : List Int))).bind fun bt339 => (if 0 ≤ bt325.1 then (if bt325.1 < (x317000.length : Int) then (some ((x317000.set (bt325.1 : Int).toNat (⟨(rd_T43 x317000 bt325.1).f0, bt339.1, (⟨(rd_T43 x317000 bt325.1).f2.f0, (rd_T43 x317000 bt325.1).f2.f1, (⟨(rd_T43 x317000 bt325.1).f2.f2.f0, (rd_T43 x317000 bt325.1).f2.f2.f1⟩ : S39), (rd_T43 x317000 bt325.1).f2.f3⟩ : S41), (⟨(rd_T43 x317000 bt325.1).f3.f0, (rd_T43 x317000 bt325.1).f3.f1, (⟨(rd_T43 x317000 bt325.1).f3.f2.f0, (rd_T43 x317000 bt325.1).f3.f2.f1⟩ : S39), (rd_T43 x317000 bt325.1).f3.f3⟩ : S41)⟩ : S43)), x317001, bt339.2)) else (none)) else (none))) else (if bt327.1 = 3 then ((spec_l12Rd_pick.f k x1000 bt327.2 5).bind fun bt342 => ((spec_l12Rd_pick.f k x1000 bt342.2 9).bind fun bt344 => (if x317001.length < 5864062014805 then (some (x317000, (x317001 ++ [(⟨(⟨bt342.1, 5⟩ : S39), bt344.1⟩ : S66)]), bt344.2)) else (none)))) else (some (x317000, x317001, bt327.2))))))))
def spec_l7Bent.f (k : Nat) (s0_0 : List Int) (s0_1 : Int) : Option ((List (S43)) × (List (S66)) × Int) := (spec_l7Net.f k s0_0 s0_1).bind fun bt309 => ((spec_l12Rd_pick.f k s0_0 bt309.2.2 3).bind fun bt317 => (if bt317.1 = 0 then ((spec_l7Turned.f k bt309.1 bt309.2.1).bind fun bt319 => (spec_l7Bent.j0 k s0_0 bt317.2 bt319.1 bt319.2)) else (spec_l7Bent.j0 k s0_0 bt317.2 bt309.1 bt309.2.1)))
def spec_l7Bent.T11 : Bool × List (List Nat × List Nat) := (true, [([], []), ([0], [0]), ([], []), ([], []), ([], []), ([3, 4], [3, 4]), ([1, 2, 0, 1, 2, 3, 4, 5], [1, 2]), ([6, 0, 1, 2, 3, 4, 5], [6]), ([7, 5, 5, 0, 1, 2, 3, 4, 5], [5, 7])])
def spec_l7Bent.B11 : List Nat := [0, 1, 0, 0, 0, 24, 63, 127, 255]
theorem spec_l7Bent.tab11 : rtab .any (opsOf Tryz.f34 11) = spec_l7Bent.T11 := by kernel_rfl
theorem spec_l7Bent.bits11 : waitsOk spec_l7Bent.T11.2 spec_l7Bent.B11 = true := by kernel_rfl
def spec_l7Bent.T13 : Bool × List (List Nat × List Nat) := (true, [([], []), ([0], [0]), ([], []), ([], []), ([], []), ([3, 4], [3, 4]), ([1, 2, 0, 1, 2, 3, 4, 5], [1, 2]), ([6, 0, 1, 2, 3, 4, 5], [6]), ([7, 5, 5, 0, 1, 2, 3, 4, 5], [5, 7])])
def spec_l7Bent.B13 : List Nat := [0, 1, 0, 0, 0, 24, 63, 127, 255]
theorem spec_l7Bent.tab13 : rtab .any (opsOf Tryz.f34 13) = spec_l7Bent.T13 := by kernel_rfl
theorem spec_l7Bent.bits13 : waitsOk spec_l7Bent.T13.2 spec_l7Bent.B13 = true := by kernel_rfl
def spec_l7Bent.T15 : Bool × List (List Nat × List Nat) := (true, [([], []), ([0], [0]), ([], []), ([2], [2]), ([3], [3]), ([], []), ([5, 3], [5]), ([4, 6], [4, 6]), ([7], [7]), ([1, 8, 6], [1, 8]), ([0, 1, 2, 3, 4, 5, 6, 7, 8, 9], []), ([10, 9, 9, 0, 1, 2, 3, 4, 5, 6, 7, 8, 9], [9, 10])])
def spec_l7Bent.B15 : List Nat := [0, 1, 0, 4, 12, 0, 44, 124, 252, 511, 1023, 2047]
theorem spec_l7Bent.tab15 : rtab .any (opsOf Tryz.f34 15) = spec_l7Bent.T15 := by kernel_rfl
theorem spec_l7Bent.bits15 : waitsOk spec_l7Bent.T15.2 spec_l7Bent.B15 = true := by kernel_rfl
set_option maxHeartbeats 8000000 in
set_option maxRecDepth 100000 in
theorem spec_l7Bent.calls (k : Nat) (g : Nat) (s0_0 : List Int) (s0_1 : Int) (r1 : List (S43)) (r2 : List (S66)) (r3 : Int) (w0 w : World) (hI : IsS116 w0 w g s0_0 s0_1) (hB : Below w0.heap.size w0 w) (h : spec_l7Bent.f k s0_0 s0_1 = some (r1, r2, r3)) :
    Calls Tryz.prog 34 #[.pointer (some ⟨g, 0, none⟩)] w fun e w' => ∃ v0_ v1_ : Value, e = .returned (.agg #[v0_, v1_]) ∧ Kd.R k43 43 w' w.heap.size (fun _ => True) v0_ r1 ∧ Kd.R k66 66 w' w.heap.size (fun _ => True) v1_ r2 ∧ IsS116 w0 w' g s0_0 r3 ∧ Below w0.heap.size w0 w' ∧ KeepBut w w' g none := by
 have hu31 := Tryz.underlying31
 have hu41 := Tryz.underlying41
 have hu39 := Tryz.underlying39
 have hu66 := Tryz.underlying66
 have HI0 := aM_ hI
 have HK := aM_ (KeepBut.refl w g none)
 have HL := aM_ hB.size
 clear hI
 have HW0 := aM_ hB.size
 have HB := aM_ hB
 clear hB
 have H : ((spec_l7Net.f k s0_0 s0_1).bind fun bt309 => ((spec_l12Rd_pick.f k s0_0 bt309.2.2 3).bind fun bt317 => (if bt317.1 = 0 then ((spec_l7Turned.f k bt309.1 bt309.2.1).bind fun bt319 => (spec_l7Bent.j0 k s0_0 bt317.2 bt319.1 bt319.2)) else (spec_l7Bent.j0 k s0_0 bt317.2 bt309.1 bt309.2.1)))) = some (r1, r2, r3) := h
 clear h
 replace H := Option.bind_eq_some_iff.mp H
 obtain ⟨⟨t309, t312, t315⟩, A20, H⟩ := H
 replace H : ((spec_l12Rd_pick.f k s0_0 t315 3).bind fun bt317 => (if bt317.1 = 0 then ((spec_l7Turned.f k t309 t312).bind fun bt319 => (spec_l7Bent.j0 k s0_0 bt317.2 bt319.1 bt319.2)) else (spec_l7Bent.j0 k s0_0 bt317.2 t309 t312))) = some (r1, r2, r3) := H
 have A2 := aM_ A20
 clear A20
 replace H := Option.bind_eq_some_iff.mp H
 obtain ⟨⟨t317, t318⟩, A30, H⟩ := H
 replace H : (if t317 = 0 then ((spec_l7Turned.f k t309 t312).bind fun bt319 => (spec_l7Bent.j0 k s0_0 t318 bt319.1 bt319.2)) else (spec_l7Bent.j0 k s0_0 t318 t309 t312)) = some (r1, r2, r3) := H
 have A3 := aM_ A30
 clear A30
 have HC4 := aM_ H
 clear H
 go_enter Tryz.func34, Tryz.ntmps34
 go_upto_if 9 with (first | ((with_reducible refine gate_dst (N := 2) rfl ?_); refine box_event ?hg (N := 2) ?hd (cs := #[.slice none 0 0, .slice none 0 0]) (t := 31) ?hr ?_; (case hd => rfl); (case hg => rfl); (case hr => first | (go_simp; done) | (go_simp; rfl)); intro gb308 hg w5 hbox hb; have n0_ := aM_ (IsS116.below (by repeat (first | (with_reducible first | exact HI0.out | apply iA_ | apply iN_ | apply iD_ | apply iS_) | exact HI0.out)) hb); have n1_ := aM_ (KeepBut.trans (by repeat (first | (with_reducible first | exact HK.out | apply kS_ | apply pN_ | apply pD_ | apply pA_) | exact HK.out)) (KeepBut.of_below hb g none) (.inl rfl)); have n2_ := aM_ (bT_ (by repeat (first | (with_reducible first | exact HB.out | apply bA_ | apply bN_ | apply b1_ | refine bS_ ?_ (IsS116.ge HI0.out)) | exact HB.out)) hb); have n3_ := aM_ (hbox); have n4_ := aM_ ((by rw [hg]; exact (keep_size (w := w) (g := g) (row := none) (by repeat (first | (with_reducible first | exact HK.out | apply kS_ | apply pN_ | apply pD_ | apply pA_) | exact HK.out))) : w.heap.size ≤ gb308)); have n5_ := aM_ ((Nat.le_trans HW0.out (by rw [hg]; exact (keep_size (w := w) (g := g) (row := none) (by repeat (first | (with_reducible first | exact HK.out | apply kS_ | apply pN_ | apply pD_ | apply pA_) | exact HK.out))) : w.heap.size ≤ gb308) : w0.heap.size ≤ gb308)); have n6_ := aM_ ((by rw [hg]; exact Nat.ne_of_lt (IsS116.lt (show IsS116 w0 _ g s0_0 s0_1 from by repeat (first | (with_reducible first | exact HI0.out | apply iA_ | apply iN_ | apply iD_ | apply iS_) | exact HI0.out))) : g ≠ gb308)); have n7_ := aM_ ((by rw [hg]; exact Nat.ne_of_gt (IsS116.lt (show IsS116 w0 _ g s0_0 s0_1 from by repeat (first | (with_reducible first | exact HI0.out | apply iA_ | apply iN_ | apply iD_ | apply iS_) | exact HI0.out))) : gb308 ≠ g)); clear HI0 HK HB; have HI0 := n0_; have HK := n1_; have HB := n2_; have BK308 := n3_; have GW308 := n4_; have GE308 := n5_; have NB0_308 := n6_; have NB308_0 := n7_; clear n0_ n1_ n2_ n3_ n4_ n5_ n6_ n7_ hb hbox hg) | ((with_reducible refine gate_callee (f := 63) rfl ?_); refine goesL_ (some 6) rfl rfl Tryz.func63 (by kernel_rfl) rfl #[.pointer (some ⟨g, 0, none⟩)] rfl (by (try simp only [mA_, List.map_cons, List.map_nil]); first | done | rfl | (simp only [lD_, lT_]; rfl)) ?_; (with_reducible refine (spec_l7Net.calls k g s0_0 s0_1 t309 t312 t315 w0 _ ?side1 ?side2 A2.out).mono ?_); (case side1 => repeat (first | (with_reducible first | exact HI0.out | apply iA_ | apply iN_ | apply iD_ | apply iS_ | refine iF_ ?_ NB0_308.out _) | exact HI0.out)); (case side2 => repeat (first | (with_reducible first | exact HB.out | apply bA_ | apply bN_ | apply b1_ | refine bS_ ?_ (IsS116.ge HI0.out) | refine bS_ ?_ GE308.out) | exact HB.out)); rintro e w6 ⟨v310, v313, rfl, ho0, ho1, hi, hb, hk⟩; refine ⟨_, rfl, ?_⟩; have n0_ := aM_ (KeepBut.blk hk (g' := gb308) (o := .cells #[.slice none 0 0, .slice none 0 0] 31 (0, 0)) (by (with_reducible repeat (first | refine kN_ ?_ _ | refine kD_ ?_ | refine kA_ ?_ _)); exact BK308.out) NB308_0.out (by simp)); have n1_ := aM_ (Kd.R_lower ho0 (keep_size (w := w) (g := g) (row := none) (by repeat (first | (with_reducible first | exact HK.out | apply kS_ | apply pN_ | apply pD_ | apply pA_ | refine pF_ ?_ GW308.out _) | exact HK.out)))); have n2_ := aM_ (Kd.R_lower ho1 (keep_size (w := w) (g := g) (row := none) (by repeat (first | (with_reducible first | exact HK.out | apply kS_ | apply pN_ | apply pD_ | apply pA_ | refine pF_ ?_ GW308.out _) | exact HK.out)))); have n3_ := aM_ (KeepBut.trans (by repeat (first | (with_reducible first | exact HK.out | apply kS_ | apply pN_ | apply pD_ | apply pA_ | refine pF_ ?_ GW308.out _) | exact HK.out)) hk (.inl rfl)); have n4_ := aM_ (hb); have n5_ := aM_ (hi); clear BK308 HK HB HI0; revert n0_ n1_ n2_ n3_ n4_ n5_; intro BK308 HO311 HO314 HK HB HI0; (try clear hb); (try clear hb2); (try clear hk); (try clear hi); (try clear ho0); (try clear ho1)) | ((with_reducible refine gate_dst (N := 3) rfl ?_); refine box_event ?hg (N := 3) ?hd (cs := #[.slice none 0 0, .slice none 0 0]) (t := 31) ?hr ?_; (case hd => rfl); (case hg => rfl); (case hr => first | (go_simp; done) | (go_simp; rfl)); intro gb316 hg w7 hbox hb; have n0_ := aM_ (Kd.R_below (by (with_reducible repeat (first | apply rN_ | apply rD_)); exact HO311.out) hb); have n1_ := aM_ (Kd.R_below (by (with_reducible repeat (first | apply rN_ | apply rD_)); exact HO314.out) hb); have n2_ := aM_ (IsS116.below (by repeat (first | (with_reducible first | exact HI0.out | apply iA_ | apply iN_ | apply iD_ | apply iS_ | refine iF_ ?_ NB0_308.out _) | exact HI0.out)) hb); have n3_ := aM_ (blk_below (g := gb308) (o := .cells #[.slice none 0 0, .slice none 0 0] 31 (0, 0)) (by (with_reducible repeat (first | refine kN_ ?_ _ | refine kD_ ?_ | refine kA_ ?_ _)); exact BK308.out) hb); have n4_ := aM_ (KeepBut.trans (by repeat (first | (with_reducible first | exact HK.out | apply kS_ | apply pN_ | apply pD_ | apply pA_ | refine pF_ ?_ GW308.out _) | exact HK.out)) (KeepBut.of_below hb g none) (.inl rfl)); have n5_ := aM_ (bT_ (by repeat (first | (with_reducible first | exact HB.out | apply bA_ | apply bN_ | apply b1_ | refine bS_ ?_ (IsS116.ge HI0.out) | refine bS_ ?_ GE308.out) | exact HB.out)) hb); have n6_ := aM_ (hbox); have n7_ := aM_ ((by rw [hg]; exact (keep_size (w := w) (g := g) (row := none) (by repeat (first | (with_reducible first | exact HK.out | apply kS_ | apply pN_ | apply pD_ | apply pA_ | refine pF_ ?_ GW308.out _) | exact HK.out))) : w.heap.size ≤ gb316)); have n8_ := aM_ ((Nat.le_trans HW0.out (by rw [hg]; exact (keep_size (w := w) (g := g) (row := none) (by repeat (first | (with_reducible first | exact HK.out | apply kS_ | apply pN_ | apply pD_ | apply pA_ | refine pF_ ?_ GW308.out _) | exact HK.out))) : w.heap.size ≤ gb316) : w0.heap.size ≤ gb316)); have n9_ := aM_ ((by rw [hg]; exact Nat.ne_of_lt (blk_lt (g := gb308) (o := .cells #[.slice none 0 0, .slice none 0 0] 31 (0, 0)) (by (with_reducible repeat (first | refine kN_ ?_ _ | refine kD_ ?_ | refine kA_ ?_ _)); exact BK308.out)) : gb308 ≠ gb316)); have n10_ := aM_ ((by rw [hg]; exact Nat.ne_of_gt (blk_lt (g := gb308) (o := .cells #[.slice none 0 0, .slice none 0 0] 31 (0, 0)) (by (with_reducible repeat (first | refine kN_ ?_ _ | refine kD_ ?_ | refine kA_ ?_ _)); exact BK308.out)) : gb316 ≠ gb308)); have n11_ := aM_ ((by rw [hg]; exact Nat.ne_of_lt (IsS116.lt (show IsS116 w0 _ g s0_0 t315 from by repeat (first | (with_reducible first | exact HI0.out | apply iA_ | apply iN_ | apply iD_ | apply iS_ | refine iF_ ?_ NB0_308.out _) | exact HI0.out))) : g ≠ gb316)); have n12_ := aM_ ((by rw [hg]; exact Nat.ne_of_gt (IsS116.lt (show IsS116 w0 _ g s0_0 t315 from by repeat (first | (with_reducible first | exact HI0.out | apply iA_ | apply iN_ | apply iD_ | apply iS_ | refine iF_ ?_ NB0_308.out _) | exact HI0.out))) : gb316 ≠ g)); clear HO311 HO314 HI0 BK308 HK HB; have HO311 := n0_; have HO314 := n1_; have HI0 := n2_; have BK308 := n3_; have HK := n4_; have HB := n5_; have BK316 := n6_; have GW316 := n7_; have GE316 := n8_; have NB308_316 := n9_; have NB316_308 := n10_; have NB0_316 := n11_; have NB316_0 := n12_; clear n0_ n1_ n2_ n3_ n4_ n5_ n6_ n7_ n8_ n9_ n10_ n11_ n12_ hb hbox hg; obtain ⟨Ao8, co8, eo8⟩ := Kd.R_slice HO311.out; subst eo8; have hnb9 := NB316_308.out; have hnc9 := NB308_316.out; have hnb10 := NB316_0.out; have hnc10 := NB0_316.out; (obtain ⟨hcz11_0, hcz11_1⟩ := cells2 BK316.out); (obtain ⟨hfz11_0, hfz11_1⟩ := frozen2 BK316.out); obtain ⟨Ao12, co12, eo12⟩ := Kd.R_slice HO314.out; subst eo12) | ((with_reducible refine gate_callee (f := 64) rfl ?_); refine goesL_ (some 8) rfl rfl Tryz.func64 (by kernel_rfl) rfl #[.pointer (some ⟨g, 0, none⟩), .int .i64 3] rfl (by (try simp only [mA_, List.map_cons, List.map_nil]); first | done | rfl | (simp only [lD_, lT_]; rfl)) ?_; (with_reducible refine (spec_l12Rd_pick.calls k g s0_0 t315 3 t317 t318 w0 _ ?side1 ?side2 A3.out).mono ?_); (case side1 => repeat (first | (with_reducible first | exact HI0.out | apply iA_ | apply iN_ | apply iD_ | apply iS_ | refine iF_ ?_ NB0_308.out _ | refine iF_ ?_ NB0_316.out _) | exact HI0.out)); (case side2 => repeat (first | (with_reducible first | exact HB.out | apply bA_ | apply bN_ | apply b1_ | refine bS_ ?_ (IsS116.ge HI0.out) | refine bS_ ?_ GE308.out | refine bS_ ?_ GE316.out) | exact HB.out)); rintro e w13 ⟨rfl, hi, hb, hk⟩; refine ⟨_, rfl, ?_⟩; have n0_ := aM_ (KeepBut.blk hk (g' := gb308) (o := .cells #[.slice none 0 0, .slice none 0 0] 31 (0, 0)) (by (with_reducible repeat (first | refine kN_ ?_ _ | refine kD_ ?_ | refine kA_ ?_ _)); refine blk_far ?_ NB308_316.out _; (with_reducible repeat (first | refine kN_ ?_ _ | refine kD_ ?_ | refine kA_ ?_ _)); refine blk_far ?_ NB308_316.out _; (with_reducible repeat (first | refine kN_ ?_ _ | refine kD_ ?_ | refine kA_ ?_ _)); exact BK308.out) NB308_0.out (by simp)); have n1_ := aM_ (Kd.R_mono (Kd.R_keep (IsS116.apart (show IsS116 w0 _ g s0_0 t315 from by repeat (first | (with_reducible first | exact HI0.out | apply iA_ | apply iN_ | apply iD_ | apply iS_ | refine iF_ ?_ NB0_308.out _ | refine iF_ ?_ NB0_316.out _) | exact HI0.out)) (by (with_reducible repeat (first | apply rN_ | apply rD_)); exact (Kd.R_mono (rF_ (p := ⟨gb316, 1, none⟩) (rF_ (p := ⟨gb316, 0, none⟩) (Kd.R_types HO311.out BK316.out (by decide)) (fun _ hk => hk.2) (.slice Ao8 t309.length co8)) (fun _ hk => hk.2) (.slice Ao12 t312.length co12)) (fun _ h_ => h_.1))) (by decide)) hk (fun _ h => h.2)) (fun _ h => h.1)); have n2_ := aM_ (Kd.R_mono (Kd.R_keep (IsS116.apart (show IsS116 w0 _ g s0_0 t315 from by repeat (first | (with_reducible first | exact HI0.out | apply iA_ | apply iN_ | apply iD_ | apply iS_ | refine iF_ ?_ NB0_308.out _ | refine iF_ ?_ NB0_316.out _) | exact HI0.out)) (by (with_reducible repeat (first | apply rN_ | apply rD_)); exact (Kd.R_mono (rF_ (p := ⟨gb316, 1, none⟩) (rF_ (p := ⟨gb316, 0, none⟩) (Kd.R_types HO314.out BK316.out (by decide)) (fun _ hk => hk.2) (.slice Ao8 t309.length co8)) (fun _ hk => hk.2) (.slice Ao12 t312.length co12)) (fun _ h_ => h_.1))) (by decide)) hk (fun _ h => h.2)) (fun _ h => h.1)); have n3_ := aM_ (KeepBut.blk hk (g' := gb316) (o := .cells #[.slice Ao8 t309.length co8, .slice Ao12 t312.length co12] 31 (0, 0)) (by (with_reducible repeat (first | refine kN_ ?_ _ | refine kD_ ?_ | refine kA_ ?_ _)); refine kP_ (cs := #[.slice Ao8 t309.length co8, .slice none 0 0]) ?_ 1 _ rfl; (with_reducible repeat (first | refine kN_ ?_ _ | refine kD_ ?_ | refine kA_ ?_ _)); refine kP_ (cs := #[.slice none 0 0, .slice none 0 0]) ?_ 0 _ rfl; (with_reducible repeat (first | refine kN_ ?_ _ | refine kD_ ?_ | refine kA_ ?_ _)); exact BK316.out) NB316_0.out (by simp)); have n4_ := aM_ (KeepBut.trans (by repeat (first | (with_reducible first | exact HK.out | apply kS_ | apply pN_ | apply pD_ | apply pA_ | refine pF_ ?_ GW308.out _ | refine pF_ ?_ GW316.out _) | exact HK.out)) hk (.inl rfl)); have n5_ := aM_ (hb); have n6_ := aM_ (hi); clear BK308 HO311 HO314 BK316 HK HB HI0; revert n0_ n1_ n2_ n3_ n4_ n5_ n6_; intro BK308 HO311 HO314 BK316 HK HB HI0; (try clear hb); (try clear hb2); (try clear hk); (try clear hi)))
 (try simp only [Act.put, sA_, sB_, sC_])
 go_cut [] (fun wc => ∃ (kq : Nat) (x317000_3 : List (S43)) (x317001_3 : List (S66)) (u317000 : Value) (u317001 : Value), Aside0 (spec_l7Bent.j0 kq s0_0 t318 x317000_3 x317001_3 = some (r1, r2, r3)) ∧ Aside0 (kq ≤ k) ∧ Aside0 (Kd.R k43 43 wc w.heap.size (fun _ => True) u317000 x317000_3) ∧ Aside0 (Kd.R k66 66 wc w.heap.size (fun _ => True) u317001 x317001_3) ∧ Aside0 (wc.heap[gb308]? = some (.cells #[(.slice none 0 0), (.slice none 0 0)] 31 (0, 0))) ∧ Aside0 (wc.heap[gb316]? = some (.cells #[u317000, u317001] 31 (0, 0))) ∧ Aside0 (IsS116 w0 wc g s0_0 t318) ∧ Aside0 (KeepBut w wc g none) ∧ Aside0 (Below w0.heap.size w0 wc))
 case first =>
  have H := HC4.out
  clear HC4
  by_cases c14 : t317 = 0
  rotate_left
  · rw [if_neg c14] at H
    have c14b0 : (t317 == 0) = false := beq_eq_false_iff_ne.mpr c14
    have c14b1 : (t317 != 0) = true := bne_iff_ne.mpr c14
    (first | rw [c14b0] | (simp only [i64_w, i32_w]; rw [c14b0]) | skip)
    have H' := aM_ H
    clear H
    go_wp2
    go_meet
    case rel => exact ⟨_, (t309), (t312), (.slice Ao8 t309.length co8), (.slice Ao12 t312.length co12), H', ⟨by first | omega | exact Nat.le_refl _⟩, ⟨by (with_reducible repeat (first | apply rN_ | apply rD_)); exact HO311.out⟩, ⟨by (with_reducible repeat (first | apply rN_ | apply rD_)); exact HO314.out⟩, ⟨by (with_reducible repeat (first | refine kN_ ?_ _ | refine kD_ ?_ | refine kA_ ?_ _)); exact BK308.out⟩, ⟨by (with_reducible repeat (first | refine kN_ ?_ _ | refine kD_ ?_ | refine kA_ ?_ _)); exact BK316.out⟩, ⟨by repeat (first | (with_reducible first | exact HI0.out | apply iA_ | apply iN_ | apply iD_ | apply iS_ | refine iF_ ?_ NB0_308.out _ | refine iF_ ?_ NB0_316.out _) | exact HI0.out)⟩, ⟨by repeat (first | (with_reducible first | exact HK.out | apply kS_ | apply pN_ | apply pD_ | apply pA_ | refine pF_ ?_ GW308.out _ | refine pF_ ?_ GW316.out _) | exact HK.out)⟩, ⟨by repeat (first | (with_reducible first | exact HB.out | apply bA_ | apply bN_ | apply b1_ | refine bS_ ?_ (IsS116.ge HI0.out) | refine bS_ ?_ GE308.out | refine bS_ ?_ GE316.out) | exact HB.out)⟩⟩
  rw [if_pos c14] at H
  have c14b0 : (t317 == 0) = true := beq_iff_eq.mpr c14
  have c14b1 : (t317 != 0) = false := bne_eq_false_iff_eq.mpr c14
  clear c14
  (first | rw [c14b0] | (simp only [i64_w, i32_w]; rw [c14b0]) | skip)
  replace H := Option.bind_eq_some_iff.mp H
  obtain ⟨⟨t319, t322⟩, A150, H⟩ := H
  replace H : (spec_l7Bent.j0 k s0_0 t318 t319 t322) = some (r1, r2, r3) := H
  have A15 := aM_ A150
  clear A150
  have H' := aM_ H
  clear H
  have hnb16 := NB316_308.out
  have hnc16 := NB308_316.out
  have hnb17 := NB316_0.out
  have hnc17 := NB0_316.out
  (obtain ⟨hcz18_0, hcz18_1⟩ := cells2 BK316.out)
  (obtain ⟨hfz18_0, hfz18_1⟩ := frozen2 BK316.out)
  go_wp2_with (first | ((with_reducible refine gate_callee (f := 65) rfl ?_); refine goesL_ (some 11) rfl rfl Tryz.func65 (by kernel_rfl) rfl #[.agg #[.slice Ao8 t309.length co8, .slice Ao12 t312.length co12]] rfl (by (try simp only [mA_, List.map_cons, List.map_nil]); first | done | rfl | (simp only [lD_, lT_]; rfl)) ?_; (with_reducible refine (spec_l7Turned.calls k _ _ t309 _ _ t312 t319 t322 _ ?side1 ?side2 ?side3 ?side4 A15.out).mono ?_); (case side1 => repeat (first | exact (Kd.R_reads' HO311.out).2.2 | (with_reducible refine Kd.C_alloc ?_ _) | (with_reducible refine Kd.C_drewN ?_ _) | (with_reducible refine Kd.C_drew ?_))); (case side2 => exact (Kd.R_reads' HO311.out).2.1); (case side3 => repeat (first | exact (Kd.R_reads' HO314.out).2.2 | (with_reducible refine Kd.C_alloc ?_ _) | (with_reducible refine Kd.C_drewN ?_ _) | (with_reducible refine Kd.C_drew ?_))); (case side4 => exact (Kd.R_reads' HO314.out).2.1); rintro e w19 ⟨v320, v323, rfl, ho0, ho1, hb⟩; refine ⟨_, rfl, ?_⟩; have n0_ := aM_ (Kd.R_elder' (by (with_reducible repeat (first | apply rN_ | apply rD_)); exact HO311.out) (Kd.R_base ho0) hb); have n1_ := aM_ (Kd.R_elder' (by (with_reducible repeat (first | apply rN_ | apply rD_)); exact HO314.out) (Kd.R_base ho1) hb); have n2_ := aM_ (Kd.R_lower (Kd.R_new' ho0 (Kd.R_lt (by (with_reducible repeat (first | apply rN_ | apply rD_)); exact HO311.out))) (keep_size (w := w) (g := g) (row := none) (by repeat (first | (with_reducible first | exact HK.out | apply kS_ | apply pN_ | apply pD_ | apply pA_ | refine pF_ ?_ GW308.out _ | refine pF_ ?_ GW316.out _) | exact HK.out)))); have n3_ := aM_ (Kd.R_lower (Kd.R_new' ho1 (Kd.R_lt (by (with_reducible repeat (first | apply rN_ | apply rD_)); exact HO314.out))) (keep_size (w := w) (g := g) (row := none) (by repeat (first | (with_reducible first | exact HK.out | apply kS_ | apply pN_ | apply pD_ | apply pA_ | refine pF_ ?_ GW308.out _ | refine pF_ ?_ GW316.out _) | exact HK.out)))); have n4_ := aM_ (IsS116.below (by repeat (first | (with_reducible first | exact HI0.out | apply iA_ | apply iN_ | apply iD_ | apply iS_ | refine iF_ ?_ NB0_308.out _ | refine iF_ ?_ NB0_316.out _) | exact HI0.out)) hb); have n5_ := aM_ (blk_below (g := gb308) (o := .cells #[.slice none 0 0, .slice none 0 0] 31 (0, 0)) (by (with_reducible repeat (first | refine kN_ ?_ _ | refine kD_ ?_ | refine kA_ ?_ _)); exact BK308.out) hb); have n6_ := aM_ (blk_below (g := gb316) (o := .cells #[.slice Ao8 t309.length co8, .slice Ao12 t312.length co12] 31 (0, 0)) (by (with_reducible repeat (first | refine kN_ ?_ _ | refine kD_ ?_ | refine kA_ ?_ _)); exact BK316.out) hb); have n7_ := aM_ (KeepBut.trans (by repeat (first | (with_reducible first | exact HK.out | apply kS_ | apply pN_ | apply pD_ | apply pA_ | refine pF_ ?_ GW308.out _ | refine pF_ ?_ GW316.out _) | exact HK.out)) (KeepBut.of_below hb g none) (.inl rfl)); have n8_ := aM_ (bT_ (by repeat (first | (with_reducible first | exact HB.out | apply bA_ | apply bN_ | apply b1_ | refine bS_ ?_ (IsS116.ge HI0.out) | refine bS_ ?_ GE308.out | refine bS_ ?_ GE316.out) | exact HB.out)) hb); clear HO311 HO314 HI0 BK308 BK316 HK HB; revert n0_ n1_ n2_ n3_ n4_ n5_ n6_ n7_ n8_; intro HO311 HO314 HO321 HO324 HI0 BK308 BK316 HK HB; (try clear hb); (try clear hb2); (try clear hk); (try clear hi); (try clear ho0); (try clear ho1); obtain ⟨Ao20, co20, eo20⟩ := Kd.R_slice HO321.out; subst eo20; (obtain ⟨hcz21_0, hcz21_1⟩ := cells2 BK316.out); (obtain ⟨hfz21_0, hfz21_1⟩ := frozen2 BK316.out); obtain ⟨Ao22, co22, eo22⟩ := Kd.R_slice HO324.out; subst eo22))
  go_meet
  case rel => exact ⟨_, (t319), (t322), (.slice Ao20 t319.length co20), (.slice Ao22 t322.length co22), H', ⟨by first | omega | exact Nat.le_refl _⟩, ⟨by (with_reducible repeat (first | apply rN_ | apply rD_)); exact Kd.R_mono (rF_ (p := ⟨gb316, 1, none⟩) (rF_ (p := ⟨gb316, 0, none⟩) (Kd.R_types HO321.out BK316.out (by decide)) (fun _ hk => hk.2) (.slice Ao20 t319.length co20)) (fun _ hk => hk.2) (.slice Ao22 t322.length co22)) (fun _ hk => trivial)⟩, ⟨by (with_reducible repeat (first | apply rN_ | apply rD_)); exact Kd.R_mono (rF_ (p := ⟨gb316, 1, none⟩) (rF_ (p := ⟨gb316, 0, none⟩) (Kd.R_types HO324.out BK316.out (by decide)) (fun _ hk => hk.2) (.slice Ao20 t319.length co20)) (fun _ hk => hk.2) (.slice Ao22 t322.length co22)) (fun _ hk => trivial)⟩, ⟨by (with_reducible repeat (first | refine kN_ ?_ _ | refine kD_ ?_ | refine kA_ ?_ _)); refine blk_far ?_ NB308_316.out _; (with_reducible repeat (first | refine kN_ ?_ _ | refine kD_ ?_ | refine kA_ ?_ _)); refine blk_far ?_ NB308_316.out _; (with_reducible repeat (first | refine kN_ ?_ _ | refine kD_ ?_ | refine kA_ ?_ _)); exact BK308.out⟩, ⟨by (with_reducible repeat (first | refine kN_ ?_ _ | refine kD_ ?_ | refine kA_ ?_ _)); refine kP_ (cs := #[.slice Ao20 t319.length co20, .slice Ao12 t312.length co12]) ?_ 1 _ rfl; (with_reducible repeat (first | refine kN_ ?_ _ | refine kD_ ?_ | refine kA_ ?_ _)); refine kP_ (cs := #[.slice Ao8 t309.length co8, .slice Ao12 t312.length co12]) ?_ 0 _ rfl; (with_reducible repeat (first | refine kN_ ?_ _ | refine kD_ ?_ | refine kA_ ?_ _)); exact BK316.out⟩, ⟨by repeat (first | (with_reducible first | exact HI0.out | apply iA_ | apply iN_ | apply iD_ | apply iS_ | refine iF_ ?_ NB0_308.out _ | refine iF_ ?_ NB0_316.out _) | exact HI0.out)⟩, ⟨by repeat (first | (with_reducible first | exact HK.out | apply kS_ | apply pN_ | apply pD_ | apply pA_ | refine pF_ ?_ GW308.out _ | refine pF_ ?_ GW316.out _) | exact HK.out)⟩, ⟨by repeat (first | (with_reducible first | exact HB.out | apply bA_ | apply bN_ | apply b1_ | refine bS_ ?_ (IsS116.ge HI0.out) | refine bS_ ?_ GE308.out | refine bS_ ?_ GE316.out) | exact HB.out)⟩⟩
 case rest =>
  clear HC4
  try clear c1
  try clear p2
  try clear c3
  try clear c6
  try clear c9
  try clear c10
  try clear c14
  try clear c14b0
  try clear c14b1
  try clear c16
  try clear c17
  try clear hcz11_0
  try clear hcz11_1
  try clear hcz18_0
  try clear hcz18_1
  try clear hcz21_0
  try clear hcz21_1
  try clear hfz11_0
  try clear hfz11_1
  try clear hfz18_0
  try clear hfz18_1
  try clear hfz21_0
  try clear hfz21_1
  obtain ⟨kq, x317000_3, x317001_3, u317000, u317001, HA, HJ3, HO_317000, HO_317001, BK308, BK316, HI0, HK, HB⟩ := hcut
  cases kq with
  | zero => exact absurd HA.out (by simp [spec_l7Bent.j0])
  | succ kj3 =>
   have H := HA.out
   clear HA
   simp only [spec_l7Bent.j0] at H
   by_cases c23 : (x317000_3.length : Int) = 0
   · rw [if_pos c23] at H
     have c23b0 : ((x317000_3.length : Int) == 0) = true := beq_iff_eq.mpr c23
     have c23b1 : ((x317000_3.length : Int) != 0) = false := bne_eq_false_iff_eq.mpr c23
     clear c23
     simp only [Option.some.injEq, Prod.mk.injEq] at H
     obtain ⟨rfl, rfl, rfl⟩ := H
     have hnb24 := NB316_308.out
     have hnc24 := NB308_316.out
     have hnb25 := NB316_0.out
     have hnc25 := NB0_316.out
     (obtain ⟨hcz26_0, hcz26_1⟩ := cells2 BK316.out)
     (obtain ⟨hfz26_0, hfz26_1⟩ := frozen2 BK316.out)
     obtain ⟨Ao27, co27, eo27⟩ := Kd.R_slice HO_317000.out
     subst eo27
     have hnb28 := NB308_0.out
     have hnc28 := NB0_308.out
     (obtain ⟨hcz29_0, hcz29_1⟩ := cells2 BK308.out)
     (obtain ⟨hfz29_0, hfz29_1⟩ := frozen2 BK308.out)
     obtain ⟨Ao30, co30, eo30⟩ := Kd.R_slice HO_317001.out
     subst eo30
     go_wp2
     refine bodyPost_ret (results_cell_row rfl _ _ gb308 31 #[.slice Ao27 x317000_3.length co27, .slice Ao30 x317001_3.length co30] (0, 0) _ rfl (by (with_reducible repeat (first | refine kN_ ?_ _ | refine kD_ ?_ | refine kA_ ?_ _)); refine kP_ (cs := #[.slice Ao27 x317000_3.length co27, .slice none 0 0]) ?_ 1 _ rfl; (with_reducible repeat (first | refine kN_ ?_ _ | refine kD_ ?_ | refine kA_ ?_ _)); refine kP_ (cs := #[.slice none 0 0, .slice none 0 0]) ?_ 0 _ rfl; (with_reducible repeat (first | refine kN_ ?_ _ | refine kD_ ?_ | refine kA_ ?_ _)); exact BK308.out) Tryz.underlying31 rfl (by kernel_rfl)) rfl ?_
     exact ⟨_, _, by first | rfl | (simp [errW_none, errW_some] <;> rfl) | (simp [*, errW_none, errW_some] <;> rfl), by (with_reducible repeat (first | apply rN_ | apply rD_)); exact Kd.R_mono (rF_ (p := ⟨gb308, 1, none⟩) (rF_ (p := ⟨gb308, 0, none⟩) (Kd.R_types HO_317000.out BK308.out (by decide)) (fun _ hk => hk.2) (.slice Ao27 x317000_3.length co27)) (fun _ hk => hk.2) (.slice Ao30 x317001_3.length co30)) (fun _ hk => trivial), by (with_reducible repeat (first | apply rN_ | apply rD_)); exact Kd.R_mono (rF_ (p := ⟨gb308, 1, none⟩) (rF_ (p := ⟨gb308, 0, none⟩) (Kd.R_types HO_317001.out BK308.out (by decide)) (fun _ hk => hk.2) (.slice Ao27 x317000_3.length co27)) (fun _ hk => hk.2) (.slice Ao30 x317001_3.length co30)) (fun _ hk => trivial), by repeat (first | (with_reducible first | exact HI0.out | apply iA_ | apply iN_ | apply iD_ | apply iS_ | refine iF_ ?_ NB0_308.out _ | refine iF_ ?_ NB0_316.out _) | exact HI0.out), by repeat (first | (with_reducible first | exact HB.out | apply bA_ | apply bN_ | apply b1_ | refine bS_ ?_ (IsS116.ge HI0.out) | refine bS_ ?_ GE308.out | refine bS_ ?_ GE316.out) | exact HB.out), by repeat (first | (with_reducible first | exact HK.out | apply kS_ | apply pN_ | apply pD_ | apply pA_ | refine pF_ ?_ GW308.out _ | refine pF_ ?_ GW316.out _) | exact HK.out)⟩
   rw [if_neg c23] at H
   have c23b0 : ((x317000_3.length : Int) == 0) = false := beq_eq_false_iff_ne.mpr c23
   have c23b1 : ((x317000_3.length : Int) != 0) = true := bne_iff_ne.mpr c23
   have c23b2 : ¬ (x317000_3 = []) := fun h_ => c23 (by rw [h_]; rfl)
   replace H := Option.bind_eq_some_iff.mp H
   obtain ⟨⟨t325, t326⟩, A310, H⟩ := H
   replace H : ((spec_l12Rd_pick.f kj3 s0_0 t326 40).bind fun bt327 => (if bt327.1 = 0 then (if 0 ≤ t325 then (if t325 < (x317000_3.length : Int) then (some ((x317000_3.set (t325 : Int).toNat (⟨(rd_T43 x317000_3 t325).f0, (rd_T43 x317000_3 t325).f1, (⟨2, t325, (⟨0, 0⟩ : S39), false⟩ : S41), (⟨(rd_T43 x317000_3 t325).f3.f0, (rd_T43 x317000_3 t325).f3.f1, (⟨(rd_T43 x317000_3 t325).f3.f2.f0, (rd_T43 x317000_3 t325).f3.f2.f1⟩ : S39), (rd_T43 x317000_3 t325).f3.f3⟩ : S41)⟩ : S43)), x317001_3, bt327.2)) else (none)) else (none)) else (if bt327.1 = 1 then ((spec_l12Rd_num.f kj3 s0_0 bt327.2 (([0, 6, 14, 4] : List Int))).bind fun bt333 => (if 0 ≤ t325 then (if t325 < (x317000_3.length : Int) then (some ((x317000_3.set (t325 : Int).toNat (⟨bt333.1, (rd_T43 x317000_3 t325).f1, (⟨(rd_T43 x317000_3 t325).f2.f0, (rd_T43 x317000_3 t325).f2.f1, (⟨(rd_T43 x317000_3 t325).f2.f2.f0, (rd_T43 x317000_3 t325).f2.f2.f1⟩ : S39), (rd_T43 x317000_3 t325).f2.f3⟩ : S41), (⟨(rd_T43 x317000_3 t325).f3.f0, (rd_T43 x317000_3 t325).f3.f1, (⟨(rd_T43 x317000_3 t325).f3.f2.f0, (rd_T43 x317000_3 t325).f3.f2.f1⟩ : S39), (rd_T43 x317000_3 t325).f3.f3⟩ : S41)⟩ : S43)), x317001_3, bt333.2)) else (none)) else (none))) else (if bt327.1 = 2 then ((spec_l12Rd_num.f kj3 s0_0 bt327.2 (([(-1), 1, 1001] : List Int))).bind fun bt339 => (if 0 ≤ t325 then (if t325 < (x317000_3.length : Int) then (some ((x317000_3.set (t325 : Int).toNat (⟨(rd_T43 x317000_3 t325).f0, bt339.1, (⟨(rd_T43 x317000_3 t325).f2.f0, (rd_T43 x317000_3 t325).f2.f1, (⟨(rd_T43 x317000_3 t325).f2.f2.f0, (rd_T43 x317000_3 t325).f2.f2.f1⟩ : S39), (rd_T43 x317000_3 t325).f2.f3⟩ : S41), (⟨(rd_T43 x317000_3 t325).f3.f0, (rd_T43 x317000_3 t325).f3.f1, (⟨(rd_T43 x317000_3 t325).f3.f2.f0, (rd_T43 x317000_3 t325).f3.f2.f1⟩ : S39), (rd_T43 x317000_3 t325).f3.f3⟩ : S41)⟩ : S43)), x317001_3, bt339.2)) else (none)) else (none))) else (if bt327.1 = 3 then ((spec_l12Rd_pick.f kj3 s0_0 bt327.2 5).bind fun bt342 => ((spec_l12Rd_pick.f kj3 s0_0 bt342.2 9).bind fun bt344 => (if x317001_3.length < 5864062014805 then (some (x317000_3, (x317001_3 ++ [(⟨(⟨bt342.1, 5⟩ : S39), bt344.1⟩ : S66)]), bt344.2)) else (none)))) else (some (x317000_3, x317001_3, bt327.2))))))) = some (r1, r2, r3) := H
   have A31 := aM_ A310
   clear A310
   replace H := Option.bind_eq_some_iff.mp H
   obtain ⟨⟨t327, t328⟩, A320, H⟩ := H
   replace H : (if t327 = 0 then (if 0 ≤ t325 then (if t325 < (x317000_3.length : Int) then (some ((x317000_3.set (t325 : Int).toNat (⟨(rd_T43 x317000_3 t325).f0, (rd_T43 x317000_3 t325).f1, (⟨2, t325, (⟨0, 0⟩ : S39), false⟩ : S41), (⟨(rd_T43 x317000_3 t325).f3.f0, (rd_T43 x317000_3 t325).f3.f1, (⟨(rd_T43 x317000_3 t325).f3.f2.f0, (rd_T43 x317000_3 t325).f3.f2.f1⟩ : S39), (rd_T43 x317000_3 t325).f3.f3⟩ : S41)⟩ : S43)), x317001_3, t328)) else (none)) else (none)) else (if t327 = 1 then ((spec_l12Rd_num.f kj3 s0_0 t328 (([0, 6, 14, 4] : List Int))).bind fun bt333 => (if 0 ≤ t325 then (if t325 < (x317000_3.length : Int) then (some ((x317000_3.set (t325 : Int).toNat (⟨bt333.1, (rd_T43 x317000_3 t325).f1, (⟨(rd_T43 x317000_3 t325).f2.f0, (rd_T43 x317000_3 t325).f2.f1, (⟨(rd_T43 x317000_3 t325).f2.f2.f0, (rd_T43 x317000_3 t325).f2.f2.f1⟩ : S39), (rd_T43 x317000_3 t325).f2.f3⟩ : S41), (⟨(rd_T43 x317000_3 t325).f3.f0, (rd_T43 x317000_3 t325).f3.f1, (⟨(rd_T43 x317000_3 t325).f3.f2.f0, (rd_T43 x317000_3 t325).f3.f2.f1⟩ : S39), (rd_T43 x317000_3 t325).f3.f3⟩ : S41)⟩ : S43)), x317001_3, bt333.2)) else (none)) else (none))) else (if t327 = 2 then ((spec_l12Rd_num.f kj3 s0_0 t328 (([(-1), 1, 1001] : List Int))).bind fun bt339 => (if 0 ≤ t325 then (if t325 < (x317000_3.length : Int) then (some ((x317000_3.set (t325 : Int).toNat (⟨(rd_T43 x317000_3 t325).f0, bt339.1, (⟨(rd_T43 x317000_3 t325).f2.f0, (rd_T43 x317000_3 t325).f2.f1, (⟨(rd_T43 x317000_3 t325).f2.f2.f0, (rd_T43 x317000_3 t325).f2.f2.f1⟩ : S39), (rd_T43 x317000_3 t325).f2.f3⟩ : S41), (⟨(rd_T43 x317000_3 t325).f3.f0, (rd_T43 x317000_3 t325).f3.f1, (⟨(rd_T43 x317000_3 t325).f3.f2.f0, (rd_T43 x317000_3 t325).f3.f2.f1⟩ : S39), (rd_T43 x317000_3 t325).f3.f3⟩ : S41)⟩ : S43)), x317001_3, bt339.2)) else (none)) else (none))) else (if t327 = 3 then ((spec_l12Rd_pick.f kj3 s0_0 t328 5).bind fun bt342 => ((spec_l12Rd_pick.f kj3 s0_0 bt342.2 9).bind fun bt344 => (if x317001_3.length < 5864062014805 then (some (x317000_3, (x317001_3 ++ [(⟨(⟨bt342.1, 5⟩ : S39), bt344.1⟩ : S66)]), bt344.2)) else (none)))) else (some (x317000_3, x317001_3, t328)))))) = some (r1, r2, r3) := H
   have A32 := aM_ A320
   clear A320
   by_cases c33 : t327 = 0
   · rw [if_pos c33] at H
     have c33b0 : (t327 == 0) = true := beq_iff_eq.mpr c33
     have c33b1 : (t327 != 0) = false := bne_eq_false_iff_eq.mpr c33
     clear c33
     by_cases c34 : 0 ≤ t325
     rotate_left
     · rw [if_neg c34] at H
       exact absurd H (by simp)
     rw [if_pos c34] at H
     have c34b0 : decide (0 ≤ t325) = true := dT_ c34
     clear c34
     by_cases c35 : t325 < (x317000_3.length : Int)
     rotate_left
     · rw [if_neg c35] at H
       exact absurd H (by simp)
     rw [if_pos c35] at H
     have c35b0 : decide (t325 < (x317000_3.length : Int)) = true := dT_ c35
     clear c35
     obtain ⟨y329, hy329⟩ : ∃ y_ : List (S43), y_ = (x317000_3.set (t325 : Int).toNat (⟨(rd_T43 x317000_3 t325).f0, (rd_T43 x317000_3 t325).f1, (⟨2, t325, (⟨0, 0⟩ : S39), false⟩ : S41), (⟨(rd_T43 x317000_3 t325).f3.f0, (rd_T43 x317000_3 t325).f3.f1, (⟨(rd_T43 x317000_3 t325).f3.f2.f0, (rd_T43 x317000_3 t325).f3.f2.f1⟩ : S39), (rd_T43 x317000_3 t325).f3.f3⟩ : S41)⟩ : S43)) := ⟨_, rfl⟩
     replace H : (some (y329, x317001_3, t328)) = some (r1, r2, r3) := by first | (rw [hy329]; with_reducible exact H) | (have H2_ := (Option.bind_some _ _).symm.trans H; rw [hy329]; with_reducible exact H2_) | (have H2_ := (Option.bind_some _ _).symm.trans H; with_reducible exact H2_) | with_reducible exact H | (rw [hy329]; exact H) | exact H
     have Ny329 := aM_ hy329
     clear hy329
     simp only [Option.some.injEq, Prod.mk.injEq] at H
     obtain ⟨rfl, rfl, rfl⟩ := H
     have hnb37 := NB316_308.out
     have hnc37 := NB308_316.out
     have hnb38 := NB316_0.out
     have hnc38 := NB0_316.out
     (obtain ⟨hcz39_0, hcz39_1⟩ := cells2 BK316.out)
     (obtain ⟨hfz39_0, hfz39_1⟩ := frozen2 BK316.out)
     obtain ⟨Ao40, co40, eo40⟩ := Kd.R_slice HO_317000.out
     subst eo40
     go_wp2_with (first | ((with_reducible refine gate_callee (f := 64) rfl ?_); refine goesL_ (some 21) rfl rfl Tryz.func64 (by kernel_rfl) rfl #[.pointer (some ⟨g, 0, none⟩), .int .i64 (x317000_3.length : Int)] rfl (by (try simp only [mA_, List.map_cons, List.map_nil]); first | done | rfl | (simp only [lD_, lT_]; rfl)) ?_; (with_reducible refine (spec_l12Rd_pick.calls kj3 g s0_0 t318 (x317000_3.length : Int) t325 t326 w0 _ ?side1 ?side2 A31.out).mono ?_); (case side1 => repeat (first | (with_reducible first | exact HI0.out | apply iA_ | apply iN_ | apply iD_ | apply iS_ | refine iF_ ?_ NB0_308.out _ | refine iF_ ?_ NB0_316.out _) | exact HI0.out)); (case side2 => repeat (first | (with_reducible first | exact HB.out | apply bA_ | apply bN_ | apply b1_ | refine bS_ ?_ (IsS116.ge HI0.out) | refine bS_ ?_ GE308.out | refine bS_ ?_ GE316.out) | exact HB.out)); rintro e w41 ⟨rfl, hi, hb, hk⟩; refine ⟨_, rfl, ?_⟩; have n0_ := aM_ (Kd.R_mono (Kd.R_keep (IsS116.apart (show IsS116 w0 _ g s0_0 t318 from by repeat (first | (with_reducible first | exact HI0.out | apply iA_ | apply iN_ | apply iD_ | apply iS_ | refine iF_ ?_ NB0_308.out _ | refine iF_ ?_ NB0_316.out _) | exact HI0.out)) (by (with_reducible repeat (first | apply rN_ | apply rD_)); exact HO_317000.out) (by decide)) hk (fun _ h => h.2)) (fun _ h => h.1)); have n1_ := aM_ (Kd.R_mono (Kd.R_keep (IsS116.apart (show IsS116 w0 _ g s0_0 t318 from by repeat (first | (with_reducible first | exact HI0.out | apply iA_ | apply iN_ | apply iD_ | apply iS_ | refine iF_ ?_ NB0_308.out _ | refine iF_ ?_ NB0_316.out _) | exact HI0.out)) (by (with_reducible repeat (first | apply rN_ | apply rD_)); exact HO_317001.out) (by decide)) hk (fun _ h => h.2)) (fun _ h => h.1)); have n2_ := aM_ (KeepBut.blk hk (g' := gb308) (o := .cells #[.slice none 0 0, .slice none 0 0] 31 (0, 0)) (by (with_reducible repeat (first | refine kN_ ?_ _ | refine kD_ ?_ | refine kA_ ?_ _)); exact BK308.out) NB308_0.out (by simp)); have n3_ := aM_ (KeepBut.blk hk (g' := gb316) (o := .cells #[.slice Ao40 x317000_3.length co40, u317001] 31 (0, 0)) (by (with_reducible repeat (first | refine kN_ ?_ _ | refine kD_ ?_ | refine kA_ ?_ _)); exact BK316.out) NB316_0.out (by simp)); have n4_ := aM_ (KeepBut.trans (by repeat (first | (with_reducible first | exact HK.out | apply kS_ | apply pN_ | apply pD_ | apply pA_ | refine pF_ ?_ GW308.out _ | refine pF_ ?_ GW316.out _) | exact HK.out)) hk (.inl rfl)); have n5_ := aM_ (hb); have n6_ := aM_ (hi); clear HO_317000 HO_317001 BK308 BK316 HK HB HI0; revert n0_ n1_ n2_ n3_ n4_ n5_ n6_; intro HO_317000 HO_317001 BK308 BK316 HK HB HI0; (try clear hb); (try clear hb2); (try clear hk); (try clear hi)) | ((with_reducible refine gate_callee (f := 64) rfl ?_); refine goesL_ (some 23) rfl rfl Tryz.func64 (by kernel_rfl) rfl #[.pointer (some ⟨g, 0, none⟩), .int .i64 40] rfl (by (try simp only [mA_, List.map_cons, List.map_nil]); first | done | rfl | (simp only [lD_, lT_]; rfl)) ?_; (with_reducible refine (spec_l12Rd_pick.calls kj3 g s0_0 t326 40 t327 t328 w0 _ ?side1 ?side2 A32.out).mono ?_); (case side1 => repeat (first | (with_reducible first | exact HI0.out | apply iA_ | apply iN_ | apply iD_ | apply iS_ | refine iF_ ?_ NB0_308.out _ | refine iF_ ?_ NB0_316.out _) | exact HI0.out)); (case side2 => repeat (first | (with_reducible first | exact HB.out | apply bA_ | apply bN_ | apply b1_ | refine bS_ ?_ (IsS116.ge HI0.out) | refine bS_ ?_ GE308.out | refine bS_ ?_ GE316.out) | exact HB.out)); rintro e w42 ⟨rfl, hi, hb, hk⟩; refine ⟨_, rfl, ?_⟩; have n0_ := aM_ (Kd.R_mono (Kd.R_keep (IsS116.apart (show IsS116 w0 _ g s0_0 t326 from by repeat (first | (with_reducible first | exact HI0.out | apply iA_ | apply iN_ | apply iD_ | apply iS_ | refine iF_ ?_ NB0_308.out _ | refine iF_ ?_ NB0_316.out _) | exact HI0.out)) (by (with_reducible repeat (first | apply rN_ | apply rD_)); exact HO_317000.out) (by decide)) hk (fun _ h => h.2)) (fun _ h => h.1)); have n1_ := aM_ (Kd.R_mono (Kd.R_keep (IsS116.apart (show IsS116 w0 _ g s0_0 t326 from by repeat (first | (with_reducible first | exact HI0.out | apply iA_ | apply iN_ | apply iD_ | apply iS_ | refine iF_ ?_ NB0_308.out _ | refine iF_ ?_ NB0_316.out _) | exact HI0.out)) (by (with_reducible repeat (first | apply rN_ | apply rD_)); exact HO_317001.out) (by decide)) hk (fun _ h => h.2)) (fun _ h => h.1)); have n2_ := aM_ (KeepBut.blk hk (g' := gb308) (o := .cells #[.slice none 0 0, .slice none 0 0] 31 (0, 0)) (by (with_reducible repeat (first | refine kN_ ?_ _ | refine kD_ ?_ | refine kA_ ?_ _)); exact BK308.out) NB308_0.out (by simp)); have n3_ := aM_ (KeepBut.blk hk (g' := gb316) (o := .cells #[.slice Ao40 x317000_3.length co40, u317001] 31 (0, 0)) (by (with_reducible repeat (first | refine kN_ ?_ _ | refine kD_ ?_ | refine kA_ ?_ _)); exact BK316.out) NB316_0.out (by simp)); have n4_ := aM_ (KeepBut.trans (by repeat (first | (with_reducible first | exact HK.out | apply kS_ | apply pN_ | apply pD_ | apply pA_ | refine pF_ ?_ GW308.out _ | refine pF_ ?_ GW316.out _) | exact HK.out)) hk (.inl rfl)); have n5_ := aM_ (hb); have n6_ := aM_ (hi); clear HO_317000 HO_317001 BK308 BK316 HK HB HI0; revert n0_ n1_ n2_ n3_ n4_ n5_ n6_; intro HO_317000 HO_317001 BK308 BK316 HK HB HI0; (try clear hb); (try clear hb2); (try clear hk); (try clear hi); (obtain ⟨hcz43_0, hcz43_1⟩ := cells2 BK316.out); (obtain ⟨hfz43_0, hfz43_1⟩ := frozen2 BK316.out); have p36 : 0 ≤ (t325 : Int) := oD_ (by first | (with_reducible assumption) | assumption); have q36 : (t325 : Int) < ((x317000_3.length : Int) : Int) := oD_ (by first | (with_reducible assumption) | assumption); obtain ⟨go36, co36, eo36, gb36, gl36, cl36, HG36⟩ := Kd.R_form HO_317000.out (by omega); (first | cases eo36 | (injection eo36 with ea_ en_ ec_; (first | subst ea_ | (injection ea_ with ea_; subst ea_)); subst ec_; clear en_)); have GB36 := aM_ gb36; have GG36 := aM_ HG36; clear gb36 gl36 HG36; obtain ⟨ce36, hcl36, hM36, hcc36, hfr36⟩ := Kd.R_elem HO_317000.out z43 (t325 : Int) p36 q36; obtain rfl := k43_openM hM36; have hx36_0 : w42.cell? ⟨go36, (t325 : Int).toNat * 12, none⟩ = some (.int .i64 ((rd_T43 x317000_3 t325).f0)) := hcc36 0 _ rfl; have hx36_1 : w42.cell? ⟨go36, (t325 : Int).toNat * 12 + 1, none⟩ = some (.int .i64 ((rd_T43 x317000_3 t325).f1)) := hcc36 1 _ rfl; have hx36_2 : w42.cell? ⟨go36, (t325 : Int).toNat * 12 + 2, none⟩ = some (.int .i64 ((rd_T43 x317000_3 t325).f2.f0)) := hcc36 2 _ rfl; have hx36_3 : w42.cell? ⟨go36, (t325 : Int).toNat * 12 + 3, none⟩ = some (.int .i64 ((rd_T43 x317000_3 t325).f2.f1)) := hcc36 3 _ rfl; have hx36_4 : w42.cell? ⟨go36, (t325 : Int).toNat * 12 + 4, none⟩ = some (.int .i64 ((rd_T43 x317000_3 t325).f2.f2.f0)) := hcc36 4 _ rfl; have hx36_5 : w42.cell? ⟨go36, (t325 : Int).toNat * 12 + 5, none⟩ = some (.int .i64 ((rd_T43 x317000_3 t325).f2.f2.f1)) := hcc36 5 _ rfl; have hx36_6 : w42.cell? ⟨go36, (t325 : Int).toNat * 12 + 6, none⟩ = some (.bool ((rd_T43 x317000_3 t325).f2.f3)) := hcc36 6 _ rfl; have hx36_7 : w42.cell? ⟨go36, (t325 : Int).toNat * 12 + 7, none⟩ = some (.int .i64 ((rd_T43 x317000_3 t325).f3.f0)) := hcc36 7 _ rfl; have hx36_8 : w42.cell? ⟨go36, (t325 : Int).toNat * 12 + 8, none⟩ = some (.int .i64 ((rd_T43 x317000_3 t325).f3.f1)) := hcc36 8 _ rfl; have hx36_9 : w42.cell? ⟨go36, (t325 : Int).toNat * 12 + 9, none⟩ = some (.int .i64 ((rd_T43 x317000_3 t325).f3.f2.f0)) := hcc36 9 _ rfl; have hx36_10 : w42.cell? ⟨go36, (t325 : Int).toNat * 12 + 10, none⟩ = some (.int .i64 ((rd_T43 x317000_3 t325).f3.f2.f1)) := hcc36 10 _ rfl; have hx36_11 : w42.cell? ⟨go36, (t325 : Int).toNat * 12 + 11, none⟩ = some (.bool ((rd_T43 x317000_3 t325).f3.f3)) := hcc36 11 _ rfl; have hf36_0 : w42.frozen? ⟨go36, (t325 : Int).toNat * 12, none⟩ = false := hfr36 0; have hf36_1 : w42.frozen? ⟨go36, (t325 : Int).toNat * 12 + 1, none⟩ = false := hfr36 1; have hf36_2 : w42.frozen? ⟨go36, (t325 : Int).toNat * 12 + 2, none⟩ = false := hfr36 2; have hf36_3 : w42.frozen? ⟨go36, (t325 : Int).toNat * 12 + 3, none⟩ = false := hfr36 3; have hf36_4 : w42.frozen? ⟨go36, (t325 : Int).toNat * 12 + 4, none⟩ = false := hfr36 4; have hf36_5 : w42.frozen? ⟨go36, (t325 : Int).toNat * 12 + 5, none⟩ = false := hfr36 5; have hf36_6 : w42.frozen? ⟨go36, (t325 : Int).toNat * 12 + 6, none⟩ = false := hfr36 6; have hf36_7 : w42.frozen? ⟨go36, (t325 : Int).toNat * 12 + 7, none⟩ = false := hfr36 7; have hf36_8 : w42.frozen? ⟨go36, (t325 : Int).toNat * 12 + 8, none⟩ = false := hfr36 8; have hf36_9 : w42.frozen? ⟨go36, (t325 : Int).toNat * 12 + 9, none⟩ = false := hfr36 9; have hf36_10 : w42.frozen? ⟨go36, (t325 : Int).toNat * 12 + 10, none⟩ = false := hfr36 10; have hf36_11 : w42.frozen? ⟨go36, (t325 : Int).toNat * 12 + 11, none⟩ = false := hfr36 11; clear hcl36 hcc36 hfr36 hM36; replace p36 := eq_true p36; replace q36 := eq_true q36; have HX44 := aM_ (show Kd.R k43 43 w42 w.heap.size (fun _ => True) (.slice (some ⟨go36, 0, none⟩) x317000_3.length co40) x317000_3 from (by (with_reducible repeat (first | apply rN_ | apply rD_)); exact HO_317000.out)); obtain ⟨ce44, hcl44, hM44, hcc44, hfr44⟩ := Kd.R_elem HX44.out z43 (t325 : Int) (oD_ (by first | (with_reducible assumption) | assumption)) (by have h_ : (t325 : Int) < ((x317000_3.length : Int) : Int) := oD_ (by first | (with_reducible assumption) | assumption); first | exact h_ | (have e_ := (Kd.R_reads' HO_317000.out).1; omega) | simpa using h_); obtain rfl := k43_openM hM44; have HP44 := Kd.R_seg HX44.out (t325 : Int) (oD_ (by first | (with_reducible assumption) | assumption)) (by have h_ : (t325 : Int) < ((x317000_3.length : Int) : Int) := oD_ (by first | (with_reducible assumption) | assumption); first | exact h_ | (have e_ := (Kd.R_reads' HO_317000.out).1; omega) | simpa using h_) (seg := [.int .i64 2, .int .i64 t325, .int .i64 0, .int .i64 0, .bool false]) (j := 2) hcl44 hcc44 (show 7 ≤ 12 from by decide) (x' := (⟨(rd_T43 x317000_3 t325).f0, (rd_T43 x317000_3 t325).f1, (⟨2, t325, (⟨0, 0⟩ : S39), false⟩ : S41), (⟨(rd_T43 x317000_3 t325).f3.f0, (rd_T43 x317000_3 t325).f3.f1, (⟨(rd_T43 x317000_3 t325).f3.f2.f0, (rd_T43 x317000_3 t325).f3.f2.f1⟩ : S39), (rd_T43 x317000_3 t325).f3.f3⟩ : S41)⟩ : S43)) (k43_mkM _ _ _ (⟨(rd_T43 x317000_3 t325).f0, (rd_T43 x317000_3 t325).f1, (⟨2, t325, (⟨0, 0⟩ : S39), false⟩ : S41), (⟨(rd_T43 x317000_3 t325).f3.f0, (rd_T43 x317000_3 t325).f3.f1, (⟨(rd_T43 x317000_3 t325).f3.f2.f0, (rd_T43 x317000_3 t325).f3.f2.f1⟩ : S39), (rd_T43 x317000_3 t325).f3.f3⟩ : S41)⟩ : S43) ) (fun _ hk => hk); have hx44_2 := hcc44 2 _ rfl; (try simp only [show (k43).sz = 12 from rfl, Nat.mul_one, Nat.add_zero] at hx44_2); have hf44_2 := hfr44 2; (try simp only [show (k43).sz = 12 from rfl, Nat.mul_one, Nat.add_zero] at hf44_2); have hx44_3 := hcc44 3 _ rfl; (try simp only [show (k43).sz = 12 from rfl, Nat.mul_one, Nat.add_zero] at hx44_3); have hf44_3 := hfr44 3; (try simp only [show (k43).sz = 12 from rfl, Nat.mul_one, Nat.add_zero] at hf44_3); have hx44_4 := hcc44 4 _ rfl; (try simp only [show (k43).sz = 12 from rfl, Nat.mul_one, Nat.add_zero] at hx44_4); have hf44_4 := hfr44 4; (try simp only [show (k43).sz = 12 from rfl, Nat.mul_one, Nat.add_zero] at hf44_4); have hx44_5 := hcc44 5 _ rfl; (try simp only [show (k43).sz = 12 from rfl, Nat.mul_one, Nat.add_zero] at hx44_5); have hf44_5 := hfr44 5; (try simp only [show (k43).sz = 12 from rfl, Nat.mul_one, Nat.add_zero] at hf44_5); have hx44_6 := hcc44 6 _ rfl; (try simp only [show (k43).sz = 12 from rfl, Nat.mul_one, Nat.add_zero] at hx44_6); have hf44_6 := hfr44 6; (try simp only [show (k43).sz = 12 from rfl, Nat.mul_one, Nat.add_zero] at hf44_6); clear hcl44 hcc44 hfr44 hM44) | ((with_reducible refine gate_store (t := 41) (p := 32) rfl ?_); refine store_event (t := 41) (p := 32) (v := ?vo_w45) (w1 := (((((w42.setCell ⟨go36, (t325 : Int).toNat * 12 + 2, none⟩ (.int .i64 2)).setCell ⟨go36, (t325 : Int).toNat * 12 + 3, none⟩ (.int .i64 t325)).setCell ⟨go36, (t325 : Int).toNat * 12 + 4, none⟩ (.int .i64 0)).setCell ⟨go36, (t325 : Int).toNat * 12 + 5, none⟩ (.int .i64 0)).setCell ⟨go36, (t325 : Int).toNat * 12 + 6, none⟩ (.bool false))) ?hg ?ho ?hn ?hr ?_; (case ho => rfl); (case hg => rfl); (case hn => rfl); (case hr => first | (go_simp; done) | (go_simp; rfl)); intro w45 hw; have hg : w42.grownBy w45 (some go36) := (by rw [hw]; exact HP44.2); have hp_ : Kd.R k43 43 w45 w.heap.size (fun _ => True) (.slice (some ⟨go36, 0, none⟩) x317000_3.length co40) y329 := (by rw [hw, Ny329.out]; exact HP44.1); clear HP44; have n0_ := aM_ (hp_); have n1_ := aM_ (Kd.R_over' (v := (.slice (some ⟨go36, 0, none⟩) x317000_3.length co40)) (by (with_reducible repeat (first | apply rN_ | apply rD_)); exact HO_317001.out) (Kd.R_typed HO_317000.out) (by decide) hg); have n2_ := aM_ (blk_grown (g := gb308) (o := .cells #[.slice none 0 0, .slice none 0 0] 31 (0, 0)) (by (with_reducible repeat (first | refine kN_ ?_ _ | refine kD_ ?_ | refine kA_ ?_ _)); exact BK308.out) hg (Kd.R_ne HO_317000.out BK308.out (by decide))); have n3_ := aM_ (blk_grown (g := gb316) (o := .cells #[.slice (some ⟨go36, 0, none⟩) x317000_3.length co40, u317001] 31 (0, 0)) (by (with_reducible repeat (first | refine kN_ ?_ _ | refine kD_ ?_ | refine kA_ ?_ _)); exact BK316.out) hg (Kd.R_ne HO_317000.out BK316.out (by decide))); have n4_ := aM_ (IsS116.grown (by repeat (first | (with_reducible first | exact HI0.out | apply iA_ | apply iN_ | apply iD_ | apply iS_ | refine iF_ ?_ NB0_308.out _ | refine iF_ ?_ NB0_316.out _) | exact HI0.out)) hg (IsS116.own_ne HI0.out HO_317000.out (by decide))); have n5_ := aM_ ((by rw [hw]; exact bS_ (bS_ (bS_ (bS_ (bS_ (HB.out) (Nat.le_trans HL.out GB36.out)) (Nat.le_trans HL.out GB36.out)) (Nat.le_trans HL.out GB36.out)) (Nat.le_trans HL.out GB36.out)) (Nat.le_trans HL.out GB36.out) : Below w0.heap.size w0 w45)); have n6_ := aM_ (KeepBut.trans (by repeat (first | (with_reducible first | exact HK.out | apply kS_ | apply pN_ | apply pD_ | apply pA_ | refine pF_ ?_ GW308.out _ | refine pF_ ?_ GW316.out _) | exact HK.out)) (KeepBut.of_grown hg g) (Kd.R_base2 HO_317000.out)); clear HO_317000 HO_317001 BK308 BK316 HI0 HB HK; have HO_317000 := n0_; have HO_317001 := n1_; have BK308 := n2_; have BK316 := n3_; have HI0 := n4_; have HB := n5_; have HK := n6_; clear n0_ n1_ n2_ n3_ n4_ n5_ n6_ hg hw hp_; (obtain ⟨hcz46_0, hcz46_1⟩ := cells2 BK316.out); (obtain ⟨hfz46_0, hfz46_1⟩ := frozen2 BK316.out); have hnb47 := NB308_0.out; have hnc47 := NB0_308.out; (obtain ⟨hcz48_0, hcz48_1⟩ := cells2 BK308.out); (obtain ⟨hfz48_0, hfz48_1⟩ := frozen2 BK308.out); obtain ⟨Ao49, co49, eo49⟩ := Kd.R_slice HO_317001.out; subst eo49))
     refine bodyPost_ret (results_cell_row rfl _ _ gb308 31 #[.slice (some ⟨go36, 0, none⟩) x317000_3.length co40, .slice Ao49 x317001_3.length co49] (0, 0) _ rfl (by (with_reducible repeat (first | refine kN_ ?_ _ | refine kD_ ?_ | refine kA_ ?_ _)); refine kP_ (cs := #[.slice (some ⟨go36, 0, none⟩) x317000_3.length co40, .slice none 0 0]) ?_ 1 _ rfl; (with_reducible repeat (first | refine kN_ ?_ _ | refine kD_ ?_ | refine kA_ ?_ _)); refine kP_ (cs := #[.slice none 0 0, .slice none 0 0]) ?_ 0 _ rfl; (with_reducible repeat (first | refine kN_ ?_ _ | refine kD_ ?_ | refine kA_ ?_ _)); exact BK308.out) Tryz.underlying31 rfl (by kernel_rfl)) rfl ?_
     exact ⟨_, _, by first | rfl | (simp [errW_none, errW_some] <;> rfl) | (simp [*, errW_none, errW_some] <;> rfl), by (with_reducible repeat (first | apply rN_ | apply rD_)); exact Kd.R_mono (rF_ (p := ⟨gb308, 1, none⟩) (rF_ (p := ⟨gb308, 0, none⟩) (Kd.R_types HO_317000.out BK308.out (by decide)) (fun _ hk => hk.2) (.slice (some ⟨go36, 0, none⟩) x317000_3.length co40)) (fun _ hk => hk.2) (.slice Ao49 x317001_3.length co49)) (fun _ hk => trivial), by (with_reducible repeat (first | apply rN_ | apply rD_)); exact Kd.R_mono (rF_ (p := ⟨gb308, 1, none⟩) (rF_ (p := ⟨gb308, 0, none⟩) (Kd.R_types HO_317001.out BK308.out (by decide)) (fun _ hk => hk.2) (.slice (some ⟨go36, 0, none⟩) x317000_3.length co40)) (fun _ hk => hk.2) (.slice Ao49 x317001_3.length co49)) (fun _ hk => trivial), by repeat (first | (with_reducible first | exact HI0.out | apply iA_ | apply iN_ | apply iD_ | apply iS_ | refine iF_ ?_ NB0_308.out _ | refine iF_ ?_ NB0_316.out _) | exact HI0.out), by repeat (first | (with_reducible first | exact HB.out | apply bA_ | apply bN_ | apply b1_ | refine bS_ ?_ (IsS116.ge HI0.out) | refine bS_ ?_ GE308.out | refine bS_ ?_ GE316.out) | exact HB.out), by repeat (first | (with_reducible first | exact HK.out | apply kS_ | apply pN_ | apply pD_ | apply pA_ | refine pF_ ?_ GW308.out _ | refine pF_ ?_ GW316.out _) | exact HK.out)⟩
   rw [if_neg c33] at H
   have c33b0 : (t327 == 0) = false := beq_eq_false_iff_ne.mpr c33
   have c33b1 : (t327 != 0) = true := bne_iff_ne.mpr c33
   by_cases c50 : t327 = 1
   · rw [if_pos c50] at H
     have c50b0 : (t327 == 1) = true := beq_iff_eq.mpr c50
     have c50b1 : (t327 != 1) = false := bne_eq_false_iff_eq.mpr c50
     clear c50
     obtain ⟨y330, hy330⟩ : ∃ y_ : List Int, y_ = (([0, 6, 14, 4] : List Int)) := ⟨_, rfl⟩
     replace H : ((spec_l12Rd_num.f kj3 s0_0 t328 y330).bind fun bt333 => (if 0 ≤ t325 then (if t325 < (x317000_3.length : Int) then (some ((x317000_3.set (t325 : Int).toNat (⟨bt333.1, (rd_T43 x317000_3 t325).f1, (⟨(rd_T43 x317000_3 t325).f2.f0, (rd_T43 x317000_3 t325).f2.f1, (⟨(rd_T43 x317000_3 t325).f2.f2.f0, (rd_T43 x317000_3 t325).f2.f2.f1⟩ : S39), (rd_T43 x317000_3 t325).f2.f3⟩ : S41), (⟨(rd_T43 x317000_3 t325).f3.f0, (rd_T43 x317000_3 t325).f3.f1, (⟨(rd_T43 x317000_3 t325).f3.f2.f0, (rd_T43 x317000_3 t325).f3.f2.f1⟩ : S39), (rd_T43 x317000_3 t325).f3.f3⟩ : S41)⟩ : S43)), x317001_3, bt333.2)) else (none)) else (none))) = some (r1, r2, r3) := by first | (rw [hy330]; with_reducible exact H) | (have H2_ := (Option.bind_some _ _).symm.trans H; rw [hy330]; with_reducible exact H2_) | (have H2_ := (Option.bind_some _ _).symm.trans H; with_reducible exact H2_) | with_reducible exact H | (rw [hy330]; exact H) | exact H
     have Ny330 := aM_ hy330
     clear hy330
     replace H := Option.bind_eq_some_iff.mp H
     obtain ⟨⟨t333, t334⟩, A510, H⟩ := H
     replace H : (if 0 ≤ t325 then (if t325 < (x317000_3.length : Int) then (some ((x317000_3.set (t325 : Int).toNat (⟨t333, (rd_T43 x317000_3 t325).f1, (⟨(rd_T43 x317000_3 t325).f2.f0, (rd_T43 x317000_3 t325).f2.f1, (⟨(rd_T43 x317000_3 t325).f2.f2.f0, (rd_T43 x317000_3 t325).f2.f2.f1⟩ : S39), (rd_T43 x317000_3 t325).f2.f3⟩ : S41), (⟨(rd_T43 x317000_3 t325).f3.f0, (rd_T43 x317000_3 t325).f3.f1, (⟨(rd_T43 x317000_3 t325).f3.f2.f0, (rd_T43 x317000_3 t325).f3.f2.f1⟩ : S39), (rd_T43 x317000_3 t325).f3.f3⟩ : S41)⟩ : S43)), x317001_3, t334)) else (none)) else (none)) = some (r1, r2, r3) := H
     have A51 := aM_ A510
     clear A510
     by_cases c52 : 0 ≤ t325
     rotate_left
     · rw [if_neg c52] at H
       exact absurd H (by simp)
     rw [if_pos c52] at H
     have c52b0 : decide (0 ≤ t325) = true := dT_ c52
     clear c52
     by_cases c53 : t325 < (x317000_3.length : Int)
     rotate_left
     · rw [if_neg c53] at H
       exact absurd H (by simp)
     rw [if_pos c53] at H
     have c53b0 : decide (t325 < (x317000_3.length : Int)) = true := dT_ c53
     clear c53
     obtain ⟨y335, hy335⟩ : ∃ y_ : List (S43), y_ = (x317000_3.set (t325 : Int).toNat (⟨t333, (rd_T43 x317000_3 t325).f1, (⟨(rd_T43 x317000_3 t325).f2.f0, (rd_T43 x317000_3 t325).f2.f1, (⟨(rd_T43 x317000_3 t325).f2.f2.f0, (rd_T43 x317000_3 t325).f2.f2.f1⟩ : S39), (rd_T43 x317000_3 t325).f2.f3⟩ : S41), (⟨(rd_T43 x317000_3 t325).f3.f0, (rd_T43 x317000_3 t325).f3.f1, (⟨(rd_T43 x317000_3 t325).f3.f2.f0, (rd_T43 x317000_3 t325).f3.f2.f1⟩ : S39), (rd_T43 x317000_3 t325).f3.f3⟩ : S41)⟩ : S43)) := ⟨_, rfl⟩
     replace H : (some (y335, x317001_3, t334)) = some (r1, r2, r3) := by first | (rw [hy335]; with_reducible exact H) | (have H2_ := (Option.bind_some _ _).symm.trans H; rw [hy335]; with_reducible exact H2_) | (have H2_ := (Option.bind_some _ _).symm.trans H; with_reducible exact H2_) | with_reducible exact H | (rw [hy335]; exact H) | exact H
     have Ny335 := aM_ hy335
     clear hy335
     simp only [Option.some.injEq, Prod.mk.injEq] at H
     obtain ⟨rfl, rfl, rfl⟩ := H
     have hnb55 := NB316_308.out
     have hnc55 := NB308_316.out
     have hnb56 := NB316_0.out
     have hnc56 := NB0_316.out
     (obtain ⟨hcz57_0, hcz57_1⟩ := cells2 BK316.out)
     (obtain ⟨hfz57_0, hfz57_1⟩ := frozen2 BK316.out)
     obtain ⟨Ao58, co58, eo58⟩ := Kd.R_slice HO_317000.out
     subst eo58
     try go_wp2_with (first | ((with_reducible refine gate_callee (f := 64) rfl ?_); refine goesL_ (some 21) rfl rfl Tryz.func64 (by kernel_rfl) rfl #[.pointer (some ⟨g, 0, none⟩), .int .i64 (x317000_3.length : Int)] rfl (by (try simp only [mA_, List.map_cons, List.map_nil]); first | done | rfl | (simp only [lD_, lT_]; rfl)) ?_; (with_reducible refine (spec_l12Rd_pick.calls kj3 g s0_0 t318 (x317000_3.length : Int) t325 t326 w0 _ ?side1 ?side2 A31.out).mono ?_); (case side1 => repeat (first | (with_reducible first | exact HI0.out | apply iA_ | apply iN_ | apply iD_ | apply iS_ | refine iF_ ?_ NB0_308.out _ | refine iF_ ?_ NB0_316.out _) | exact HI0.out)); (case side2 => repeat (first | (with_reducible first | exact HB.out | apply bA_ | apply bN_ | apply b1_ | refine bS_ ?_ (IsS116.ge HI0.out) | refine bS_ ?_ GE308.out | refine bS_ ?_ GE316.out) | exact HB.out)); rintro e w59 ⟨rfl, hi, hb, hk⟩; refine ⟨_, rfl, ?_⟩; have n0_ := aM_ (Kd.R_mono (Kd.R_keep (IsS116.apart (show IsS116 w0 _ g s0_0 t318 from by repeat (first | (with_reducible first | exact HI0.out | apply iA_ | apply iN_ | apply iD_ | apply iS_ | refine iF_ ?_ NB0_308.out _ | refine iF_ ?_ NB0_316.out _) | exact HI0.out)) (by (with_reducible repeat (first | apply rN_ | apply rD_)); exact HO_317000.out) (by decide)) hk (fun _ h => h.2)) (fun _ h => h.1)); have n1_ := aM_ (Kd.R_mono (Kd.R_keep (IsS116.apart (show IsS116 w0 _ g s0_0 t318 from by repeat (first | (with_reducible first | exact HI0.out | apply iA_ | apply iN_ | apply iD_ | apply iS_ | refine iF_ ?_ NB0_308.out _ | refine iF_ ?_ NB0_316.out _) | exact HI0.out)) (by (with_reducible repeat (first | apply rN_ | apply rD_)); exact HO_317001.out) (by decide)) hk (fun _ h => h.2)) (fun _ h => h.1)); have n2_ := aM_ (KeepBut.blk hk (g' := gb308) (o := .cells #[.slice none 0 0, .slice none 0 0] 31 (0, 0)) (by (with_reducible repeat (first | refine kN_ ?_ _ | refine kD_ ?_ | refine kA_ ?_ _)); exact BK308.out) NB308_0.out (by simp)); have n3_ := aM_ (KeepBut.blk hk (g' := gb316) (o := .cells #[.slice Ao58 x317000_3.length co58, u317001] 31 (0, 0)) (by (with_reducible repeat (first | refine kN_ ?_ _ | refine kD_ ?_ | refine kA_ ?_ _)); exact BK316.out) NB316_0.out (by simp)); have n4_ := aM_ (KeepBut.trans (by repeat (first | (with_reducible first | exact HK.out | apply kS_ | apply pN_ | apply pD_ | apply pA_ | refine pF_ ?_ GW308.out _ | refine pF_ ?_ GW316.out _) | exact HK.out)) hk (.inl rfl)); have n5_ := aM_ (hb); have n6_ := aM_ (hi); clear HO_317000 HO_317001 BK308 BK316 HK HB HI0; revert n0_ n1_ n2_ n3_ n4_ n5_ n6_; intro HO_317000 HO_317001 BK308 BK316 HK HB HI0; (try clear hb); (try clear hb2); (try clear hk); (try clear hi)) | ((with_reducible refine gate_callee (f := 64) rfl ?_); refine goesL_ (some 23) rfl rfl Tryz.func64 (by kernel_rfl) rfl #[.pointer (some ⟨g, 0, none⟩), .int .i64 40] rfl (by (try simp only [mA_, List.map_cons, List.map_nil]); first | done | rfl | (simp only [lD_, lT_]; rfl)) ?_; (with_reducible refine (spec_l12Rd_pick.calls kj3 g s0_0 t326 40 t327 t328 w0 _ ?side1 ?side2 A32.out).mono ?_); (case side1 => repeat (first | (with_reducible first | exact HI0.out | apply iA_ | apply iN_ | apply iD_ | apply iS_ | refine iF_ ?_ NB0_308.out _ | refine iF_ ?_ NB0_316.out _) | exact HI0.out)); (case side2 => repeat (first | (with_reducible first | exact HB.out | apply bA_ | apply bN_ | apply b1_ | refine bS_ ?_ (IsS116.ge HI0.out) | refine bS_ ?_ GE308.out | refine bS_ ?_ GE316.out) | exact HB.out)); rintro e w60 ⟨rfl, hi, hb, hk⟩; refine ⟨_, rfl, ?_⟩; have n0_ := aM_ (Kd.R_mono (Kd.R_keep (IsS116.apart (show IsS116 w0 _ g s0_0 t326 from by repeat (first | (with_reducible first | exact HI0.out | apply iA_ | apply iN_ | apply iD_ | apply iS_ | refine iF_ ?_ NB0_308.out _ | refine iF_ ?_ NB0_316.out _) | exact HI0.out)) (by (with_reducible repeat (first | apply rN_ | apply rD_)); exact HO_317000.out) (by decide)) hk (fun _ h => h.2)) (fun _ h => h.1)); have n1_ := aM_ (Kd.R_mono (Kd.R_keep (IsS116.apart (show IsS116 w0 _ g s0_0 t326 from by repeat (first | (with_reducible first | exact HI0.out | apply iA_ | apply iN_ | apply iD_ | apply iS_ | refine iF_ ?_ NB0_308.out _ | refine iF_ ?_ NB0_316.out _) | exact HI0.out)) (by (with_reducible repeat (first | apply rN_ | apply rD_)); exact HO_317001.out) (by decide)) hk (fun _ h => h.2)) (fun _ h => h.1)); have n2_ := aM_ (KeepBut.blk hk (g' := gb308) (o := .cells #[.slice none 0 0, .slice none 0 0] 31 (0, 0)) (by (with_reducible repeat (first | refine kN_ ?_ _ | refine kD_ ?_ | refine kA_ ?_ _)); exact BK308.out) NB308_0.out (by simp)); have n3_ := aM_ (KeepBut.blk hk (g' := gb316) (o := .cells #[.slice Ao58 x317000_3.length co58, u317001] 31 (0, 0)) (by (with_reducible repeat (first | refine kN_ ?_ _ | refine kD_ ?_ | refine kA_ ?_ _)); exact BK316.out) NB316_0.out (by simp)); have n4_ := aM_ (KeepBut.trans (by repeat (first | (with_reducible first | exact HK.out | apply kS_ | apply pN_ | apply pD_ | apply pA_ | refine pF_ ?_ GW308.out _ | refine pF_ ?_ GW316.out _) | exact HK.out)) hk (.inl rfl)); have n5_ := aM_ (hb); have n6_ := aM_ (hi); clear HO_317000 HO_317001 BK308 BK316 HK HB HI0; revert n0_ n1_ n2_ n3_ n4_ n5_ n6_; intro HO_317000 HO_317001 BK308 BK316 HK HB HI0; (try clear hb); (try clear hb2); (try clear hk); (try clear hi)))
     have n0_ := aM_ (rD_ HO_317000.out)
     have n1_ := aM_ (rD_ HO_317001.out)
     have n2_ := aM_ (kD_ BK308.out)
     have n3_ := aM_ (kD_ BK316.out)
     have n4_ := aM_ (iD_ HI0.out)
     have n5_ := aM_ (pD_ HK.out)
     have n6_ := aM_ (b1_ HB.out)
     clear HO_317000 HO_317001 BK308 BK316 HI0 HK HB
     revert n0_ n1_ n2_ n3_ n4_ n5_ n6_
     intro HO_317000 HO_317001 BK308 BK316 HI0 HK HB
     refine start_ (n := 9) (S := fun w' => w'.cell? ⟨gb316, 0, none⟩ = some (.slice Ao58 x317000_3.length co58) ∧ w'.cell? ⟨gb316, 1, none⟩ = some (u317001)) (ds := [8]) #[F_, F_, F_, F_, F_, F_, F_, F_, F_] (by kernel_rfl) rfl rfl ⟨(kC_ BK316.out 0).trans rfl, (kC_ BK316.out 1).trans rfl⟩ (fun hHeld => ?_); refine with_tabW spec_l7Bent.tab11 spec_l7Bent.bits11 (fun HT_ HW_ => ?_)
     generalize w60.drew = w61 at HO_317000 HO_317001 BK308 BK316 HI0 HK HB hHeld ⊢
     refine pure_ (i := 0) (N := some 35) (v := ?_) (a' := ?_) #[T_, F_, F_, F_, F_, F_, F_, F_, F_] rfl rfl (any_of HT_.out (by kernel_rfl)) (fun _ _ _ h => h) (Or.inl ⟨by rfl, ?_⟩) ?_ ?_
     rotate_left
     · intro w'
       go_simp
       with_reducible rfl
     rotate_left
     · simp only [Act.put, sA_, sB_, sC_, i64_w, i32_w]
       rfl
     refine pure_ (i := 2) (N := some 37) (v := ?_) (a' := ?_) #[T_, F_, T_, F_, F_, F_, F_, F_, F_] rfl rfl (any_of HT_.out (by kernel_rfl)) (fun _ _ _ h => h) (Or.inl ⟨by rfl, ?_⟩) ?_ ?_
     rotate_left
     · intro w'
       go_simp
       with_reducible rfl
     rotate_left
     · simp only [Act.put, sA_, sB_, sC_, i64_w, i32_w]
       rfl
     refine pure_ (i := 3) (N := some 38) (v := ?_) (a' := ?_) #[T_, F_, T_, T_, F_, F_, F_, F_, F_] rfl rfl (any_of HT_.out (by kernel_rfl)) (fun _ _ _ h => h) (Or.inl ⟨by rfl, ?_⟩) ?_ ?_
     rotate_left
     · intro w'
       go_simp
       with_reducible rfl
     rotate_left
     · simp only [Act.put, sA_, sB_, sC_, i64_w, i32_w]
       rfl
     refine take_ (i := 1) (N := some 36) (v := ?_) (a' := ?_) #[T_, T_, T_, T_, F_, F_, F_, F_, F_] rfl rfl (take_ofW HT_.out HW_.out (by kernel_rfl)) (fun _ _ _ h => h) (Or.inl ⟨by rfl, ?_⟩) hHeld ?_ ?_
     rotate_left
     · rintro w' ⟨s0, s1⟩
       go_simp
       with_reducible rfl
     rotate_left
     · simp only [Act.put, sA_, sB_, sC_, i64_w, i32_w]
       rfl
     refine one_ (i := 4) (N := some 39) #[T_, T_, T_, T_, T_, F_, F_, F_, F_] rfl rfl (one_of HT_.out (by kernel_rfl)) (by decide) (fun K hK => ?_)
     refine Kd.R_lit_step (Kd.int .i64) _ 3 ?hg (N := 39) ?hd (xs := ([0, 6, 14, 4] : List Int)) (inner := [.int .i64 0, .int .i64 6, .int .i64 14, .int .i64 4]) (ok := fun _ => True) (okp := fun _ => True) ?hr ?hp (fun _ hk => hk) trivial (Below.refl _ _) (Nat.le_refl _) (by simp) ?_; (case hd => rfl); (case hg => rfl); (case hr => first | (go_simp; done) | (go_simp; rfl)); (case hp => exact (Reps.one (show Kd.M (Kd.int .i64) _ _ _ 0 [.int .i64 0] from rfl) (Reps.one (show Kd.M (Kd.int .i64) _ _ _ 6 [.int .i64 6] from rfl) (Reps.one (show Kd.M (Kd.int .i64) _ _ _ 14 [.int .i64 14] from rfl) (Reps.one (show Kd.M (Kd.int .i64) _ _ _ 4 [.int .i64 4] from rfl) (Reps.none _ _))))))
     intro v331 w62 ho63 hb hg_ hnew_
     clear hg_ hnew_
     (first | rw [← Ny330.out] at ho63 | (simp only [Int.reduceToNat] at ho63; rw [← Ny330.out] at ho63))
     have n0_ := aM_ (Kd.R_below (by (with_reducible repeat (first | apply rN_ | apply rD_)); exact HO_317000.out) hb)
     have n1_ := aM_ (Kd.R_below (by (with_reducible repeat (first | apply rN_ | apply rD_)); exact HO_317001.out) hb)
     have n2_ := aM_ (Kd.R_lower ho63 (keep_size (w := w) (g := g) (row := none) (by repeat (first | (with_reducible first | exact HK.out | apply kS_ | apply pN_ | apply pD_ | apply pA_ | refine pF_ ?_ GW308.out _ | refine pF_ ?_ GW316.out _) | exact HK.out))))
     have n3_ := aM_ (blk_below (g := gb308) (o := .cells #[.slice none 0 0, .slice none 0 0] 31 (0, 0)) (by (with_reducible repeat (first | refine kN_ ?_ _ | refine kD_ ?_ | refine kA_ ?_ _)); exact BK308.out) hb)
     have n4_ := aM_ (blk_below (g := gb316) (o := .cells #[.slice Ao58 x317000_3.length co58, u317001] 31 (0, 0)) (by (with_reducible repeat (first | refine kN_ ?_ _ | refine kD_ ?_ | refine kA_ ?_ _)); exact BK316.out) hb)
     have n5_ := aM_ (IsS116.below (by repeat (first | (with_reducible first | exact HI0.out | apply iA_ | apply iN_ | apply iD_ | apply iS_ | refine iF_ ?_ NB0_308.out _ | refine iF_ ?_ NB0_316.out _) | exact HI0.out)) hb)
     have n6_ := aM_ (KeepBut.trans (by repeat (first | (with_reducible first | exact HK.out | apply kS_ | apply pN_ | apply pD_ | apply pA_ | refine pF_ ?_ GW308.out _ | refine pF_ ?_ GW316.out _) | exact HK.out)) (KeepBut.of_below hb g none) (.inl rfl))
     have n7_ := aM_ (bT_ (by repeat (first | (with_reducible first | exact HB.out | apply bA_ | apply bN_ | apply b1_ | refine bS_ ?_ (IsS116.ge HI0.out) | refine bS_ ?_ GE308.out | refine bS_ ?_ GE316.out) | exact HB.out)) hb)
     clear HO_317000 HO_317001 BK308 BK316 HI0 HK HB
     have HO_317000 := n0_
     have HO_317001 := n1_
     have HO332 := n2_
     have BK308 := n3_
     have BK316 := n4_
     have HI0 := n5_
     have HK := n6_
     have HB := n7_
     clear n0_ n1_ n2_ n3_ n4_ n5_ n6_ n7_ hb ho63
     obtain ⟨Ao64, co64, eo64⟩ := Kd.R_slice HO332.out
     (first | subst eo64 | (injection eo64 with f1_ f2_ f3_; have f4_ := f1_.symm; have f5_ := f3_.symm; clear f1_ f2_ f3_; subst f4_; subst f5_))
     refine hK.out _ _ ⟨(kC_ BK316.out 0).trans rfl, (kC_ BK316.out 1).trans rfl⟩ (fun hHeld => ?_)
     clear hK K
     refine norm_ (a' := ?_) ?_ ?_
     rotate_left
     · show Act.put _ (some 39) _ = _
       simp only [Act.put, sA_, sB_, sC_, i64_w, i32_w]
       rfl
     refine one_ (i := 5) (N := some 40) #[T_, T_, T_, T_, T_, T_, F_, F_, F_] rfl rfl (one_of HT_.out (by kernel_rfl)) (by decide) (fun K hK => ?_)
     refine goes_ Tryz.func66 (by kernel_rfl) rfl #[.pointer (some ⟨g, 0, none⟩), .slice Ao64 y330.length co64] (by rfl) rfl rfl (by (try simp only [mA_, List.map_cons, List.map_nil]); first | done | rfl | (simp only [lD_, lT_]; rfl)) ?_
     with_reducible refine (spec_l12Rd_num.calls kj3 g s0_0 t328 _ _ y330 t333 t334 w0 _ ?side1 ?side2 ?side3 ?side4 ?side5 A51.out).mono ?_
     (case side1 => repeat (first | (with_reducible first | exact HI0.out | apply iA_ | apply iN_ | apply iD_ | apply iS_ | refine iF_ ?_ NB0_308.out _ | refine iF_ ?_ NB0_316.out _) | exact HI0.out))
     (case side2 => repeat (first | (with_reducible first | exact HB.out | apply bA_ | apply bN_ | apply b1_ | refine bS_ ?_ (IsS116.ge HI0.out) | refine bS_ ?_ GE308.out | refine bS_ ?_ GE316.out) | exact HB.out))
     (case side3 => repeat (first | exact (Kd.R_reads' HO332.out).2.2 | (with_reducible refine Kd.C_alloc ?_ _) | (with_reducible refine Kd.C_drewN ?_ _) | (with_reducible refine Kd.C_drew ?_)))
     (case side4 => exact (Kd.R_reads' HO332.out).2.1)
     (case side5 => exact far_slice (IsS116.own_ne HI0.out HO332.out (by decide)))
     rintro e w65 ⟨rfl, hi, hb, hk⟩
     refine ⟨_, rfl, ?_⟩
     have n0_ := aM_ (Kd.R_mono (Kd.R_keep (IsS116.apart (show IsS116 w0 _ g s0_0 t328 from by repeat (first | (with_reducible first | exact HI0.out | apply iA_ | apply iN_ | apply iD_ | apply iS_ | refine iF_ ?_ NB0_308.out _ | refine iF_ ?_ NB0_316.out _) | exact HI0.out)) (by (with_reducible repeat (first | apply rN_ | apply rD_)); exact HO_317000.out) (by decide)) hk (fun _ h => h.2)) (fun _ h => h.1))
     have n1_ := aM_ (Kd.R_mono (Kd.R_keep (IsS116.apart (show IsS116 w0 _ g s0_0 t328 from by repeat (first | (with_reducible first | exact HI0.out | apply iA_ | apply iN_ | apply iD_ | apply iS_ | refine iF_ ?_ NB0_308.out _ | refine iF_ ?_ NB0_316.out _) | exact HI0.out)) (by (with_reducible repeat (first | apply rN_ | apply rD_)); exact HO_317001.out) (by decide)) hk (fun _ h => h.2)) (fun _ h => h.1))
     have n2_ := aM_ (KeepBut.blk hk (g' := gb308) (o := .cells #[.slice none 0 0, .slice none 0 0] 31 (0, 0)) (by (with_reducible repeat (first | refine kN_ ?_ _ | refine kD_ ?_ | refine kA_ ?_ _)); exact BK308.out) NB308_0.out (by simp))
     have n3_ := aM_ (KeepBut.blk hk (g' := gb316) (o := .cells #[.slice Ao58 x317000_3.length co58, u317001] 31 (0, 0)) (by (with_reducible repeat (first | refine kN_ ?_ _ | refine kD_ ?_ | refine kA_ ?_ _)); exact BK316.out) NB316_0.out (by simp))
     have n4_ := aM_ (Kd.R_mono (Kd.R_keep (IsS116.apart (show IsS116 w0 _ g s0_0 t328 from by repeat (first | (with_reducible first | exact HI0.out | apply iA_ | apply iN_ | apply iD_ | apply iS_ | refine iF_ ?_ NB0_308.out _ | refine iF_ ?_ NB0_316.out _) | exact HI0.out)) (by (with_reducible repeat (first | apply rN_ | apply rD_)); exact HO332.out) (by decide)) hk (fun _ h => h.2)) (fun _ h => h.1))
     have n5_ := aM_ (KeepBut.trans (by repeat (first | (with_reducible first | exact HK.out | apply kS_ | apply pN_ | apply pD_ | apply pA_ | refine pF_ ?_ GW308.out _ | refine pF_ ?_ GW316.out _) | exact HK.out)) hk (.inl rfl))
     have n6_ := aM_ (hb)
     have n7_ := aM_ (hi)
     clear HO_317000 HO_317001 BK308 BK316 HO332 HK HB HI0
     revert n0_ n1_ n2_ n3_ n4_ n5_ n6_ n7_
     intro HO_317000 HO_317001 BK308 BK316 HO332 HK HB HI0
     (try clear hb)
     (try clear hb2)
     (try clear hk)
     (try clear hi)
     have p54 : 0 ≤ (t325 : Int) := oD_ (by first | (with_reducible assumption) | assumption)
     have q54 : (t325 : Int) < ((x317000_3.length : Int) : Int) := oD_ (by first | (with_reducible assumption) | assumption)
     obtain ⟨go54, co54, eo54, gb54, gl54, cl54, HG54⟩ := Kd.R_form HO_317000.out (by omega)
     (first | cases eo54 | (injection eo54 with ea_ en_ ec_; (first | subst ea_ | (injection ea_ with ea_; subst ea_)); subst ec_; clear en_))
     have GB54 := aM_ gb54
     have GG54 := aM_ HG54
     clear gb54 gl54 HG54
     obtain ⟨ce54, hcl54, hM54, hcc54, hfr54⟩ := Kd.R_elem HO_317000.out z43 (t325 : Int) p54 q54
     obtain rfl := k43_openM hM54
     have hx54_0 : World.cell? _ ⟨go54, (t325 : Int).toNat * 12, none⟩ = some (.int .i64 ((rd_T43 x317000_3 t325).f0)) := hcc54 0 _ rfl
     have hx54_1 : World.cell? _ ⟨go54, (t325 : Int).toNat * 12 + 1, none⟩ = some (.int .i64 ((rd_T43 x317000_3 t325).f1)) := hcc54 1 _ rfl
     have hx54_2 : World.cell? _ ⟨go54, (t325 : Int).toNat * 12 + 2, none⟩ = some (.int .i64 ((rd_T43 x317000_3 t325).f2.f0)) := hcc54 2 _ rfl
     have hx54_3 : World.cell? _ ⟨go54, (t325 : Int).toNat * 12 + 3, none⟩ = some (.int .i64 ((rd_T43 x317000_3 t325).f2.f1)) := hcc54 3 _ rfl
     have hx54_4 : World.cell? _ ⟨go54, (t325 : Int).toNat * 12 + 4, none⟩ = some (.int .i64 ((rd_T43 x317000_3 t325).f2.f2.f0)) := hcc54 4 _ rfl
     have hx54_5 : World.cell? _ ⟨go54, (t325 : Int).toNat * 12 + 5, none⟩ = some (.int .i64 ((rd_T43 x317000_3 t325).f2.f2.f1)) := hcc54 5 _ rfl
     have hx54_6 : World.cell? _ ⟨go54, (t325 : Int).toNat * 12 + 6, none⟩ = some (.bool ((rd_T43 x317000_3 t325).f2.f3)) := hcc54 6 _ rfl
     have hx54_7 : World.cell? _ ⟨go54, (t325 : Int).toNat * 12 + 7, none⟩ = some (.int .i64 ((rd_T43 x317000_3 t325).f3.f0)) := hcc54 7 _ rfl
     have hx54_8 : World.cell? _ ⟨go54, (t325 : Int).toNat * 12 + 8, none⟩ = some (.int .i64 ((rd_T43 x317000_3 t325).f3.f1)) := hcc54 8 _ rfl
     have hx54_9 : World.cell? _ ⟨go54, (t325 : Int).toNat * 12 + 9, none⟩ = some (.int .i64 ((rd_T43 x317000_3 t325).f3.f2.f0)) := hcc54 9 _ rfl
     have hx54_10 : World.cell? _ ⟨go54, (t325 : Int).toNat * 12 + 10, none⟩ = some (.int .i64 ((rd_T43 x317000_3 t325).f3.f2.f1)) := hcc54 10 _ rfl
     have hx54_11 : World.cell? _ ⟨go54, (t325 : Int).toNat * 12 + 11, none⟩ = some (.bool ((rd_T43 x317000_3 t325).f3.f3)) := hcc54 11 _ rfl
     have hf54_0 : World.frozen? _ ⟨go54, (t325 : Int).toNat * 12, none⟩ = false := hfr54 0
     have hf54_1 : World.frozen? _ ⟨go54, (t325 : Int).toNat * 12 + 1, none⟩ = false := hfr54 1
     have hf54_2 : World.frozen? _ ⟨go54, (t325 : Int).toNat * 12 + 2, none⟩ = false := hfr54 2
     have hf54_3 : World.frozen? _ ⟨go54, (t325 : Int).toNat * 12 + 3, none⟩ = false := hfr54 3
     have hf54_4 : World.frozen? _ ⟨go54, (t325 : Int).toNat * 12 + 4, none⟩ = false := hfr54 4
     have hf54_5 : World.frozen? _ ⟨go54, (t325 : Int).toNat * 12 + 5, none⟩ = false := hfr54 5
     have hf54_6 : World.frozen? _ ⟨go54, (t325 : Int).toNat * 12 + 6, none⟩ = false := hfr54 6
     have hf54_7 : World.frozen? _ ⟨go54, (t325 : Int).toNat * 12 + 7, none⟩ = false := hfr54 7
     have hf54_8 : World.frozen? _ ⟨go54, (t325 : Int).toNat * 12 + 8, none⟩ = false := hfr54 8
     have hf54_9 : World.frozen? _ ⟨go54, (t325 : Int).toNat * 12 + 9, none⟩ = false := hfr54 9
     have hf54_10 : World.frozen? _ ⟨go54, (t325 : Int).toNat * 12 + 10, none⟩ = false := hfr54 10
     have hf54_11 : World.frozen? _ ⟨go54, (t325 : Int).toNat * 12 + 11, none⟩ = false := hfr54 11
     clear hcl54 hcc54 hfr54 hM54
     replace p54 := eq_true p54
     replace q54 := eq_true q54
     have HN0_go54 := aM_ (show g ≠ go54 from by have h_ := IsS116.own_ne HI0.out HO_317000.out (by decide); intro e_; exact h_ (by rw [e_]; rfl))
     obtain ⟨ce66, hcl66, hM66, hcc66, hfr66⟩ := Kd.R_elem HO_317000.out z43 (t325 : Int) (oD_ (by first | (with_reducible assumption) | assumption)) (by have h_ : (t325 : Int) < ((x317000_3.length : Int) : Int) := oD_ (by first | (with_reducible assumption) | assumption); first | exact h_ | (have e_ := (Kd.R_reads' HO_317000.out).1; omega) | simpa using h_)
     obtain rfl := k43_openM hM66
     have HP66 := (Kd.R_seg HO_317000.out (t325 : Int) (oD_ (by first | (with_reducible assumption) | assumption)) (by have h_ : (t325 : Int) < ((x317000_3.length : Int) : Int) := oD_ (by first | (with_reducible assumption) | assumption); first | exact h_ | (have e_ := (Kd.R_reads' HO_317000.out).1; omega) | simpa using h_) (seg := [.int .i64 t333]) (j := 0) hcl66 hcc66 (show 1 ≤ 12 from by decide) (x' := (⟨t333, (rd_T43 x317000_3 t325).f1, (⟨(rd_T43 x317000_3 t325).f2.f0, (rd_T43 x317000_3 t325).f2.f1, (⟨(rd_T43 x317000_3 t325).f2.f2.f0, (rd_T43 x317000_3 t325).f2.f2.f1⟩ : S39), (rd_T43 x317000_3 t325).f2.f3⟩ : S41), (⟨(rd_T43 x317000_3 t325).f3.f0, (rd_T43 x317000_3 t325).f3.f1, (⟨(rd_T43 x317000_3 t325).f3.f2.f0, (rd_T43 x317000_3 t325).f3.f2.f1⟩ : S39), (rd_T43 x317000_3 t325).f3.f3⟩ : S41)⟩ : S43)) (k43_mkM _ _ _ (⟨t333, (rd_T43 x317000_3 t325).f1, (⟨(rd_T43 x317000_3 t325).f2.f0, (rd_T43 x317000_3 t325).f2.f1, (⟨(rd_T43 x317000_3 t325).f2.f2.f0, (rd_T43 x317000_3 t325).f2.f2.f1⟩ : S39), (rd_T43 x317000_3 t325).f2.f3⟩ : S41), (⟨(rd_T43 x317000_3 t325).f3.f0, (rd_T43 x317000_3 t325).f3.f1, (⟨(rd_T43 x317000_3 t325).f3.f2.f0, (rd_T43 x317000_3 t325).f3.f2.f1⟩ : S39), (rd_T43 x317000_3 t325).f3.f3⟩ : S41)⟩ : S43) ) (fun _ hk => hk)).1
     rw [← Ny335.out] at HP66
     have HQ66 := aM_ HP66
     clear hcl66 hcc66 hfr66 hM66 HP66
     refine hK.out _ _ ⟨(kC_ BK316.out 0).trans rfl, (kC_ BK316.out 1).trans rfl⟩ (fun hHeld => ?_)
     clear hK K
     refine norm_ (a' := ?_) ?_ ?_
     rotate_left
     · show Act.put _ (some 40) _ = _
       simp only [Act.put, sA_, sB_, sC_, i64_w, i32_w]
       rfl
     refine pure_ (i := 6) (N := some 41) (v := ?_) (a' := ?_) #[T_, T_, T_, T_, T_, T_, T_, F_, F_] rfl rfl (any_of HT_.out (by kernel_rfl)) (fun _ _ _ h => h) (Or.inl ⟨by rfl, ?_⟩) ?_ ?_
     rotate_left
     · intro w'
       go_simp
       with_reducible rfl
     rotate_left
     · simp only [Act.put, sA_, sB_, sC_, i64_w, i32_w]
       rfl
     refine pure_ (i := 7) (N := some 42) (v := ?_) (a' := ?_) #[T_, T_, T_, T_, T_, T_, T_, T_, F_] rfl rfl (any_of HT_.out (by kernel_rfl)) (fun _ _ _ h => h) (Or.inl ⟨by rfl, ?_⟩) ?_ ?_
     rotate_left
     · intro w'
       go_simp
       with_reducible rfl
     rotate_left
     · simp only [Act.put, sA_, sB_, sC_, i64_w, i32_w]
       rfl
     refine last_ (i := 8) (N := none) #[T_, T_, T_, T_, T_, T_, T_, T_, T_] rfl rfl (one_of HT_.out (by kernel_rfl)) (by decide) (fun K hK => ?_)
     refine skip_ (w1 := ?_) (by rfl) rfl ?_ ?_
     rotate_left
     · go_simp
       rfl
     refine hK.out _ _ ?_
     clear hK K
     refine done_ (done_of HT_.out (by kernel_rfl)) ?_
     have n0_ : Aside0 (Kd.R k43 43 (w65.setCell ⟨go54, (t325 : Int).toNat * 12, none⟩ (.int .i64 t333)) w.heap.size (fun _ => True) (.slice (some ⟨go54, 0, none⟩) x317000_3.length co58) y335) := ⟨by (with_reducible repeat (first | apply rN_ | apply rD_)); exact HQ66.out⟩
     have n1_ : Aside0 (Kd.R k66 66 (w65.setCell ⟨go54, (t325 : Int).toNat * 12, none⟩ (.int .i64 t333)) w.heap.size (fun _ => True) u317001 x317001_3) := ⟨by (with_reducible repeat (first | apply rN_ | apply rD_)); exact Kd.R_mono (rF_ (p := ⟨go54, (t325 : Int).toNat * 12, none⟩) (Kd.R_types HO_317001.out GG54.out (by decide)) (fun _ hk => hk.2) (.int .i64 t333)) (fun _ hk => trivial)⟩
     have n2_ : Aside0 (Kd.R (Kd.int .i64) 3 (w65.setCell ⟨go54, (t325 : Int).toNat * 12, none⟩ (.int .i64 t333)) w.heap.size (fun _ => True) (.slice Ao64 y330.length co64) y330) := ⟨by (with_reducible repeat (first | apply rN_ | apply rD_)); exact Kd.R_mono (rF_ (p := ⟨go54, (t325 : Int).toNat * 12, none⟩) (Kd.R_types HO332.out GG54.out (by decide)) (fun _ hk => hk.2) (.int .i64 t333)) (fun _ hk => trivial)⟩
     have n3_ : Aside0 ((w65.setCell ⟨go54, (t325 : Int).toNat * 12, none⟩ (.int .i64 t333)).heap[gb308]? = some (.cells #[.slice none 0 0, .slice none 0 0] 31 (0, 0))) := ⟨by (with_reducible repeat (first | refine kN_ ?_ _ | refine kD_ ?_ | refine kA_ ?_ _)); refine blk_far ?_ (by have h_ := Kd.R_ne HO_317000.out BK308.out (by decide); intro e_; exact h_ (by rw [e_]; rfl)) _; (with_reducible repeat (first | refine kN_ ?_ _ | refine kD_ ?_ | refine kA_ ?_ _)); exact BK308.out⟩
     have n4_ : Aside0 ((w65.setCell ⟨go54, (t325 : Int).toNat * 12, none⟩ (.int .i64 t333)).heap[gb316]? = some (.cells #[.slice (some ⟨go54, 0, none⟩) x317000_3.length co58, u317001] 31 (0, 0))) := ⟨by (with_reducible repeat (first | refine kN_ ?_ _ | refine kD_ ?_ | refine kA_ ?_ _)); refine blk_far ?_ (by have h_ := Kd.R_ne HO_317000.out BK316.out (by decide); intro e_; exact h_ (by rw [e_]; rfl)) _; (with_reducible repeat (first | refine kN_ ?_ _ | refine kD_ ?_ | refine kA_ ?_ _)); exact BK316.out⟩
     have n5_ : Aside0 (IsS116 w0 (w65.setCell ⟨go54, (t325 : Int).toNat * 12, none⟩ (.int .i64 t333)) g s0_0 t334) := ⟨by repeat (first | (with_reducible first | exact HI0.out | apply iA_ | apply iN_ | apply iD_ | apply iS_ | refine iF_ ?_ HN0_go54.out _ | refine iF_ ?_ NB0_308.out _ | refine iF_ ?_ NB0_316.out _) | exact HI0.out)⟩
     have n6_ : Aside0 (KeepBut w (w65.setCell ⟨go54, (t325 : Int).toNat * 12, none⟩ (.int .i64 t333)) g none) := ⟨by repeat (first | (with_reducible first | exact HK.out | apply kS_ | apply pN_ | apply pD_ | apply pA_ | refine pF_ ?_ GB54.out _ | refine pF_ ?_ GW308.out _ | refine pF_ ?_ GW316.out _) | exact HK.out)⟩
     have n7_ : Aside0 (Below w0.heap.size w0 (w65.setCell ⟨go54, (t325 : Int).toNat * 12, none⟩ (.int .i64 t333))) := ⟨by repeat (first | (with_reducible first | exact HB.out | apply bA_ | apply bN_ | apply b1_ | refine bS_ ?_ (Nat.le_trans HL.out GB54.out) | refine bS_ ?_ (IsS116.ge HI0.out) | refine bS_ ?_ GE308.out | refine bS_ ?_ GE316.out) | exact HB.out)⟩
     (try clear HO_317000)
     (try clear HO_317001)
     (try clear HO332)
     (try clear BK308)
     (try clear BK316)
     (try clear HI0)
     (try clear HK)
     (try clear HB)
     generalize (w65.setCell ⟨go54, (t325 : Int).toNat * 12, none⟩ (.int .i64 t333)) = w67 at n0_ n1_ n2_ n3_ n4_ n5_ n6_ n7_ ⊢
     have HO_317000 := n0_
     have HO_317001 := n1_
     have HO332 := n2_
     have BK308 := n3_
     have BK316 := n4_
     have HI0 := n5_
     have HK := n6_
     have HB := n7_
     clear n0_ n1_ n2_ n3_ n4_ n5_ n6_ n7_
     (obtain ⟨hcz68_0, hcz68_1⟩ := cells2 BK316.out)
     (obtain ⟨hfz68_0, hfz68_1⟩ := frozen2 BK316.out)
     have hnb69 := NB308_0.out
     have hnc69 := NB0_308.out
     (obtain ⟨hcz70_0, hcz70_1⟩ := cells2 BK308.out)
     (obtain ⟨hfz70_0, hfz70_1⟩ := frozen2 BK308.out)
     obtain ⟨Ao71, co71, eo71⟩ := Kd.R_slice HO_317001.out
     subst eo71
     try go_wp2
     refine bodyPost_ret (results_cell_row rfl _ _ gb308 31 #[.slice (some ⟨go54, 0, none⟩) x317000_3.length co58, .slice Ao71 x317001_3.length co71] (0, 0) _ rfl (by (with_reducible repeat (first | refine kN_ ?_ _ | refine kD_ ?_ | refine kA_ ?_ _)); refine kP_ (cs := #[.slice (some ⟨go54, 0, none⟩) x317000_3.length co58, .slice none 0 0]) ?_ 1 _ rfl; (with_reducible repeat (first | refine kN_ ?_ _ | refine kD_ ?_ | refine kA_ ?_ _)); refine kP_ (cs := #[.slice none 0 0, .slice none 0 0]) ?_ 0 _ rfl; (with_reducible repeat (first | refine kN_ ?_ _ | refine kD_ ?_ | refine kA_ ?_ _)); exact BK308.out) Tryz.underlying31 rfl (by kernel_rfl)) rfl ?_
     exact ⟨_, _, by first | rfl | (simp [errW_none, errW_some] <;> rfl) | (simp [*, errW_none, errW_some] <;> rfl), by (with_reducible repeat (first | apply rN_ | apply rD_)); exact Kd.R_mono (rF_ (p := ⟨gb308, 1, none⟩) (rF_ (p := ⟨gb308, 0, none⟩) (Kd.R_types HO_317000.out BK308.out (by decide)) (fun _ hk => hk.2) (.slice (some ⟨go54, 0, none⟩) x317000_3.length co58)) (fun _ hk => hk.2) (.slice Ao71 x317001_3.length co71)) (fun _ hk => trivial), by (with_reducible repeat (first | apply rN_ | apply rD_)); exact Kd.R_mono (rF_ (p := ⟨gb308, 1, none⟩) (rF_ (p := ⟨gb308, 0, none⟩) (Kd.R_types HO_317001.out BK308.out (by decide)) (fun _ hk => hk.2) (.slice (some ⟨go54, 0, none⟩) x317000_3.length co58)) (fun _ hk => hk.2) (.slice Ao71 x317001_3.length co71)) (fun _ hk => trivial), by repeat (first | (with_reducible first | exact HI0.out | apply iA_ | apply iN_ | apply iD_ | apply iS_ | refine iF_ ?_ NB0_308.out _ | refine iF_ ?_ NB0_316.out _) | exact HI0.out), by repeat (first | (with_reducible first | exact HB.out | apply bA_ | apply bN_ | apply b1_ | refine bS_ ?_ (IsS116.ge HI0.out) | refine bS_ ?_ GE308.out | refine bS_ ?_ GE316.out) | exact HB.out), by repeat (first | (with_reducible first | exact HK.out | apply kS_ | apply pN_ | apply pD_ | apply pA_ | refine pF_ ?_ GW308.out _ | refine pF_ ?_ GW316.out _) | exact HK.out)⟩
   rw [if_neg c50] at H
   have c50b0 : (t327 == 1) = false := beq_eq_false_iff_ne.mpr c50
   have c50b1 : (t327 != 1) = true := bne_iff_ne.mpr c50
   by_cases c72 : t327 = 2
   · rw [if_pos c72] at H
     have c72b0 : (t327 == 2) = true := beq_iff_eq.mpr c72
     have c72b1 : (t327 != 2) = false := bne_eq_false_iff_eq.mpr c72
     clear c72
     obtain ⟨y336, hy336⟩ : ∃ y_ : List Int, y_ = (([(-1), 1, 1001] : List Int)) := ⟨_, rfl⟩
     replace H : ((spec_l12Rd_num.f kj3 s0_0 t328 y336).bind fun bt339 => (if 0 ≤ t325 then (if t325 < (x317000_3.length : Int) then (some ((x317000_3.set (t325 : Int).toNat (⟨(rd_T43 x317000_3 t325).f0, bt339.1, (⟨(rd_T43 x317000_3 t325).f2.f0, (rd_T43 x317000_3 t325).f2.f1, (⟨(rd_T43 x317000_3 t325).f2.f2.f0, (rd_T43 x317000_3 t325).f2.f2.f1⟩ : S39), (rd_T43 x317000_3 t325).f2.f3⟩ : S41), (⟨(rd_T43 x317000_3 t325).f3.f0, (rd_T43 x317000_3 t325).f3.f1, (⟨(rd_T43 x317000_3 t325).f3.f2.f0, (rd_T43 x317000_3 t325).f3.f2.f1⟩ : S39), (rd_T43 x317000_3 t325).f3.f3⟩ : S41)⟩ : S43)), x317001_3, bt339.2)) else (none)) else (none))) = some (r1, r2, r3) := by first | (rw [hy336]; with_reducible exact H) | (have H2_ := (Option.bind_some _ _).symm.trans H; rw [hy336]; with_reducible exact H2_) | (have H2_ := (Option.bind_some _ _).symm.trans H; with_reducible exact H2_) | with_reducible exact H | (rw [hy336]; exact H) | exact H
     have Ny336 := aM_ hy336
     clear hy336
     replace H := Option.bind_eq_some_iff.mp H
     obtain ⟨⟨t339, t340⟩, A730, H⟩ := H
     replace H : (if 0 ≤ t325 then (if t325 < (x317000_3.length : Int) then (some ((x317000_3.set (t325 : Int).toNat (⟨(rd_T43 x317000_3 t325).f0, t339, (⟨(rd_T43 x317000_3 t325).f2.f0, (rd_T43 x317000_3 t325).f2.f1, (⟨(rd_T43 x317000_3 t325).f2.f2.f0, (rd_T43 x317000_3 t325).f2.f2.f1⟩ : S39), (rd_T43 x317000_3 t325).f2.f3⟩ : S41), (⟨(rd_T43 x317000_3 t325).f3.f0, (rd_T43 x317000_3 t325).f3.f1, (⟨(rd_T43 x317000_3 t325).f3.f2.f0, (rd_T43 x317000_3 t325).f3.f2.f1⟩ : S39), (rd_T43 x317000_3 t325).f3.f3⟩ : S41)⟩ : S43)), x317001_3, t340)) else (none)) else (none)) = some (r1, r2, r3) := H
     have A73 := aM_ A730
     clear A730
     by_cases c74 : 0 ≤ t325
     rotate_left
     · rw [if_neg c74] at H
       exact absurd H (by simp)
     rw [if_pos c74] at H
     have c74b0 : decide (0 ≤ t325) = true := dT_ c74
     clear c74
     by_cases c75 : t325 < (x317000_3.length : Int)
     rotate_left
     · rw [if_neg c75] at H
       exact absurd H (by simp)
     rw [if_pos c75] at H
     have c75b0 : decide (t325 < (x317000_3.length : Int)) = true := dT_ c75
     clear c75
     obtain ⟨y341, hy341⟩ : ∃ y_ : List (S43), y_ = (x317000_3.set (t325 : Int).toNat (⟨(rd_T43 x317000_3 t325).f0, t339, (⟨(rd_T43 x317000_3 t325).f2.f0, (rd_T43 x317000_3 t325).f2.f1, (⟨(rd_T43 x317000_3 t325).f2.f2.f0, (rd_T43 x317000_3 t325).f2.f2.f1⟩ : S39), (rd_T43 x317000_3 t325).f2.f3⟩ : S41), (⟨(rd_T43 x317000_3 t325).f3.f0, (rd_T43 x317000_3 t325).f3.f1, (⟨(rd_T43 x317000_3 t325).f3.f2.f0, (rd_T43 x317000_3 t325).f3.f2.f1⟩ : S39), (rd_T43 x317000_3 t325).f3.f3⟩ : S41)⟩ : S43)) := ⟨_, rfl⟩
     replace H : (some (y341, x317001_3, t340)) = some (r1, r2, r3) := by first | (rw [hy341]; with_reducible exact H) | (have H2_ := (Option.bind_some _ _).symm.trans H; rw [hy341]; with_reducible exact H2_) | (have H2_ := (Option.bind_some _ _).symm.trans H; with_reducible exact H2_) | with_reducible exact H | (rw [hy341]; exact H) | exact H
     have Ny341 := aM_ hy341
     clear hy341
     simp only [Option.some.injEq, Prod.mk.injEq] at H
     obtain ⟨rfl, rfl, rfl⟩ := H
     have hnb77 := NB316_308.out
     have hnc77 := NB308_316.out
     have hnb78 := NB316_0.out
     have hnc78 := NB0_316.out
     (obtain ⟨hcz79_0, hcz79_1⟩ := cells2 BK316.out)
     (obtain ⟨hfz79_0, hfz79_1⟩ := frozen2 BK316.out)
     obtain ⟨Ao80, co80, eo80⟩ := Kd.R_slice HO_317000.out
     subst eo80
     try go_wp2_with (first | ((with_reducible refine gate_callee (f := 64) rfl ?_); refine goesL_ (some 21) rfl rfl Tryz.func64 (by kernel_rfl) rfl #[.pointer (some ⟨g, 0, none⟩), .int .i64 (x317000_3.length : Int)] rfl (by (try simp only [mA_, List.map_cons, List.map_nil]); first | done | rfl | (simp only [lD_, lT_]; rfl)) ?_; (with_reducible refine (spec_l12Rd_pick.calls kj3 g s0_0 t318 (x317000_3.length : Int) t325 t326 w0 _ ?side1 ?side2 A31.out).mono ?_); (case side1 => repeat (first | (with_reducible first | exact HI0.out | apply iA_ | apply iN_ | apply iD_ | apply iS_ | refine iF_ ?_ NB0_308.out _ | refine iF_ ?_ NB0_316.out _) | exact HI0.out)); (case side2 => repeat (first | (with_reducible first | exact HB.out | apply bA_ | apply bN_ | apply b1_ | refine bS_ ?_ (IsS116.ge HI0.out) | refine bS_ ?_ GE308.out | refine bS_ ?_ GE316.out) | exact HB.out)); rintro e w81 ⟨rfl, hi, hb, hk⟩; refine ⟨_, rfl, ?_⟩; have n0_ := aM_ (Kd.R_mono (Kd.R_keep (IsS116.apart (show IsS116 w0 _ g s0_0 t318 from by repeat (first | (with_reducible first | exact HI0.out | apply iA_ | apply iN_ | apply iD_ | apply iS_ | refine iF_ ?_ NB0_308.out _ | refine iF_ ?_ NB0_316.out _) | exact HI0.out)) (by (with_reducible repeat (first | apply rN_ | apply rD_)); exact HO_317000.out) (by decide)) hk (fun _ h => h.2)) (fun _ h => h.1)); have n1_ := aM_ (Kd.R_mono (Kd.R_keep (IsS116.apart (show IsS116 w0 _ g s0_0 t318 from by repeat (first | (with_reducible first | exact HI0.out | apply iA_ | apply iN_ | apply iD_ | apply iS_ | refine iF_ ?_ NB0_308.out _ | refine iF_ ?_ NB0_316.out _) | exact HI0.out)) (by (with_reducible repeat (first | apply rN_ | apply rD_)); exact HO_317001.out) (by decide)) hk (fun _ h => h.2)) (fun _ h => h.1)); have n2_ := aM_ (KeepBut.blk hk (g' := gb308) (o := .cells #[.slice none 0 0, .slice none 0 0] 31 (0, 0)) (by (with_reducible repeat (first | refine kN_ ?_ _ | refine kD_ ?_ | refine kA_ ?_ _)); exact BK308.out) NB308_0.out (by simp)); have n3_ := aM_ (KeepBut.blk hk (g' := gb316) (o := .cells #[.slice Ao80 x317000_3.length co80, u317001] 31 (0, 0)) (by (with_reducible repeat (first | refine kN_ ?_ _ | refine kD_ ?_ | refine kA_ ?_ _)); exact BK316.out) NB316_0.out (by simp)); have n4_ := aM_ (KeepBut.trans (by repeat (first | (with_reducible first | exact HK.out | apply kS_ | apply pN_ | apply pD_ | apply pA_ | refine pF_ ?_ GW308.out _ | refine pF_ ?_ GW316.out _) | exact HK.out)) hk (.inl rfl)); have n5_ := aM_ (hb); have n6_ := aM_ (hi); clear HO_317000 HO_317001 BK308 BK316 HK HB HI0; revert n0_ n1_ n2_ n3_ n4_ n5_ n6_; intro HO_317000 HO_317001 BK308 BK316 HK HB HI0; (try clear hb); (try clear hb2); (try clear hk); (try clear hi)) | ((with_reducible refine gate_callee (f := 64) rfl ?_); refine goesL_ (some 23) rfl rfl Tryz.func64 (by kernel_rfl) rfl #[.pointer (some ⟨g, 0, none⟩), .int .i64 40] rfl (by (try simp only [mA_, List.map_cons, List.map_nil]); first | done | rfl | (simp only [lD_, lT_]; rfl)) ?_; (with_reducible refine (spec_l12Rd_pick.calls kj3 g s0_0 t326 40 t327 t328 w0 _ ?side1 ?side2 A32.out).mono ?_); (case side1 => repeat (first | (with_reducible first | exact HI0.out | apply iA_ | apply iN_ | apply iD_ | apply iS_ | refine iF_ ?_ NB0_308.out _ | refine iF_ ?_ NB0_316.out _) | exact HI0.out)); (case side2 => repeat (first | (with_reducible first | exact HB.out | apply bA_ | apply bN_ | apply b1_ | refine bS_ ?_ (IsS116.ge HI0.out) | refine bS_ ?_ GE308.out | refine bS_ ?_ GE316.out) | exact HB.out)); rintro e w82 ⟨rfl, hi, hb, hk⟩; refine ⟨_, rfl, ?_⟩; have n0_ := aM_ (Kd.R_mono (Kd.R_keep (IsS116.apart (show IsS116 w0 _ g s0_0 t326 from by repeat (first | (with_reducible first | exact HI0.out | apply iA_ | apply iN_ | apply iD_ | apply iS_ | refine iF_ ?_ NB0_308.out _ | refine iF_ ?_ NB0_316.out _) | exact HI0.out)) (by (with_reducible repeat (first | apply rN_ | apply rD_)); exact HO_317000.out) (by decide)) hk (fun _ h => h.2)) (fun _ h => h.1)); have n1_ := aM_ (Kd.R_mono (Kd.R_keep (IsS116.apart (show IsS116 w0 _ g s0_0 t326 from by repeat (first | (with_reducible first | exact HI0.out | apply iA_ | apply iN_ | apply iD_ | apply iS_ | refine iF_ ?_ NB0_308.out _ | refine iF_ ?_ NB0_316.out _) | exact HI0.out)) (by (with_reducible repeat (first | apply rN_ | apply rD_)); exact HO_317001.out) (by decide)) hk (fun _ h => h.2)) (fun _ h => h.1)); have n2_ := aM_ (KeepBut.blk hk (g' := gb308) (o := .cells #[.slice none 0 0, .slice none 0 0] 31 (0, 0)) (by (with_reducible repeat (first | refine kN_ ?_ _ | refine kD_ ?_ | refine kA_ ?_ _)); exact BK308.out) NB308_0.out (by simp)); have n3_ := aM_ (KeepBut.blk hk (g' := gb316) (o := .cells #[.slice Ao80 x317000_3.length co80, u317001] 31 (0, 0)) (by (with_reducible repeat (first | refine kN_ ?_ _ | refine kD_ ?_ | refine kA_ ?_ _)); exact BK316.out) NB316_0.out (by simp)); have n4_ := aM_ (KeepBut.trans (by repeat (first | (with_reducible first | exact HK.out | apply kS_ | apply pN_ | apply pD_ | apply pA_ | refine pF_ ?_ GW308.out _ | refine pF_ ?_ GW316.out _) | exact HK.out)) hk (.inl rfl)); have n5_ := aM_ (hb); have n6_ := aM_ (hi); clear HO_317000 HO_317001 BK308 BK316 HK HB HI0; revert n0_ n1_ n2_ n3_ n4_ n5_ n6_; intro HO_317000 HO_317001 BK308 BK316 HK HB HI0; (try clear hb); (try clear hb2); (try clear hk); (try clear hi)))
     have n0_ := aM_ (rD_ HO_317000.out)
     have n1_ := aM_ (rD_ HO_317001.out)
     have n2_ := aM_ (kD_ BK308.out)
     have n3_ := aM_ (kD_ BK316.out)
     have n4_ := aM_ (iD_ HI0.out)
     have n5_ := aM_ (pD_ HK.out)
     have n6_ := aM_ (b1_ HB.out)
     clear HO_317000 HO_317001 BK308 BK316 HI0 HK HB
     revert n0_ n1_ n2_ n3_ n4_ n5_ n6_
     intro HO_317000 HO_317001 BK308 BK316 HI0 HK HB
     refine start_ (n := 9) (S := fun w' => w'.cell? ⟨gb316, 0, none⟩ = some (.slice Ao80 x317000_3.length co80) ∧ w'.cell? ⟨gb316, 1, none⟩ = some (u317001)) (ds := [8]) #[F_, F_, F_, F_, F_, F_, F_, F_, F_] (by kernel_rfl) rfl rfl ⟨(kC_ BK316.out 0).trans rfl, (kC_ BK316.out 1).trans rfl⟩ (fun hHeld => ?_); refine with_tabW spec_l7Bent.tab13 spec_l7Bent.bits13 (fun HT_ HW_ => ?_)
     generalize w82.drew = w83 at HO_317000 HO_317001 BK308 BK316 HI0 HK HB hHeld ⊢
     refine pure_ (i := 0) (N := some 45) (v := ?_) (a' := ?_) #[T_, F_, F_, F_, F_, F_, F_, F_, F_] rfl rfl (any_of HT_.out (by kernel_rfl)) (fun _ _ _ h => h) (Or.inl ⟨by rfl, ?_⟩) ?_ ?_
     rotate_left
     · intro w'
       go_simp
       with_reducible rfl
     rotate_left
     · simp only [Act.put, sA_, sB_, sC_, i64_w, i32_w]
       rfl
     refine pure_ (i := 2) (N := some 47) (v := ?_) (a' := ?_) #[T_, F_, T_, F_, F_, F_, F_, F_, F_] rfl rfl (any_of HT_.out (by kernel_rfl)) (fun _ _ _ h => h) (Or.inl ⟨by rfl, ?_⟩) ?_ ?_
     rotate_left
     · intro w'
       go_simp
       with_reducible rfl
     rotate_left
     · simp only [Act.put, sA_, sB_, sC_, i64_w, i32_w]
       rfl
     refine pure_ (i := 3) (N := some 48) (v := ?_) (a' := ?_) #[T_, F_, T_, T_, F_, F_, F_, F_, F_] rfl rfl (any_of HT_.out (by kernel_rfl)) (fun _ _ _ h => h) (Or.inl ⟨by rfl, ?_⟩) ?_ ?_
     rotate_left
     · intro w'
       go_simp
       with_reducible rfl
     rotate_left
     · simp only [Act.put, sA_, sB_, sC_, i64_w, i32_w]
       rfl
     refine take_ (i := 1) (N := some 46) (v := ?_) (a' := ?_) #[T_, T_, T_, T_, F_, F_, F_, F_, F_] rfl rfl (take_ofW HT_.out HW_.out (by kernel_rfl)) (fun _ _ _ h => h) (Or.inl ⟨by rfl, ?_⟩) hHeld ?_ ?_
     rotate_left
     · rintro w' ⟨s0, s1⟩
       go_simp
       with_reducible rfl
     rotate_left
     · simp only [Act.put, sA_, sB_, sC_, i64_w, i32_w]
       rfl
     refine one_ (i := 4) (N := some 49) #[T_, T_, T_, T_, T_, F_, F_, F_, F_] rfl rfl (one_of HT_.out (by kernel_rfl)) (by decide) (fun K hK => ?_)
     refine Kd.R_lit_step (Kd.int .i64) _ 3 ?hg (N := 49) ?hd (xs := ([(-1), 1, 1001] : List Int)) (inner := [.int .i64 (-1), .int .i64 1, .int .i64 1001]) (ok := fun _ => True) (okp := fun _ => True) ?hr ?hp (fun _ hk => hk) trivial (Below.refl _ _) (Nat.le_refl _) (by simp) ?_; (case hd => rfl); (case hg => rfl); (case hr => first | (go_simp; done) | (go_simp; rfl)); (case hp => exact (Reps.one (show Kd.M (Kd.int .i64) _ _ _ (-1) [.int .i64 (-1)] from rfl) (Reps.one (show Kd.M (Kd.int .i64) _ _ _ 1 [.int .i64 1] from rfl) (Reps.one (show Kd.M (Kd.int .i64) _ _ _ 1001 [.int .i64 1001] from rfl) (Reps.none _ _)))))
     intro v337 w84 ho85 hb hg_ hnew_
     clear hg_ hnew_
     (first | rw [← Ny336.out] at ho85 | (simp only [Int.reduceToNat] at ho85; rw [← Ny336.out] at ho85))
     have n0_ := aM_ (Kd.R_below (by (with_reducible repeat (first | apply rN_ | apply rD_)); exact HO_317000.out) hb)
     have n1_ := aM_ (Kd.R_below (by (with_reducible repeat (first | apply rN_ | apply rD_)); exact HO_317001.out) hb)
     have n2_ := aM_ (Kd.R_lower ho85 (keep_size (w := w) (g := g) (row := none) (by repeat (first | (with_reducible first | exact HK.out | apply kS_ | apply pN_ | apply pD_ | apply pA_ | refine pF_ ?_ GW308.out _ | refine pF_ ?_ GW316.out _) | exact HK.out))))
     have n3_ := aM_ (blk_below (g := gb308) (o := .cells #[.slice none 0 0, .slice none 0 0] 31 (0, 0)) (by (with_reducible repeat (first | refine kN_ ?_ _ | refine kD_ ?_ | refine kA_ ?_ _)); exact BK308.out) hb)
     have n4_ := aM_ (blk_below (g := gb316) (o := .cells #[.slice Ao80 x317000_3.length co80, u317001] 31 (0, 0)) (by (with_reducible repeat (first | refine kN_ ?_ _ | refine kD_ ?_ | refine kA_ ?_ _)); exact BK316.out) hb)
     have n5_ := aM_ (IsS116.below (by repeat (first | (with_reducible first | exact HI0.out | apply iA_ | apply iN_ | apply iD_ | apply iS_ | refine iF_ ?_ NB0_308.out _ | refine iF_ ?_ NB0_316.out _) | exact HI0.out)) hb)
     have n6_ := aM_ (KeepBut.trans (by repeat (first | (with_reducible first | exact HK.out | apply kS_ | apply pN_ | apply pD_ | apply pA_ | refine pF_ ?_ GW308.out _ | refine pF_ ?_ GW316.out _) | exact HK.out)) (KeepBut.of_below hb g none) (.inl rfl))
     have n7_ := aM_ (bT_ (by repeat (first | (with_reducible first | exact HB.out | apply bA_ | apply bN_ | apply b1_ | refine bS_ ?_ (IsS116.ge HI0.out) | refine bS_ ?_ GE308.out | refine bS_ ?_ GE316.out) | exact HB.out)) hb)
     clear HO_317000 HO_317001 BK308 BK316 HI0 HK HB
     have HO_317000 := n0_
     have HO_317001 := n1_
     have HO338 := n2_
     have BK308 := n3_
     have BK316 := n4_
     have HI0 := n5_
     have HK := n6_
     have HB := n7_
     clear n0_ n1_ n2_ n3_ n4_ n5_ n6_ n7_ hb ho85
     obtain ⟨Ao86, co86, eo86⟩ := Kd.R_slice HO338.out
     (first | subst eo86 | (injection eo86 with f1_ f2_ f3_; have f4_ := f1_.symm; have f5_ := f3_.symm; clear f1_ f2_ f3_; subst f4_; subst f5_))
     refine hK.out _ _ ⟨(kC_ BK316.out 0).trans rfl, (kC_ BK316.out 1).trans rfl⟩ (fun hHeld => ?_)
     clear hK K
     refine norm_ (a' := ?_) ?_ ?_
     rotate_left
     · show Act.put _ (some 49) _ = _
       simp only [Act.put, sA_, sB_, sC_, i64_w, i32_w]
       rfl
     refine one_ (i := 5) (N := some 50) #[T_, T_, T_, T_, T_, T_, F_, F_, F_] rfl rfl (one_of HT_.out (by kernel_rfl)) (by decide) (fun K hK => ?_)
     refine goes_ Tryz.func66 (by kernel_rfl) rfl #[.pointer (some ⟨g, 0, none⟩), .slice Ao86 y336.length co86] (by rfl) rfl rfl (by (try simp only [mA_, List.map_cons, List.map_nil]); first | done | rfl | (simp only [lD_, lT_]; rfl)) ?_
     with_reducible refine (spec_l12Rd_num.calls kj3 g s0_0 t328 _ _ y336 t339 t340 w0 _ ?side1 ?side2 ?side3 ?side4 ?side5 A73.out).mono ?_
     (case side1 => repeat (first | (with_reducible first | exact HI0.out | apply iA_ | apply iN_ | apply iD_ | apply iS_ | refine iF_ ?_ NB0_308.out _ | refine iF_ ?_ NB0_316.out _) | exact HI0.out))
     (case side2 => repeat (first | (with_reducible first | exact HB.out | apply bA_ | apply bN_ | apply b1_ | refine bS_ ?_ (IsS116.ge HI0.out) | refine bS_ ?_ GE308.out | refine bS_ ?_ GE316.out) | exact HB.out))
     (case side3 => repeat (first | exact (Kd.R_reads' HO338.out).2.2 | (with_reducible refine Kd.C_alloc ?_ _) | (with_reducible refine Kd.C_drewN ?_ _) | (with_reducible refine Kd.C_drew ?_)))
     (case side4 => exact (Kd.R_reads' HO338.out).2.1)
     (case side5 => exact far_slice (IsS116.own_ne HI0.out HO338.out (by decide)))
     rintro e w87 ⟨rfl, hi, hb, hk⟩
     refine ⟨_, rfl, ?_⟩
     have n0_ := aM_ (Kd.R_mono (Kd.R_keep (IsS116.apart (show IsS116 w0 _ g s0_0 t328 from by repeat (first | (with_reducible first | exact HI0.out | apply iA_ | apply iN_ | apply iD_ | apply iS_ | refine iF_ ?_ NB0_308.out _ | refine iF_ ?_ NB0_316.out _) | exact HI0.out)) (by (with_reducible repeat (first | apply rN_ | apply rD_)); exact HO_317000.out) (by decide)) hk (fun _ h => h.2)) (fun _ h => h.1))
     have n1_ := aM_ (Kd.R_mono (Kd.R_keep (IsS116.apart (show IsS116 w0 _ g s0_0 t328 from by repeat (first | (with_reducible first | exact HI0.out | apply iA_ | apply iN_ | apply iD_ | apply iS_ | refine iF_ ?_ NB0_308.out _ | refine iF_ ?_ NB0_316.out _) | exact HI0.out)) (by (with_reducible repeat (first | apply rN_ | apply rD_)); exact HO_317001.out) (by decide)) hk (fun _ h => h.2)) (fun _ h => h.1))
     have n2_ := aM_ (KeepBut.blk hk (g' := gb308) (o := .cells #[.slice none 0 0, .slice none 0 0] 31 (0, 0)) (by (with_reducible repeat (first | refine kN_ ?_ _ | refine kD_ ?_ | refine kA_ ?_ _)); exact BK308.out) NB308_0.out (by simp))
     have n3_ := aM_ (KeepBut.blk hk (g' := gb316) (o := .cells #[.slice Ao80 x317000_3.length co80, u317001] 31 (0, 0)) (by (with_reducible repeat (first | refine kN_ ?_ _ | refine kD_ ?_ | refine kA_ ?_ _)); exact BK316.out) NB316_0.out (by simp))
     have n4_ := aM_ (Kd.R_mono (Kd.R_keep (IsS116.apart (show IsS116 w0 _ g s0_0 t328 from by repeat (first | (with_reducible first | exact HI0.out | apply iA_ | apply iN_ | apply iD_ | apply iS_ | refine iF_ ?_ NB0_308.out _ | refine iF_ ?_ NB0_316.out _) | exact HI0.out)) (by (with_reducible repeat (first | apply rN_ | apply rD_)); exact HO338.out) (by decide)) hk (fun _ h => h.2)) (fun _ h => h.1))
     have n5_ := aM_ (KeepBut.trans (by repeat (first | (with_reducible first | exact HK.out | apply kS_ | apply pN_ | apply pD_ | apply pA_ | refine pF_ ?_ GW308.out _ | refine pF_ ?_ GW316.out _) | exact HK.out)) hk (.inl rfl))
     have n6_ := aM_ (hb)
     have n7_ := aM_ (hi)
     clear HO_317000 HO_317001 BK308 BK316 HO338 HK HB HI0
     revert n0_ n1_ n2_ n3_ n4_ n5_ n6_ n7_
     intro HO_317000 HO_317001 BK308 BK316 HO338 HK HB HI0
     (try clear hb)
     (try clear hb2)
     (try clear hk)
     (try clear hi)
     have p76 : 0 ≤ (t325 : Int) := oD_ (by first | (with_reducible assumption) | assumption)
     have q76 : (t325 : Int) < ((x317000_3.length : Int) : Int) := oD_ (by first | (with_reducible assumption) | assumption)
     obtain ⟨go76, co76, eo76, gb76, gl76, cl76, HG76⟩ := Kd.R_form HO_317000.out (by omega)
     (first | cases eo76 | (injection eo76 with ea_ en_ ec_; (first | subst ea_ | (injection ea_ with ea_; subst ea_)); subst ec_; clear en_))
     have GB76 := aM_ gb76
     have GG76 := aM_ HG76
     clear gb76 gl76 HG76
     obtain ⟨ce76, hcl76, hM76, hcc76, hfr76⟩ := Kd.R_elem HO_317000.out z43 (t325 : Int) p76 q76
     obtain rfl := k43_openM hM76
     have hx76_0 : World.cell? _ ⟨go76, (t325 : Int).toNat * 12, none⟩ = some (.int .i64 ((rd_T43 x317000_3 t325).f0)) := hcc76 0 _ rfl
     have hx76_1 : World.cell? _ ⟨go76, (t325 : Int).toNat * 12 + 1, none⟩ = some (.int .i64 ((rd_T43 x317000_3 t325).f1)) := hcc76 1 _ rfl
     have hx76_2 : World.cell? _ ⟨go76, (t325 : Int).toNat * 12 + 2, none⟩ = some (.int .i64 ((rd_T43 x317000_3 t325).f2.f0)) := hcc76 2 _ rfl
     have hx76_3 : World.cell? _ ⟨go76, (t325 : Int).toNat * 12 + 3, none⟩ = some (.int .i64 ((rd_T43 x317000_3 t325).f2.f1)) := hcc76 3 _ rfl
     have hx76_4 : World.cell? _ ⟨go76, (t325 : Int).toNat * 12 + 4, none⟩ = some (.int .i64 ((rd_T43 x317000_3 t325).f2.f2.f0)) := hcc76 4 _ rfl
     have hx76_5 : World.cell? _ ⟨go76, (t325 : Int).toNat * 12 + 5, none⟩ = some (.int .i64 ((rd_T43 x317000_3 t325).f2.f2.f1)) := hcc76 5 _ rfl
     have hx76_6 : World.cell? _ ⟨go76, (t325 : Int).toNat * 12 + 6, none⟩ = some (.bool ((rd_T43 x317000_3 t325).f2.f3)) := hcc76 6 _ rfl
     have hx76_7 : World.cell? _ ⟨go76, (t325 : Int).toNat * 12 + 7, none⟩ = some (.int .i64 ((rd_T43 x317000_3 t325).f3.f0)) := hcc76 7 _ rfl
     have hx76_8 : World.cell? _ ⟨go76, (t325 : Int).toNat * 12 + 8, none⟩ = some (.int .i64 ((rd_T43 x317000_3 t325).f3.f1)) := hcc76 8 _ rfl
     have hx76_9 : World.cell? _ ⟨go76, (t325 : Int).toNat * 12 + 9, none⟩ = some (.int .i64 ((rd_T43 x317000_3 t325).f3.f2.f0)) := hcc76 9 _ rfl
     have hx76_10 : World.cell? _ ⟨go76, (t325 : Int).toNat * 12 + 10, none⟩ = some (.int .i64 ((rd_T43 x317000_3 t325).f3.f2.f1)) := hcc76 10 _ rfl
     have hx76_11 : World.cell? _ ⟨go76, (t325 : Int).toNat * 12 + 11, none⟩ = some (.bool ((rd_T43 x317000_3 t325).f3.f3)) := hcc76 11 _ rfl
     have hf76_0 : World.frozen? _ ⟨go76, (t325 : Int).toNat * 12, none⟩ = false := hfr76 0
     have hf76_1 : World.frozen? _ ⟨go76, (t325 : Int).toNat * 12 + 1, none⟩ = false := hfr76 1
     have hf76_2 : World.frozen? _ ⟨go76, (t325 : Int).toNat * 12 + 2, none⟩ = false := hfr76 2
     have hf76_3 : World.frozen? _ ⟨go76, (t325 : Int).toNat * 12 + 3, none⟩ = false := hfr76 3
     have hf76_4 : World.frozen? _ ⟨go76, (t325 : Int).toNat * 12 + 4, none⟩ = false := hfr76 4
     have hf76_5 : World.frozen? _ ⟨go76, (t325 : Int).toNat * 12 + 5, none⟩ = false := hfr76 5
     have hf76_6 : World.frozen? _ ⟨go76, (t325 : Int).toNat * 12 + 6, none⟩ = false := hfr76 6
     have hf76_7 : World.frozen? _ ⟨go76, (t325 : Int).toNat * 12 + 7, none⟩ = false := hfr76 7
     have hf76_8 : World.frozen? _ ⟨go76, (t325 : Int).toNat * 12 + 8, none⟩ = false := hfr76 8
     have hf76_9 : World.frozen? _ ⟨go76, (t325 : Int).toNat * 12 + 9, none⟩ = false := hfr76 9
     have hf76_10 : World.frozen? _ ⟨go76, (t325 : Int).toNat * 12 + 10, none⟩ = false := hfr76 10
     have hf76_11 : World.frozen? _ ⟨go76, (t325 : Int).toNat * 12 + 11, none⟩ = false := hfr76 11
     clear hcl76 hcc76 hfr76 hM76
     replace p76 := eq_true p76
     replace q76 := eq_true q76
     have HN0_go76 := aM_ (show g ≠ go76 from by have h_ := IsS116.own_ne HI0.out HO_317000.out (by decide); intro e_; exact h_ (by rw [e_]; rfl))
     obtain ⟨ce88, hcl88, hM88, hcc88, hfr88⟩ := Kd.R_elem HO_317000.out z43 (t325 : Int) (oD_ (by first | (with_reducible assumption) | assumption)) (by have h_ : (t325 : Int) < ((x317000_3.length : Int) : Int) := oD_ (by first | (with_reducible assumption) | assumption); first | exact h_ | (have e_ := (Kd.R_reads' HO_317000.out).1; omega) | simpa using h_)
     obtain rfl := k43_openM hM88
     have HP88 := (Kd.R_seg HO_317000.out (t325 : Int) (oD_ (by first | (with_reducible assumption) | assumption)) (by have h_ : (t325 : Int) < ((x317000_3.length : Int) : Int) := oD_ (by first | (with_reducible assumption) | assumption); first | exact h_ | (have e_ := (Kd.R_reads' HO_317000.out).1; omega) | simpa using h_) (seg := [.int .i64 t339]) (j := 1) hcl88 hcc88 (show 2 ≤ 12 from by decide) (x' := (⟨(rd_T43 x317000_3 t325).f0, t339, (⟨(rd_T43 x317000_3 t325).f2.f0, (rd_T43 x317000_3 t325).f2.f1, (⟨(rd_T43 x317000_3 t325).f2.f2.f0, (rd_T43 x317000_3 t325).f2.f2.f1⟩ : S39), (rd_T43 x317000_3 t325).f2.f3⟩ : S41), (⟨(rd_T43 x317000_3 t325).f3.f0, (rd_T43 x317000_3 t325).f3.f1, (⟨(rd_T43 x317000_3 t325).f3.f2.f0, (rd_T43 x317000_3 t325).f3.f2.f1⟩ : S39), (rd_T43 x317000_3 t325).f3.f3⟩ : S41)⟩ : S43)) (k43_mkM _ _ _ (⟨(rd_T43 x317000_3 t325).f0, t339, (⟨(rd_T43 x317000_3 t325).f2.f0, (rd_T43 x317000_3 t325).f2.f1, (⟨(rd_T43 x317000_3 t325).f2.f2.f0, (rd_T43 x317000_3 t325).f2.f2.f1⟩ : S39), (rd_T43 x317000_3 t325).f2.f3⟩ : S41), (⟨(rd_T43 x317000_3 t325).f3.f0, (rd_T43 x317000_3 t325).f3.f1, (⟨(rd_T43 x317000_3 t325).f3.f2.f0, (rd_T43 x317000_3 t325).f3.f2.f1⟩ : S39), (rd_T43 x317000_3 t325).f3.f3⟩ : S41)⟩ : S43) ) (fun _ hk => hk)).1
     rw [← Ny341.out] at HP88
     have HQ88 := aM_ HP88
     clear hcl88 hcc88 hfr88 hM88 HP88
     refine hK.out _ _ ⟨(kC_ BK316.out 0).trans rfl, (kC_ BK316.out 1).trans rfl⟩ (fun hHeld => ?_)
     clear hK K
     refine norm_ (a' := ?_) ?_ ?_
     rotate_left
     · show Act.put _ (some 50) _ = _
       simp only [Act.put, sA_, sB_, sC_, i64_w, i32_w]
       rfl
     refine pure_ (i := 6) (N := some 51) (v := ?_) (a' := ?_) #[T_, T_, T_, T_, T_, T_, T_, F_, F_] rfl rfl (any_of HT_.out (by kernel_rfl)) (fun _ _ _ h => h) (Or.inl ⟨by rfl, ?_⟩) ?_ ?_
     rotate_left
     · intro w'
       go_simp
       with_reducible rfl
     rotate_left
     · simp only [Act.put, sA_, sB_, sC_, i64_w, i32_w]
       rfl
     refine pure_ (i := 7) (N := some 52) (v := ?_) (a' := ?_) #[T_, T_, T_, T_, T_, T_, T_, T_, F_] rfl rfl (any_of HT_.out (by kernel_rfl)) (fun _ _ _ h => h) (Or.inl ⟨by rfl, ?_⟩) ?_ ?_
     rotate_left
     · intro w'
       go_simp
       with_reducible rfl
     rotate_left
     · simp only [Act.put, sA_, sB_, sC_, i64_w, i32_w]
       rfl
     refine last_ (i := 8) (N := none) #[T_, T_, T_, T_, T_, T_, T_, T_, T_] rfl rfl (one_of HT_.out (by kernel_rfl)) (by decide) (fun K hK => ?_)
     refine skip_ (w1 := ?_) (by rfl) rfl ?_ ?_
     rotate_left
     · go_simp
       rfl
     refine hK.out _ _ ?_
     clear hK K
     refine done_ (done_of HT_.out (by kernel_rfl)) ?_
     have n0_ : Aside0 (Kd.R k43 43 (w87.setCell ⟨go76, (t325 : Int).toNat * 12 + 1, none⟩ (.int .i64 t339)) w.heap.size (fun _ => True) (.slice (some ⟨go76, 0, none⟩) x317000_3.length co80) y341) := ⟨by (with_reducible repeat (first | apply rN_ | apply rD_)); exact HQ88.out⟩
     have n1_ : Aside0 (Kd.R k66 66 (w87.setCell ⟨go76, (t325 : Int).toNat * 12 + 1, none⟩ (.int .i64 t339)) w.heap.size (fun _ => True) u317001 x317001_3) := ⟨by (with_reducible repeat (first | apply rN_ | apply rD_)); exact Kd.R_mono (rF_ (p := ⟨go76, (t325 : Int).toNat * 12 + 1, none⟩) (Kd.R_types HO_317001.out GG76.out (by decide)) (fun _ hk => hk.2) (.int .i64 t339)) (fun _ hk => trivial)⟩
     have n2_ : Aside0 (Kd.R (Kd.int .i64) 3 (w87.setCell ⟨go76, (t325 : Int).toNat * 12 + 1, none⟩ (.int .i64 t339)) w.heap.size (fun _ => True) (.slice Ao86 y336.length co86) y336) := ⟨by (with_reducible repeat (first | apply rN_ | apply rD_)); exact Kd.R_mono (rF_ (p := ⟨go76, (t325 : Int).toNat * 12 + 1, none⟩) (Kd.R_types HO338.out GG76.out (by decide)) (fun _ hk => hk.2) (.int .i64 t339)) (fun _ hk => trivial)⟩
     have n3_ : Aside0 ((w87.setCell ⟨go76, (t325 : Int).toNat * 12 + 1, none⟩ (.int .i64 t339)).heap[gb308]? = some (.cells #[.slice none 0 0, .slice none 0 0] 31 (0, 0))) := ⟨by (with_reducible repeat (first | refine kN_ ?_ _ | refine kD_ ?_ | refine kA_ ?_ _)); refine blk_far ?_ (by have h_ := Kd.R_ne HO_317000.out BK308.out (by decide); intro e_; exact h_ (by rw [e_]; rfl)) _; (with_reducible repeat (first | refine kN_ ?_ _ | refine kD_ ?_ | refine kA_ ?_ _)); exact BK308.out⟩
     have n4_ : Aside0 ((w87.setCell ⟨go76, (t325 : Int).toNat * 12 + 1, none⟩ (.int .i64 t339)).heap[gb316]? = some (.cells #[.slice (some ⟨go76, 0, none⟩) x317000_3.length co80, u317001] 31 (0, 0))) := ⟨by (with_reducible repeat (first | refine kN_ ?_ _ | refine kD_ ?_ | refine kA_ ?_ _)); refine blk_far ?_ (by have h_ := Kd.R_ne HO_317000.out BK316.out (by decide); intro e_; exact h_ (by rw [e_]; rfl)) _; (with_reducible repeat (first | refine kN_ ?_ _ | refine kD_ ?_ | refine kA_ ?_ _)); exact BK316.out⟩
     have n5_ : Aside0 (IsS116 w0 (w87.setCell ⟨go76, (t325 : Int).toNat * 12 + 1, none⟩ (.int .i64 t339)) g s0_0 t340) := ⟨by repeat (first | (with_reducible first | exact HI0.out | apply iA_ | apply iN_ | apply iD_ | apply iS_ | refine iF_ ?_ HN0_go76.out _ | refine iF_ ?_ NB0_308.out _ | refine iF_ ?_ NB0_316.out _) | exact HI0.out)⟩
     have n6_ : Aside0 (KeepBut w (w87.setCell ⟨go76, (t325 : Int).toNat * 12 + 1, none⟩ (.int .i64 t339)) g none) := ⟨by repeat (first | (with_reducible first | exact HK.out | apply kS_ | apply pN_ | apply pD_ | apply pA_ | refine pF_ ?_ GB76.out _ | refine pF_ ?_ GW308.out _ | refine pF_ ?_ GW316.out _) | exact HK.out)⟩
     have n7_ : Aside0 (Below w0.heap.size w0 (w87.setCell ⟨go76, (t325 : Int).toNat * 12 + 1, none⟩ (.int .i64 t339))) := ⟨by repeat (first | (with_reducible first | exact HB.out | apply bA_ | apply bN_ | apply b1_ | refine bS_ ?_ (Nat.le_trans HL.out GB76.out) | refine bS_ ?_ (IsS116.ge HI0.out) | refine bS_ ?_ GE308.out | refine bS_ ?_ GE316.out) | exact HB.out)⟩
     (try clear HO_317000)
     (try clear HO_317001)
     (try clear HO338)
     (try clear BK308)
     (try clear BK316)
     (try clear HI0)
     (try clear HK)
     (try clear HB)
     generalize (w87.setCell ⟨go76, (t325 : Int).toNat * 12 + 1, none⟩ (.int .i64 t339)) = w89 at n0_ n1_ n2_ n3_ n4_ n5_ n6_ n7_ ⊢
     have HO_317000 := n0_
     have HO_317001 := n1_
     have HO338 := n2_
     have BK308 := n3_
     have BK316 := n4_
     have HI0 := n5_
     have HK := n6_
     have HB := n7_
     clear n0_ n1_ n2_ n3_ n4_ n5_ n6_ n7_
     (obtain ⟨hcz90_0, hcz90_1⟩ := cells2 BK316.out)
     (obtain ⟨hfz90_0, hfz90_1⟩ := frozen2 BK316.out)
     have hnb91 := NB308_0.out
     have hnc91 := NB0_308.out
     (obtain ⟨hcz92_0, hcz92_1⟩ := cells2 BK308.out)
     (obtain ⟨hfz92_0, hfz92_1⟩ := frozen2 BK308.out)
     obtain ⟨Ao93, co93, eo93⟩ := Kd.R_slice HO_317001.out
     subst eo93
     try go_wp2
     refine bodyPost_ret (results_cell_row rfl _ _ gb308 31 #[.slice (some ⟨go76, 0, none⟩) x317000_3.length co80, .slice Ao93 x317001_3.length co93] (0, 0) _ rfl (by (with_reducible repeat (first | refine kN_ ?_ _ | refine kD_ ?_ | refine kA_ ?_ _)); refine kP_ (cs := #[.slice (some ⟨go76, 0, none⟩) x317000_3.length co80, .slice none 0 0]) ?_ 1 _ rfl; (with_reducible repeat (first | refine kN_ ?_ _ | refine kD_ ?_ | refine kA_ ?_ _)); refine kP_ (cs := #[.slice none 0 0, .slice none 0 0]) ?_ 0 _ rfl; (with_reducible repeat (first | refine kN_ ?_ _ | refine kD_ ?_ | refine kA_ ?_ _)); exact BK308.out) Tryz.underlying31 rfl (by kernel_rfl)) rfl ?_
     exact ⟨_, _, by first | rfl | (simp [errW_none, errW_some] <;> rfl) | (simp [*, errW_none, errW_some] <;> rfl), by (with_reducible repeat (first | apply rN_ | apply rD_)); exact Kd.R_mono (rF_ (p := ⟨gb308, 1, none⟩) (rF_ (p := ⟨gb308, 0, none⟩) (Kd.R_types HO_317000.out BK308.out (by decide)) (fun _ hk => hk.2) (.slice (some ⟨go76, 0, none⟩) x317000_3.length co80)) (fun _ hk => hk.2) (.slice Ao93 x317001_3.length co93)) (fun _ hk => trivial), by (with_reducible repeat (first | apply rN_ | apply rD_)); exact Kd.R_mono (rF_ (p := ⟨gb308, 1, none⟩) (rF_ (p := ⟨gb308, 0, none⟩) (Kd.R_types HO_317001.out BK308.out (by decide)) (fun _ hk => hk.2) (.slice (some ⟨go76, 0, none⟩) x317000_3.length co80)) (fun _ hk => hk.2) (.slice Ao93 x317001_3.length co93)) (fun _ hk => trivial), by repeat (first | (with_reducible first | exact HI0.out | apply iA_ | apply iN_ | apply iD_ | apply iS_ | refine iF_ ?_ NB0_308.out _ | refine iF_ ?_ NB0_316.out _) | exact HI0.out), by repeat (first | (with_reducible first | exact HB.out | apply bA_ | apply bN_ | apply b1_ | refine bS_ ?_ (IsS116.ge HI0.out) | refine bS_ ?_ GE308.out | refine bS_ ?_ GE316.out) | exact HB.out), by repeat (first | (with_reducible first | exact HK.out | apply kS_ | apply pN_ | apply pD_ | apply pA_ | refine pF_ ?_ GW308.out _ | refine pF_ ?_ GW316.out _) | exact HK.out)⟩
   rw [if_neg c72] at H
   have c72b0 : (t327 == 2) = false := beq_eq_false_iff_ne.mpr c72
   have c72b1 : (t327 != 2) = true := bne_iff_ne.mpr c72
   by_cases c94 : t327 = 3
   rotate_left
   · rw [if_neg c94] at H
     have c94b0 : (t327 == 3) = false := beq_eq_false_iff_ne.mpr c94
     have c94b1 : (t327 != 3) = true := bne_iff_ne.mpr c94
     simp only [Option.some.injEq, Prod.mk.injEq] at H
     obtain ⟨rfl, rfl, rfl⟩ := H
     have hnb113 := NB316_308.out
     have hnc113 := NB308_316.out
     have hnb114 := NB316_0.out
     have hnc114 := NB0_316.out
     (obtain ⟨hcz115_0, hcz115_1⟩ := cells2 BK316.out)
     (obtain ⟨hfz115_0, hfz115_1⟩ := frozen2 BK316.out)
     obtain ⟨Ao116, co116, eo116⟩ := Kd.R_slice HO_317000.out
     subst eo116
     go_wp2_with (first | ((with_reducible refine gate_callee (f := 64) rfl ?_); refine goesL_ (some 21) rfl rfl Tryz.func64 (by kernel_rfl) rfl #[.pointer (some ⟨g, 0, none⟩), .int .i64 (x317000_3.length : Int)] rfl (by (try simp only [mA_, List.map_cons, List.map_nil]); first | done | rfl | (simp only [lD_, lT_]; rfl)) ?_; (with_reducible refine (spec_l12Rd_pick.calls kj3 g s0_0 t318 (x317000_3.length : Int) t325 t326 w0 _ ?side1 ?side2 A31.out).mono ?_); (case side1 => repeat (first | (with_reducible first | exact HI0.out | apply iA_ | apply iN_ | apply iD_ | apply iS_ | refine iF_ ?_ NB0_308.out _ | refine iF_ ?_ NB0_316.out _) | exact HI0.out)); (case side2 => repeat (first | (with_reducible first | exact HB.out | apply bA_ | apply bN_ | apply b1_ | refine bS_ ?_ (IsS116.ge HI0.out) | refine bS_ ?_ GE308.out | refine bS_ ?_ GE316.out) | exact HB.out)); rintro e w117 ⟨rfl, hi, hb, hk⟩; refine ⟨_, rfl, ?_⟩; have n0_ := aM_ (Kd.R_mono (Kd.R_keep (IsS116.apart (show IsS116 w0 _ g s0_0 t318 from by repeat (first | (with_reducible first | exact HI0.out | apply iA_ | apply iN_ | apply iD_ | apply iS_ | refine iF_ ?_ NB0_308.out _ | refine iF_ ?_ NB0_316.out _) | exact HI0.out)) (by (with_reducible repeat (first | apply rN_ | apply rD_)); exact HO_317000.out) (by decide)) hk (fun _ h => h.2)) (fun _ h => h.1)); have n1_ := aM_ (Kd.R_mono (Kd.R_keep (IsS116.apart (show IsS116 w0 _ g s0_0 t318 from by repeat (first | (with_reducible first | exact HI0.out | apply iA_ | apply iN_ | apply iD_ | apply iS_ | refine iF_ ?_ NB0_308.out _ | refine iF_ ?_ NB0_316.out _) | exact HI0.out)) (by (with_reducible repeat (first | apply rN_ | apply rD_)); exact HO_317001.out) (by decide)) hk (fun _ h => h.2)) (fun _ h => h.1)); have n2_ := aM_ (KeepBut.blk hk (g' := gb308) (o := .cells #[.slice none 0 0, .slice none 0 0] 31 (0, 0)) (by (with_reducible repeat (first | refine kN_ ?_ _ | refine kD_ ?_ | refine kA_ ?_ _)); exact BK308.out) NB308_0.out (by simp)); have n3_ := aM_ (KeepBut.blk hk (g' := gb316) (o := .cells #[.slice Ao116 x317000_3.length co116, u317001] 31 (0, 0)) (by (with_reducible repeat (first | refine kN_ ?_ _ | refine kD_ ?_ | refine kA_ ?_ _)); exact BK316.out) NB316_0.out (by simp)); have n4_ := aM_ (KeepBut.trans (by repeat (first | (with_reducible first | exact HK.out | apply kS_ | apply pN_ | apply pD_ | apply pA_ | refine pF_ ?_ GW308.out _ | refine pF_ ?_ GW316.out _) | exact HK.out)) hk (.inl rfl)); have n5_ := aM_ (hb); have n6_ := aM_ (hi); clear HO_317000 HO_317001 BK308 BK316 HK HB HI0; revert n0_ n1_ n2_ n3_ n4_ n5_ n6_; intro HO_317000 HO_317001 BK308 BK316 HK HB HI0; (try clear hb); (try clear hb2); (try clear hk); (try clear hi)) | ((with_reducible refine gate_callee (f := 64) rfl ?_); refine goesL_ (some 23) rfl rfl Tryz.func64 (by kernel_rfl) rfl #[.pointer (some ⟨g, 0, none⟩), .int .i64 40] rfl (by (try simp only [mA_, List.map_cons, List.map_nil]); first | done | rfl | (simp only [lD_, lT_]; rfl)) ?_; (with_reducible refine (spec_l12Rd_pick.calls kj3 g s0_0 t326 40 t327 t328 w0 _ ?side1 ?side2 A32.out).mono ?_); (case side1 => repeat (first | (with_reducible first | exact HI0.out | apply iA_ | apply iN_ | apply iD_ | apply iS_ | refine iF_ ?_ NB0_308.out _ | refine iF_ ?_ NB0_316.out _) | exact HI0.out)); (case side2 => repeat (first | (with_reducible first | exact HB.out | apply bA_ | apply bN_ | apply b1_ | refine bS_ ?_ (IsS116.ge HI0.out) | refine bS_ ?_ GE308.out | refine bS_ ?_ GE316.out) | exact HB.out)); rintro e w118 ⟨rfl, hi, hb, hk⟩; refine ⟨_, rfl, ?_⟩; have n0_ := aM_ (Kd.R_mono (Kd.R_keep (IsS116.apart (show IsS116 w0 _ g s0_0 t326 from by repeat (first | (with_reducible first | exact HI0.out | apply iA_ | apply iN_ | apply iD_ | apply iS_ | refine iF_ ?_ NB0_308.out _ | refine iF_ ?_ NB0_316.out _) | exact HI0.out)) (by (with_reducible repeat (first | apply rN_ | apply rD_)); exact HO_317000.out) (by decide)) hk (fun _ h => h.2)) (fun _ h => h.1)); have n1_ := aM_ (Kd.R_mono (Kd.R_keep (IsS116.apart (show IsS116 w0 _ g s0_0 t326 from by repeat (first | (with_reducible first | exact HI0.out | apply iA_ | apply iN_ | apply iD_ | apply iS_ | refine iF_ ?_ NB0_308.out _ | refine iF_ ?_ NB0_316.out _) | exact HI0.out)) (by (with_reducible repeat (first | apply rN_ | apply rD_)); exact HO_317001.out) (by decide)) hk (fun _ h => h.2)) (fun _ h => h.1)); have n2_ := aM_ (KeepBut.blk hk (g' := gb308) (o := .cells #[.slice none 0 0, .slice none 0 0] 31 (0, 0)) (by (with_reducible repeat (first | refine kN_ ?_ _ | refine kD_ ?_ | refine kA_ ?_ _)); exact BK308.out) NB308_0.out (by simp)); have n3_ := aM_ (KeepBut.blk hk (g' := gb316) (o := .cells #[.slice Ao116 x317000_3.length co116, u317001] 31 (0, 0)) (by (with_reducible repeat (first | refine kN_ ?_ _ | refine kD_ ?_ | refine kA_ ?_ _)); exact BK316.out) NB316_0.out (by simp)); have n4_ := aM_ (KeepBut.trans (by repeat (first | (with_reducible first | exact HK.out | apply kS_ | apply pN_ | apply pD_ | apply pA_ | refine pF_ ?_ GW308.out _ | refine pF_ ?_ GW316.out _) | exact HK.out)) hk (.inl rfl)); have n5_ := aM_ (hb); have n6_ := aM_ (hi); clear HO_317000 HO_317001 BK308 BK316 HK HB HI0; revert n0_ n1_ n2_ n3_ n4_ n5_ n6_; intro HO_317000 HO_317001 BK308 BK316 HK HB HI0; (try clear hb); (try clear hb2); (try clear hk); (try clear hi); (obtain ⟨hcz119_0, hcz119_1⟩ := cells2 BK316.out); (obtain ⟨hfz119_0, hfz119_1⟩ := frozen2 BK316.out); have hnb120 := NB308_0.out; have hnc120 := NB0_308.out; (obtain ⟨hcz121_0, hcz121_1⟩ := cells2 BK308.out); (obtain ⟨hfz121_0, hfz121_1⟩ := frozen2 BK308.out); obtain ⟨Ao122, co122, eo122⟩ := Kd.R_slice HO_317001.out; subst eo122))
     refine bodyPost_ret (results_cell_row rfl _ _ gb308 31 #[.slice Ao116 x317000_3.length co116, .slice Ao122 x317001_3.length co122] (0, 0) _ rfl (by (with_reducible repeat (first | refine kN_ ?_ _ | refine kD_ ?_ | refine kA_ ?_ _)); refine kP_ (cs := #[.slice Ao116 x317000_3.length co116, .slice none 0 0]) ?_ 1 _ rfl; (with_reducible repeat (first | refine kN_ ?_ _ | refine kD_ ?_ | refine kA_ ?_ _)); refine kP_ (cs := #[.slice none 0 0, .slice none 0 0]) ?_ 0 _ rfl; (with_reducible repeat (first | refine kN_ ?_ _ | refine kD_ ?_ | refine kA_ ?_ _)); exact BK308.out) Tryz.underlying31 rfl (by kernel_rfl)) rfl ?_
     exact ⟨_, _, by first | rfl | (simp [errW_none, errW_some] <;> rfl) | (simp [*, errW_none, errW_some] <;> rfl), by (with_reducible repeat (first | apply rN_ | apply rD_)); exact Kd.R_mono (rF_ (p := ⟨gb308, 1, none⟩) (rF_ (p := ⟨gb308, 0, none⟩) (Kd.R_types HO_317000.out BK308.out (by decide)) (fun _ hk => hk.2) (.slice Ao116 x317000_3.length co116)) (fun _ hk => hk.2) (.slice Ao122 x317001_3.length co122)) (fun _ hk => trivial), by (with_reducible repeat (first | apply rN_ | apply rD_)); exact Kd.R_mono (rF_ (p := ⟨gb308, 1, none⟩) (rF_ (p := ⟨gb308, 0, none⟩) (Kd.R_types HO_317001.out BK308.out (by decide)) (fun _ hk => hk.2) (.slice Ao116 x317000_3.length co116)) (fun _ hk => hk.2) (.slice Ao122 x317001_3.length co122)) (fun _ hk => trivial), by repeat (first | (with_reducible first | exact HI0.out | apply iA_ | apply iN_ | apply iD_ | apply iS_ | refine iF_ ?_ NB0_308.out _ | refine iF_ ?_ NB0_316.out _) | exact HI0.out), by repeat (first | (with_reducible first | exact HB.out | apply bA_ | apply bN_ | apply b1_ | refine bS_ ?_ (IsS116.ge HI0.out) | refine bS_ ?_ GE308.out | refine bS_ ?_ GE316.out) | exact HB.out), by repeat (first | (with_reducible first | exact HK.out | apply kS_ | apply pN_ | apply pD_ | apply pA_ | refine pF_ ?_ GW308.out _ | refine pF_ ?_ GW316.out _) | exact HK.out)⟩
   rw [if_pos c94] at H
   have c94b0 : (t327 == 3) = true := beq_iff_eq.mpr c94
   have c94b1 : (t327 != 3) = false := bne_eq_false_iff_eq.mpr c94
   clear c94
   replace H := Option.bind_eq_some_iff.mp H
   obtain ⟨⟨t342, t343⟩, A950, H⟩ := H
   replace H : ((spec_l12Rd_pick.f kj3 s0_0 t343 9).bind fun bt344 => (if x317001_3.length < 5864062014805 then (some (x317000_3, (x317001_3 ++ [(⟨(⟨t342, 5⟩ : S39), bt344.1⟩ : S66)]), bt344.2)) else (none))) = some (r1, r2, r3) := H
   have A95 := aM_ A950
   clear A950
   replace H := Option.bind_eq_some_iff.mp H
   obtain ⟨⟨t344, t345⟩, A960, H⟩ := H
   replace H : (if x317001_3.length < 5864062014805 then (some (x317000_3, (x317001_3 ++ [(⟨(⟨t342, 5⟩ : S39), t344⟩ : S66)]), t345)) else (none)) = some (r1, r2, r3) := H
   have A96 := aM_ A960
   clear A960
   by_cases c97 : x317001_3.length < 5864062014805
   rotate_left
   · rw [if_neg c97] at H
     exact absurd H (by simp)
   rw [if_pos c97] at H
   have LMc97 := aM_ c97
   clear c97
   obtain ⟨y346, hy346⟩ : ∃ y_ : List (S66), y_ = (x317001_3 ++ [(⟨(⟨t342, 5⟩ : S39), t344⟩ : S66)]) := ⟨_, rfl⟩
   replace H : (some (x317000_3, y346, t345)) = some (r1, r2, r3) := by first | (rw [hy346]; with_reducible exact H) | (have H2_ := (Option.bind_some _ _).symm.trans H; rw [hy346]; with_reducible exact H2_) | (have H2_ := (Option.bind_some _ _).symm.trans H; with_reducible exact H2_) | with_reducible exact H | (rw [hy346]; exact H) | exact H
   have Ny346 := aM_ hy346
   clear hy346
   simp only [Option.some.injEq, Prod.mk.injEq] at H
   obtain ⟨rfl, rfl, rfl⟩ := H
   have hnb98 := NB316_308.out
   have hnc98 := NB308_316.out
   have hnb99 := NB316_0.out
   have hnc99 := NB0_316.out
   (obtain ⟨hcz100_0, hcz100_1⟩ := cells2 BK316.out)
   (obtain ⟨hfz100_0, hfz100_1⟩ := frozen2 BK316.out)
   obtain ⟨Ao101, co101, eo101⟩ := Kd.R_slice HO_317000.out
   subst eo101
   try go_wp2_with (first | ((with_reducible refine gate_callee (f := 64) rfl ?_); refine goesL_ (some 21) rfl rfl Tryz.func64 (by kernel_rfl) rfl #[.pointer (some ⟨g, 0, none⟩), .int .i64 (x317000_3.length : Int)] rfl (by (try simp only [mA_, List.map_cons, List.map_nil]); first | done | rfl | (simp only [lD_, lT_]; rfl)) ?_; (with_reducible refine (spec_l12Rd_pick.calls kj3 g s0_0 t318 (x317000_3.length : Int) t325 t326 w0 _ ?side1 ?side2 A31.out).mono ?_); (case side1 => repeat (first | (with_reducible first | exact HI0.out | apply iA_ | apply iN_ | apply iD_ | apply iS_ | refine iF_ ?_ NB0_308.out _ | refine iF_ ?_ NB0_316.out _) | exact HI0.out)); (case side2 => repeat (first | (with_reducible first | exact HB.out | apply bA_ | apply bN_ | apply b1_ | refine bS_ ?_ (IsS116.ge HI0.out) | refine bS_ ?_ GE308.out | refine bS_ ?_ GE316.out) | exact HB.out)); rintro e w102 ⟨rfl, hi, hb, hk⟩; refine ⟨_, rfl, ?_⟩; have n0_ := aM_ (Kd.R_mono (Kd.R_keep (IsS116.apart (show IsS116 w0 _ g s0_0 t318 from by repeat (first | (with_reducible first | exact HI0.out | apply iA_ | apply iN_ | apply iD_ | apply iS_ | refine iF_ ?_ NB0_308.out _ | refine iF_ ?_ NB0_316.out _) | exact HI0.out)) (by (with_reducible repeat (first | apply rN_ | apply rD_)); exact HO_317000.out) (by decide)) hk (fun _ h => h.2)) (fun _ h => h.1)); have n1_ := aM_ (Kd.R_mono (Kd.R_keep (IsS116.apart (show IsS116 w0 _ g s0_0 t318 from by repeat (first | (with_reducible first | exact HI0.out | apply iA_ | apply iN_ | apply iD_ | apply iS_ | refine iF_ ?_ NB0_308.out _ | refine iF_ ?_ NB0_316.out _) | exact HI0.out)) (by (with_reducible repeat (first | apply rN_ | apply rD_)); exact HO_317001.out) (by decide)) hk (fun _ h => h.2)) (fun _ h => h.1)); have n2_ := aM_ (KeepBut.blk hk (g' := gb308) (o := .cells #[.slice none 0 0, .slice none 0 0] 31 (0, 0)) (by (with_reducible repeat (first | refine kN_ ?_ _ | refine kD_ ?_ | refine kA_ ?_ _)); exact BK308.out) NB308_0.out (by simp)); have n3_ := aM_ (KeepBut.blk hk (g' := gb316) (o := .cells #[.slice Ao101 x317000_3.length co101, u317001] 31 (0, 0)) (by (with_reducible repeat (first | refine kN_ ?_ _ | refine kD_ ?_ | refine kA_ ?_ _)); exact BK316.out) NB316_0.out (by simp)); have n4_ := aM_ (KeepBut.trans (by repeat (first | (with_reducible first | exact HK.out | apply kS_ | apply pN_ | apply pD_ | apply pA_ | refine pF_ ?_ GW308.out _ | refine pF_ ?_ GW316.out _) | exact HK.out)) hk (.inl rfl)); have n5_ := aM_ (hb); have n6_ := aM_ (hi); clear HO_317000 HO_317001 BK308 BK316 HK HB HI0; revert n0_ n1_ n2_ n3_ n4_ n5_ n6_; intro HO_317000 HO_317001 BK308 BK316 HK HB HI0; (try clear hb); (try clear hb2); (try clear hk); (try clear hi)) | ((with_reducible refine gate_callee (f := 64) rfl ?_); refine goesL_ (some 23) rfl rfl Tryz.func64 (by kernel_rfl) rfl #[.pointer (some ⟨g, 0, none⟩), .int .i64 40] rfl (by (try simp only [mA_, List.map_cons, List.map_nil]); first | done | rfl | (simp only [lD_, lT_]; rfl)) ?_; (with_reducible refine (spec_l12Rd_pick.calls kj3 g s0_0 t326 40 t327 t328 w0 _ ?side1 ?side2 A32.out).mono ?_); (case side1 => repeat (first | (with_reducible first | exact HI0.out | apply iA_ | apply iN_ | apply iD_ | apply iS_ | refine iF_ ?_ NB0_308.out _ | refine iF_ ?_ NB0_316.out _) | exact HI0.out)); (case side2 => repeat (first | (with_reducible first | exact HB.out | apply bA_ | apply bN_ | apply b1_ | refine bS_ ?_ (IsS116.ge HI0.out) | refine bS_ ?_ GE308.out | refine bS_ ?_ GE316.out) | exact HB.out)); rintro e w103 ⟨rfl, hi, hb, hk⟩; refine ⟨_, rfl, ?_⟩; have n0_ := aM_ (Kd.R_mono (Kd.R_keep (IsS116.apart (show IsS116 w0 _ g s0_0 t326 from by repeat (first | (with_reducible first | exact HI0.out | apply iA_ | apply iN_ | apply iD_ | apply iS_ | refine iF_ ?_ NB0_308.out _ | refine iF_ ?_ NB0_316.out _) | exact HI0.out)) (by (with_reducible repeat (first | apply rN_ | apply rD_)); exact HO_317000.out) (by decide)) hk (fun _ h => h.2)) (fun _ h => h.1)); have n1_ := aM_ (Kd.R_mono (Kd.R_keep (IsS116.apart (show IsS116 w0 _ g s0_0 t326 from by repeat (first | (with_reducible first | exact HI0.out | apply iA_ | apply iN_ | apply iD_ | apply iS_ | refine iF_ ?_ NB0_308.out _ | refine iF_ ?_ NB0_316.out _) | exact HI0.out)) (by (with_reducible repeat (first | apply rN_ | apply rD_)); exact HO_317001.out) (by decide)) hk (fun _ h => h.2)) (fun _ h => h.1)); have n2_ := aM_ (KeepBut.blk hk (g' := gb308) (o := .cells #[.slice none 0 0, .slice none 0 0] 31 (0, 0)) (by (with_reducible repeat (first | refine kN_ ?_ _ | refine kD_ ?_ | refine kA_ ?_ _)); exact BK308.out) NB308_0.out (by simp)); have n3_ := aM_ (KeepBut.blk hk (g' := gb316) (o := .cells #[.slice Ao101 x317000_3.length co101, u317001] 31 (0, 0)) (by (with_reducible repeat (first | refine kN_ ?_ _ | refine kD_ ?_ | refine kA_ ?_ _)); exact BK316.out) NB316_0.out (by simp)); have n4_ := aM_ (KeepBut.trans (by repeat (first | (with_reducible first | exact HK.out | apply kS_ | apply pN_ | apply pD_ | apply pA_ | refine pF_ ?_ GW308.out _ | refine pF_ ?_ GW316.out _) | exact HK.out)) hk (.inl rfl)); have n5_ := aM_ (hb); have n6_ := aM_ (hi); clear HO_317000 HO_317001 BK308 BK316 HK HB HI0; revert n0_ n1_ n2_ n3_ n4_ n5_ n6_; intro HO_317000 HO_317001 BK308 BK316 HK HB HI0; (try clear hb); (try clear hb2); (try clear hk); (try clear hi)))
   have n0_ := aM_ (rD_ HO_317000.out)
   have n1_ := aM_ (rD_ HO_317001.out)
   have n2_ := aM_ (kD_ BK308.out)
   have n3_ := aM_ (kD_ BK316.out)
   have n4_ := aM_ (iD_ HI0.out)
   have n5_ := aM_ (pD_ HK.out)
   have n6_ := aM_ (b1_ HB.out)
   clear HO_317000 HO_317001 BK308 BK316 HI0 HK HB
   revert n0_ n1_ n2_ n3_ n4_ n5_ n6_
   intro HO_317000 HO_317001 BK308 BK316 HI0 HK HB
   refine start_ (n := 12) (S := fun w' => w'.cell? ⟨gb316, 0, none⟩ = some (.slice Ao101 x317000_3.length co101) ∧ w'.cell? ⟨gb316, 1, none⟩ = some (u317001)) (ds := [11]) #[F_, F_, F_, F_, F_, F_, F_, F_, F_, F_, F_, F_] (by kernel_rfl) rfl rfl ⟨(kC_ BK316.out 0).trans rfl, (kC_ BK316.out 1).trans rfl⟩ (fun hHeld => ?_); refine with_tabW spec_l7Bent.tab15 spec_l7Bent.bits15 (fun HT_ HW_ => ?_)
   generalize w103.drew = w104 at HO_317000 HO_317001 BK308 BK316 HI0 HK HB hHeld ⊢
   refine pure_ (i := 0) (N := some 55) (v := ?_) (a' := ?_) #[T_, F_, F_, F_, F_, F_, F_, F_, F_, F_, F_, F_] rfl rfl (any_of HT_.out (by kernel_rfl)) (fun _ _ _ h => h) (Or.inl ⟨by rfl, ?_⟩) ?_ ?_
   rotate_left
   · intro w'
     go_simp
     with_reducible rfl
   rotate_left
   · simp only [Act.put, sA_, sB_, sC_, i64_w, i32_w]
     rfl
   refine pure_ (i := 2) (N := some 57) (v := ?_) (a' := ?_) #[T_, F_, T_, F_, F_, F_, F_, F_, F_, F_, F_, F_] rfl rfl (any_of HT_.out (by kernel_rfl)) (fun _ _ _ h => h) (Or.inl ⟨by rfl, ?_⟩) ?_ ?_
   rotate_left
   · intro w'
     go_simp
     with_reducible rfl
   rotate_left
   · simp only [Act.put, sA_, sB_, sC_, i64_w, i32_w]
     rfl
   refine pure_ (i := 5) (N := some 60) (v := ?_) (a' := ?_) #[T_, F_, T_, F_, F_, T_, F_, F_, F_, F_, F_, F_] rfl rfl (any_of HT_.out (by kernel_rfl)) (fun _ _ _ h => h) (Or.inl ⟨by rfl, ?_⟩) ?_ ?_
   rotate_left
   · intro w'
     go_simp
     with_reducible rfl
   rotate_left
   · simp only [Act.put, sA_, sB_, sC_, i64_w, i32_w]
     rfl
   refine take_ (i := 1) (N := some 56) (v := ?_) (a' := ?_) #[T_, T_, T_, F_, F_, T_, F_, F_, F_, F_, F_, F_] rfl rfl (take_ofW HT_.out HW_.out (by kernel_rfl)) (fun _ _ _ h => h) (Or.inl ⟨by rfl, ?_⟩) hHeld ?_ ?_
   rotate_left
   · rintro w' ⟨s0, s1⟩
     go_simp
     with_reducible rfl
   rotate_left
   · simp only [Act.put, sA_, sB_, sC_, i64_w, i32_w]
     rfl
   refine one_ (i := 3) (N := some 58) #[T_, T_, T_, T_, F_, T_, F_, F_, F_, F_, F_, F_] rfl rfl (one_of HT_.out (by kernel_rfl)) (by decide) (fun K hK => ?_)
   refine goes_ Tryz.func64 (by kernel_rfl) rfl #[.pointer (some ⟨g, 0, none⟩), .int .i64 5] (by rfl) rfl rfl (by (try simp only [mA_, List.map_cons, List.map_nil]); first | done | rfl | (simp only [lD_, lT_]; rfl)) ?_
   with_reducible refine (spec_l12Rd_pick.calls kj3 g s0_0 t328 5 t342 t343 w0 _ ?side1 ?side2 A95.out).mono ?_
   (case side1 => repeat (first | (with_reducible first | exact HI0.out | apply iA_ | apply iN_ | apply iD_ | apply iS_ | refine iF_ ?_ NB0_308.out _ | refine iF_ ?_ NB0_316.out _) | exact HI0.out))
   (case side2 => repeat (first | (with_reducible first | exact HB.out | apply bA_ | apply bN_ | apply b1_ | refine bS_ ?_ (IsS116.ge HI0.out) | refine bS_ ?_ GE308.out | refine bS_ ?_ GE316.out) | exact HB.out))
   rintro e w105 ⟨rfl, hi, hb, hk⟩
   refine ⟨_, rfl, ?_⟩
   have n0_ := aM_ (Kd.R_mono (Kd.R_keep (IsS116.apart (show IsS116 w0 _ g s0_0 t328 from by repeat (first | (with_reducible first | exact HI0.out | apply iA_ | apply iN_ | apply iD_ | apply iS_ | refine iF_ ?_ NB0_308.out _ | refine iF_ ?_ NB0_316.out _) | exact HI0.out)) (by (with_reducible repeat (first | apply rN_ | apply rD_)); exact HO_317000.out) (by decide)) hk (fun _ h => h.2)) (fun _ h => h.1))
   have n1_ := aM_ (Kd.R_mono (Kd.R_keep (IsS116.apart (show IsS116 w0 _ g s0_0 t328 from by repeat (first | (with_reducible first | exact HI0.out | apply iA_ | apply iN_ | apply iD_ | apply iS_ | refine iF_ ?_ NB0_308.out _ | refine iF_ ?_ NB0_316.out _) | exact HI0.out)) (by (with_reducible repeat (first | apply rN_ | apply rD_)); exact HO_317001.out) (by decide)) hk (fun _ h => h.2)) (fun _ h => h.1))
   have n2_ := aM_ (KeepBut.blk hk (g' := gb308) (o := .cells #[.slice none 0 0, .slice none 0 0] 31 (0, 0)) (by (with_reducible repeat (first | refine kN_ ?_ _ | refine kD_ ?_ | refine kA_ ?_ _)); exact BK308.out) NB308_0.out (by simp))
   have n3_ := aM_ (KeepBut.blk hk (g' := gb316) (o := .cells #[.slice Ao101 x317000_3.length co101, u317001] 31 (0, 0)) (by (with_reducible repeat (first | refine kN_ ?_ _ | refine kD_ ?_ | refine kA_ ?_ _)); exact BK316.out) NB316_0.out (by simp))
   have n4_ := aM_ (KeepBut.trans (by repeat (first | (with_reducible first | exact HK.out | apply kS_ | apply pN_ | apply pD_ | apply pA_ | refine pF_ ?_ GW308.out _ | refine pF_ ?_ GW316.out _) | exact HK.out)) hk (.inl rfl))
   have n5_ := aM_ (hb)
   have n6_ := aM_ (hi)
   clear HO_317000 HO_317001 BK308 BK316 HK HB HI0
   revert n0_ n1_ n2_ n3_ n4_ n5_ n6_
   intro HO_317000 HO_317001 BK308 BK316 HK HB HI0
   (try clear hb)
   (try clear hb2)
   (try clear hk)
   (try clear hi)
   refine hK.out _ _ ⟨(kC_ BK316.out 0).trans rfl, (kC_ BK316.out 1).trans rfl⟩ (fun hHeld => ?_)
   clear hK K
   refine norm_ (a' := ?_) ?_ ?_
   rotate_left
   · show Act.put _ (some 58) _ = _
     simp only [Act.put, sA_, sB_, sC_, i64_w, i32_w]
     rfl
   refine pure_ (i := 4) (N := some 59) (v := ?_) (a' := ?_) #[T_, T_, T_, T_, T_, T_, F_, F_, F_, F_, F_, F_] rfl rfl (any_of HT_.out (by kernel_rfl)) (fun _ _ _ h => h) (Or.inl ⟨by rfl, ?_⟩) ?_ ?_
   rotate_left
   · intro w'
     go_simp
     with_reducible rfl
   rotate_left
   · simp only [Act.put, sA_, sB_, sC_, i64_w, i32_w]
     rfl
   refine one_ (i := 6) (N := some 61) #[T_, T_, T_, T_, T_, T_, T_, F_, F_, F_, F_, F_] rfl rfl (one_of HT_.out (by kernel_rfl)) (by decide) (fun K hK => ?_)
   refine goes_ Tryz.func64 (by kernel_rfl) rfl #[.pointer (some ⟨g, 0, none⟩), .int .i64 9] (by rfl) rfl rfl (by (try simp only [mA_, List.map_cons, List.map_nil]); first | done | rfl | (simp only [lD_, lT_]; rfl)) ?_
   with_reducible refine (spec_l12Rd_pick.calls kj3 g s0_0 t343 9 t344 t345 w0 _ ?side1 ?side2 A96.out).mono ?_
   (case side1 => repeat (first | (with_reducible first | exact HI0.out | apply iA_ | apply iN_ | apply iD_ | apply iS_ | refine iF_ ?_ NB0_308.out _ | refine iF_ ?_ NB0_316.out _) | exact HI0.out))
   (case side2 => repeat (first | (with_reducible first | exact HB.out | apply bA_ | apply bN_ | apply b1_ | refine bS_ ?_ (IsS116.ge HI0.out) | refine bS_ ?_ GE308.out | refine bS_ ?_ GE316.out) | exact HB.out))
   rintro e w106 ⟨rfl, hi, hb, hk⟩
   refine ⟨_, rfl, ?_⟩
   have n0_ := aM_ (Kd.R_mono (Kd.R_keep (IsS116.apart (show IsS116 w0 _ g s0_0 t343 from by repeat (first | (with_reducible first | exact HI0.out | apply iA_ | apply iN_ | apply iD_ | apply iS_ | refine iF_ ?_ NB0_308.out _ | refine iF_ ?_ NB0_316.out _) | exact HI0.out)) (by (with_reducible repeat (first | apply rN_ | apply rD_)); exact HO_317000.out) (by decide)) hk (fun _ h => h.2)) (fun _ h => h.1))
   have n1_ := aM_ (Kd.R_mono (Kd.R_keep (IsS116.apart (show IsS116 w0 _ g s0_0 t343 from by repeat (first | (with_reducible first | exact HI0.out | apply iA_ | apply iN_ | apply iD_ | apply iS_ | refine iF_ ?_ NB0_308.out _ | refine iF_ ?_ NB0_316.out _) | exact HI0.out)) (by (with_reducible repeat (first | apply rN_ | apply rD_)); exact HO_317001.out) (by decide)) hk (fun _ h => h.2)) (fun _ h => h.1))
   have n2_ := aM_ (KeepBut.blk hk (g' := gb308) (o := .cells #[.slice none 0 0, .slice none 0 0] 31 (0, 0)) (by (with_reducible repeat (first | refine kN_ ?_ _ | refine kD_ ?_ | refine kA_ ?_ _)); exact BK308.out) NB308_0.out (by simp))
   have n3_ := aM_ (KeepBut.blk hk (g' := gb316) (o := .cells #[.slice Ao101 x317000_3.length co101, u317001] 31 (0, 0)) (by (with_reducible repeat (first | refine kN_ ?_ _ | refine kD_ ?_ | refine kA_ ?_ _)); exact BK316.out) NB316_0.out (by simp))
   have n4_ := aM_ (KeepBut.trans (by repeat (first | (with_reducible first | exact HK.out | apply kS_ | apply pN_ | apply pD_ | apply pA_ | refine pF_ ?_ GW308.out _ | refine pF_ ?_ GW316.out _) | exact HK.out)) hk (.inl rfl))
   have n5_ := aM_ (hb)
   have n6_ := aM_ (hi)
   clear HO_317000 HO_317001 BK308 BK316 HK HB HI0
   revert n0_ n1_ n2_ n3_ n4_ n5_ n6_
   intro HO_317000 HO_317001 BK308 BK316 HK HB HI0
   (try clear hb)
   (try clear hb2)
   (try clear hk)
   (try clear hi)
   refine hK.out _ _ ⟨(kC_ BK316.out 0).trans rfl, (kC_ BK316.out 1).trans rfl⟩ (fun hHeld => ?_)
   clear hK K
   refine norm_ (a' := ?_) ?_ ?_
   rotate_left
   · show Act.put _ (some 61) _ = _
     simp only [Act.put, sA_, sB_, sC_, i64_w, i32_w]
     rfl
   refine pure_ (i := 7) (N := some 62) (v := ?_) (a' := ?_) #[T_, T_, T_, T_, T_, T_, T_, T_, F_, F_, F_, F_] rfl rfl (any_of HT_.out (by kernel_rfl)) (fun _ _ _ h => h) (Or.inl ⟨by rfl, ?_⟩) ?_ ?_
   rotate_left
   · intro w'
     go_simp
     with_reducible rfl
   rotate_left
   · simp only [Act.put, sA_, sB_, sC_, i64_w, i32_w]
     rfl
   refine one_ (i := 8) (N := some 63) #[T_, T_, T_, T_, T_, T_, T_, T_, T_, F_, F_, F_] rfl rfl (one_of HT_.out (by kernel_rfl)) (by decide) (fun K hK => ?_)
   refine value_ (w1 := ?_) (v := ?_) (by rfl) rfl ?_ ?_
   rotate_left 2
   · go_simp
     constructor
     · rfl
     · rfl
   refine hK.out _ _ ⟨(kC_ (kA_ BK316.out _) 0).trans rfl, (kC_ (kA_ BK316.out _) 1).trans rfl⟩ (fun hHeld => ?_)
   clear hK K
   refine norm_ (a' := ?_) ?_ ?_
   rotate_left
   · show Act.put _ (some 63) _ = _
     simp only [Act.put, sA_, sB_, sC_, i64_w, i32_w]
     rfl
   refine one_ (i := 9) (N := some 64) #[T_, T_, T_, T_, T_, T_, T_, T_, T_, T_, F_, F_] rfl rfl (one_of HT_.out (by kernel_rfl)) (by decide) (fun K hK => ?_)
   refine Kd.R_append_step k66 w.heap.size (by rfl) (.tmp 56) (.tmp 63) 29 66 (.agg #[(.int .i64 0), (.int .i64 0), (.int .i64 0)]) 24 rfl Tryz.underlying29 info66 rfl (by decide) (by omega) u317001 x317001_3 (⟨(⟨t342, 5⟩ : S39), t344⟩ : S66) [.int .i64 t342, .int .i64 5, .int .i64 t344] (fun _ => True) (fun _ => False) rfl rfl ?aP (fun _ hk => hk.elim) ?aF ?aO (Below.refl _ _) ?aS ?aL ?_
   (case aP => exact k66_mkM _ _ _ (⟨(⟨t342, 5⟩ : S39), t344⟩ : S66))
   (case aF => exact (fun _ _ => trivial))
   (case aO => exact (by (with_reducible repeat (first | apply rN_ | apply rD_)); exact HO_317001.out))
   (case aS => exact (keep_size (w := w) (g := g) (row := none) (by repeat (first | (with_reducible first | exact HK.out | apply kS_ | apply pN_ | apply pD_ | apply pA_ | refine pF_ ?_ GW308.out _ | refine pF_ ?_ GW316.out _) | exact HK.out))))
   (case aL => have := LMc97.out; omega)
   intro v347 w107 ho hb hg hat
   rw [← Ny346.out] at ho
   have n0_ := aM_ (Kd.R_over' (by (with_reducible repeat (first | apply rN_ | apply rD_)); exact HO_317000.out) (Kd.R_typed (by (with_reducible repeat (first | apply rN_ | apply rD_)); exact HO_317001.out)) (by decide) hg)
   have n1_ := aM_ (blk_grown (g := gb308) (o := .cells #[.slice none 0 0, .slice none 0 0] 31 (0, 0)) (by (with_reducible repeat (first | refine kN_ ?_ _ | refine kD_ ?_ | refine kA_ ?_ _)); exact BK308.out) hg (Kd.R_ne HO_317001.out BK308.out (by decide)))
   have n2_ := aM_ (blk_grown (g := gb316) (o := .cells #[.slice Ao101 x317000_3.length co101, u317001] 31 (0, 0)) (by (with_reducible repeat (first | refine kN_ ?_ _ | refine kD_ ?_ | refine kA_ ?_ _)); exact BK316.out) hg (Kd.R_ne HO_317001.out BK316.out (by decide)))
   have n3_ := aM_ (IsS116.grown (by repeat (first | (with_reducible first | exact HI0.out | apply iA_ | apply iN_ | apply iD_ | apply iS_ | refine iF_ ?_ NB0_308.out _ | refine iF_ ?_ NB0_316.out _) | exact HI0.out)) hg (IsS116.own_ne HI0.out HO_317001.out (by decide)))
   have n4_ := aM_ (below_weaken (by repeat (first | (with_reducible first | exact HB.out | apply bA_ | apply bN_ | apply b1_ | refine bS_ ?_ (IsS116.ge HI0.out) | refine bS_ ?_ GE308.out | refine bS_ ?_ GE316.out) | exact HB.out)) HL.out hb)
   have n5_ := aM_ (KeepBut.trans (by repeat (first | (with_reducible first | exact HK.out | apply kS_ | apply pN_ | apply pD_ | apply pA_ | refine pF_ ?_ GW308.out _ | refine pF_ ?_ GW316.out _) | exact HK.out)) (KeepBut.of_grown hg g) (Kd.R_base2 HO_317001.out))
   have n6_ := aM_ (ho)
   clear HO_317000 BK308 BK316 HI0 HB HK HO_317001
   have HO_317000 := n0_
   have BK308 := n1_
   have BK316 := n2_
   have HI0 := n3_
   have HB := n4_
   have HK := n5_
   have HO348 := n6_
   clear n0_ n1_ n2_ n3_ n4_ n5_ n6_ ho hb hg hat
   obtain ⟨Ao108, co108, eo108⟩ := Kd.R_slice HO348.out
   (first | subst eo108 | (injection eo108 with f1_ f2_ f3_; have f4_ := f1_.symm; have f5_ := f3_.symm; clear f1_ f2_ f3_; subst f4_; subst f5_))
   refine hK.out _ _ ⟨(kC_ BK316.out 0).trans rfl, (kC_ BK316.out 1).trans rfl⟩ (fun hHeld => ?_)
   clear hK K
   refine norm_ (a' := ?_) ?_ ?_
   rotate_left
   · show Act.put _ (some 64) _ = _
     simp only [Act.put, sA_, sB_, sC_, i64_w, i32_w]
     rfl
   refine pure_ (i := 10) (N := some 65) (v := ?_) (a' := ?_) #[T_, T_, T_, T_, T_, T_, T_, T_, T_, T_, T_, F_] rfl rfl (any_of HT_.out (by kernel_rfl)) (fun _ _ _ h => h) (Or.inl ⟨by rfl, ?_⟩) ?_ ?_
   rotate_left
   · intro w'
     go_simp
     with_reducible rfl
   rotate_left
   · simp only [Act.put, sA_, sB_, sC_, i64_w, i32_w]
     rfl
   refine last_ (i := 11) (N := none) #[T_, T_, T_, T_, T_, T_, T_, T_, T_, T_, T_, T_] rfl rfl (one_of HT_.out (by kernel_rfl)) (by decide) (fun K hK => ?_)
   have hs109 : w107.cell? ⟨gb316, 1, none⟩ = some (u317001) := (kC_ BK316.out 1).trans rfl
   have hfs109 := blk_frozen BK316.out 1
   have hns109_0 := NB308_316.out
   have hms109_0 := NB316_308.out
   refine skip_ (w1 := ?_) (by rfl) rfl ?_ ?_
   rotate_left
   · go_simp
     rfl
   refine hK.out _ _ ?_
   clear hK K
   refine done_ (done_of HT_.out (by kernel_rfl)) ?_
   (obtain ⟨hcz110_0, hcz110_1⟩ := cells2 BK316.out)
   (obtain ⟨hfz110_0, hfz110_1⟩ := frozen2 BK316.out)
   have hnb111 := NB308_0.out
   have hnc111 := NB0_308.out
   (obtain ⟨hcz112_0, hcz112_1⟩ := cells2 BK308.out)
   (obtain ⟨hfz112_0, hfz112_1⟩ := frozen2 BK308.out)
   try go_wp2
   refine bodyPost_ret (results_cell_row rfl _ _ gb308 31 #[.slice Ao101 x317000_3.length co101, .slice Ao108 y346.length co108] (0, 0) _ rfl (by (with_reducible repeat (first | refine kN_ ?_ _ | refine kD_ ?_ | refine kA_ ?_ _)); refine kP_ (cs := #[.slice Ao101 x317000_3.length co101, .slice none 0 0]) ?_ 1 _ rfl; (with_reducible repeat (first | refine kN_ ?_ _ | refine kD_ ?_ | refine kA_ ?_ _)); refine kP_ (cs := #[.slice none 0 0, .slice none 0 0]) ?_ 0 _ rfl; (with_reducible repeat (first | refine kN_ ?_ _ | refine kD_ ?_ | refine kA_ ?_ _)); refine blk_far ?_ NB308_316.out _; (with_reducible repeat (first | refine kN_ ?_ _ | refine kD_ ?_ | refine kA_ ?_ _)); exact BK308.out) Tryz.underlying31 rfl (by kernel_rfl)) rfl ?_
   exact ⟨_, _, by first | rfl | (simp [errW_none, errW_some] <;> rfl) | (simp [*, errW_none, errW_some] <;> rfl), by (with_reducible repeat (first | apply rN_ | apply rD_)); exact Kd.R_mono (rF_ (p := ⟨gb308, 1, none⟩) (rF_ (p := ⟨gb308, 0, none⟩) (rF_ (p := ⟨gb316, 1, none⟩) (Kd.R_types (Kd.R_types HO_317000.out BK316.out (by decide)) BK308.out (by decide)) (fun _ hk => hk.1.2) (.slice Ao108 y346.length co108)) (fun _ hk => hk.2) (.slice Ao101 x317000_3.length co101)) (fun _ hk => hk.2) (.slice Ao108 y346.length co108)) (fun _ hk => trivial), by (with_reducible repeat (first | apply rN_ | apply rD_)); exact Kd.R_mono (rF_ (p := ⟨gb308, 1, none⟩) (rF_ (p := ⟨gb308, 0, none⟩) (rF_ (p := ⟨gb316, 1, none⟩) (Kd.R_types (Kd.R_types HO348.out BK316.out (by decide)) BK308.out (by decide)) (fun _ hk => hk.1.2) (.slice Ao108 y346.length co108)) (fun _ hk => hk.2) (.slice Ao101 x317000_3.length co101)) (fun _ hk => hk.2) (.slice Ao108 y346.length co108)) (fun _ hk => trivial), by repeat (first | (with_reducible first | exact HI0.out | apply iA_ | apply iN_ | apply iD_ | apply iS_ | refine iF_ ?_ NB0_308.out _ | refine iF_ ?_ NB0_316.out _) | exact HI0.out), by repeat (first | (with_reducible first | exact HB.out | apply bA_ | apply bN_ | apply b1_ | refine bS_ ?_ (IsS116.ge HI0.out) | refine bS_ ?_ GE308.out | refine bS_ ?_ GE316.out) | exact HB.out), by repeat (first | (with_reducible first | exact HK.out | apply kS_ | apply pN_ | apply pD_ | apply pA_ | refine pF_ ?_ GW308.out _ | refine pF_ ?_ GW316.out _) | exact HK.out)⟩
end Go.Proofs.YtphblfmjdiigkaaGreatDoor.HFnNetSame
