-- Made by a program of this session (hp.py) over the kit's print: functions told by hand stand beside printed ones. Lean checks it.
import Derived.Test.YtphblfmjdiigkaaGreatDoorTFnNetSameHFnNetSamex14
namespace Go.Proofs.YtphblfmjdiigkaaGreatDoor.HFnNetSame
open Go.RowKit Go.Proofs.YtphblfmjdiigkaaGreatDoorW.PrintWords Go.Proofs.YtphblfmjdiigkaaGreatDoorW.PrintLast Go.Proofs.YtphblfmjdiigkaaGreatDoorW.PrintMore
attribute [local go_sem] max2_int min2_int max_two min_two max_three min_three max_four min_four
set_option linter.unusedVariables false
set_option linter.unusedSimpArgs false
attribute [local go_sem high] eqA43 eqA66
def spec_l12Open.f (l0 : List Int) : Option (List Int × Int) := if (l0.length : Int) > 2000 then (if 2000 ≤ (l0.length : Int) then (some (l0.take 2000, 0)) else (none)) else (some (l0, 0))
set_option maxHeartbeats 8000000 in
set_option maxRecDepth 100000 in
theorem spec_l12Open.calls (A0 : Option Addr) (c0 : Nat) (l0 : List Int) (r1 : List Int) (r2 : Int) (w0 w : World) (hB : Below w0.heap.size w0 w) (hr0 : Kd.C (Kd.int .u8) w0 A0 l0.length l0) (hc0 : l0.length ≤ c0) (h : spec_l12Open.f l0 = some (r1, r2)) :
    Calls Tryz.prog 35 #[.slice A0 l0.length c0] w fun e w' => ∃ g_ : Nat, e = .returned (.pointer (some ⟨g_, 0, none⟩)) ∧ IsS116 w0 w' g_ r1 r2 ∧ Below w0.heap.size w0 w' ∧ Below w.heap.size w w' := by
 have hu116 := Tryz.underlying116
 have HR0 := aM_ hr0
 have HC0 := aM_ hc0
 clear hr0 hc0
 have HBW := aM_ (Below.refl w.heap.size w)
 have HW0 := aM_ hB.size
 have HB := aM_ hB
 clear hB
 have H : (if (l0.length : Int) > 2000 then (if 2000 ≤ (l0.length : Int) then (some (l0.take 2000, 0)) else (none)) else (some (l0, 0))) = some (r1, r2) := h
 clear h
 by_cases c2 : (l0.length : Int) > 2000
 rotate_left
 · rw [if_neg c2] at H
   have c2b0 : decide (2000 < (l0.length : Int)) = false := dF_ c2
   have c2b1 : decide (2000 < l0.length) = false := dF_ (by omega)
   clear c2
   simp only [Option.some.injEq, Prod.mk.injEq] at H
   obtain ⟨rfl, rfl⟩ := H
   go_enter Tryz.func35, Tryz.ntmps35
   go_wp2_with (first | ((with_reducible refine gate_dst (N := 10) rfl ?_); refine box_event ?hg (N := 10) ?hd (cs := #[.slice A0 l0.length c0, .int .i64 0]) (t := 116) ?hr ?_; (case hd => rfl); (case hg => rfl); (case hr => first | (go_simp; done) | (go_simp; rfl)); intro gb351 hg w6 hbox hb; have n0_ := aM_ (bT_ HBW.out hb); have n1_ := aM_ (bT_ (by repeat (first | (with_reducible first | exact HB.out | apply bA_ | apply bN_ | apply b1_) | exact HB.out)) hb); have n2_ := aM_ (hbox); have n3_ := aM_ ((by rw [hg]; exact (bZ_ (by repeat (first | (with_reducible first | exact HBW.out | apply bA_ | apply bN_ | apply b1_) | exact HBW.out))) : w.heap.size ≤ gb351)); have n4_ := aM_ ((Nat.le_trans HW0.out (by rw [hg]; exact (bZ_ (by repeat (first | (with_reducible first | exact HBW.out | apply bA_ | apply bN_ | apply b1_) | exact HBW.out))) : w.heap.size ≤ gb351) : w0.heap.size ≤ gb351)); clear HBW HB; have HBW := n0_; have HB := n1_; have BK351 := n2_; have GW351 := n3_; have GE351 := n4_; clear n0_ n1_ n2_ n3_ n4_ hb hbox hg))
   go_ret
   exact ⟨_, rfl, (show IsS116 w0 _ gb351 l0 0 from ⟨_, _, by (with_reducible repeat (first | refine kN_ ?_ _ | refine kD_ ?_ | refine kA_ ?_ _)); exact BK351.out, GE351.out, HR0.out⟩), by repeat (first | (with_reducible first | exact HB.out | apply bA_ | apply bN_ | apply b1_ | refine bS_ ?_ GE351.out) | exact HB.out), by repeat (first | (with_reducible first | exact HBW.out | apply bA_ | apply bN_ | apply b1_ | refine bS_ ?_ GW351.out) | exact HBW.out)⟩
 rw [if_pos c2] at H
 have c2b0 : decide (2000 < (l0.length : Int)) = true := dT_ c2
 have c2b1 : decide (2000 < l0.length) = true := dT_ (by omega)
 clear c2
 by_cases c3 : 2000 ≤ (l0.length : Int)
 rotate_left
 · rw [if_neg c3] at H
   exact absurd H (by simp)
 rw [if_pos c3] at H
 have c3b0 := eq_true c3
 have c3b1 : decide (2000 ≤ (l0.length : Int)) = true := dT_ c3
 clear c3
 simp only [Option.some.injEq, Prod.mk.injEq] at H
 obtain ⟨rfl, rfl⟩ := H
 obtain ⟨i04, hi04, _, hsz4, _⟩ := info_parts info5
 obtain ⟨hcut4, hA4, hC4⟩ := print_take_of (P := Tryz.prog) (Value.int .u8) 0 35 5 .i64 Tryz.underlying35 hi04 hsz4 A0 c0 l0 2000 (by omega) (oD_ (by first | (with_reducible assumption) | assumption)) HC0.out
 have HR349 := aM_ (Kd.C_of_reads (h1 := fun _ => rfl) (hA4 _ (Kd.reads_of_C HR0.out)))
 have HC349 := aM_ hC4
 clear hA4 hC4 hi04 hsz4
 go_enter Tryz.func35, Tryz.ntmps35
 go_wp2_with (first | ((with_reducible refine gate_dst (N := 10) rfl ?_); refine box_event ?hg (N := 10) ?hd (cs := #[.slice A0 (l0.take 2000).length c0, .int .i64 0]) (t := 116) ?hr ?_; (case hd => rfl); (case hg => rfl); (case hr => first | (go_simp; done) | (go_simp; rfl)); intro gb350 hg w5 hbox hb; have n0_ := aM_ (bT_ HBW.out hb); have n1_ := aM_ (bT_ (by repeat (first | (with_reducible first | exact HB.out | apply bA_ | apply bN_ | apply b1_) | exact HB.out)) hb); have n2_ := aM_ (hbox); have n3_ := aM_ ((by rw [hg]; exact (bZ_ (by repeat (first | (with_reducible first | exact HBW.out | apply bA_ | apply bN_ | apply b1_) | exact HBW.out))) : w.heap.size ≤ gb350)); have n4_ := aM_ ((Nat.le_trans HW0.out (by rw [hg]; exact (bZ_ (by repeat (first | (with_reducible first | exact HBW.out | apply bA_ | apply bN_ | apply b1_) | exact HBW.out))) : w.heap.size ≤ gb350) : w0.heap.size ≤ gb350)); clear HBW HB; have HBW := n0_; have HB := n1_; have BK350 := n2_; have GW350 := n3_; have GE350 := n4_; clear n0_ n1_ n2_ n3_ n4_ hb hbox hg))
 go_ret
 exact ⟨_, rfl, (show IsS116 w0 _ gb350 (l0.take 2000) 0 from ⟨_, _, by (with_reducible repeat (first | refine kN_ ?_ _ | refine kD_ ?_ | refine kA_ ?_ _)); exact BK350.out, GE350.out, HR349.out⟩), by repeat (first | (with_reducible first | exact HB.out | apply bA_ | apply bN_ | apply b1_ | refine bS_ ?_ GE350.out) | exact HB.out), by repeat (first | (with_reducible first | exact HBW.out | apply bA_ | apply bN_ | apply b1_ | refine bS_ ?_ GW350.out) | exact HBW.out)⟩
def spec_DrawNetText.f (k : Nat) (l0 : List Int) : Option ((List (S43)) × (List (S66))) := (spec_l12Open.f l0).bind fun bt380 => ((spec_l7Bent.f k bt380.1 bt380.2).bind fun bt383 => (some (bt383.1, bt383.2.1)))
set_option maxHeartbeats 8000000 in
set_option maxRecDepth 100000 in
theorem spec_DrawNetText.calls (k : Nat) (A0 : Option Addr) (c0 : Nat) (l0 : List Int) (r1 : List (S43)) (r2 : List (S66)) (w : World) (hr0 : Kd.C (Kd.int .u8) w A0 l0.length l0) (hc0 : l0.length ≤ c0) (h : spec_DrawNetText.f k l0 = some (r1, r2)) :
    Calls Tryz.prog 15 #[.slice A0 l0.length c0] w fun e w' => ∃ v0_ v1_ : Value, e = .returned (.agg #[v0_, v1_]) ∧ Kd.R k43 43 w' w.heap.size (fun _ => True) v0_ r1 ∧ Kd.R k66 66 w' w.heap.size (fun _ => True) v1_ r2 ∧ Below w.heap.size w w' := by
 have hu31 := Tryz.underlying31
 have HR0 := aM_ hr0
 have HC0 := aM_ hc0
 clear hr0 hc0
 have HB := aM_ (Below.refl w.heap.size w)
 have H : ((spec_l12Open.f l0).bind fun bt380 => ((spec_l7Bent.f k bt380.1 bt380.2).bind fun bt383 => (some (bt383.1, bt383.2.1)))) = some (r1, r2) := h
 clear h
 replace H := Option.bind_eq_some_iff.mp H
 obtain ⟨⟨t380, t381⟩, A20, H⟩ := H
 replace H : ((spec_l7Bent.f k t380 t381).bind fun bt383 => (some (bt383.1, bt383.2.1))) = some (r1, r2) := H
 have A2 := aM_ A20
 clear A20
 replace H := Option.bind_eq_some_iff.mp H
 obtain ⟨⟨t383, t386, t389⟩, A30, H⟩ := H
 replace H : (some (t383, t386)) = some (r1, r2) := H
 have A3 := aM_ A30
 clear A30
 simp only [Option.some.injEq, Prod.mk.injEq] at H
 obtain ⟨rfl, rfl⟩ := H
 go_enter Tryz.func15, Tryz.ntmps15
 go_wp2_with (first | ((with_reducible refine gate_dst (N := 2) rfl ?_); refine box_event ?hg (N := 2) ?hd (cs := #[.slice none 0 0, .slice none 0 0]) (t := 31) ?hr ?_; (case hd => rfl); (case hg => rfl); (case hr => first | (go_simp; done) | (go_simp; rfl)); intro gb379 hg w4 hbox hb; have n0_ := aM_ (bT_ (by repeat (first | (with_reducible first | exact HB.out | apply bA_ | apply bN_ | apply b1_) | exact HB.out)) hb); have n1_ := aM_ (hbox); have n2_ := aM_ ((by rw [hg]; exact (bZ_ (by repeat (first | (with_reducible first | exact HB.out | apply bA_ | apply bN_ | apply b1_) | exact HB.out))) : w.heap.size ≤ gb379)); have n3_ := aM_ ((by rw [hg]; exact (bZ_ (by repeat (first | (with_reducible first | exact HB.out | apply bA_ | apply bN_ | apply b1_) | exact HB.out))) : w.heap.size ≤ gb379)); clear HB; have HB := n0_; have BK379 := n1_; have GW379 := n2_; have GE379 := n3_; clear n0_ n1_ n2_ n3_ hb hbox hg) | ((with_reducible refine gate_callee (f := 35) rfl ?_); refine goesL_ (some 4) rfl rfl Tryz.func35 (by kernel_rfl) rfl #[.slice A0 l0.length c0] rfl (by (try simp only [mA_, List.map_cons, List.map_nil]); first | done | rfl | (simp only [lD_, lT_]; rfl)) ?_; (with_reducible refine (spec_l12Open.calls _ _ l0 t380 t381 w _ ?side1 ?side2 ?side3 A2.out).mono ?_); (case side1 => repeat (first | (with_reducible first | exact HB.out | apply bA_ | apply bN_ | apply b1_ | refine bS_ ?_ GE379.out) | exact HB.out)); (case side2 => exact HR0.out); (case side3 => exact HC0.out); rintro e w5 ⟨g382, rfl, hi, hb, hb2⟩; refine ⟨_, rfl, ?_⟩; have n0_ := aM_ (blk_below (g := gb379) (o := .cells #[.slice none 0 0, .slice none 0 0] 31 (0, 0)) (by (with_reducible repeat (first | refine kN_ ?_ _ | refine kD_ ?_ | refine kA_ ?_ _)); exact BK379.out) hb2); have n1_ := aM_ (hb); have n2_ := aM_ (hi); have n3_ := aM_ (IsS116.ne_blk hi (blk_below (g := gb379) (o := .cells #[.slice none 0 0, .slice none 0 0] 31 (0, 0)) (by (with_reducible repeat (first | refine kN_ ?_ _ | refine kD_ ?_ | refine kA_ ?_ _)); exact BK379.out) hb2) (by decide)); have n4_ := aM_ (Ne.symm (IsS116.ne_blk hi (blk_below (g := gb379) (o := .cells #[.slice none 0 0, .slice none 0 0] 31 (0, 0)) (by (with_reducible repeat (first | refine kN_ ?_ _ | refine kD_ ?_ | refine kA_ ?_ _)); exact BK379.out) hb2) (by decide))); clear BK379 HB; revert n0_ n1_ n2_ n3_ n4_; intro BK379 HB HI382 NB382_379 NB379_382; (try clear hb); (try clear hb2); (try clear hk); (try clear hi)) | ((with_reducible refine gate_callee (f := 34) rfl ?_); refine goesL_ (some 5) rfl rfl Tryz.func34 (by kernel_rfl) rfl #[.pointer (some ⟨g382, 0, none⟩)] rfl (by (try simp only [mA_, List.map_cons, List.map_nil]); first | done | rfl | (simp only [lD_, lT_]; rfl)) ?_; (with_reducible refine (spec_l7Bent.calls k g382 t380 t381 t383 t386 t389 w _ ?side1 ?side2 A3.out).mono ?_); (case side1 => repeat (first | (with_reducible first | exact HI382.out | apply iA_ | apply iN_ | apply iD_ | apply iS_ | refine iF_ ?_ NB382_379.out _) | exact HI382.out)); (case side2 => repeat (first | (with_reducible first | exact HB.out | apply bA_ | apply bN_ | apply b1_ | refine bS_ ?_ (IsS116.ge HI382.out) | refine bS_ ?_ GE379.out) | exact HB.out)); rintro e w6 ⟨v384, v387, rfl, ho0, ho1, hi, hb, hk⟩; refine ⟨_, rfl, ?_⟩; have n0_ := aM_ (KeepBut.blk hk (g' := gb379) (o := .cells #[.slice none 0 0, .slice none 0 0] 31 (0, 0)) (by (with_reducible repeat (first | refine kN_ ?_ _ | refine kD_ ?_ | refine kA_ ?_ _)); exact BK379.out) NB379_382.out (by simp)); have n1_ := aM_ (Kd.R_lower ho0 (bZ_ (by repeat (first | (with_reducible first | exact HB.out | apply bA_ | apply bN_ | apply b1_ | refine bS_ ?_ (IsS116.ge HI382.out) | refine bS_ ?_ GE379.out) | exact HB.out)))); have n2_ := aM_ (Kd.R_lower ho1 (bZ_ (by repeat (first | (with_reducible first | exact HB.out | apply bA_ | apply bN_ | apply b1_ | refine bS_ ?_ (IsS116.ge HI382.out) | refine bS_ ?_ GE379.out) | exact HB.out)))); have n3_ := aM_ (hb); have n4_ := aM_ (hi); clear BK379 HB HI382; revert n0_ n1_ n2_ n3_ n4_; intro BK379 HO385 HO388 HB HI382; (try clear hb); (try clear hb2); (try clear hk); (try clear hi); (try clear ho0); (try clear ho1); obtain ⟨Ao7, co7, eo7⟩ := Kd.R_slice HO385.out; subst eo7; have hnb8 := NB379_382.out; have hnc8 := NB382_379.out; (obtain ⟨hcz9_0, hcz9_1⟩ := cells2 BK379.out); (obtain ⟨hfz9_0, hfz9_1⟩ := frozen2 BK379.out); obtain ⟨Ao10, co10, eo10⟩ := Kd.R_slice HO388.out; subst eo10))
 refine bodyPost_ret (results_cell_row rfl _ _ gb379 31 #[.slice Ao7 t383.length co7, .slice Ao10 t386.length co10] (0, 0) _ rfl (by (with_reducible repeat (first | refine kN_ ?_ _ | refine kD_ ?_ | refine kA_ ?_ _)); refine kP_ (cs := #[.slice Ao7 t383.length co7, .slice none 0 0]) ?_ 1 _ rfl; (with_reducible repeat (first | refine kN_ ?_ _ | refine kD_ ?_ | refine kA_ ?_ _)); refine kP_ (cs := #[.slice none 0 0, .slice none 0 0]) ?_ 0 _ rfl; (with_reducible repeat (first | refine kN_ ?_ _ | refine kD_ ?_ | refine kA_ ?_ _)); exact BK379.out) Tryz.underlying31 rfl (by kernel_rfl)) rfl ?_
 exact ⟨_, _, by first | rfl | (simp [errW_none, errW_some] <;> rfl) | (simp [*, errW_none, errW_some] <;> rfl), by (with_reducible repeat (first | apply rN_ | apply rD_)); exact Kd.R_mono (rF_ (p := ⟨gb379, 1, none⟩) (rF_ (p := ⟨gb379, 0, none⟩) (Kd.R_types HO385.out BK379.out (by decide)) (fun _ hk => hk.2) (.slice Ao7 t383.length co7)) (fun _ hk => hk.2) (.slice Ao10 t386.length co10)) (fun _ hk => trivial), by (with_reducible repeat (first | apply rN_ | apply rD_)); exact Kd.R_mono (rF_ (p := ⟨gb379, 1, none⟩) (rF_ (p := ⟨gb379, 0, none⟩) (Kd.R_types HO388.out BK379.out (by decide)) (fun _ hk => hk.2) (.slice Ao7 t383.length co7)) (fun _ hk => hk.2) (.slice Ao10 t386.length co10)) (fun _ hk => trivial), by repeat (first | (with_reducible first | exact HB.out | apply bA_ | apply bN_ | apply b1_ | refine bS_ ?_ (IsS116.ge HI382.out) | refine bS_ ?_ GE379.out) | exact HB.out)⟩
def impl_Wire_39.l0 : Nat → List (S43) → List (S43) → Int → Int → Option (Bool)
  | 0, _, _, _, _ => none
  | k + 1, x0, x1, x12, x13 => if x13 < x12 then (if 0 ≤ x13 then (if x13 < (x0.length : Int) then (if x13 < (x1.length : Int) then (if (!(((rd_T43 x0 x13).f0) == ((rd_T43 x1 x13).f0)) || (!(((rd_T43 x0 x13).f1) == ((rd_T43 x1 x13).f1)) || ((!(((rd_T43 x0 x13).f2.f0) == ((rd_T43 x1 x13).f2.f0)) || (!(((rd_T43 x0 x13).f2.f1) == ((rd_T43 x1 x13).f2.f1)) || ((!(((rd_T43 x0 x13).f2.f2.f0) == ((rd_T43 x1 x13).f2.f2.f0)) || (!(((rd_T43 x0 x13).f2.f2.f1) == ((rd_T43 x1 x13).f2.f2.f1)))) || (!(((rd_T43 x0 x13).f2.f3) == ((rd_T43 x1 x13).f2.f3)))))) || ((!(((rd_T43 x0 x13).f3.f0) == ((rd_T43 x1 x13).f3.f0)) || (!(((rd_T43 x0 x13).f3.f1) == ((rd_T43 x1 x13).f3.f1)) || ((!(((rd_T43 x0 x13).f3.f2.f0) == ((rd_T43 x1 x13).f3.f2.f0)) || (!(((rd_T43 x0 x13).f3.f2.f1) == ((rd_T43 x1 x13).f3.f2.f1)))) || (!(((rd_T43 x0 x13).f3.f3) == ((rd_T43 x1 x13).f3.f3)))))))))) = true then (some false) else (impl_Wire_39.l0 k x0 x1 x12 (wrap64 (x13 + 1)))) else (none)) else (none)) else (none)) else (some true)
def impl_Wire_39.f (k : Nat) (l0 : List (S43)) (l1 : List (S43)) : Option (Bool) := if (l0.length : Int) = (l1.length : Int) then (impl_Wire_39.l0 k l0 l1 (l0.length : Int) 0) else (some false)
set_option maxHeartbeats 8000000 in
set_option maxRecDepth 100000 in
theorem impl_Wire_39.calls (k : Nat) (A0 : Option Addr) (c0 : Nat) (l0 : List (S43)) (A1 : Option Addr) (c1 : Nat) (l1 : List (S43)) (r : Bool) (w : World) (hr0 : Kd.C k43 w A0 l0.length l0) (hc0 : l0.length ≤ c0) (hr1 : Kd.C k43 w A1 l1.length l1) (hc1 : l1.length ≤ c1) (h : impl_Wire_39.f k l0 l1 = some r) :
    Calls Tryz.prog 39 #[.slice A0 l0.length c0, .slice A1 l1.length c1] w fun e w' => e = .returned (.bool r) ∧ Drawn0 w w' := by
 have hu43 := Tryz.underlying43
 have HR0 := aM_ hr0
 have HC0 := aM_ hc0
 clear hr0 hc0
 have HR1 := aM_ hr1
 have HC1 := aM_ hc1
 clear hr1 hc1
 have H : (if (l0.length : Int) = (l1.length : Int) then (impl_Wire_39.l0 k l0 l1 (l0.length : Int) 0) else (some false)) = some r := h
 clear h
 by_cases c3 : (l0.length : Int) = (l1.length : Int)
 rotate_left
 · rw [if_neg c3] at H
   have c3b0 : ((l0.length : Int) == (l1.length : Int)) = false := beq_eq_false_iff_ne.mpr c3
   have c3b1 : ((l0.length : Int) != (l1.length : Int)) = true := bne_iff_ne.mpr c3
   have c3b2 : (l0.length == l1.length) = false := by first | simpa using c3 | (simp at c3 ⊢; omega)
   obtain rfl := oI_ H
   go_enter Tryz.func39, Tryz.ntmps39
   go_wp2
   repeat (go_quiet (fail); try go_wp2)
   go_ret
   exact ⟨by first | rfl | (simp; done) | (simp [*]; done), by repeat (first | exact Drawn0.refl _ | apply Drawn0.step)⟩
 rw [if_pos c3] at H
 have c3b0 : ((l0.length : Int) == (l1.length : Int)) = true := beq_iff_eq.mpr c3
 have c3b1 : ((l0.length : Int) != (l1.length : Int)) = false := bne_eq_false_iff_eq.mpr c3
 have c3b2 : (l0.length == l1.length) = true := by first | simpa using c3 | (simp at c3 ⊢; omega)
 clear c3
 have H' := aM_ H
 clear H
 go_enter Tryz.func39, Tryz.ntmps39
 go_wp2
 repeat (go_quiet (fail); try go_wp2)
 go_loopg [13] k (fun kq v13 w' => ∃ (x13_1 : Int), v13 = .int .i64 x13_1 ∧ Aside0 (impl_Wire_39.l0 kq l0 l1 (l0.length : Int) x13_1 = some r) ∧ Aside0 (kq ≤ k) ∧ Drawn0 w w')
 case atStart => exact ⟨(0), (by first | rfl | (simp; done) | (simp [*]; done)), H', ⟨Nat.le_refl _⟩, by repeat (first | exact Drawn0.refl _ | apply Drawn0.step)⟩
 case round =>
  clear H'
  try clear c1
  try clear p2
  try clear c3
  try clear c3b0
  try clear c3b1
  try clear c3b2
  obtain ⟨x13_1, rfl, HA, HK1, ⟨m1, rfl⟩⟩ := hrel
  cases gk with
  | zero => exact absurd HA.out (by simp [impl_Wire_39.l0])
  | succ k1 =>
   have H := HA.out
   clear HA
   simp only [impl_Wire_39.l0] at H
   by_cases c4 : x13_1 < (l0.length : Int)
   rotate_left
   · rw [if_neg c4] at H
     have c4b0 : decide (x13_1 < (l0.length : Int)) = false := dF_ c4
     clear c4
     obtain rfl := oI_ H
     go_wp2
     repeat (go_quiet (fail); try go_wp2)
     go_ret
     exact ⟨by first | rfl | (simp; done) | (simp [*]; done), by repeat (first | exact Drawn0.refl _ | apply Drawn0.step)⟩
   rw [if_pos c4] at H
   have c4b0 : decide (x13_1 < (l0.length : Int)) = true := dT_ c4
   clear c4
   by_cases c5 : 0 ≤ x13_1
   rotate_left
   · rw [if_neg c5] at H
     exact absurd H (by simp)
   rw [if_pos c5] at H
   have c5b0 : decide (0 ≤ x13_1) = true := dT_ c5
   clear c5
   by_cases c6 : x13_1 < (l0.length : Int)
   rotate_left
   · rw [if_neg c6] at H
     exact absurd H (by simp)
   rw [if_pos c6] at H
   have c6b0 : decide (x13_1 < (l0.length : Int)) = true := dT_ c6
   clear c6
   by_cases c7 : x13_1 < (l1.length : Int)
   rotate_left
   · rw [if_neg c7] at H
     exact absurd H (by simp)
   rw [if_pos c7] at H
   have c7b0 : decide (x13_1 < (l1.length : Int)) = true := dT_ c7
   clear c7
   by_cases c8 : (!(((rd_T43 l0 x13_1).f0) == ((rd_T43 l1 x13_1).f0)) || (!(((rd_T43 l0 x13_1).f1) == ((rd_T43 l1 x13_1).f1)) || ((!(((rd_T43 l0 x13_1).f2.f0) == ((rd_T43 l1 x13_1).f2.f0)) || (!(((rd_T43 l0 x13_1).f2.f1) == ((rd_T43 l1 x13_1).f2.f1)) || ((!(((rd_T43 l0 x13_1).f2.f2.f0) == ((rd_T43 l1 x13_1).f2.f2.f0)) || (!(((rd_T43 l0 x13_1).f2.f2.f1) == ((rd_T43 l1 x13_1).f2.f2.f1)))) || (!(((rd_T43 l0 x13_1).f2.f3) == ((rd_T43 l1 x13_1).f2.f3)))))) || ((!(((rd_T43 l0 x13_1).f3.f0) == ((rd_T43 l1 x13_1).f3.f0)) || (!(((rd_T43 l0 x13_1).f3.f1) == ((rd_T43 l1 x13_1).f3.f1)) || ((!(((rd_T43 l0 x13_1).f3.f2.f0) == ((rd_T43 l1 x13_1).f3.f2.f0)) || (!(((rd_T43 l0 x13_1).f3.f2.f1) == ((rd_T43 l1 x13_1).f3.f2.f1)))) || (!(((rd_T43 l0 x13_1).f3.f3) == ((rd_T43 l1 x13_1).f3.f3)))))))))) = true
   · rw [if_pos c8] at H
     have c8b0 : (!(((rd_T43 l0 x13_1).f0) == ((rd_T43 l1 x13_1).f0)) || (!(((rd_T43 l0 x13_1).f1) == ((rd_T43 l1 x13_1).f1)) || ((!(((rd_T43 l0 x13_1).f2.f0) == ((rd_T43 l1 x13_1).f2.f0)) || (!(((rd_T43 l0 x13_1).f2.f1) == ((rd_T43 l1 x13_1).f2.f1)) || ((!(((rd_T43 l0 x13_1).f2.f2.f0) == ((rd_T43 l1 x13_1).f2.f2.f0)) || (!(((rd_T43 l0 x13_1).f2.f2.f1) == ((rd_T43 l1 x13_1).f2.f2.f1)))) || (!(((rd_T43 l0 x13_1).f2.f3) == ((rd_T43 l1 x13_1).f2.f3)))))) || ((!(((rd_T43 l0 x13_1).f3.f0) == ((rd_T43 l1 x13_1).f3.f0)) || (!(((rd_T43 l0 x13_1).f3.f1) == ((rd_T43 l1 x13_1).f3.f1)) || ((!(((rd_T43 l0 x13_1).f3.f2.f0) == ((rd_T43 l1 x13_1).f3.f2.f0)) || (!(((rd_T43 l0 x13_1).f3.f2.f1) == ((rd_T43 l1 x13_1).f3.f2.f1)))) || (!(((rd_T43 l0 x13_1).f3.f3) == ((rd_T43 l1 x13_1).f3.f3)))))))))) = true := c8
     clear c8
     obtain rfl := oI_ H
     have p390 : 0 ≤ (x13_1 : Int) := oD_ (by first | (with_reducible assumption) | assumption)
     have q390 : x13_1 < (l0.length : Int) := oD_ (by first | (with_reducible assumption) | assumption)
     obtain ⟨ad390, e390, hx390_0, hx390_1, hx390_2, hx390_3, hx390_4, hx390_5, hx390_6, hx390_7, hx390_8, hx390_9, hx390_10, hx390_11⟩ := at_T43 HR0.out x13_1 p390 q390
     cases e390
     replace p390 := eq_true p390
     replace q390 := eq_true q390
     have p391 : 0 ≤ (x13_1 : Int) := oD_ (by first | (with_reducible assumption) | assumption)
     have q391 : x13_1 < (l1.length : Int) := oD_ (by first | (with_reducible assumption) | assumption)
     obtain ⟨ad391, e391, hx391_0, hx391_1, hx391_2, hx391_3, hx391_4, hx391_5, hx391_6, hx391_7, hx391_8, hx391_9, hx391_10, hx391_11⟩ := at_T43 HR1.out x13_1 p391 q391
     cases e391
     replace p391 := eq_true p391
     replace q391 := eq_true q391
     go_wp2
     repeat (go_quiet (fail); try go_wp2)
     go_ret
     exact ⟨by first | rfl | (simp; done) | (simp [*]; done), by repeat (first | exact Drawn0.refl _ | apply Drawn0.step)⟩
   rw [if_neg c8] at H
   have c8b0 : (!(((rd_T43 l0 x13_1).f0) == ((rd_T43 l1 x13_1).f0)) || (!(((rd_T43 l0 x13_1).f1) == ((rd_T43 l1 x13_1).f1)) || ((!(((rd_T43 l0 x13_1).f2.f0) == ((rd_T43 l1 x13_1).f2.f0)) || (!(((rd_T43 l0 x13_1).f2.f1) == ((rd_T43 l1 x13_1).f2.f1)) || ((!(((rd_T43 l0 x13_1).f2.f2.f0) == ((rd_T43 l1 x13_1).f2.f2.f0)) || (!(((rd_T43 l0 x13_1).f2.f2.f1) == ((rd_T43 l1 x13_1).f2.f2.f1)))) || (!(((rd_T43 l0 x13_1).f2.f3) == ((rd_T43 l1 x13_1).f2.f3)))))) || ((!(((rd_T43 l0 x13_1).f3.f0) == ((rd_T43 l1 x13_1).f3.f0)) || (!(((rd_T43 l0 x13_1).f3.f1) == ((rd_T43 l1 x13_1).f3.f1)) || ((!(((rd_T43 l0 x13_1).f3.f2.f0) == ((rd_T43 l1 x13_1).f3.f2.f0)) || (!(((rd_T43 l0 x13_1).f3.f2.f1) == ((rd_T43 l1 x13_1).f3.f2.f1)))) || (!(((rd_T43 l0 x13_1).f3.f3) == ((rd_T43 l1 x13_1).f3.f3)))))))))) = false := by simpa using c8
   clear c8
   have H' := aM_ H
   clear H
   have p390 : 0 ≤ (x13_1 : Int) := oD_ (by first | (with_reducible assumption) | assumption)
   have q390 : x13_1 < (l0.length : Int) := oD_ (by first | (with_reducible assumption) | assumption)
   obtain ⟨ad390, e390, hx390_0, hx390_1, hx390_2, hx390_3, hx390_4, hx390_5, hx390_6, hx390_7, hx390_8, hx390_9, hx390_10, hx390_11⟩ := at_T43 HR0.out x13_1 p390 q390
   cases e390
   replace p390 := eq_true p390
   replace q390 := eq_true q390
   have p391 : 0 ≤ (x13_1 : Int) := oD_ (by first | (with_reducible assumption) | assumption)
   have q391 : x13_1 < (l1.length : Int) := oD_ (by first | (with_reducible assumption) | assumption)
   obtain ⟨ad391, e391, hx391_0, hx391_1, hx391_2, hx391_3, hx391_4, hx391_5, hx391_6, hx391_7, hx391_8, hx391_9, hx391_10, hx391_11⟩ := at_T43 HR1.out x13_1 p391 q391
   cases e391
   replace p391 := eq_true p391
   replace q391 := eq_true q391
   go_wp2
   repeat (go_quiet (fail); try go_wp2)
   go_roundg k1
   case measure => have := HK1.out; omega
   case rel => exact ⟨(wrap64 (x13_1 + 1)), (by first | rfl | (simp; done) | (simp [*]; done)), H', ⟨by have := HK1.out; omega⟩, by repeat (first | exact Drawn0.refl _ | apply Drawn0.step)⟩
def impl_Drive_40.l0 : Nat → List (S66) → List (S66) → Int → Int → Option (Bool)
  | 0, _, _, _, _ => none
  | k + 1, x0, x1, x12, x13 => if x13 < x12 then (if 0 ≤ x13 then (if x13 < (x0.length : Int) then (if x13 < (x1.length : Int) then (if ((!(((rd_T66 x0 x13).f0.f0) == ((rd_T66 x1 x13).f0.f0)) || (!(((rd_T66 x0 x13).f0.f1) == ((rd_T66 x1 x13).f0.f1)))) || (!(((rd_T66 x0 x13).f1) == ((rd_T66 x1 x13).f1)))) = true then (some false) else (impl_Drive_40.l0 k x0 x1 x12 (wrap64 (x13 + 1)))) else (none)) else (none)) else (none)) else (some true)
def impl_Drive_40.f (k : Nat) (l0 : List (S66)) (l1 : List (S66)) : Option (Bool) := if (l0.length : Int) = (l1.length : Int) then (impl_Drive_40.l0 k l0 l1 (l0.length : Int) 0) else (some false)
set_option maxHeartbeats 8000000 in
set_option maxRecDepth 100000 in
theorem impl_Drive_40.calls (k : Nat) (A0 : Option Addr) (c0 : Nat) (l0 : List (S66)) (A1 : Option Addr) (c1 : Nat) (l1 : List (S66)) (r : Bool) (w : World) (hr0 : Kd.C k66 w A0 l0.length l0) (hc0 : l0.length ≤ c0) (hr1 : Kd.C k66 w A1 l1.length l1) (hc1 : l1.length ≤ c1) (h : impl_Drive_40.f k l0 l1 = some r) :
    Calls Tryz.prog 40 #[.slice A0 l0.length c0, .slice A1 l1.length c1] w fun e w' => e = .returned (.bool r) ∧ Drawn0 w w' := by
 have hu66 := Tryz.underlying66
 have HR0 := aM_ hr0
 have HC0 := aM_ hc0
 clear hr0 hc0
 have HR1 := aM_ hr1
 have HC1 := aM_ hc1
 clear hr1 hc1
 have H : (if (l0.length : Int) = (l1.length : Int) then (impl_Drive_40.l0 k l0 l1 (l0.length : Int) 0) else (some false)) = some r := h
 clear h
 by_cases c3 : (l0.length : Int) = (l1.length : Int)
 rotate_left
 · rw [if_neg c3] at H
   have c3b0 : ((l0.length : Int) == (l1.length : Int)) = false := beq_eq_false_iff_ne.mpr c3
   have c3b1 : ((l0.length : Int) != (l1.length : Int)) = true := bne_iff_ne.mpr c3
   have c3b2 : (l0.length == l1.length) = false := by first | simpa using c3 | (simp at c3 ⊢; omega)
   obtain rfl := oI_ H
   go_enter Tryz.func40, Tryz.ntmps40
   go_wp2
   repeat (go_quiet (fail); try go_wp2)
   go_ret
   exact ⟨by first | rfl | (simp; done) | (simp [*]; done), by repeat (first | exact Drawn0.refl _ | apply Drawn0.step)⟩
 rw [if_pos c3] at H
 have c3b0 : ((l0.length : Int) == (l1.length : Int)) = true := beq_iff_eq.mpr c3
 have c3b1 : ((l0.length : Int) != (l1.length : Int)) = false := bne_eq_false_iff_eq.mpr c3
 have c3b2 : (l0.length == l1.length) = true := by first | simpa using c3 | (simp at c3 ⊢; omega)
 clear c3
 have H' := aM_ H
 clear H
 go_enter Tryz.func40, Tryz.ntmps40
 go_wp2
 repeat (go_quiet (fail); try go_wp2)
 go_loopg [13] k (fun kq v13 w' => ∃ (x13_1 : Int), v13 = .int .i64 x13_1 ∧ Aside0 (impl_Drive_40.l0 kq l0 l1 (l0.length : Int) x13_1 = some r) ∧ Aside0 (kq ≤ k) ∧ Drawn0 w w')
 case atStart => exact ⟨(0), (by first | rfl | (simp; done) | (simp [*]; done)), H', ⟨Nat.le_refl _⟩, by repeat (first | exact Drawn0.refl _ | apply Drawn0.step)⟩
 case round =>
  clear H'
  try clear c1
  try clear p2
  try clear c3
  try clear c3b0
  try clear c3b1
  try clear c3b2
  obtain ⟨x13_1, rfl, HA, HK1, ⟨m1, rfl⟩⟩ := hrel
  cases gk with
  | zero => exact absurd HA.out (by simp [impl_Drive_40.l0])
  | succ k1 =>
   have H := HA.out
   clear HA
   simp only [impl_Drive_40.l0] at H
   by_cases c4 : x13_1 < (l0.length : Int)
   rotate_left
   · rw [if_neg c4] at H
     have c4b0 : decide (x13_1 < (l0.length : Int)) = false := dF_ c4
     clear c4
     obtain rfl := oI_ H
     go_wp2
     repeat (go_quiet (fail); try go_wp2)
     go_ret
     exact ⟨by first | rfl | (simp; done) | (simp [*]; done), by repeat (first | exact Drawn0.refl _ | apply Drawn0.step)⟩
   rw [if_pos c4] at H
   have c4b0 : decide (x13_1 < (l0.length : Int)) = true := dT_ c4
   clear c4
   by_cases c5 : 0 ≤ x13_1
   rotate_left
   · rw [if_neg c5] at H
     exact absurd H (by simp)
   rw [if_pos c5] at H
   have c5b0 : decide (0 ≤ x13_1) = true := dT_ c5
   clear c5
   by_cases c6 : x13_1 < (l0.length : Int)
   rotate_left
   · rw [if_neg c6] at H
     exact absurd H (by simp)
   rw [if_pos c6] at H
   have c6b0 : decide (x13_1 < (l0.length : Int)) = true := dT_ c6
   clear c6
   by_cases c7 : x13_1 < (l1.length : Int)
   rotate_left
   · rw [if_neg c7] at H
     exact absurd H (by simp)
   rw [if_pos c7] at H
   have c7b0 : decide (x13_1 < (l1.length : Int)) = true := dT_ c7
   clear c7
   by_cases c8 : ((!(((rd_T66 l0 x13_1).f0.f0) == ((rd_T66 l1 x13_1).f0.f0)) || (!(((rd_T66 l0 x13_1).f0.f1) == ((rd_T66 l1 x13_1).f0.f1)))) || (!(((rd_T66 l0 x13_1).f1) == ((rd_T66 l1 x13_1).f1)))) = true
   · rw [if_pos c8] at H
     have c8b0 : ((!(((rd_T66 l0 x13_1).f0.f0) == ((rd_T66 l1 x13_1).f0.f0)) || (!(((rd_T66 l0 x13_1).f0.f1) == ((rd_T66 l1 x13_1).f0.f1)))) || (!(((rd_T66 l0 x13_1).f1) == ((rd_T66 l1 x13_1).f1)))) = true := c8
     clear c8
     obtain rfl := oI_ H
     have p392 : 0 ≤ (x13_1 : Int) := oD_ (by first | (with_reducible assumption) | assumption)
     have q392 : x13_1 < (l0.length : Int) := oD_ (by first | (with_reducible assumption) | assumption)
     obtain ⟨ad392, e392, hx392_0, hx392_1, hx392_2⟩ := at_T66 HR0.out x13_1 p392 q392
     cases e392
     replace p392 := eq_true p392
     replace q392 := eq_true q392
     have p393 : 0 ≤ (x13_1 : Int) := oD_ (by first | (with_reducible assumption) | assumption)
     have q393 : x13_1 < (l1.length : Int) := oD_ (by first | (with_reducible assumption) | assumption)
     obtain ⟨ad393, e393, hx393_0, hx393_1, hx393_2⟩ := at_T66 HR1.out x13_1 p393 q393
     cases e393
     replace p393 := eq_true p393
     replace q393 := eq_true q393
     go_wp2
     repeat (go_quiet (fail); try go_wp2)
     go_ret
     exact ⟨by first | rfl | (simp; done) | (simp [*]; done), by repeat (first | exact Drawn0.refl _ | apply Drawn0.step)⟩
   rw [if_neg c8] at H
   have c8b0 : ((!(((rd_T66 l0 x13_1).f0.f0) == ((rd_T66 l1 x13_1).f0.f0)) || (!(((rd_T66 l0 x13_1).f0.f1) == ((rd_T66 l1 x13_1).f0.f1)))) || (!(((rd_T66 l0 x13_1).f1) == ((rd_T66 l1 x13_1).f1)))) = false := by simpa using c8
   clear c8
   have H' := aM_ H
   clear H
   have p392 : 0 ≤ (x13_1 : Int) := oD_ (by first | (with_reducible assumption) | assumption)
   have q392 : x13_1 < (l0.length : Int) := oD_ (by first | (with_reducible assumption) | assumption)
   obtain ⟨ad392, e392, hx392_0, hx392_1, hx392_2⟩ := at_T66 HR0.out x13_1 p392 q392
   cases e392
   replace p392 := eq_true p392
   replace q392 := eq_true q392
   have p393 : 0 ≤ (x13_1 : Int) := oD_ (by first | (with_reducible assumption) | assumption)
   have q393 : x13_1 < (l1.length : Int) := oD_ (by first | (with_reducible assumption) | assumption)
   obtain ⟨ad393, e393, hx393_0, hx393_1, hx393_2⟩ := at_T66 HR1.out x13_1 p393 q393
   cases e393
   replace p393 := eq_true p393
   replace q393 := eq_true q393
   go_wp2
   repeat (go_quiet (fail); try go_wp2)
   go_roundg k1
   case measure => have := HK1.out; omega
   case rel => exact ⟨(wrap64 (x13_1 + 1)), (by first | rfl | (simp; done) | (simp [*]; done)), H', ⟨by have := HK1.out; omega⟩, by repeat (first | exact Drawn0.refl _ | apply Drawn0.step)⟩
def impl_NetSame.f (k : Nat) (l0_0 : List (S43)) (l0_1 : List (S66)) (l1_0 : List (S43)) (l1_1 : List (S66)) : Option (Bool) := (impl_Wire_39.f k l0_0 l1_0).bind fun t396 => (if t396 = true then ((impl_Drive_40.f k l0_1 l1_1).bind fun t397 => (some t397)) else (some false))
set_option maxHeartbeats 8000000 in
set_option maxRecDepth 100000 in
theorem impl_NetSame.calls (k : Nat) (A0_0 : Option Addr) (c0_0 : Nat) (l0_0 : List (S43)) (A0_1 : Option Addr) (c0_1 : Nat) (l0_1 : List (S66)) (A1_0 : Option Addr) (c1_0 : Nat) (l1_0 : List (S43)) (A1_1 : Option Addr) (c1_1 : Nat) (l1_1 : List (S66)) (r : Bool) (w : World) (hr0_0 : Kd.C k43 w A0_0 l0_0.length l0_0) (hc0_0 : l0_0.length ≤ c0_0) (hr0_1 : Kd.C k66 w A0_1 l0_1.length l0_1) (hc0_1 : l0_1.length ≤ c0_1) (hr1_0 : Kd.C k43 w A1_0 l1_0.length l1_0) (hc1_0 : l1_0.length ≤ c1_0) (hr1_1 : Kd.C k66 w A1_1 l1_1.length l1_1) (hc1_1 : l1_1.length ≤ c1_1) (h : impl_NetSame.f k l0_0 l0_1 l1_0 l1_1 = some r) :
    Calls Tryz.prog 16 #[.agg #[.slice A0_0 l0_0.length c0_0, .slice A0_1 l0_1.length c0_1], .agg #[.slice A1_0 l1_0.length c1_0, .slice A1_1 l1_1.length c1_1]] w fun e w' => e = .returned (.bool r) ∧ Below w.heap.size w w' := by
 have hu31 := Tryz.underlying31
 have HR0_0 := aM_ hr0_0
 have HC0_0 := aM_ hc0_0
 clear hr0_0 hc0_0
 have HR0_1 := aM_ hr0_1
 have HC0_1 := aM_ hc0_1
 clear hr0_1 hc0_1
 have HR1_0 := aM_ hr1_0
 have HC1_0 := aM_ hc1_0
 clear hr1_0 hc1_0
 have HR1_1 := aM_ hr1_1
 have HC1_1 := aM_ hc1_1
 clear hr1_1 hc1_1
 have HB := aM_ (Below.refl w.heap.size w)
 have H : ((impl_Wire_39.f k l0_0 l1_0).bind fun t396 => (if t396 = true then ((impl_Drive_40.f k l0_1 l1_1).bind fun t397 => (some t397)) else (some false))) = some r := h
 clear h
 replace H := Option.bind_eq_some_iff.mp H
 obtain ⟨t396, A30, H⟩ := H
 replace H : (if t396 = true then ((impl_Drive_40.f k l0_1 l1_1).bind fun t397 => (some t397)) else (some false)) = some r := H
 have A3 := aM_ A30
 clear A30
 by_cases c4 : t396 = true
 rotate_left
 · replace c4 := Bool.eq_false_iff.mpr c4
   subst c4
   have H1 : (some false) = some r := by rw [if_neg (show ¬ (false = true) by decide)] at H; exact H
   clear H
   have H := H1
   clear H1
   obtain rfl := oI_ H
   go_enter Tryz.func16, Tryz.ntmps16
   go_wp2_with (first | ((with_reducible refine gate_dst (N := 2) rfl ?_); refine box_event ?hg (N := 2) ?hd (cs := #[.slice A0_0 l0_0.length c0_0, .slice A0_1 l0_1.length c0_1]) (t := 31) ?hr ?_; (case hd => rfl); (case hg => rfl); (case hr => first | (go_simp; done) | (go_simp; rfl)); intro gb394 hg w11 hbox hb; have n0_ := aM_ (bT_ (by repeat (first | (with_reducible first | exact HB.out | apply bA_ | apply bN_ | apply b1_) | exact HB.out)) hb); have n1_ := aM_ (hbox); have n2_ := aM_ ((by rw [hg]; exact (bZ_ (by repeat (first | (with_reducible first | exact HB.out | apply bA_ | apply bN_ | apply b1_) | exact HB.out))) : w.heap.size ≤ gb394)); have n3_ := aM_ ((by rw [hg]; exact (bZ_ (by repeat (first | (with_reducible first | exact HB.out | apply bA_ | apply bN_ | apply b1_) | exact HB.out))) : w.heap.size ≤ gb394)); clear HB; have HB := n0_; have BK394 := n1_; have GW394 := n2_; have GE394 := n3_; clear n0_ n1_ n2_ n3_ hb hbox hg) | ((with_reducible refine gate_dst (N := 3) rfl ?_); refine box_event ?hg (N := 3) ?hd (cs := #[.slice A1_0 l1_0.length c1_0, .slice A1_1 l1_1.length c1_1]) (t := 31) ?hr ?_; (case hd => rfl); (case hg => rfl); (case hr => first | (go_simp; done) | (go_simp; rfl)); intro gb395 hg w12 hbox hb; have n0_ := aM_ (blk_below (g := gb394) (o := .cells #[.slice A0_0 l0_0.length c0_0, .slice A0_1 l0_1.length c0_1] 31 (0, 0)) (by (with_reducible repeat (first | refine kN_ ?_ _ | refine kD_ ?_ | refine kA_ ?_ _)); exact BK394.out) hb); have n1_ := aM_ (bT_ (by repeat (first | (with_reducible first | exact HB.out | apply bA_ | apply bN_ | apply b1_ | refine bS_ ?_ GE394.out) | exact HB.out)) hb); have n2_ := aM_ (hbox); have n3_ := aM_ ((by rw [hg]; exact (bZ_ (by repeat (first | (with_reducible first | exact HB.out | apply bA_ | apply bN_ | apply b1_ | refine bS_ ?_ GE394.out) | exact HB.out))) : w.heap.size ≤ gb395)); have n4_ := aM_ ((by rw [hg]; exact (bZ_ (by repeat (first | (with_reducible first | exact HB.out | apply bA_ | apply bN_ | apply b1_ | refine bS_ ?_ GE394.out) | exact HB.out))) : w.heap.size ≤ gb395)); have n5_ := aM_ ((by rw [hg]; exact Nat.ne_of_lt (blk_lt (g := gb394) (o := .cells #[.slice A0_0 l0_0.length c0_0, .slice A0_1 l0_1.length c0_1] 31 (0, 0)) (by (with_reducible repeat (first | refine kN_ ?_ _ | refine kD_ ?_ | refine kA_ ?_ _)); exact BK394.out)) : gb394 ≠ gb395)); have n6_ := aM_ ((by rw [hg]; exact Nat.ne_of_gt (blk_lt (g := gb394) (o := .cells #[.slice A0_0 l0_0.length c0_0, .slice A0_1 l0_1.length c0_1] 31 (0, 0)) (by (with_reducible repeat (first | refine kN_ ?_ _ | refine kD_ ?_ | refine kA_ ?_ _)); exact BK394.out)) : gb395 ≠ gb394)); clear BK394 HB; have BK394 := n0_; have HB := n1_; have BK395 := n2_; have GW395 := n3_; have GE395 := n4_; have NB394_395 := n5_; have NB395_394 := n6_; clear n0_ n1_ n2_ n3_ n4_ n5_ n6_ hb hbox hg; have hnb13 := NB394_395.out; have hnc13 := NB395_394.out; (obtain ⟨hcz14_0, hcz14_1⟩ := cells2 BK394.out); (obtain ⟨hfz14_0, hfz14_1⟩ := frozen2 BK394.out); (obtain ⟨hcz15_0, hcz15_1⟩ := cells2 BK395.out); (obtain ⟨hfz15_0, hfz15_1⟩ := frozen2 BK395.out)) | ((with_reducible refine gate_callee (f := 39) rfl ?_); refine goesL_ (some 9) rfl rfl Tryz.func39 (by kernel_rfl) rfl #[.slice A0_0 l0_0.length c0_0, .slice A1_0 l1_0.length c1_0] rfl (by (try simp only [mA_, List.map_cons, List.map_nil]); first | done | rfl | (simp only [lD_, lT_]; rfl)) ?_; (with_reducible refine (impl_Wire_39.calls k _ _ l0_0 _ _ l1_0 false _ ?side1 ?side2 ?side3 ?side4 A3.out).mono ?_); (case side1 => repeat (first | exact (Kd.C_below HR0_0.out HB.out) | (with_reducible refine Kd.C_alloc ?_ _) | (with_reducible refine Kd.C_drewN ?_ _) | (with_reducible refine Kd.C_drew ?_))); (case side2 => exact HC0_0.out); (case side3 => repeat (first | exact (Kd.C_below HR1_0.out HB.out) | (with_reducible refine Kd.C_alloc ?_ _) | (with_reducible refine Kd.C_drewN ?_ _) | (with_reducible refine Kd.C_drew ?_))); (case side4 => exact HC1_0.out); rintro e w' ⟨rfl, ⟨nd, rfl⟩⟩; refine ⟨_, rfl, ?_⟩))
   go_ret
   exact ⟨by first | rfl | (simp [errW_none, errW_some] <;> rfl) | (simp [*, errW_none, errW_some] <;> rfl), by repeat (first | (with_reducible first | exact HB.out | apply bA_ | apply bN_ | apply b1_ | refine bS_ ?_ GE394.out | refine bS_ ?_ GE395.out) | exact HB.out)⟩
 subst c4
 have H1 : ((impl_Drive_40.f k l0_1 l1_1).bind fun t397 => (some t397)) = some r := by rw [if_pos rfl] at H; exact H
 clear H
 have H := H1
 clear H1
 replace H := Option.bind_eq_some_iff.mp H
 obtain ⟨t397, A50, H⟩ := H
 replace H : (some t397) = some r := H
 have A5 := aM_ A50
 clear A50
 obtain rfl := oI_ H
 go_enter Tryz.func16, Tryz.ntmps16
 go_wp2_with (first | ((with_reducible refine gate_dst (N := 2) rfl ?_); refine box_event ?hg (N := 2) ?hd (cs := #[.slice A0_0 l0_0.length c0_0, .slice A0_1 l0_1.length c0_1]) (t := 31) ?hr ?_; (case hd => rfl); (case hg => rfl); (case hr => first | (go_simp; done) | (go_simp; rfl)); intro gb394 hg w6 hbox hb; have n0_ := aM_ (bT_ (by repeat (first | (with_reducible first | exact HB.out | apply bA_ | apply bN_ | apply b1_) | exact HB.out)) hb); have n1_ := aM_ (hbox); have n2_ := aM_ ((by rw [hg]; exact (bZ_ (by repeat (first | (with_reducible first | exact HB.out | apply bA_ | apply bN_ | apply b1_) | exact HB.out))) : w.heap.size ≤ gb394)); have n3_ := aM_ ((by rw [hg]; exact (bZ_ (by repeat (first | (with_reducible first | exact HB.out | apply bA_ | apply bN_ | apply b1_) | exact HB.out))) : w.heap.size ≤ gb394)); clear HB; have HB := n0_; have BK394 := n1_; have GW394 := n2_; have GE394 := n3_; clear n0_ n1_ n2_ n3_ hb hbox hg) | ((with_reducible refine gate_dst (N := 3) rfl ?_); refine box_event ?hg (N := 3) ?hd (cs := #[.slice A1_0 l1_0.length c1_0, .slice A1_1 l1_1.length c1_1]) (t := 31) ?hr ?_; (case hd => rfl); (case hg => rfl); (case hr => first | (go_simp; done) | (go_simp; rfl)); intro gb395 hg w7 hbox hb; have n0_ := aM_ (blk_below (g := gb394) (o := .cells #[.slice A0_0 l0_0.length c0_0, .slice A0_1 l0_1.length c0_1] 31 (0, 0)) (by (with_reducible repeat (first | refine kN_ ?_ _ | refine kD_ ?_ | refine kA_ ?_ _)); exact BK394.out) hb); have n1_ := aM_ (bT_ (by repeat (first | (with_reducible first | exact HB.out | apply bA_ | apply bN_ | apply b1_ | refine bS_ ?_ GE394.out) | exact HB.out)) hb); have n2_ := aM_ (hbox); have n3_ := aM_ ((by rw [hg]; exact (bZ_ (by repeat (first | (with_reducible first | exact HB.out | apply bA_ | apply bN_ | apply b1_ | refine bS_ ?_ GE394.out) | exact HB.out))) : w.heap.size ≤ gb395)); have n4_ := aM_ ((by rw [hg]; exact (bZ_ (by repeat (first | (with_reducible first | exact HB.out | apply bA_ | apply bN_ | apply b1_ | refine bS_ ?_ GE394.out) | exact HB.out))) : w.heap.size ≤ gb395)); have n5_ := aM_ ((by rw [hg]; exact Nat.ne_of_lt (blk_lt (g := gb394) (o := .cells #[.slice A0_0 l0_0.length c0_0, .slice A0_1 l0_1.length c0_1] 31 (0, 0)) (by (with_reducible repeat (first | refine kN_ ?_ _ | refine kD_ ?_ | refine kA_ ?_ _)); exact BK394.out)) : gb394 ≠ gb395)); have n6_ := aM_ ((by rw [hg]; exact Nat.ne_of_gt (blk_lt (g := gb394) (o := .cells #[.slice A0_0 l0_0.length c0_0, .slice A0_1 l0_1.length c0_1] 31 (0, 0)) (by (with_reducible repeat (first | refine kN_ ?_ _ | refine kD_ ?_ | refine kA_ ?_ _)); exact BK394.out)) : gb395 ≠ gb394)); clear BK394 HB; have BK394 := n0_; have HB := n1_; have BK395 := n2_; have GW395 := n3_; have GE395 := n4_; have NB394_395 := n5_; have NB395_394 := n6_; clear n0_ n1_ n2_ n3_ n4_ n5_ n6_ hb hbox hg; have hnb8 := NB394_395.out; have hnc8 := NB395_394.out; (obtain ⟨hcz9_0, hcz9_1⟩ := cells2 BK394.out); (obtain ⟨hfz9_0, hfz9_1⟩ := frozen2 BK394.out); (obtain ⟨hcz10_0, hcz10_1⟩ := cells2 BK395.out); (obtain ⟨hfz10_0, hfz10_1⟩ := frozen2 BK395.out)) | ((with_reducible refine gate_callee (f := 39) rfl ?_); refine goesL_ (some 9) rfl rfl Tryz.func39 (by kernel_rfl) rfl #[.slice A0_0 l0_0.length c0_0, .slice A1_0 l1_0.length c1_0] rfl (by (try simp only [mA_, List.map_cons, List.map_nil]); first | done | rfl | (simp only [lD_, lT_]; rfl)) ?_; (with_reducible refine (impl_Wire_39.calls k _ _ l0_0 _ _ l1_0 true _ ?side1 ?side2 ?side3 ?side4 A3.out).mono ?_); (case side1 => repeat (first | exact (Kd.C_below HR0_0.out HB.out) | (with_reducible refine Kd.C_alloc ?_ _) | (with_reducible refine Kd.C_drewN ?_ _) | (with_reducible refine Kd.C_drew ?_))); (case side2 => exact HC0_0.out); (case side3 => repeat (first | exact (Kd.C_below HR1_0.out HB.out) | (with_reducible refine Kd.C_alloc ?_ _) | (with_reducible refine Kd.C_drewN ?_ _) | (with_reducible refine Kd.C_drew ?_))); (case side4 => exact HC1_0.out); rintro e w' ⟨rfl, ⟨nd, rfl⟩⟩; refine ⟨_, rfl, ?_⟩) | (go_at_call 40; (with_reducible refine (impl_Drive_40.calls k _ _ l0_1 _ _ l1_1 t397 _ ?side1 ?side2 ?side3 ?side4 A5.out).mono ?_); (case side1 => repeat (first | exact (Kd.C_below HR0_1.out (by repeat (first | (with_reducible first | exact HB.out | apply bA_ | apply bN_ | apply b1_ | refine bS_ ?_ GE394.out | refine bS_ ?_ GE395.out) | exact HB.out))) | (with_reducible refine Kd.C_alloc ?_ _) | (with_reducible refine Kd.C_drewN ?_ _) | (with_reducible refine Kd.C_drew ?_))); (case side2 => exact HC0_1.out); (case side3 => repeat (first | exact (Kd.C_below HR1_1.out (by repeat (first | (with_reducible first | exact HB.out | apply bA_ | apply bN_ | apply b1_ | refine bS_ ?_ GE394.out | refine bS_ ?_ GE395.out) | exact HB.out))) | (with_reducible refine Kd.C_alloc ?_ _) | (with_reducible refine Kd.C_drewN ?_ _) | (with_reducible refine Kd.C_drew ?_))); (case side4 => exact HC1_1.out); rintro e w' ⟨rfl, ⟨nd, rfl⟩⟩))
 go_ret
 exact ⟨by first | rfl | (simp [errW_none, errW_some] <;> rfl) | (simp [*, errW_none, errW_some] <;> rfl), by repeat (first | (with_reducible first | exact HB.out | apply bA_ | apply bN_ | apply b1_ | refine bS_ ?_ GE394.out | refine bS_ ?_ GE395.out) | exact HB.out)⟩
end Go.Proofs.YtphblfmjdiigkaaGreatDoor.HFnNetSame
