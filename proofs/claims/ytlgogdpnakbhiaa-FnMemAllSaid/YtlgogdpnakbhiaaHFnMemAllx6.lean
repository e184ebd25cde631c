/- The walk of the law FnMemAll, over its printed parts. -/
import Derived.Test.YtlgogdpnakbhiaaHFnMemAllx0
import Derived.Test.YtlgogdpnakbhiaaHFnMemAllx1
import Derived.Test.YtlgogdpnakbhiaaHFnMemAllx2
import Derived.Test.YtlgogdpnakbhiaaHFnMemAllx4
import Derived.Test.YtlgogdpnakbhiaaHFnMemAllx5
namespace Go.Proofs.Ytlgogdpnakbhiaa.HFnMemAll
open Go.RowKit Go.Proofs.YtlgogdpnakbhiaaW.PrintWords Go.Proofs.YtlgogdpnakbhiaaW.PrintLast Go.Proofs.YtlgogdpnakbhiaaW.PrintMore
attribute [local go_sem] max2_int min2_int max_two min_two max_three min_three max_four min_four   -- for this text's walks alone
set_option linter.unusedVariables false
set_option linter.unusedSimpArgs false

set_option maxHeartbeats 8000000 in
set_option maxRecDepth 100000 in
theorem laws_FnMemAll.calls (k : Nat) (A0 : Option Addr) (c0 : Nat) (l0 : List Int) (w : World) (hr0 : Kd.C (Kd.int .u8) w A0 l0.length l0) (hc0 : l0.length ≤ c0) (h : laws_FnMemAll.f k l0 = some true) :
    Calls Try.prog 8 #[.slice A0 l0.length c0] w fun e w' => e = .returned (.bool true) ∧ Below w.heap.size w w' := by
 have hu24 := Try.underlying24
 have hu38 := Try.underlying38
 have HR0 := mk0 hr0
 have HC0 := mk0 hc0
 clear hr0 hc0
 have HB := mk0 (Below.refl w.heap.size w)
 have H : (if (l0.length : Int) > 1048576 then (some true) else ((spec_DrawMemOk.f k l0).bind fun bt200 => ((impl_MemOk.f bt200.1 bt200.2.1 bt200.2.2).bind fun t210 => ((spec_MemOk.f k bt200.1 bt200.2.1 bt200.2.2).bind fun t211 => (if (t210 != t211) = true then (laws_FnMemAll.j0 k true bt200.1 bt200.2.1 bt200.2.2) else ((impl_MemOpen.f).bind fun bt212 => ((spec_MemOpen.f).bind fun bt221 => ((impl_MemSame.f k bt212.1 bt212.2.1 bt212.2.2 bt221.1 bt221.2.1 bt221.2.2).bind fun t230 => (if t230 = true then ((spec_MemOk.f k bt200.1 bt200.2.1 bt200.2.2).bind fun t231 => (laws_FnMemAll.j0 k (!t231) bt200.1 bt200.2.1 bt200.2.2)) else (laws_FnMemAll.j0 k true bt200.1 bt200.2.1 bt200.2.2)))))))))) = some true := h
 clear h
 by_cases c2 : (l0.length : Int) > 1048576
 · rw [if_pos c2] at H
   have c2b0 : decide (1048576 < (l0.length : Int)) = true := decide_eq_true c2
   have c2b1 : decide (1048576 < l0.length) = true := decide_eq_true (by omega)
   clear c2
   have HTR_ := mk0 (Option.some.inj H)
   clear H
   go_enter Try.func8, Try.ntmps8
   go_wp2
   go_ret
   exact ⟨by first | rfl | exact congrArg (fun b => Ending.returned (.bool b)) HTR_.out | exact absurd HTR_.out (by decide) | (simp [errW_none, errW_some] <;> rfl) | (simp [*, errW_none, errW_some] <;> rfl), by repeat (first | (with_reducible first | exact HB.out | apply bA | apply bN | apply bD) | exact HB.out)⟩
 rw [if_neg c2] at H
 have c2b0 : decide (1048576 < (l0.length : Int)) = false := decide_eq_false c2
 have c2b1 : decide (1048576 < l0.length) = false := decide_eq_false (by omega)
 clear c2
 replace H := Option.bind_eq_some_iff.mp H
 obtain ⟨⟨t200, t203, t206⟩, A30, H⟩ := H
 replace H : ((impl_MemOk.f t200 t203 t206).bind fun t210 => ((spec_MemOk.f k t200 t203 t206).bind fun t211 => (if (t210 != t211) = true then (laws_FnMemAll.j0 k true t200 t203 t206) else ((impl_MemOpen.f).bind fun bt212 => ((spec_MemOpen.f).bind fun bt221 => ((impl_MemSame.f k bt212.1 bt212.2.1 bt212.2.2 bt221.1 bt221.2.1 bt221.2.2).bind fun t230 => (if t230 = true then ((spec_MemOk.f k t200 t203 t206).bind fun t231 => (laws_FnMemAll.j0 k (!t231) t200 t203 t206)) else (laws_FnMemAll.j0 k true t200 t203 t206)))))))) = some true := H
 have A3 := mk0 A30
 clear A30
 have HC4 := mk0 H
 clear H
 go_enter Try.func8, Try.ntmps8
 go_upto_region 4 with (first | ((with_reducible refine gate_callee (f := 27) rfl ?_); refine goesL_ (some 13) rfl rfl Try.func27 (by kernel_rfl) rfl #[.slice A0 l0.length c0] rfl (by (try simp only [List.map_toArray, List.map_cons, List.map_nil]); first | done | rfl | (simp only [List.length_drop, List.length_take]; rfl)) ?_; (with_reducible refine (spec_DrawMemOk.calls k _ _ l0 t200 t203 t206 _ ?side1 ?side2 A3.out).mono ?_); (case side1 => repeat (first | exact HR0.out | (with_reducible first | refine cA ?_ _ | refine cN ?_ _ | refine cD ?_))); (case side2 => exact HC0.out); rintro e w5 ⟨v201, v204, v207, rfl, ho0, ho1, ho2, hb⟩; refine ⟨_, rfl, ?_⟩; have n0_ := mk0 (Kd.R_lower ho0 (below_size (by repeat (first | (with_reducible first | exact HB.out | apply bA | apply bN | apply bD) | exact HB.out)))); have n1_ := mk0 (Kd.R_lower ho1 (below_size (by repeat (first | (with_reducible first | exact HB.out | apply bA | apply bN | apply bD) | exact HB.out)))); have n2_ := mk0 (Kd.R_lower ho2 (below_size (by repeat (first | (with_reducible first | exact HB.out | apply bA | apply bN | apply bD) | exact HB.out)))); have n3_ := mk0 (below_step (by repeat (first | (with_reducible first | exact HB.out | apply bA | apply bN | apply bD) | exact HB.out)) hb); clear HB; have HO202 := n0_; have HO205 := n1_; have HO208 := n2_; have HB := n3_; clear n0_ n1_ n2_ n3_; (try clear hb); (try clear hb2); (try clear hk); (try clear hi); (try clear ho0); (try clear ho1); (try clear ho2)) | ((with_reducible refine gate_dst (N := 3) rfl ?_); refine box_event ?hg (N := 3) ?hd (cs := #[.slice none 0 0, .slice none 0 0, .slice none 0 0]) (t := 24) ?hr ?_; (case hd => rfl); (case hg => rfl); (case hr => first | (go_simp; done) | (go_simp; rfl)); intro gb209 hg w6 hbox hb; have n0_ := mk0 (Kd.R_below (by (with_reducible repeat (first | apply rA | apply rN | apply rD)); exact HO202.out) hb); have n1_ := mk0 (Kd.R_below (by (with_reducible repeat (first | apply rA | apply rN | apply rD)); exact HO205.out) hb); have n2_ := mk0 (Kd.R_below (by (with_reducible repeat (first | apply rA | apply rN | apply rD)); exact HO208.out) hb); have n3_ := mk0 (below_step (by repeat (first | (with_reducible first | exact HB.out | apply bA | apply bN | apply bD) | exact HB.out)) hb); have n4_ := mk0 (hbox); have n5_ := mk0 ((by rw [hg]; exact (below_size (by repeat (first | (with_reducible first | exact HB.out | apply bA | apply bN | apply bD) | exact HB.out))) : w.heap.size ≤ gb209)); have n6_ := mk0 ((by rw [hg]; exact (below_size (by repeat (first | (with_reducible first | exact HB.out | apply bA | apply bN | apply bD) | exact HB.out))) : w.heap.size ≤ gb209)); clear HO202; clear HO205; clear HO208; clear HB; have HO202 := n0_; have HO205 := n1_; have HO208 := n2_; have HB := n3_; have BK209 := n4_; have GW209 := n5_; have GE209 := n6_; clear n0_ n1_ n2_ n3_ n4_ n5_ n6_; clear hb hbox hg; obtain ⟨Ao7, co7, eo7⟩ := Kd.R_slice HO202.out; subst eo7; have hcz8_0 : w6.cell? ⟨gb209, 0, none⟩ = some (.slice none 0 0) := (blk_cell BK209.out 0).trans rfl; have hcz8_1 : w6.cell? ⟨gb209, 1, none⟩ = some (.slice none 0 0) := (blk_cell BK209.out 1).trans rfl; have hcz8_2 : w6.cell? ⟨gb209, 2, none⟩ = some (.slice none 0 0) := (blk_cell BK209.out 2).trans rfl; have hfz8_0 := blk_frozen BK209.out 0; have hfz8_1 := blk_frozen BK209.out 1; have hfz8_2 := blk_frozen BK209.out 2; obtain ⟨Ao9, co9, eo9⟩ := Kd.R_slice HO205.out; subst eo9; obtain ⟨Ao10, co10, eo10⟩ := Kd.R_slice HO208.out; subst eo10))
 (try simp only [Act.put, qa, qb, qc])
 go_cut [29] (fun v29 wc => ∃ (kq : Nat) (x29_3 : Bool), v29 = .bool x29_3 ∧ Aside0 (laws_FnMemAll.j0 kq x29_3 t200 t203 t206 = some true) ∧ Aside0 (kq ≤ k) ∧ Aside0 (Kd.R (Kd.int .i64) 3 wc w.heap.size (fun k_ => some k_ ≠ ((.slice Ao9 t203.length co9) : Value).ownBlock ∧ some k_ ≠ ((.slice Ao10 t206.length co10) : Value).ownBlock) (.slice Ao7 t200.length co7) t200) ∧ Aside0 (Kd.R (Kd.int .i64) 3 wc w.heap.size (fun k_ => some k_ ≠ ((.slice Ao7 t200.length co7) : Value).ownBlock ∧ some k_ ≠ ((.slice Ao10 t206.length co10) : Value).ownBlock) (.slice Ao9 t203.length co9) t203) ∧ Aside0 (Kd.R (Kd.int .i64) 3 wc w.heap.size (fun k_ => some k_ ≠ ((.slice Ao7 t200.length co7) : Value).ownBlock ∧ some k_ ≠ ((.slice Ao9 t203.length co9) : Value).ownBlock) (.slice Ao10 t206.length co10) t206) ∧ Aside0 (wc.heap[gb209]? = some (.cells #[(.slice Ao7 t200.length co7), (.slice Ao9 t203.length co9), (.slice Ao10 t206.length co10)] 24 (0, 0))) ∧ Aside0 (Below w.heap.size w wc))
 case first =>
  have H := HC4.out
  clear HC4
  replace H := Option.bind_eq_some_iff.mp H
  obtain ⟨t210, A110, H⟩ := H
  replace H : ((spec_MemOk.f k t200 t203 t206).bind fun t211 => (if (t210 != t211) = true then (laws_FnMemAll.j0 k true t200 t203 t206) else ((impl_MemOpen.f).bind fun bt212 => ((spec_MemOpen.f).bind fun bt221 => ((impl_MemSame.f k bt212.1 bt212.2.1 bt212.2.2 bt221.1 bt221.2.1 bt221.2.2).bind fun t230 => (if t230 = true then ((spec_MemOk.f k t200 t203 t206).bind fun t231 => (laws_FnMemAll.j0 k (!t231) t200 t203 t206)) else (laws_FnMemAll.j0 k true t200 t203 t206))))))) = some true := H
  have A11 := mk0 A110
  clear A110
  replace H := Option.bind_eq_some_iff.mp H
  obtain ⟨t211, A120, H⟩ := H
  replace H : (if (t210 != t211) = true then (laws_FnMemAll.j0 k true t200 t203 t206) else ((impl_MemOpen.f).bind fun bt212 => ((spec_MemOpen.f).bind fun bt221 => ((impl_MemSame.f k bt212.1 bt212.2.1 bt212.2.2 bt221.1 bt221.2.1 bt221.2.2).bind fun t230 => (if t230 = true then ((spec_MemOk.f k t200 t203 t206).bind fun t231 => (laws_FnMemAll.j0 k (!t231) t200 t203 t206)) else (laws_FnMemAll.j0 k true t200 t203 t206)))))) = some true := H
  have A12 := mk0 A120
  clear A120
  by_cases c13 : (t210 != t211) = true
  · rw [if_pos c13] at H
    have c13b0 : (t210 != t211) = true := c13
    (try (have c13b1 : decide (t210 = t211) = false := by simpa using c13))
    (try (have c13b2 : (t210 == t211) = false := by simpa using c13))
    (try (have c13b3 : ¬ (t210 = t211) := by simpa using c13))
    clear c13
    (first | rw [c13b0] | (simp only [i64_w, i32_w]; rw [c13b0]) | skip)
    have H' := mk0 H
    clear H
    try go_wp2
    have n0_ : Aside0 (Kd.R (Kd.int .i64) 3 (((w6.setCell ⟨gb209, 0, none⟩ (.slice Ao7 t200.length co7)).setCell ⟨gb209, 1, none⟩ (.slice Ao9 t203.length co9)).setCell ⟨gb209, 2, none⟩ (.slice Ao10 t206.length co10)) w.heap.size (fun k_ => some k_ ≠ (.slice Ao9 t203.length co9 : Value).ownBlock ∧ some k_ ≠ (.slice Ao10 t206.length co10 : Value).ownBlock) (.slice Ao7 t200.length co7) t200) := ⟨by (with_reducible repeat (first | apply rA | apply rN | apply rD)); exact Kd.R_mono (Kd.R_far (p := ⟨gb209, 2, none⟩) (Kd.R_far (p := ⟨gb209, 1, none⟩) (Kd.R_far (p := ⟨gb209, 0, none⟩) (Kd.R_types HO202.out BK209.out (by decide)) (fun _ hk => hk.2) (.slice Ao7 t200.length co7)) (fun _ hk => hk.2) (.slice Ao9 t203.length co9)) (fun _ hk => hk.2) (.slice Ao10 t206.length co10)) (fun _ hk => ⟨hk.1.1, hk.1.2⟩)⟩
    have n1_ : Aside0 (Kd.R (Kd.int .i64) 3 (((w6.setCell ⟨gb209, 0, none⟩ (.slice Ao7 t200.length co7)).setCell ⟨gb209, 1, none⟩ (.slice Ao9 t203.length co9)).setCell ⟨gb209, 2, none⟩ (.slice Ao10 t206.length co10)) w.heap.size (fun k_ => some k_ ≠ (.slice Ao7 t200.length co7 : Value).ownBlock ∧ some k_ ≠ (.slice Ao10 t206.length co10 : Value).ownBlock) (.slice Ao9 t203.length co9) t203) := ⟨by (with_reducible repeat (first | apply rA | apply rN | apply rD)); exact Kd.R_mono (Kd.R_far (p := ⟨gb209, 2, none⟩) (Kd.R_far (p := ⟨gb209, 1, none⟩) (Kd.R_far (p := ⟨gb209, 0, none⟩) (Kd.R_types HO205.out BK209.out (by decide)) (fun _ hk => hk.2) (.slice Ao7 t200.length co7)) (fun _ hk => hk.2) (.slice Ao9 t203.length co9)) (fun _ hk => hk.2) (.slice Ao10 t206.length co10)) (fun _ hk => ⟨hk.1.1, hk.1.2⟩)⟩
    have n2_ : Aside0 (Kd.R (Kd.int .i64) 3 (((w6.setCell ⟨gb209, 0, none⟩ (.slice Ao7 t200.length co7)).setCell ⟨gb209, 1, none⟩ (.slice Ao9 t203.length co9)).setCell ⟨gb209, 2, none⟩ (.slice Ao10 t206.length co10)) w.heap.size (fun k_ => some k_ ≠ (.slice Ao7 t200.length co7 : Value).ownBlock ∧ some k_ ≠ (.slice Ao9 t203.length co9 : Value).ownBlock) (.slice Ao10 t206.length co10) t206) := ⟨by (with_reducible repeat (first | apply rA | apply rN | apply rD)); exact Kd.R_mono (Kd.R_far (p := ⟨gb209, 2, none⟩) (Kd.R_far (p := ⟨gb209, 1, none⟩) (Kd.R_far (p := ⟨gb209, 0, none⟩) (Kd.R_types HO208.out BK209.out (by decide)) (fun _ hk => hk.2) (.slice Ao7 t200.length co7)) (fun _ hk => hk.2) (.slice Ao9 t203.length co9)) (fun _ hk => hk.2) (.slice Ao10 t206.length co10)) (fun _ hk => ⟨hk.1.1, hk.1.2⟩)⟩
    have n3_ : Aside0 ((((w6.setCell ⟨gb209, 0, none⟩ (.slice Ao7 t200.length co7)).setCell ⟨gb209, 1, none⟩ (.slice Ao9 t203.length co9)).setCell ⟨gb209, 2, none⟩ (.slice Ao10 t206.length co10)).heap[gb209]? = some (.cells #[.slice Ao7 t200.length co7, .slice Ao9 t203.length co9, .slice Ao10 t206.length co10] 24 (0, 0))) := ⟨by (with_reducible repeat (first | refine pN ?_ _ | refine pD ?_ | refine pA ?_ _)); refine blk_put (cs := #[.slice Ao7 t200.length co7, .slice Ao9 t203.length co9, .slice none 0 0]) ?_ 2 _ rfl; (with_reducible repeat (first | refine pN ?_ _ | refine pD ?_ | refine pA ?_ _)); refine blk_put (cs := #[.slice Ao7 t200.length co7, .slice none 0 0, .slice none 0 0]) ?_ 1 _ rfl; (with_reducible repeat (first | refine pN ?_ _ | refine pD ?_ | refine pA ?_ _)); refine blk_put (cs := #[.slice none 0 0, .slice none 0 0, .slice none 0 0]) ?_ 0 _ rfl; (with_reducible repeat (first | refine pN ?_ _ | refine pD ?_ | refine pA ?_ _)); exact BK209.out⟩
    have n4_ : Aside0 (Below w.heap.size w (((w6.setCell ⟨gb209, 0, none⟩ (.slice Ao7 t200.length co7)).setCell ⟨gb209, 1, none⟩ (.slice Ao9 t203.length co9)).setCell ⟨gb209, 2, none⟩ (.slice Ao10 t206.length co10))) := ⟨by repeat (first | (with_reducible first | exact HB.out | apply bA | apply bN | apply bD | refine bS ?_ GE209.out) | exact HB.out)⟩
    (try clear HO202)
    (try clear HO205)
    (try clear HO208)
    (try clear BK209)
    (try clear HB)
    generalize (((w6.setCell ⟨gb209, 0, none⟩ (.slice Ao7 t200.length co7)).setCell ⟨gb209, 1, none⟩ (.slice Ao9 t203.length co9)).setCell ⟨gb209, 2, none⟩ (.slice Ao10 t206.length co10)) = w14 at n0_ n1_ n2_ n3_ n4_ ⊢
    have HO202 := n0_
    have HO205 := n1_
    have HO208 := n2_
    have BK209 := n3_
    have HB := n4_
    clear n0_ n1_ n2_ n3_ n4_
    have n0_ := mk0 (Kd.R_drew HO202.out)
    have n1_ := mk0 (Kd.R_drew HO205.out)
    have n2_ := mk0 (Kd.R_drew HO208.out)
    have n3_ := mk0 (blk_drew BK209.out)
    have n4_ := mk0 (below_drew1 HB.out)
    clear HO202
    clear HO205
    clear HO208
    clear BK209
    clear HB
    have HO202 := n0_
    have HO205 := n1_
    have HO208 := n2_
    have BK209 := n3_
    have HB := n4_
    clear n0_ n1_ n2_ n3_ n4_
    refine start_ (n := 16) (S := fun w' => w'.cell? ⟨gb209, 0, none⟩ = some (.slice Ao7 t200.length co7) ∧ w'.cell? ⟨gb209, 1, none⟩ = some (.slice Ao9 t203.length co9) ∧ w'.cell? ⟨gb209, 2, none⟩ = some (.slice Ao10 t206.length co10)) (ds := []) #[false, false, false, false, false, false, false, false, false, false, false, false, false, false, false, false] (by kernel_rfl) rfl rfl ⟨(blk_cell BK209.out 0).trans rfl, (blk_cell BK209.out 1).trans rfl, (blk_cell BK209.out 2).trans rfl⟩ (fun hHeld => ?_); refine with_tabW laws_FnMemAll.tab4 laws_FnMemAll.bits4 (fun HT_ HW_ => ?_)
    generalize w14.drew = w15 at HO202 HO205 HO208 BK209 HB hHeld ⊢
    refine take_ (i := 0) (N := some 14) (v := ?_) (a' := ?_) #[true, false, false, false, false, false, false, false, false, false, false, false, false, false, false, false] rfl rfl (take_ofW HT_.out HW_.out (by kernel_rfl)) (fun _ _ _ h => h) (Or.inl ⟨by rfl, ?_⟩) hHeld ?_ ?_
    rotate_left
    · rintro w' ⟨s0, s1, s2⟩
      go_simp
      with_reducible rfl
    rotate_left
    · simp only [Act.put, qa, qb, qc, i64_w, i32_w]
      rfl
    refine take_ (i := 2) (N := some 16) (v := ?_) (a' := ?_) #[true, false, true, false, false, false, false, false, false, false, false, false, false, false, false, false] rfl rfl (take_ofW HT_.out HW_.out (by kernel_rfl)) (fun _ _ _ h => h) (Or.inl ⟨by rfl, ?_⟩) hHeld ?_ ?_
    rotate_left
    · rintro w' ⟨s0, s1, s2⟩
      go_simp
      with_reducible rfl
    rotate_left
    · simp only [Act.put, qa, qb, qc, i64_w, i32_w]
      rfl
    refine one_ (i := 1) (N := some 15) #[true, true, true, false, false, false, false, false, false, false, false, false, false, false, false, false] rfl rfl (one_of HT_.out (by kernel_rfl)) (by decide) (fun K hK => ?_)
    refine goes_ Try.func21 (by kernel_rfl) rfl #[.agg #[.slice Ao7 t200.length co7, .slice Ao9 t203.length co9, .slice Ao10 t206.length co10]] (by rfl) rfl rfl (by (try simp only [List.map_toArray, List.map_cons, List.map_nil]); first | done | rfl | (simp only [List.length_drop, List.length_take]; rfl)) ?_
    with_reducible refine (impl_MemOk.calls _ _ t200 _ _ t203 _ _ t206 t210 _ ?side1 ?side2 ?side3 ?side4 ?side5 ?side6 A11.out).mono ?_
    (case side1 => repeat (first | exact (Kd.R_reads' HO202.out).2.2 | (with_reducible first | refine cA ?_ _ | refine cN ?_ _ | refine cD ?_)))
    (case side2 => exact (Kd.R_reads' HO202.out).2.1)
    (case side3 => repeat (first | exact (Kd.R_reads' HO205.out).2.2 | (with_reducible first | refine cA ?_ _ | refine cN ?_ _ | refine cD ?_)))
    (case side4 => exact (Kd.R_reads' HO205.out).2.1)
    (case side5 => repeat (first | exact (Kd.R_reads' HO208.out).2.2 | (with_reducible first | refine cA ?_ _ | refine cN ?_ _ | refine cD ?_)))
    (case side6 => exact (Kd.R_reads' HO208.out).2.1)
    rintro e w16 ⟨rfl, hb⟩
    refine ⟨_, rfl, ?_⟩
    have n0_ := mk0 (Kd.R_below (by (with_reducible repeat (first | apply rA | apply rN | apply rD)); exact HO202.out) hb)
    have n1_ := mk0 (Kd.R_below (by (with_reducible repeat (first | apply rA | apply rN | apply rD)); exact HO205.out) hb)
    have n2_ := mk0 (Kd.R_below (by (with_reducible repeat (first | apply rA | apply rN | apply rD)); exact HO208.out) hb)
    have n3_ := mk0 (blk_below (g := gb209) (o := .cells #[.slice Ao7 t200.length co7, .slice Ao9 t203.length co9, .slice Ao10 t206.length co10] 24 (0, 0)) (by (with_reducible repeat (first | refine pN ?_ _ | refine pD ?_ | refine pA ?_ _)); exact BK209.out) hb)
    have n4_ := mk0 (below_step (by repeat (first | (with_reducible first | exact HB.out | apply bA | apply bN | apply bD | refine bS ?_ GE209.out) | exact HB.out)) hb)
    clear HO202
    clear HO205
    clear HO208
    clear BK209
    clear HB
    have HO202 := n0_
    have HO205 := n1_
    have HO208 := n2_
    have BK209 := n3_
    have HB := n4_
    clear n0_ n1_ n2_ n3_ n4_
    (try clear hb)
    (try clear hb2)
    (try clear hk)
    (try clear hi)
    refine hK.out _ _ ⟨(blk_cell BK209.out 0).trans rfl, (blk_cell BK209.out 1).trans rfl, (blk_cell BK209.out 2).trans rfl⟩ (fun hHeld => ?_)
    clear hK K
    refine norm_ (a' := ?_) ?_ ?_
    rotate_left
    · show Act.put _ (some 15) _ = _
      simp only [Act.put, qa, qb, qc, i64_w, i32_w]
      rfl
    refine one_ (i := 3) (N := some 17) #[true, true, true, true, false, false, false, false, false, false, false, false, false, false, false, false] rfl rfl (one_of HT_.out (by kernel_rfl)) (by decide) (fun K hK => ?_)
    refine goes_ Try.func20 (by kernel_rfl) rfl #[.agg #[.slice Ao7 t200.length co7, .slice Ao9 t203.length co9, .slice Ao10 t206.length co10]] (by rfl) rfl rfl (by (try simp only [List.map_toArray, List.map_cons, List.map_nil]); first | done | rfl | (simp only [List.length_drop, List.length_take]; rfl)) ?_
    with_reducible refine (spec_MemOk.calls k _ _ t200 _ _ t203 _ _ t206 t211 _ ?side1 ?side2 ?side3 ?side4 ?side5 ?side6 A12.out).mono ?_
    (case side1 => repeat (first | exact (Kd.R_reads' HO202.out).2.2 | (with_reducible first | refine cA ?_ _ | refine cN ?_ _ | refine cD ?_)))
    (case side2 => exact (Kd.R_reads' HO202.out).2.1)
    (case side3 => repeat (first | exact (Kd.R_reads' HO205.out).2.2 | (with_reducible first | refine cA ?_ _ | refine cN ?_ _ | refine cD ?_)))
    (case side4 => exact (Kd.R_reads' HO205.out).2.1)
    (case side5 => repeat (first | exact (Kd.R_reads' HO208.out).2.2 | (with_reducible first | refine cA ?_ _ | refine cN ?_ _ | refine cD ?_)))
    (case side6 => exact (Kd.R_reads' HO208.out).2.1)
    rintro e w17 ⟨rfl, hb⟩
    refine ⟨_, rfl, ?_⟩
    have n0_ := mk0 (Kd.R_below (by (with_reducible repeat (first | apply rA | apply rN | apply rD)); exact HO202.out) hb)
    have n1_ := mk0 (Kd.R_below (by (with_reducible repeat (first | apply rA | apply rN | apply rD)); exact HO205.out) hb)
    have n2_ := mk0 (Kd.R_below (by (with_reducible repeat (first | apply rA | apply rN | apply rD)); exact HO208.out) hb)
    have n3_ := mk0 (blk_below (g := gb209) (o := .cells #[.slice Ao7 t200.length co7, .slice Ao9 t203.length co9, .slice Ao10 t206.length co10] 24 (0, 0)) (by (with_reducible repeat (first | refine pN ?_ _ | refine pD ?_ | refine pA ?_ _)); exact BK209.out) hb)
    have n4_ := mk0 (below_step (by repeat (first | (with_reducible first | exact HB.out | apply bA | apply bN | apply bD | refine bS ?_ GE209.out) | exact HB.out)) hb)
    clear HO202
    clear HO205
    clear HO208
    clear BK209
    clear HB
    have HO202 := n0_
    have HO205 := n1_
    have HO208 := n2_
    have BK209 := n3_
    have HB := n4_
    clear n0_ n1_ n2_ n3_ n4_
    (try clear hb)
    (try clear hb2)
    (try clear hk)
    (try clear hi)
    refine hK.out _ _ ⟨(blk_cell BK209.out 0).trans rfl, (blk_cell BK209.out 1).trans rfl, (blk_cell BK209.out 2).trans rfl⟩ (fun hHeld => ?_)
    clear hK K
    refine norm_ (a' := ?_) ?_ ?_
    rotate_left
    · show Act.put _ (some 17) _ = _
      simp only [Act.put, qa, qb, qc, i64_w, i32_w]
      rfl
    refine pure_ (i := 4) (N := some 18) (v := ?_) (a' := ?_) #[true, true, true, true, true, false, false, false, false, false, false, false, false, false, false, false] rfl rfl (any_of HT_.out (by kernel_rfl)) (fun _ _ _ h => h) (Or.inl ⟨by rfl, ?_⟩) ?_ ?_
    rotate_left
    · intro w'
      go_simp
      with_reducible rfl
    rotate_left
    · simp only [Act.put, qa, qb, qc, i64_w, i32_w]
      rfl
    refine pure_ (i := 5) (N := some 19) (v := ?_) (a' := ?_) #[true, true, true, true, true, true, false, false, false, false, false, false, false, false, false, false] rfl rfl (any_of HT_.out (by kernel_rfl)) (fun _ _ _ h => h) (Or.inl ⟨by rfl, ?_⟩) ?_ ?_
    rotate_left
    · intro w'
      go_simp
      with_reducible rfl
    rotate_left
    · simp only [Act.put, qa, qb, qc, i64_w, i32_w]
      rfl
    refine pure_ (i := 6) (N := some 20) (v := undef) (a' := ?_) #[true, true, true, true, true, true, true, false, false, false, false, false, false, false, false, false] rfl rfl (any_of HT_.out (by kernel_rfl)) (fun _ _ _ h => h) (Or.inr ⟨by rfl, rfl⟩) ?_ ?_
    rotate_left
    · simp only [Act.put, qa, qb, qc, i64_w, i32_w]
      rfl
    refine pure_ (i := 7) (N := some 21) (v := undef) (a' := ?_) #[true, true, true, true, true, true, true, true, false, false, false, false, false, false, false, false] rfl rfl (any_of HT_.out (by kernel_rfl)) (fun _ _ _ h => h) (Or.inr ⟨by rfl, rfl⟩) ?_ ?_
    rotate_left
    · simp only [Act.put, qa, qb, qc, i64_w, i32_w]
      rfl
    refine pure_ (i := 8) (N := some 22) (v := undef) (a' := ?_) #[true, true, true, true, true, true, true, true, true, false, false, false, false, false, false, false] rfl rfl (any_of HT_.out (by kernel_rfl)) (fun _ _ _ h => h) (Or.inr ⟨by rfl, rfl⟩) ?_ ?_
    rotate_left
    · simp only [Act.put, qa, qb, qc, i64_w, i32_w]
      rfl
    refine pure_ (i := 9) (N := some 23) (v := undef) (a' := ?_) #[true, true, true, true, true, true, true, true, true, true, false, false, false, false, false, false] rfl rfl (any_of HT_.out (by kernel_rfl)) (fun _ _ _ h => h) (Or.inr ⟨by rfl, rfl⟩) ?_ ?_
    rotate_left
    · simp only [Act.put, qa, qb, qc, i64_w, i32_w]
      rfl
    refine pure_ (i := 10) (N := some 24) (v := ?_) (a' := ?_) #[true, true, true, true, true, true, true, true, true, true, true, false, false, false, false, false] rfl rfl (any_of HT_.out (by kernel_rfl)) (fun _ _ _ h => h) (Or.inl ⟨by rfl, ?_⟩) ?_ ?_
    rotate_left
    · intro w'
      go_simp
      with_reducible rfl
    rotate_left
    · simp only [Act.put, qa, qb, qc, i64_w, i32_w]
      rfl
    refine pure_ (i := 11) (N := some 25) (v := ?_) (a' := ?_) #[true, true, true, true, true, true, true, true, true, true, true, true, false, false, false, false] rfl rfl (any_of HT_.out (by kernel_rfl)) (fun _ _ _ h => h) (Or.inl ⟨by rfl, ?_⟩) ?_ ?_
    rotate_left
    · intro w'
      go_simp
      with_reducible rfl
    rotate_left
    · simp only [Act.put, qa, qb, qc, i64_w, i32_w]
      rfl
    refine pure_ (i := 12) (N := some 26) (v := undef) (a' := ?_) #[true, true, true, true, true, true, true, true, true, true, true, true, true, false, false, false] rfl rfl (any_of HT_.out (by kernel_rfl)) (fun _ _ _ h => h) (Or.inr ⟨by rfl, rfl⟩) ?_ ?_
    rotate_left
    · simp only [Act.put, qa, qb, qc, i64_w, i32_w]
      rfl
    refine pure_ (i := 13) (N := some 27) (v := undef) (a' := ?_) #[true, true, true, true, true, true, true, true, true, true, true, true, true, true, false, false] rfl rfl (any_of HT_.out (by kernel_rfl)) (fun _ _ _ h => h) (Or.inr ⟨by rfl, rfl⟩) ?_ ?_
    rotate_left
    · simp only [Act.put, qa, qb, qc, i64_w, i32_w]
      rfl
    refine pure_ (i := 14) (N := some 28) (v := undef) (a' := ?_) #[true, true, true, true, true, true, true, true, true, true, true, true, true, true, true, false] rfl rfl (any_of HT_.out (by kernel_rfl)) (fun _ _ _ h => h) (Or.inr ⟨by rfl, rfl⟩) ?_ ?_
    rotate_left
    · simp only [Act.put, qa, qb, qc, i64_w, i32_w]
      rfl
    refine pure_ (i := 15) (N := some 29) (v := ?_) (a' := ?_) #[true, true, true, true, true, true, true, true, true, true, true, true, true, true, true, true] rfl rfl (any_of HT_.out (by kernel_rfl)) (fun _ _ _ h => h) (Or.inl ⟨by rfl, ?_⟩) ?_ ?_
    rotate_left
    · intro w'
      go_simp
      with_reducible rfl
    rotate_left
    · simp only [Act.put, qa, qb, qc, i64_w, i32_w]
      rfl
    refine done_ (done_of HT_.out (by kernel_rfl)) ?_
    try go_wp2
    go_meet
    case rel => exact ⟨_, (true), (by first | rfl | (simp; done) | (simp [*]; done)), H', ⟨by first | omega | exact Nat.le_refl _⟩, ⟨by (with_reducible repeat (first | apply rA | apply rN | apply rD)); exact HO202.out⟩, ⟨by (with_reducible repeat (first | apply rA | apply rN | apply rD)); exact HO205.out⟩, ⟨by (with_reducible repeat (first | apply rA | apply rN | apply rD)); exact HO208.out⟩, ⟨by (with_reducible repeat (first | refine pN ?_ _ | refine pD ?_ | refine pA ?_ _)); exact BK209.out⟩, ⟨by repeat (first | (with_reducible first | exact HB.out | apply bA | apply bN | apply bD | refine bS ?_ GE209.out) | exact HB.out)⟩⟩
  rw [if_neg c13] at H
  have c13b0 : (t210 != t211) = false := by simpa using c13
  (try (have c13b1 : decide (t210 = t211) = true := by simpa using c13))
  (try (have c13b2 : (t210 == t211) = true := by simpa using c13))
  clear c13
  (first | rw [c13b0] | (simp only [i64_w, i32_w]; rw [c13b0]) | skip)
  replace H := Option.bind_eq_some_iff.mp H
  obtain ⟨⟨t212, t215, t218⟩, A180, H⟩ := H
  replace H : ((spec_MemOpen.f).bind fun bt221 => ((impl_MemSame.f k t212 t215 t218 bt221.1 bt221.2.1 bt221.2.2).bind fun t230 => (if t230 = true then ((spec_MemOk.f k t200 t203 t206).bind fun t231 => (laws_FnMemAll.j0 k (!t231) t200 t203 t206)) else (laws_FnMemAll.j0 k true t200 t203 t206)))) = some true := H
  have A18 := mk0 A180
  clear A180
  replace H := Option.bind_eq_some_iff.mp H
  obtain ⟨⟨t221, t224, t227⟩, A190, H⟩ := H
  replace H : ((impl_MemSame.f k t212 t215 t218 t221 t224 t227).bind fun t230 => (if t230 = true then ((spec_MemOk.f k t200 t203 t206).bind fun t231 => (laws_FnMemAll.j0 k (!t231) t200 t203 t206)) else (laws_FnMemAll.j0 k true t200 t203 t206))) = some true := H
  have A19 := mk0 A190
  clear A190
  replace H := Option.bind_eq_some_iff.mp H
  obtain ⟨t230, A200, H⟩ := H
  replace H : (if t230 = true then ((spec_MemOk.f k t200 t203 t206).bind fun t231 => (laws_FnMemAll.j0 k (!t231) t200 t203 t206)) else (laws_FnMemAll.j0 k true t200 t203 t206)) = some true := H
  have A20 := mk0 A200
  clear A200
  by_cases c21 : t230 = true
  rotate_left
  · replace c21 := Bool.eq_false_iff.mpr c21
    subst c21
    have H1 : (laws_FnMemAll.j0 k true t200 t203 t206) = some true := by rw [if_neg (show ¬ (false = true) by decide)] at H; exact H
    clear H
    have H := H1
    clear H1
    have H' := mk0 H
    clear H
    try go_wp2
    have n0_ : Aside0 (Kd.R (Kd.int .i64) 3 (((w6.setCell ⟨gb209, 0, none⟩ (.slice Ao7 t200.length co7)).setCell ⟨gb209, 1, none⟩ (.slice Ao9 t203.length co9)).setCell ⟨gb209, 2, none⟩ (.slice Ao10 t206.length co10)) w.heap.size (fun k_ => some k_ ≠ (.slice Ao9 t203.length co9 : Value).ownBlock ∧ some k_ ≠ (.slice Ao10 t206.length co10 : Value).ownBlock) (.slice Ao7 t200.length co7) t200) := ⟨by (with_reducible repeat (first | apply rA | apply rN | apply rD)); exact Kd.R_mono (Kd.R_far (p := ⟨gb209, 2, none⟩) (Kd.R_far (p := ⟨gb209, 1, none⟩) (Kd.R_far (p := ⟨gb209, 0, none⟩) (Kd.R_types HO202.out BK209.out (by decide)) (fun _ hk => hk.2) (.slice Ao7 t200.length co7)) (fun _ hk => hk.2) (.slice Ao9 t203.length co9)) (fun _ hk => hk.2) (.slice Ao10 t206.length co10)) (fun _ hk => ⟨hk.1.1, hk.1.2⟩)⟩
    have n1_ : Aside0 (Kd.R (Kd.int .i64) 3 (((w6.setCell ⟨gb209, 0, none⟩ (.slice Ao7 t200.length co7)).setCell ⟨gb209, 1, none⟩ (.slice Ao9 t203.length co9)).setCell ⟨gb209, 2, none⟩ (.slice Ao10 t206.length co10)) w.heap.size (fun k_ => some k_ ≠ (.slice Ao7 t200.length co7 : Value).ownBlock ∧ some k_ ≠ (.slice Ao10 t206.length co10 : Value).ownBlock) (.slice Ao9 t203.length co9) t203) := ⟨by (with_reducible repeat (first | apply rA | apply rN | apply rD)); exact Kd.R_mono (Kd.R_far (p := ⟨gb209, 2, none⟩) (Kd.R_far (p := ⟨gb209, 1, none⟩) (Kd.R_far (p := ⟨gb209, 0, none⟩) (Kd.R_types HO205.out BK209.out (by decide)) (fun _ hk => hk.2) (.slice Ao7 t200.length co7)) (fun _ hk => hk.2) (.slice Ao9 t203.length co9)) (fun _ hk => hk.2) (.slice Ao10 t206.length co10)) (fun _ hk => ⟨hk.1.1, hk.1.2⟩)⟩
    have n2_ : Aside0 (Kd.R (Kd.int .i64) 3 (((w6.setCell ⟨gb209, 0, none⟩ (.slice Ao7 t200.length co7)).setCell ⟨gb209, 1, none⟩ (.slice Ao9 t203.length co9)).setCell ⟨gb209, 2, none⟩ (.slice Ao10 t206.length co10)) w.heap.size (fun k_ => some k_ ≠ (.slice Ao7 t200.length co7 : Value).ownBlock ∧ some k_ ≠ (.slice Ao9 t203.length co9 : Value).ownBlock) (.slice Ao10 t206.length co10) t206) := ⟨by (with_reducible repeat (first | apply rA | apply rN | apply rD)); exact Kd.R_mono (Kd.R_far (p := ⟨gb209, 2, none⟩) (Kd.R_far (p := ⟨gb209, 1, none⟩) (Kd.R_far (p := ⟨gb209, 0, none⟩) (Kd.R_types HO208.out BK209.out (by decide)) (fun _ hk => hk.2) (.slice Ao7 t200.length co7)) (fun _ hk => hk.2) (.slice Ao9 t203.length co9)) (fun _ hk => hk.2) (.slice Ao10 t206.length co10)) (fun _ hk => ⟨hk.1.1, hk.1.2⟩)⟩
    have n3_ : Aside0 ((((w6.setCell ⟨gb209, 0, none⟩ (.slice Ao7 t200.length co7)).setCell ⟨gb209, 1, none⟩ (.slice Ao9 t203.length co9)).setCell ⟨gb209, 2, none⟩ (.slice Ao10 t206.length co10)).heap[gb209]? = some (.cells #[.slice Ao7 t200.length co7, .slice Ao9 t203.length co9, .slice Ao10 t206.length co10] 24 (0, 0))) := ⟨by (with_reducible repeat (first | refine pN ?_ _ | refine pD ?_ | refine pA ?_ _)); refine blk_put (cs := #[.slice Ao7 t200.length co7, .slice Ao9 t203.length co9, .slice none 0 0]) ?_ 2 _ rfl; (with_reducible repeat (first | refine pN ?_ _ | refine pD ?_ | refine pA ?_ _)); refine blk_put (cs := #[.slice Ao7 t200.length co7, .slice none 0 0, .slice none 0 0]) ?_ 1 _ rfl; (with_reducible repeat (first | refine pN ?_ _ | refine pD ?_ | refine pA ?_ _)); refine blk_put (cs := #[.slice none 0 0, .slice none 0 0, .slice none 0 0]) ?_ 0 _ rfl; (with_reducible repeat (first | refine pN ?_ _ | refine pD ?_ | refine pA ?_ _)); exact BK209.out⟩
    have n4_ : Aside0 (Below w.heap.size w (((w6.setCell ⟨gb209, 0, none⟩ (.slice Ao7 t200.length co7)).setCell ⟨gb209, 1, none⟩ (.slice Ao9 t203.length co9)).setCell ⟨gb209, 2, none⟩ (.slice Ao10 t206.length co10))) := ⟨by repeat (first | (with_reducible first | exact HB.out | apply bA | apply bN | apply bD | refine bS ?_ GE209.out) | exact HB.out)⟩
    (try clear HO202)
    (try clear HO205)
    (try clear HO208)
    (try clear BK209)
    (try clear HB)
    generalize (((w6.setCell ⟨gb209, 0, none⟩ (.slice Ao7 t200.length co7)).setCell ⟨gb209, 1, none⟩ (.slice Ao9 t203.length co9)).setCell ⟨gb209, 2, none⟩ (.slice Ao10 t206.length co10)) = w37 at n0_ n1_ n2_ n3_ n4_ ⊢
    have HO202 := n0_
    have HO205 := n1_
    have HO208 := n2_
    have BK209 := n3_
    have HB := n4_
    clear n0_ n1_ n2_ n3_ n4_
    have n0_ := mk0 (Kd.R_drew HO202.out)
    have n1_ := mk0 (Kd.R_drew HO205.out)
    have n2_ := mk0 (Kd.R_drew HO208.out)
    have n3_ := mk0 (blk_drew BK209.out)
    have n4_ := mk0 (below_drew1 HB.out)
    clear HO202
    clear HO205
    clear HO208
    clear BK209
    clear HB
    have HO202 := n0_
    have HO205 := n1_
    have HO208 := n2_
    have BK209 := n3_
    have HB := n4_
    clear n0_ n1_ n2_ n3_ n4_
    refine start_ (n := 16) (S := fun w' => w'.cell? ⟨gb209, 0, none⟩ = some (.slice Ao7 t200.length co7) ∧ w'.cell? ⟨gb209, 1, none⟩ = some (.slice Ao9 t203.length co9) ∧ w'.cell? ⟨gb209, 2, none⟩ = some (.slice Ao10 t206.length co10)) (ds := []) #[false, false, false, false, false, false, false, false, false, false, false, false, false, false, false, false] (by kernel_rfl) rfl rfl ⟨(blk_cell BK209.out 0).trans rfl, (blk_cell BK209.out 1).trans rfl, (blk_cell BK209.out 2).trans rfl⟩ (fun hHeld => ?_); refine with_tabW laws_FnMemAll.tab4 laws_FnMemAll.bits4 (fun HT_ HW_ => ?_)
    generalize w37.drew = w38 at HO202 HO205 HO208 BK209 HB hHeld ⊢
    refine take_ (i := 0) (N := some 14) (v := ?_) (a' := ?_) #[true, false, false, false, false, false, false, false, false, false, false, false, false, false, false, false] rfl rfl (take_ofW HT_.out HW_.out (by kernel_rfl)) (fun _ _ _ h => h) (Or.inl ⟨by rfl, ?_⟩) hHeld ?_ ?_
    rotate_left
    · rintro w' ⟨s0, s1, s2⟩
      go_simp
      with_reducible rfl
    rotate_left
    · simp only [Act.put, qa, qb, qc, i64_w, i32_w]
      rfl
    refine take_ (i := 2) (N := some 16) (v := ?_) (a' := ?_) #[true, false, true, false, false, false, false, false, false, false, false, false, false, false, false, false] rfl rfl (take_ofW HT_.out HW_.out (by kernel_rfl)) (fun _ _ _ h => h) (Or.inl ⟨by rfl, ?_⟩) hHeld ?_ ?_
    rotate_left
    · rintro w' ⟨s0, s1, s2⟩
      go_simp
      with_reducible rfl
    rotate_left
    · simp only [Act.put, qa, qb, qc, i64_w, i32_w]
      rfl
    refine one_ (i := 1) (N := some 15) #[true, true, true, false, false, false, false, false, false, false, false, false, false, false, false, false] rfl rfl (one_of HT_.out (by kernel_rfl)) (by decide) (fun K hK => ?_)
    refine goes_ Try.func21 (by kernel_rfl) rfl #[.agg #[.slice Ao7 t200.length co7, .slice Ao9 t203.length co9, .slice Ao10 t206.length co10]] (by rfl) rfl rfl (by (try simp only [List.map_toArray, List.map_cons, List.map_nil]); first | done | rfl | (simp only [List.length_drop, List.length_take]; rfl)) ?_
    with_reducible refine (impl_MemOk.calls _ _ t200 _ _ t203 _ _ t206 t210 _ ?side1 ?side2 ?side3 ?side4 ?side5 ?side6 A11.out).mono ?_
    (case side1 => repeat (first | exact (Kd.R_reads' HO202.out).2.2 | (with_reducible first | refine cA ?_ _ | refine cN ?_ _ | refine cD ?_)))
    (case side2 => exact (Kd.R_reads' HO202.out).2.1)
    (case side3 => repeat (first | exact (Kd.R_reads' HO205.out).2.2 | (with_reducible first | refine cA ?_ _ | refine cN ?_ _ | refine cD ?_)))
    (case side4 => exact (Kd.R_reads' HO205.out).2.1)
    (case side5 => repeat (first | exact (Kd.R_reads' HO208.out).2.2 | (with_reducible first | refine cA ?_ _ | refine cN ?_ _ | refine cD ?_)))
    (case side6 => exact (Kd.R_reads' HO208.out).2.1)
    rintro e w39 ⟨rfl, hb⟩
    refine ⟨_, rfl, ?_⟩
    have n0_ := mk0 (Kd.R_below (by (with_reducible repeat (first | apply rA | apply rN | apply rD)); exact HO202.out) hb)
    have n1_ := mk0 (Kd.R_below (by (with_reducible repeat (first | apply rA | apply rN | apply rD)); exact HO205.out) hb)
    have n2_ := mk0 (Kd.R_below (by (with_reducible repeat (first | apply rA | apply rN | apply rD)); exact HO208.out) hb)
    have n3_ := mk0 (blk_below (g := gb209) (o := .cells #[.slice Ao7 t200.length co7, .slice Ao9 t203.length co9, .slice Ao10 t206.length co10] 24 (0, 0)) (by (with_reducible repeat (first | refine pN ?_ _ | refine pD ?_ | refine pA ?_ _)); exact BK209.out) hb)
    have n4_ := mk0 (below_step (by repeat (first | (with_reducible first | exact HB.out | apply bA | apply bN | apply bD | refine bS ?_ GE209.out) | exact HB.out)) hb)
    clear HO202
    clear HO205
    clear HO208
    clear BK209
    clear HB
    have HO202 := n0_
    have HO205 := n1_
    have HO208 := n2_
    have BK209 := n3_
    have HB := n4_
    clear n0_ n1_ n2_ n3_ n4_
    (try clear hb)
    (try clear hb2)
    (try clear hk)
    (try clear hi)
    refine hK.out _ _ ⟨(blk_cell BK209.out 0).trans rfl, (blk_cell BK209.out 1).trans rfl, (blk_cell BK209.out 2).trans rfl⟩ (fun hHeld => ?_)
    clear hK K
    refine norm_ (a' := ?_) ?_ ?_
    rotate_left
    · show Act.put _ (some 15) _ = _
      simp only [Act.put, qa, qb, qc, i64_w, i32_w]
      rfl
    refine one_ (i := 3) (N := some 17) #[true, true, true, true, false, false, false, false, false, false, false, false, false, false, false, false] rfl rfl (one_of HT_.out (by kernel_rfl)) (by decide) (fun K hK => ?_)
    refine goes_ Try.func20 (by kernel_rfl) rfl #[.agg #[.slice Ao7 t200.length co7, .slice Ao9 t203.length co9, .slice Ao10 t206.length co10]] (by rfl) rfl rfl (by (try simp only [List.map_toArray, List.map_cons, List.map_nil]); first | done | rfl | (simp only [List.length_drop, List.length_take]; rfl)) ?_
    with_reducible refine (spec_MemOk.calls k _ _ t200 _ _ t203 _ _ t206 t211 _ ?side1 ?side2 ?side3 ?side4 ?side5 ?side6 A12.out).mono ?_
    (case side1 => repeat (first | exact (Kd.R_reads' HO202.out).2.2 | (with_reducible first | refine cA ?_ _ | refine cN ?_ _ | refine cD ?_)))
    (case side2 => exact (Kd.R_reads' HO202.out).2.1)
    (case side3 => repeat (first | exact (Kd.R_reads' HO205.out).2.2 | (with_reducible first | refine cA ?_ _ | refine cN ?_ _ | refine cD ?_)))
    (case side4 => exact (Kd.R_reads' HO205.out).2.1)
    (case side5 => repeat (first | exact (Kd.R_reads' HO208.out).2.2 | (with_reducible first | refine cA ?_ _ | refine cN ?_ _ | refine cD ?_)))
    (case side6 => exact (Kd.R_reads' HO208.out).2.1)
    rintro e w40 ⟨rfl, hb⟩
    refine ⟨_, rfl, ?_⟩
    have n0_ := mk0 (Kd.R_below (by (with_reducible repeat (first | apply rA | apply rN | apply rD)); exact HO202.out) hb)
    have n1_ := mk0 (Kd.R_below (by (with_reducible repeat (first | apply rA | apply rN | apply rD)); exact HO205.out) hb)
    have n2_ := mk0 (Kd.R_below (by (with_reducible repeat (first | apply rA | apply rN | apply rD)); exact HO208.out) hb)
    have n3_ := mk0 (blk_below (g := gb209) (o := .cells #[.slice Ao7 t200.length co7, .slice Ao9 t203.length co9, .slice Ao10 t206.length co10] 24 (0, 0)) (by (with_reducible repeat (first | refine pN ?_ _ | refine pD ?_ | refine pA ?_ _)); exact BK209.out) hb)
    have n4_ := mk0 (below_step (by repeat (first | (with_reducible first | exact HB.out | apply bA | apply bN | apply bD | refine bS ?_ GE209.out) | exact HB.out)) hb)
    clear HO202
    clear HO205
    clear HO208
    clear BK209
    clear HB
    have HO202 := n0_
    have HO205 := n1_
    have HO208 := n2_
    have BK209 := n3_
    have HB := n4_
    clear n0_ n1_ n2_ n3_ n4_
    (try clear hb)
    (try clear hb2)
    (try clear hk)
    (try clear hi)
    refine hK.out _ _ ⟨(blk_cell BK209.out 0).trans rfl, (blk_cell BK209.out 1).trans rfl, (blk_cell BK209.out 2).trans rfl⟩ (fun hHeld => ?_)
    clear hK K
    refine norm_ (a' := ?_) ?_ ?_
    rotate_left
    · show Act.put _ (some 17) _ = _
      simp only [Act.put, qa, qb, qc, i64_w, i32_w]
      rfl
    refine pure_ (i := 4) (N := some 18) (v := ?_) (a' := ?_) #[true, true, true, true, true, false, false, false, false, false, false, false, false, false, false, false] rfl rfl (any_of HT_.out (by kernel_rfl)) (fun _ _ _ h => h) (Or.inl ⟨by rfl, ?_⟩) ?_ ?_
    rotate_left
    · intro w'
      go_simp
      with_reducible rfl
    rotate_left
    · simp only [Act.put, qa, qb, qc, i64_w, i32_w]
      rfl
    refine pure_ (i := 5) (N := some 19) (v := ?_) (a' := ?_) #[true, true, true, true, true, true, false, false, false, false, false, false, false, false, false, false] rfl rfl (any_of HT_.out (by kernel_rfl)) (fun _ _ _ h => h) (Or.inl ⟨by rfl, ?_⟩) ?_ ?_
    rotate_left
    · intro w'
      go_simp
      with_reducible rfl
    rotate_left
    · simp only [Act.put, qa, qb, qc, i64_w, i32_w]
      rfl
    refine one_ (i := 6) (N := some 20) #[true, true, true, true, true, true, true, false, false, false, false, false, false, false, false, false] rfl rfl (one_of HT_.out (by kernel_rfl)) (by decide) (fun K hK => ?_)
    refine goes_ Try.func12 (by kernel_rfl) rfl #[] (by rfl) rfl rfl (by (try simp only [List.map_toArray, List.map_cons, List.map_nil]); first | done | rfl | (simp only [List.length_drop, List.length_take]; rfl)) ?_
    with_reducible refine (impl_MemOpen.calls  t212 t215 t218 _ A18.out).mono ?_
    rintro e w41 ⟨v213, v216, v219, rfl, ho0, ho1, ho2, hb⟩
    refine ⟨_, rfl, ?_⟩
    have n0_ := mk0 (Kd.R_below (by (with_reducible repeat (first | apply rA | apply rN | apply rD)); exact HO202.out) hb)
    have n1_ := mk0 (Kd.R_below (by (with_reducible repeat (first | apply rA | apply rN | apply rD)); exact HO205.out) hb)
    have n2_ := mk0 (Kd.R_below (by (with_reducible repeat (first | apply rA | apply rN | apply rD)); exact HO208.out) hb)
    have n3_ := mk0 (Kd.V_lower (Kd.V_mono (ok' := fun k_ => some k_ ≠ (.slice Ao7 t200.length co7 : Value).ownBlock ∧ some k_ ≠ (.slice Ao9 t203.length co9 : Value).ownBlock ∧ some k_ ≠ (.slice Ao10 t206.length co10 : Value).ownBlock ∧ k_ ≠ gb209) ho0 (fun k_ hk_ => ⟨(Kd.fresh' (Kd.R_lt (by (with_reducible repeat (first | apply rA | apply rN | apply rD)); exact HO202.out)) k_ hk_), (Kd.fresh' (Kd.R_lt (by (with_reducible repeat (first | apply rA | apply rN | apply rD)); exact HO205.out)) k_ hk_), (Kd.fresh' (Kd.R_lt (by (with_reducible repeat (first | apply rA | apply rN | apply rD)); exact HO208.out)) k_ hk_), (Kd.freshB (g := gb209) (o := .cells #[.slice Ao7 t200.length co7, .slice Ao9 t203.length co9, .slice Ao10 t206.length co10] 24 (0, 0)) (by (with_reducible repeat (first | refine pN ?_ _ | refine pD ?_ | refine pA ?_ _)); exact BK209.out) k_ hk_)⟩)) (below_size (by repeat (first | (with_reducible first | exact HB.out | apply bA | apply bN | apply bD | refine bS ?_ GE209.out) | exact HB.out))))
    have n4_ := mk0 (Kd.V_lower (Kd.V_mono (ok' := fun k_ => some k_ ≠ (.slice Ao7 t200.length co7 : Value).ownBlock ∧ some k_ ≠ (.slice Ao9 t203.length co9 : Value).ownBlock ∧ some k_ ≠ (.slice Ao10 t206.length co10 : Value).ownBlock ∧ k_ ≠ gb209) ho1 (fun k_ hk_ => ⟨(Kd.fresh' (Kd.R_lt (by (with_reducible repeat (first | apply rA | apply rN | apply rD)); exact HO202.out)) k_ hk_), (Kd.fresh' (Kd.R_lt (by (with_reducible repeat (first | apply rA | apply rN | apply rD)); exact HO205.out)) k_ hk_), (Kd.fresh' (Kd.R_lt (by (with_reducible repeat (first | apply rA | apply rN | apply rD)); exact HO208.out)) k_ hk_), (Kd.freshB (g := gb209) (o := .cells #[.slice Ao7 t200.length co7, .slice Ao9 t203.length co9, .slice Ao10 t206.length co10] 24 (0, 0)) (by (with_reducible repeat (first | refine pN ?_ _ | refine pD ?_ | refine pA ?_ _)); exact BK209.out) k_ hk_)⟩)) (below_size (by repeat (first | (with_reducible first | exact HB.out | apply bA | apply bN | apply bD | refine bS ?_ GE209.out) | exact HB.out))))
    have n5_ := mk0 (Kd.V_lower (Kd.V_mono (ok' := fun k_ => some k_ ≠ (.slice Ao7 t200.length co7 : Value).ownBlock ∧ some k_ ≠ (.slice Ao9 t203.length co9 : Value).ownBlock ∧ some k_ ≠ (.slice Ao10 t206.length co10 : Value).ownBlock ∧ k_ ≠ gb209) ho2 (fun k_ hk_ => ⟨(Kd.fresh' (Kd.R_lt (by (with_reducible repeat (first | apply rA | apply rN | apply rD)); exact HO202.out)) k_ hk_), (Kd.fresh' (Kd.R_lt (by (with_reducible repeat (first | apply rA | apply rN | apply rD)); exact HO205.out)) k_ hk_), (Kd.fresh' (Kd.R_lt (by (with_reducible repeat (first | apply rA | apply rN | apply rD)); exact HO208.out)) k_ hk_), (Kd.freshB (g := gb209) (o := .cells #[.slice Ao7 t200.length co7, .slice Ao9 t203.length co9, .slice Ao10 t206.length co10] 24 (0, 0)) (by (with_reducible repeat (first | refine pN ?_ _ | refine pD ?_ | refine pA ?_ _)); exact BK209.out) k_ hk_)⟩)) (below_size (by repeat (first | (with_reducible first | exact HB.out | apply bA | apply bN | apply bD | refine bS ?_ GE209.out) | exact HB.out))))
    have n6_ := mk0 (blk_below (g := gb209) (o := .cells #[.slice Ao7 t200.length co7, .slice Ao9 t203.length co9, .slice Ao10 t206.length co10] 24 (0, 0)) (by (with_reducible repeat (first | refine pN ?_ _ | refine pD ?_ | refine pA ?_ _)); exact BK209.out) hb)
    have n7_ := mk0 (below_step (by repeat (first | (with_reducible first | exact HB.out | apply bA | apply bN | apply bD | refine bS ?_ GE209.out) | exact HB.out)) hb)
    clear HO202
    clear HO205
    clear HO208
    clear BK209
    clear HB
    have HO202 := n0_
    have HO205 := n1_
    have HO208 := n2_
    have HO214 := n3_
    have HO217 := n4_
    have HO220 := n5_
    have BK209 := n6_
    have HB := n7_
    clear n0_ n1_ n2_ n3_ n4_ n5_ n6_ n7_
    (try clear hb)
    (try clear hb2)
    (try clear hk)
    (try clear hi)
    (try clear ho0)
    (try clear ho1)
    (try clear ho2)
    refine hK.out _ _ ⟨(blk_cell BK209.out 0).trans rfl, (blk_cell BK209.out 1).trans rfl, (blk_cell BK209.out 2).trans rfl⟩ (fun hHeld => ?_)
    clear hK K
    refine norm_ (a' := ?_) ?_ ?_
    rotate_left
    · show Act.put _ (some 20) _ = _
      simp only [Act.put, qa, qb, qc, i64_w, i32_w]
      rfl
    refine one_ (i := 7) (N := some 21) #[true, true, true, true, true, true, true, true, false, false, false, false, false, false, false, false] rfl rfl (one_of HT_.out (by kernel_rfl)) (by decide) (fun K hK => ?_)
    refine goes_ Try.func11 (by kernel_rfl) rfl #[] (by rfl) rfl rfl (by (try simp only [List.map_toArray, List.map_cons, List.map_nil]); first | done | rfl | (simp only [List.length_drop, List.length_take]; rfl)) ?_
    with_reducible refine (spec_MemOpen.calls  t221 t224 t227 _ A19.out).mono ?_
    rintro e w42 ⟨v222, v225, v228, rfl, ho0, ho1, ho2, hb⟩
    refine ⟨_, rfl, ?_⟩
    have n0_ := mk0 (Kd.R_mono (Kd.R_told (Kd.R_told (Kd.R_told (Kd.R_old (by (with_reducible repeat (first | apply rA | apply rN | apply rD)); exact HO202.out) hb) (Kd.R_base ho0)) (Kd.R_base ho1)) (Kd.R_base ho2)) (fun _ h_ => h_.1))
    have n1_ := mk0 (Kd.R_mono (Kd.R_told (Kd.R_told (Kd.R_told (Kd.R_old (by (with_reducible repeat (first | apply rA | apply rN | apply rD)); exact HO205.out) hb) (Kd.R_base ho0)) (Kd.R_base ho1)) (Kd.R_base ho2)) (fun _ h_ => h_.1))
    have n2_ := mk0 (Kd.R_mono (Kd.R_told (Kd.R_told (Kd.R_told (Kd.R_old (by (with_reducible repeat (first | apply rA | apply rN | apply rD)); exact HO208.out) hb) (Kd.R_base ho0)) (Kd.R_base ho1)) (Kd.R_base ho2)) (fun _ h_ => h_.1))
    have n3_ := mk0 (Kd.V_mono (Kd.V_told (Kd.V_told (Kd.V_told (Kd.V_old (by (with_reducible repeat (first | apply vA | apply vN | apply vD)); exact HO214.out) hb) (Kd.R_base ho0)) (Kd.R_base ho1)) (Kd.R_base ho2)) (fun _ h_ => h_.1))
    have n4_ := mk0 (Kd.V_mono (Kd.V_told (Kd.V_told (Kd.V_told (Kd.V_old (by (with_reducible repeat (first | apply vA | apply vN | apply vD)); exact HO217.out) hb) (Kd.R_base ho0)) (Kd.R_base ho1)) (Kd.R_base ho2)) (fun _ h_ => h_.1))
    have n5_ := mk0 (Kd.V_mono (Kd.V_told (Kd.V_told (Kd.V_told (Kd.V_old (by (with_reducible repeat (first | apply vA | apply vN | apply vD)); exact HO220.out) hb) (Kd.R_base ho0)) (Kd.R_base ho1)) (Kd.R_base ho2)) (fun _ h_ => h_.1))
    have n6_ := mk0 (Kd.R_lower (Kd.R_new' (Kd.R_new' (Kd.R_new' ho0 (Kd.R_lt (by (with_reducible repeat (first | apply rA | apply rN | apply rD)); exact HO202.out))) (Kd.R_lt (by (with_reducible repeat (first | apply rA | apply rN | apply rD)); exact HO205.out))) (Kd.R_lt (by (with_reducible repeat (first | apply rA | apply rN | apply rD)); exact HO208.out))) (below_size (by repeat (first | (with_reducible first | exact HB.out | apply bA | apply bN | apply bD | refine bS ?_ GE209.out) | exact HB.out))))
    have n7_ := mk0 (Kd.R_lower (Kd.R_new' (Kd.R_new' (Kd.R_new' ho1 (Kd.R_lt (by (with_reducible repeat (first | apply rA | apply rN | apply rD)); exact HO202.out))) (Kd.R_lt (by (with_reducible repeat (first | apply rA | apply rN | apply rD)); exact HO205.out))) (Kd.R_lt (by (with_reducible repeat (first | apply rA | apply rN | apply rD)); exact HO208.out))) (below_size (by repeat (first | (with_reducible first | exact HB.out | apply bA | apply bN | apply bD | refine bS ?_ GE209.out) | exact HB.out))))
    have n8_ := mk0 (Kd.R_lower (Kd.R_new' (Kd.R_new' (Kd.R_new' ho2 (Kd.R_lt (by (with_reducible repeat (first | apply rA | apply rN | apply rD)); exact HO202.out))) (Kd.R_lt (by (with_reducible repeat (first | apply rA | apply rN | apply rD)); exact HO205.out))) (Kd.R_lt (by (with_reducible repeat (first | apply rA | apply rN | apply rD)); exact HO208.out))) (below_size (by repeat (first | (with_reducible first | exact HB.out | apply bA | apply bN | apply bD | refine bS ?_ GE209.out) | exact HB.out))))
    have n9_ := mk0 (blk_below (g := gb209) (o := .cells #[.slice Ao7 t200.length co7, .slice Ao9 t203.length co9, .slice Ao10 t206.length co10] 24 (0, 0)) (by (with_reducible repeat (first | refine pN ?_ _ | refine pD ?_ | refine pA ?_ _)); exact BK209.out) hb)
    have n10_ := mk0 (below_step (by repeat (first | (with_reducible first | exact HB.out | apply bA | apply bN | apply bD | refine bS ?_ GE209.out) | exact HB.out)) hb)
    clear HO202
    clear HO205
    clear HO208
    clear HO214
    clear HO217
    clear HO220
    clear BK209
    clear HB
    have HO202 := n0_
    have HO205 := n1_
    have HO208 := n2_
    have HO214 := n3_
    have HO217 := n4_
    have HO220 := n5_
    have HO223 := n6_
    have HO226 := n7_
    have HO229 := n8_
    have BK209 := n9_
    have HB := n10_
    clear n0_ n1_ n2_ n3_ n4_ n5_ n6_ n7_ n8_ n9_ n10_
    (try clear hb)
    (try clear hb2)
    (try clear hk)
    (try clear hi)
    (try clear ho0)
    (try clear ho1)
    (try clear ho2)
    obtain ⟨Ao43, co43, eo43⟩ := Kd.V_slice HO214.out
    (first | subst eo43 | (injection eo43 with f1_ f2_ f3_; have f4_ := f1_.symm; have f5_ := f3_.symm; clear f1_ f2_ f3_; subst f4_; subst f5_))
    obtain ⟨Ao44, co44, eo44⟩ := Kd.V_slice HO217.out
    (first | subst eo44 | (injection eo44 with f1_ f2_ f3_; have f4_ := f1_.symm; have f5_ := f3_.symm; clear f1_ f2_ f3_; subst f4_; subst f5_))
    obtain ⟨Ao45, co45, eo45⟩ := Kd.V_slice HO220.out
    (first | subst eo45 | (injection eo45 with f1_ f2_ f3_; have f4_ := f1_.symm; have f5_ := f3_.symm; clear f1_ f2_ f3_; subst f4_; subst f5_))
    obtain ⟨Ao46, co46, eo46⟩ := Kd.R_slice HO223.out
    (first | subst eo46 | (injection eo46 with f1_ f2_ f3_; have f4_ := f1_.symm; have f5_ := f3_.symm; clear f1_ f2_ f3_; subst f4_; subst f5_))
    obtain ⟨Ao47, co47, eo47⟩ := Kd.R_slice HO226.out
    (first | subst eo47 | (injection eo47 with f1_ f2_ f3_; have f4_ := f1_.symm; have f5_ := f3_.symm; clear f1_ f2_ f3_; subst f4_; subst f5_))
    obtain ⟨Ao48, co48, eo48⟩ := Kd.R_slice HO229.out
    (first | subst eo48 | (injection eo48 with f1_ f2_ f3_; have f4_ := f1_.symm; have f5_ := f3_.symm; clear f1_ f2_ f3_; subst f4_; subst f5_))
    refine hK.out _ _ ⟨(blk_cell BK209.out 0).trans rfl, (blk_cell BK209.out 1).trans rfl, (blk_cell BK209.out 2).trans rfl⟩ (fun hHeld => ?_)
    clear hK K
    refine norm_ (a' := ?_) ?_ ?_
    rotate_left
    · show Act.put _ (some 21) _ = _
      simp only [Act.put, qa, qb, qc, i64_w, i32_w]
      rfl
    refine one_ (i := 8) (N := some 22) #[true, true, true, true, true, true, true, true, true, false, false, false, false, false, false, false] rfl rfl (one_of HT_.out (by kernel_rfl)) (by decide) (fun K hK => ?_)
    refine goes_ Try.func19 (by kernel_rfl) rfl #[.agg #[.slice Ao43 t212.length co43, .slice Ao44 t215.length co44, .slice Ao45 t218.length co45], .agg #[.slice Ao46 t221.length co46, .slice Ao47 t224.length co47, .slice Ao48 t227.length co48]] (by rfl) rfl rfl (by (try simp only [List.map_toArray, List.map_cons, List.map_nil]); first | done | rfl | (simp only [List.length_drop, List.length_take]; rfl)) ?_
    with_reducible refine (impl_MemSame.calls k _ _ t212 _ _ t215 _ _ t218 _ _ t221 _ _ t224 _ _ t227 false _ ?side1 ?side2 ?side3 ?side4 ?side5 ?side6 ?side7 ?side8 ?side9 ?side10 ?side11 ?side12 A20.out).mono ?_
    (case side1 => repeat (first | exact (Kd.V_reads' HO214.out).2.2 | (with_reducible first | refine cA ?_ _ | refine cN ?_ _ | refine cD ?_)))
    (case side2 => exact (Kd.V_reads' HO214.out).2.1)
    (case side3 => repeat (first | exact (Kd.V_reads' HO217.out).2.2 | (with_reducible first | refine cA ?_ _ | refine cN ?_ _ | refine cD ?_)))
    (case side4 => exact (Kd.V_reads' HO217.out).2.1)
    (case side5 => repeat (first | exact (Kd.V_reads' HO220.out).2.2 | (with_reducible first | refine cA ?_ _ | refine cN ?_ _ | refine cD ?_)))
    (case side6 => exact (Kd.V_reads' HO220.out).2.1)
    (case side7 => repeat (first | exact (Kd.R_reads' HO223.out).2.2 | (with_reducible first | refine cA ?_ _ | refine cN ?_ _ | refine cD ?_)))
    (case side8 => exact (Kd.R_reads' HO223.out).2.1)
    (case side9 => repeat (first | exact (Kd.R_reads' HO226.out).2.2 | (with_reducible first | refine cA ?_ _ | refine cN ?_ _ | refine cD ?_)))
    (case side10 => exact (Kd.R_reads' HO226.out).2.1)
    (case side11 => repeat (first | exact (Kd.R_reads' HO229.out).2.2 | (with_reducible first | refine cA ?_ _ | refine cN ?_ _ | refine cD ?_)))
    (case side12 => exact (Kd.R_reads' HO229.out).2.1)
    rintro e w49 ⟨rfl, hb⟩
    refine ⟨_, rfl, ?_⟩
    have n0_ := mk0 (Kd.R_below (by (with_reducible repeat (first | apply rA | apply rN | apply rD)); exact HO202.out) hb)
    have n1_ := mk0 (Kd.R_below (by (with_reducible repeat (first | apply rA | apply rN | apply rD)); exact HO205.out) hb)
    have n2_ := mk0 (Kd.R_below (by (with_reducible repeat (first | apply rA | apply rN | apply rD)); exact HO208.out) hb)
    have n3_ := mk0 (Kd.V_below (by (with_reducible repeat (first | apply vA | apply vN | apply vD)); exact HO214.out) hb)
    have n4_ := mk0 (Kd.V_below (by (with_reducible repeat (first | apply vA | apply vN | apply vD)); exact HO217.out) hb)
    have n5_ := mk0 (Kd.V_below (by (with_reducible repeat (first | apply vA | apply vN | apply vD)); exact HO220.out) hb)
    have n6_ := mk0 (Kd.R_below (by (with_reducible repeat (first | apply rA | apply rN | apply rD)); exact HO223.out) hb)
    have n7_ := mk0 (Kd.R_below (by (with_reducible repeat (first | apply rA | apply rN | apply rD)); exact HO226.out) hb)
    have n8_ := mk0 (Kd.R_below (by (with_reducible repeat (first | apply rA | apply rN | apply rD)); exact HO229.out) hb)
    have n9_ := mk0 (blk_below (g := gb209) (o := .cells #[.slice Ao7 t200.length co7, .slice Ao9 t203.length co9, .slice Ao10 t206.length co10] 24 (0, 0)) (by (with_reducible repeat (first | refine pN ?_ _ | refine pD ?_ | refine pA ?_ _)); exact BK209.out) hb)
    have n10_ := mk0 (below_step (by repeat (first | (with_reducible first | exact HB.out | apply bA | apply bN | apply bD | refine bS ?_ GE209.out) | exact HB.out)) hb)
    clear HO202
    clear HO205
    clear HO208
    clear HO214
    clear HO217
    clear HO220
    clear HO223
    clear HO226
    clear HO229
    clear BK209
    clear HB
    have HO202 := n0_
    have HO205 := n1_
    have HO208 := n2_
    have HO214 := n3_
    have HO217 := n4_
    have HO220 := n5_
    have HO223 := n6_
    have HO226 := n7_
    have HO229 := n8_
    have BK209 := n9_
    have HB := n10_
    clear n0_ n1_ n2_ n3_ n4_ n5_ n6_ n7_ n8_ n9_ n10_
    (try clear hb)
    (try clear hb2)
    (try clear hk)
    (try clear hi)
    refine hK.out _ _ ⟨(blk_cell BK209.out 0).trans rfl, (blk_cell BK209.out 1).trans rfl, (blk_cell BK209.out 2).trans rfl⟩ (fun hHeld => ?_)
    clear hK K
    refine norm_ (a' := ?_) ?_ ?_
    rotate_left
    · show Act.put _ (some 22) _ = _
      simp only [Act.put, qa, qb, qc, i64_w, i32_w]
      rfl
    refine pure_ (i := 9) (N := some 23) (v := ?_) (a' := ?_) #[true, true, true, true, true, true, true, true, true, true, false, false, false, false, false, false] rfl rfl (any_of HT_.out (by kernel_rfl)) (fun _ _ _ h => h) (Or.inl ⟨by rfl, ?_⟩) ?_ ?_
    rotate_left
    · intro w'
      go_simp
      with_reducible rfl
    rotate_left
    · simp only [Act.put, qa, qb, qc, i64_w, i32_w]
      rfl
    refine pure_ (i := 10) (N := some 24) (v := ?_) (a' := ?_) #[true, true, true, true, true, true, true, true, true, true, true, false, false, false, false, false] rfl rfl (any_of HT_.out (by kernel_rfl)) (fun _ _ _ h => h) (Or.inl ⟨by rfl, ?_⟩) ?_ ?_
    rotate_left
    · intro w'
      go_simp
      with_reducible rfl
    rotate_left
    · simp only [Act.put, qa, qb, qc, i64_w, i32_w]
      rfl
    refine pure_ (i := 11) (N := some 25) (v := ?_) (a' := ?_) #[true, true, true, true, true, true, true, true, true, true, true, true, false, false, false, false] rfl rfl (any_of HT_.out (by kernel_rfl)) (fun _ _ _ h => h) (Or.inl ⟨by rfl, ?_⟩) ?_ ?_
    rotate_left
    · intro w'
      go_simp
      with_reducible rfl
    rotate_left
    · simp only [Act.put, qa, qb, qc, i64_w, i32_w]
      rfl
    refine pure_ (i := 12) (N := some 26) (v := undef) (a' := ?_) #[true, true, true, true, true, true, true, true, true, true, true, true, true, false, false, false] rfl rfl (any_of HT_.out (by kernel_rfl)) (fun _ _ _ h => h) (Or.inr ⟨by rfl, rfl⟩) ?_ ?_
    rotate_left
    · simp only [Act.put, qa, qb, qc, i64_w, i32_w]
      rfl
    refine pure_ (i := 13) (N := some 27) (v := undef) (a' := ?_) #[true, true, true, true, true, true, true, true, true, true, true, true, true, true, false, false] rfl rfl (any_of HT_.out (by kernel_rfl)) (fun _ _ _ h => h) (Or.inr ⟨by rfl, rfl⟩) ?_ ?_
    rotate_left
    · simp only [Act.put, qa, qb, qc, i64_w, i32_w]
      rfl
    refine pure_ (i := 14) (N := some 28) (v := undef) (a' := ?_) #[true, true, true, true, true, true, true, true, true, true, true, true, true, true, true, false] rfl rfl (any_of HT_.out (by kernel_rfl)) (fun _ _ _ h => h) (Or.inr ⟨by rfl, rfl⟩) ?_ ?_
    rotate_left
    · simp only [Act.put, qa, qb, qc, i64_w, i32_w]
      rfl
    refine pure_ (i := 15) (N := some 29) (v := ?_) (a' := ?_) #[true, true, true, true, true, true, true, true, true, true, true, true, true, true, true, true] rfl rfl (any_of HT_.out (by kernel_rfl)) (fun _ _ _ h => h) (Or.inl ⟨by rfl, ?_⟩) ?_ ?_
    rotate_left
    · intro w'
      go_simp
      with_reducible rfl
    rotate_left
    · simp only [Act.put, qa, qb, qc, i64_w, i32_w]
      rfl
    refine done_ (done_of HT_.out (by kernel_rfl)) ?_
    try go_wp2
    go_meet
    case rel => exact ⟨_, (true), (by first | rfl | (simp; done) | (simp [*]; done)), H', ⟨by first | omega | exact Nat.le_refl _⟩, ⟨by (with_reducible repeat (first | apply rA | apply rN | apply rD)); exact Kd.R_mono HO202.out (fun _ hk => ⟨hk.1.1.1.1, hk.1.1.1.2⟩)⟩, ⟨by (with_reducible repeat (first | apply rA | apply rN | apply rD)); exact Kd.R_mono HO205.out (fun _ hk => ⟨hk.1.1.1.1, hk.1.1.1.2⟩)⟩, ⟨by (with_reducible repeat (first | apply rA | apply rN | apply rD)); exact Kd.R_mono HO208.out (fun _ hk => ⟨hk.1.1.1.1, hk.1.1.1.2⟩)⟩, ⟨by (with_reducible repeat (first | refine pN ?_ _ | refine pD ?_ | refine pA ?_ _)); exact BK209.out⟩, ⟨by repeat (first | (with_reducible first | exact HB.out | apply bA | apply bN | apply bD | refine bS ?_ GE209.out) | exact HB.out)⟩⟩
  subst c21
  have H1 : ((spec_MemOk.f k t200 t203 t206).bind fun t231 => (laws_FnMemAll.j0 k (!t231) t200 t203 t206)) = some true := by rw [if_pos rfl] at H; exact H
  clear H
  have H := H1
  clear H1
  replace H := Option.bind_eq_some_iff.mp H
  obtain ⟨t231, A220, H⟩ := H
  replace H : (laws_FnMemAll.j0 k (!t231) t200 t203 t206) = some true := H
  have A22 := mk0 A220
  clear A220
  have H' := mk0 H
  clear H
  try go_wp2
  have n0_ : Aside0 (Kd.R (Kd.int .i64) 3 (((w6.setCell ⟨gb209, 0, none⟩ (.slice Ao7 t200.length co7)).setCell ⟨gb209, 1, none⟩ (.slice Ao9 t203.length co9)).setCell ⟨gb209, 2, none⟩ (.slice Ao10 t206.length co10)) w.heap.size (fun k_ => some k_ ≠ (.slice Ao9 t203.length co9 : Value).ownBlock ∧ some k_ ≠ (.slice Ao10 t206.length co10 : Value).ownBlock) (.slice Ao7 t200.length co7) t200) := ⟨by (with_reducible repeat (first | apply rA | apply rN | apply rD)); exact Kd.R_mono (Kd.R_far (p := ⟨gb209, 2, none⟩) (Kd.R_far (p := ⟨gb209, 1, none⟩) (Kd.R_far (p := ⟨gb209, 0, none⟩) (Kd.R_types HO202.out BK209.out (by decide)) (fun _ hk => hk.2) (.slice Ao7 t200.length co7)) (fun _ hk => hk.2) (.slice Ao9 t203.length co9)) (fun _ hk => hk.2) (.slice Ao10 t206.length co10)) (fun _ hk => ⟨hk.1.1, hk.1.2⟩)⟩
  have n1_ : Aside0 (Kd.R (Kd.int .i64) 3 (((w6.setCell ⟨gb209, 0, none⟩ (.slice Ao7 t200.length co7)).setCell ⟨gb209, 1, none⟩ (.slice Ao9 t203.length co9)).setCell ⟨gb209, 2, none⟩ (.slice Ao10 t206.length co10)) w.heap.size (fun k_ => some k_ ≠ (.slice Ao7 t200.length co7 : Value).ownBlock ∧ some k_ ≠ (.slice Ao10 t206.length co10 : Value).ownBlock) (.slice Ao9 t203.length co9) t203) := ⟨by (with_reducible repeat (first | apply rA | apply rN | apply rD)); exact Kd.R_mono (Kd.R_far (p := ⟨gb209, 2, none⟩) (Kd.R_far (p := ⟨gb209, 1, none⟩) (Kd.R_far (p := ⟨gb209, 0, none⟩) (Kd.R_types HO205.out BK209.out (by decide)) (fun _ hk => hk.2) (.slice Ao7 t200.length co7)) (fun _ hk => hk.2) (.slice Ao9 t203.length co9)) (fun _ hk => hk.2) (.slice Ao10 t206.length co10)) (fun _ hk => ⟨hk.1.1, hk.1.2⟩)⟩
  have n2_ : Aside0 (Kd.R (Kd.int .i64) 3 (((w6.setCell ⟨gb209, 0, none⟩ (.slice Ao7 t200.length co7)).setCell ⟨gb209, 1, none⟩ (.slice Ao9 t203.length co9)).setCell ⟨gb209, 2, none⟩ (.slice Ao10 t206.length co10)) w.heap.size (fun k_ => some k_ ≠ (.slice Ao7 t200.length co7 : Value).ownBlock ∧ some k_ ≠ (.slice Ao9 t203.length co9 : Value).ownBlock) (.slice Ao10 t206.length co10) t206) := ⟨by (with_reducible repeat (first | apply rA | apply rN | apply rD)); exact Kd.R_mono (Kd.R_far (p := ⟨gb209, 2, none⟩) (Kd.R_far (p := ⟨gb209, 1, none⟩) (Kd.R_far (p := ⟨gb209, 0, none⟩) (Kd.R_types HO208.out BK209.out (by decide)) (fun _ hk => hk.2) (.slice Ao7 t200.length co7)) (fun _ hk => hk.2) (.slice Ao9 t203.length co9)) (fun _ hk => hk.2) (.slice Ao10 t206.length co10)) (fun _ hk => ⟨hk.1.1, hk.1.2⟩)⟩
  have n3_ : Aside0 ((((w6.setCell ⟨gb209, 0, none⟩ (.slice Ao7 t200.length co7)).setCell ⟨gb209, 1, none⟩ (.slice Ao9 t203.length co9)).setCell ⟨gb209, 2, none⟩ (.slice Ao10 t206.length co10)).heap[gb209]? = some (.cells #[.slice Ao7 t200.length co7, .slice Ao9 t203.length co9, .slice Ao10 t206.length co10] 24 (0, 0))) := ⟨by (with_reducible repeat (first | refine pN ?_ _ | refine pD ?_ | refine pA ?_ _)); refine blk_put (cs := #[.slice Ao7 t200.length co7, .slice Ao9 t203.length co9, .slice none 0 0]) ?_ 2 _ rfl; (with_reducible repeat (first | refine pN ?_ _ | refine pD ?_ | refine pA ?_ _)); refine blk_put (cs := #[.slice Ao7 t200.length co7, .slice none 0 0, .slice none 0 0]) ?_ 1 _ rfl; (with_reducible repeat (first | refine pN ?_ _ | refine pD ?_ | refine pA ?_ _)); refine blk_put (cs := #[.slice none 0 0, .slice none 0 0, .slice none 0 0]) ?_ 0 _ rfl; (with_reducible repeat (first | refine pN ?_ _ | refine pD ?_ | refine pA ?_ _)); exact BK209.out⟩
  have n4_ : Aside0 (Below w.heap.size w (((w6.setCell ⟨gb209, 0, none⟩ (.slice Ao7 t200.length co7)).setCell ⟨gb209, 1, none⟩ (.slice Ao9 t203.length co9)).setCell ⟨gb209, 2, none⟩ (.slice Ao10 t206.length co10))) := ⟨by repeat (first | (with_reducible first | exact HB.out | apply bA | apply bN | apply bD | refine bS ?_ GE209.out) | exact HB.out)⟩
  (try clear HO202)
  (try clear HO205)
  (try clear HO208)
  (try clear BK209)
  (try clear HB)
  generalize (((w6.setCell ⟨gb209, 0, none⟩ (.slice Ao7 t200.length co7)).setCell ⟨gb209, 1, none⟩ (.slice Ao9 t203.length co9)).setCell ⟨gb209, 2, none⟩ (.slice Ao10 t206.length co10)) = w23 at n0_ n1_ n2_ n3_ n4_ ⊢
  have HO202 := n0_
  have HO205 := n1_
  have HO208 := n2_
  have BK209 := n3_
  have HB := n4_
  clear n0_ n1_ n2_ n3_ n4_
  have n0_ := mk0 (Kd.R_drew HO202.out)
  have n1_ := mk0 (Kd.R_drew HO205.out)
  have n2_ := mk0 (Kd.R_drew HO208.out)
  have n3_ := mk0 (blk_drew BK209.out)
  have n4_ := mk0 (below_drew1 HB.out)
  clear HO202
  clear HO205
  clear HO208
  clear BK209
  clear HB
  have HO202 := n0_
  have HO205 := n1_
  have HO208 := n2_
  have BK209 := n3_
  have HB := n4_
  clear n0_ n1_ n2_ n3_ n4_
  refine start_ (n := 16) (S := fun w' => w'.cell? ⟨gb209, 0, none⟩ = some (.slice Ao7 t200.length co7) ∧ w'.cell? ⟨gb209, 1, none⟩ = some (.slice Ao9 t203.length co9) ∧ w'.cell? ⟨gb209, 2, none⟩ = some (.slice Ao10 t206.length co10)) (ds := []) #[false, false, false, false, false, false, false, false, false, false, false, false, false, false, false, false] (by kernel_rfl) rfl rfl ⟨(blk_cell BK209.out 0).trans rfl, (blk_cell BK209.out 1).trans rfl, (blk_cell BK209.out 2).trans rfl⟩ (fun hHeld => ?_); refine with_tabW laws_FnMemAll.tab4 laws_FnMemAll.bits4 (fun HT_ HW_ => ?_)
  generalize w23.drew = w24 at HO202 HO205 HO208 BK209 HB hHeld ⊢
  refine take_ (i := 0) (N := some 14) (v := ?_) (a' := ?_) #[true, false, false, false, false, false, false, false, false, false, false, false, false, false, false, false] rfl rfl (take_ofW HT_.out HW_.out (by kernel_rfl)) (fun _ _ _ h => h) (Or.inl ⟨by rfl, ?_⟩) hHeld ?_ ?_
  rotate_left
  · rintro w' ⟨s0, s1, s2⟩
    go_simp
    with_reducible rfl
  rotate_left
  · simp only [Act.put, qa, qb, qc, i64_w, i32_w]
    rfl
  refine take_ (i := 2) (N := some 16) (v := ?_) (a' := ?_) #[true, false, true, false, false, false, false, false, false, false, false, false, false, false, false, false] rfl rfl (take_ofW HT_.out HW_.out (by kernel_rfl)) (fun _ _ _ h => h) (Or.inl ⟨by rfl, ?_⟩) hHeld ?_ ?_
  rotate_left
  · rintro w' ⟨s0, s1, s2⟩
    go_simp
    with_reducible rfl
  rotate_left
  · simp only [Act.put, qa, qb, qc, i64_w, i32_w]
    rfl
  refine one_ (i := 1) (N := some 15) #[true, true, true, false, false, false, false, false, false, false, false, false, false, false, false, false] rfl rfl (one_of HT_.out (by kernel_rfl)) (by decide) (fun K hK => ?_)
  refine goes_ Try.func21 (by kernel_rfl) rfl #[.agg #[.slice Ao7 t200.length co7, .slice Ao9 t203.length co9, .slice Ao10 t206.length co10]] (by rfl) rfl rfl (by (try simp only [List.map_toArray, List.map_cons, List.map_nil]); first | done | rfl | (simp only [List.length_drop, List.length_take]; rfl)) ?_
  with_reducible refine (impl_MemOk.calls _ _ t200 _ _ t203 _ _ t206 t210 _ ?side1 ?side2 ?side3 ?side4 ?side5 ?side6 A11.out).mono ?_
  (case side1 => repeat (first | exact (Kd.R_reads' HO202.out).2.2 | (with_reducible first | refine cA ?_ _ | refine cN ?_ _ | refine cD ?_)))
  (case side2 => exact (Kd.R_reads' HO202.out).2.1)
  (case side3 => repeat (first | exact (Kd.R_reads' HO205.out).2.2 | (with_reducible first | refine cA ?_ _ | refine cN ?_ _ | refine cD ?_)))
  (case side4 => exact (Kd.R_reads' HO205.out).2.1)
  (case side5 => repeat (first | exact (Kd.R_reads' HO208.out).2.2 | (with_reducible first | refine cA ?_ _ | refine cN ?_ _ | refine cD ?_)))
  (case side6 => exact (Kd.R_reads' HO208.out).2.1)
  rintro e w25 ⟨rfl, hb⟩
  refine ⟨_, rfl, ?_⟩
  have n0_ := mk0 (Kd.R_below (by (with_reducible repeat (first | apply rA | apply rN | apply rD)); exact HO202.out) hb)
  have n1_ := mk0 (Kd.R_below (by (with_reducible repeat (first | apply rA | apply rN | apply rD)); exact HO205.out) hb)
  have n2_ := mk0 (Kd.R_below (by (with_reducible repeat (first | apply rA | apply rN | apply rD)); exact HO208.out) hb)
  have n3_ := mk0 (blk_below (g := gb209) (o := .cells #[.slice Ao7 t200.length co7, .slice Ao9 t203.length co9, .slice Ao10 t206.length co10] 24 (0, 0)) (by (with_reducible repeat (first | refine pN ?_ _ | refine pD ?_ | refine pA ?_ _)); exact BK209.out) hb)
  have n4_ := mk0 (below_step (by repeat (first | (with_reducible first | exact HB.out | apply bA | apply bN | apply bD | refine bS ?_ GE209.out) | exact HB.out)) hb)
  clear HO202
  clear HO205
  clear HO208
  clear BK209
  clear HB
  have HO202 := n0_
  have HO205 := n1_
  have HO208 := n2_
  have BK209 := n3_
  have HB := n4_
  clear n0_ n1_ n2_ n3_ n4_
  (try clear hb)
  (try clear hb2)
  (try clear hk)
  (try clear hi)
  refine hK.out _ _ ⟨(blk_cell BK209.out 0).trans rfl, (blk_cell BK209.out 1).trans rfl, (blk_cell BK209.out 2).trans rfl⟩ (fun hHeld => ?_)
  clear hK K
  refine norm_ (a' := ?_) ?_ ?_
  rotate_left
  · show Act.put _ (some 15) _ = _
    simp only [Act.put, qa, qb, qc, i64_w, i32_w]
    rfl
  refine one_ (i := 3) (N := some 17) #[true, true, true, true, false, false, false, false, false, false, false, false, false, false, false, false] rfl rfl (one_of HT_.out (by kernel_rfl)) (by decide) (fun K hK => ?_)
  refine goes_ Try.func20 (by kernel_rfl) rfl #[.agg #[.slice Ao7 t200.length co7, .slice Ao9 t203.length co9, .slice Ao10 t206.length co10]] (by rfl) rfl rfl (by (try simp only [List.map_toArray, List.map_cons, List.map_nil]); first | done | rfl | (simp only [List.length_drop, List.length_take]; rfl)) ?_
  with_reducible refine (spec_MemOk.calls k _ _ t200 _ _ t203 _ _ t206 t211 _ ?side1 ?side2 ?side3 ?side4 ?side5 ?side6 A12.out).mono ?_
  (case side1 => repeat (first | exact (Kd.R_reads' HO202.out).2.2 | (with_reducible first | refine cA ?_ _ | refine cN ?_ _ | refine cD ?_)))
  (case side2 => exact (Kd.R_reads' HO202.out).2.1)
  (case side3 => repeat (first | exact (Kd.R_reads' HO205.out).2.2 | (with_reducible first | refine cA ?_ _ | refine cN ?_ _ | refine cD ?_)))
  (case side4 => exact (Kd.R_reads' HO205.out).2.1)
  (case side5 => repeat (first | exact (Kd.R_reads' HO208.out).2.2 | (with_reducible first | refine cA ?_ _ | refine cN ?_ _ | refine cD ?_)))
  (case side6 => exact (Kd.R_reads' HO208.out).2.1)
  rintro e w26 ⟨rfl, hb⟩
  refine ⟨_, rfl, ?_⟩
  have n0_ := mk0 (Kd.R_below (by (with_reducible repeat (first | apply rA | apply rN | apply rD)); exact HO202.out) hb)
  have n1_ := mk0 (Kd.R_below (by (with_reducible repeat (first | apply rA | apply rN | apply rD)); exact HO205.out) hb)
  have n2_ := mk0 (Kd.R_below (by (with_reducible repeat (first | apply rA | apply rN | apply rD)); exact HO208.out) hb)
  have n3_ := mk0 (blk_below (g := gb209) (o := .cells #[.slice Ao7 t200.length co7, .slice Ao9 t203.length co9, .slice Ao10 t206.length co10] 24 (0, 0)) (by (with_reducible repeat (first | refine pN ?_ _ | refine pD ?_ | refine pA ?_ _)); exact BK209.out) hb)
  have n4_ := mk0 (below_step (by repeat (first | (with_reducible first | exact HB.out | apply bA | apply bN | apply bD | refine bS ?_ GE209.out) | exact HB.out)) hb)
  clear HO202
  clear HO205
  clear HO208
  clear BK209
  clear HB
  have HO202 := n0_
  have HO205 := n1_
  have HO208 := n2_
  have BK209 := n3_
  have HB := n4_
  clear n0_ n1_ n2_ n3_ n4_
  (try clear hb)
  (try clear hb2)
  (try clear hk)
  (try clear hi)
  refine hK.out _ _ ⟨(blk_cell BK209.out 0).trans rfl, (blk_cell BK209.out 1).trans rfl, (blk_cell BK209.out 2).trans rfl⟩ (fun hHeld => ?_)
  clear hK K
  refine norm_ (a' := ?_) ?_ ?_
  rotate_left
  · show Act.put _ (some 17) _ = _
    simp only [Act.put, qa, qb, qc, i64_w, i32_w]
    rfl
  refine pure_ (i := 4) (N := some 18) (v := ?_) (a' := ?_) #[true, true, true, true, true, false, false, false, false, false, false, false, false, false, false, false] rfl rfl (any_of HT_.out (by kernel_rfl)) (fun _ _ _ h => h) (Or.inl ⟨by rfl, ?_⟩) ?_ ?_
  rotate_left
  · intro w'
    go_simp
    with_reducible rfl
  rotate_left
  · simp only [Act.put, qa, qb, qc, i64_w, i32_w]
    rfl
  refine pure_ (i := 5) (N := some 19) (v := ?_) (a' := ?_) #[true, true, true, true, true, true, false, false, false, false, false, false, false, false, false, false] rfl rfl (any_of HT_.out (by kernel_rfl)) (fun _ _ _ h => h) (Or.inl ⟨by rfl, ?_⟩) ?_ ?_
  rotate_left
  · intro w'
    go_simp
    with_reducible rfl
  rotate_left
  · simp only [Act.put, qa, qb, qc, i64_w, i32_w]
    rfl
  refine one_ (i := 6) (N := some 20) #[true, true, true, true, true, true, true, false, false, false, false, false, false, false, false, false] rfl rfl (one_of HT_.out (by kernel_rfl)) (by decide) (fun K hK => ?_)
  refine goes_ Try.func12 (by kernel_rfl) rfl #[] (by rfl) rfl rfl (by (try simp only [List.map_toArray, List.map_cons, List.map_nil]); first | done | rfl | (simp only [List.length_drop, List.length_take]; rfl)) ?_
  with_reducible refine (impl_MemOpen.calls  t212 t215 t218 _ A18.out).mono ?_
  rintro e w27 ⟨v213, v216, v219, rfl, ho0, ho1, ho2, hb⟩
  refine ⟨_, rfl, ?_⟩
  have n0_ := mk0 (Kd.R_below (by (with_reducible repeat (first | apply rA | apply rN | apply rD)); exact HO202.out) hb)
  have n1_ := mk0 (Kd.R_below (by (with_reducible repeat (first | apply rA | apply rN | apply rD)); exact HO205.out) hb)
  have n2_ := mk0 (Kd.R_below (by (with_reducible repeat (first | apply rA | apply rN | apply rD)); exact HO208.out) hb)
  have n3_ := mk0 (Kd.V_lower (Kd.V_mono (ok' := fun k_ => some k_ ≠ (.slice Ao7 t200.length co7 : Value).ownBlock ∧ some k_ ≠ (.slice Ao9 t203.length co9 : Value).ownBlock ∧ some k_ ≠ (.slice Ao10 t206.length co10 : Value).ownBlock ∧ k_ ≠ gb209) ho0 (fun k_ hk_ => ⟨(Kd.fresh' (Kd.R_lt (by (with_reducible repeat (first | apply rA | apply rN | apply rD)); exact HO202.out)) k_ hk_), (Kd.fresh' (Kd.R_lt (by (with_reducible repeat (first | apply rA | apply rN | apply rD)); exact HO205.out)) k_ hk_), (Kd.fresh' (Kd.R_lt (by (with_reducible repeat (first | apply rA | apply rN | apply rD)); exact HO208.out)) k_ hk_), (Kd.freshB (g := gb209) (o := .cells #[.slice Ao7 t200.length co7, .slice Ao9 t203.length co9, .slice Ao10 t206.length co10] 24 (0, 0)) (by (with_reducible repeat (first | refine pN ?_ _ | refine pD ?_ | refine pA ?_ _)); exact BK209.out) k_ hk_)⟩)) (below_size (by repeat (first | (with_reducible first | exact HB.out | apply bA | apply bN | apply bD | refine bS ?_ GE209.out) | exact HB.out))))
  have n4_ := mk0 (Kd.V_lower (Kd.V_mono (ok' := fun k_ => some k_ ≠ (.slice Ao7 t200.length co7 : Value).ownBlock ∧ some k_ ≠ (.slice Ao9 t203.length co9 : Value).ownBlock ∧ some k_ ≠ (.slice Ao10 t206.length co10 : Value).ownBlock ∧ k_ ≠ gb209) ho1 (fun k_ hk_ => ⟨(Kd.fresh' (Kd.R_lt (by (with_reducible repeat (first | apply rA | apply rN | apply rD)); exact HO202.out)) k_ hk_), (Kd.fresh' (Kd.R_lt (by (with_reducible repeat (first | apply rA | apply rN | apply rD)); exact HO205.out)) k_ hk_), (Kd.fresh' (Kd.R_lt (by (with_reducible repeat (first | apply rA | apply rN | apply rD)); exact HO208.out)) k_ hk_), (Kd.freshB (g := gb209) (o := .cells #[.slice Ao7 t200.length co7, .slice Ao9 t203.length co9, .slice Ao10 t206.length co10] 24 (0, 0)) (by (with_reducible repeat (first | refine pN ?_ _ | refine pD ?_ | refine pA ?_ _)); exact BK209.out) k_ hk_)⟩)) (below_size (by repeat (first | (with_reducible first | exact HB.out | apply bA | apply bN | apply bD | refine bS ?_ GE209.out) | exact HB.out))))
  have n5_ := mk0 (Kd.V_lower (Kd.V_mono (ok' := fun k_ => some k_ ≠ (.slice Ao7 t200.length co7 : Value).ownBlock ∧ some k_ ≠ (.slice Ao9 t203.length co9 : Value).ownBlock ∧ some k_ ≠ (.slice Ao10 t206.length co10 : Value).ownBlock ∧ k_ ≠ gb209) ho2 (fun k_ hk_ => ⟨(Kd.fresh' (Kd.R_lt (by (with_reducible repeat (first | apply rA | apply rN | apply rD)); exact HO202.out)) k_ hk_), (Kd.fresh' (Kd.R_lt (by (with_reducible repeat (first | apply rA | apply rN | apply rD)); exact HO205.out)) k_ hk_), (Kd.fresh' (Kd.R_lt (by (with_reducible repeat (first | apply rA | apply rN | apply rD)); exact HO208.out)) k_ hk_), (Kd.freshB (g := gb209) (o := .cells #[.slice Ao7 t200.length co7, .slice Ao9 t203.length co9, .slice Ao10 t206.length co10] 24 (0, 0)) (by (with_reducible repeat (first | refine pN ?_ _ | refine pD ?_ | refine pA ?_ _)); exact BK209.out) k_ hk_)⟩)) (below_size (by repeat (first | (with_reducible first | exact HB.out | apply bA | apply bN | apply bD | refine bS ?_ GE209.out) | exact HB.out))))
  have n6_ := mk0 (blk_below (g := gb209) (o := .cells #[.slice Ao7 t200.length co7, .slice Ao9 t203.length co9, .slice Ao10 t206.length co10] 24 (0, 0)) (by (with_reducible repeat (first | refine pN ?_ _ | refine pD ?_ | refine pA ?_ _)); exact BK209.out) hb)
  have n7_ := mk0 (below_step (by repeat (first | (with_reducible first | exact HB.out | apply bA | apply bN | apply bD | refine bS ?_ GE209.out) | exact HB.out)) hb)
  clear HO202
  clear HO205
  clear HO208
  clear BK209
  clear HB
  have HO202 := n0_
  have HO205 := n1_
  have HO208 := n2_
  have HO214 := n3_
  have HO217 := n4_
  have HO220 := n5_
  have BK209 := n6_
  have HB := n7_
  clear n0_ n1_ n2_ n3_ n4_ n5_ n6_ n7_
  (try clear hb)
  (try clear hb2)
  (try clear hk)
  (try clear hi)
  (try clear ho0)
  (try clear ho1)
  (try clear ho2)
  refine hK.out _ _ ⟨(blk_cell BK209.out 0).trans rfl, (blk_cell BK209.out 1).trans rfl, (blk_cell BK209.out 2).trans rfl⟩ (fun hHeld => ?_)
  clear hK K
  refine norm_ (a' := ?_) ?_ ?_
  rotate_left
  · show Act.put _ (some 20) _ = _
    simp only [Act.put, qa, qb, qc, i64_w, i32_w]
    rfl
  refine one_ (i := 7) (N := some 21) #[true, true, true, true, true, true, true, true, false, false, false, false, false, false, false, false] rfl rfl (one_of HT_.out (by kernel_rfl)) (by decide) (fun K hK => ?_)
  refine goes_ Try.func11 (by kernel_rfl) rfl #[] (by rfl) rfl rfl (by (try simp only [List.map_toArray, List.map_cons, List.map_nil]); first | done | rfl | (simp only [List.length_drop, List.length_take]; rfl)) ?_
  with_reducible refine (spec_MemOpen.calls  t221 t224 t227 _ A19.out).mono ?_
  rintro e w28 ⟨v222, v225, v228, rfl, ho0, ho1, ho2, hb⟩
  refine ⟨_, rfl, ?_⟩
  have n0_ := mk0 (Kd.R_mono (Kd.R_told (Kd.R_told (Kd.R_told (Kd.R_old (by (with_reducible repeat (first | apply rA | apply rN | apply rD)); exact HO202.out) hb) (Kd.R_base ho0)) (Kd.R_base ho1)) (Kd.R_base ho2)) (fun _ h_ => h_.1))
  have n1_ := mk0 (Kd.R_mono (Kd.R_told (Kd.R_told (Kd.R_told (Kd.R_old (by (with_reducible repeat (first | apply rA | apply rN | apply rD)); exact HO205.out) hb) (Kd.R_base ho0)) (Kd.R_base ho1)) (Kd.R_base ho2)) (fun _ h_ => h_.1))
  have n2_ := mk0 (Kd.R_mono (Kd.R_told (Kd.R_told (Kd.R_told (Kd.R_old (by (with_reducible repeat (first | apply rA | apply rN | apply rD)); exact HO208.out) hb) (Kd.R_base ho0)) (Kd.R_base ho1)) (Kd.R_base ho2)) (fun _ h_ => h_.1))
  have n3_ := mk0 (Kd.V_mono (Kd.V_told (Kd.V_told (Kd.V_told (Kd.V_old (by (with_reducible repeat (first | apply vA | apply vN | apply vD)); exact HO214.out) hb) (Kd.R_base ho0)) (Kd.R_base ho1)) (Kd.R_base ho2)) (fun _ h_ => h_.1))
  have n4_ := mk0 (Kd.V_mono (Kd.V_told (Kd.V_told (Kd.V_told (Kd.V_old (by (with_reducible repeat (first | apply vA | apply vN | apply vD)); exact HO217.out) hb) (Kd.R_base ho0)) (Kd.R_base ho1)) (Kd.R_base ho2)) (fun _ h_ => h_.1))
  have n5_ := mk0 (Kd.V_mono (Kd.V_told (Kd.V_told (Kd.V_told (Kd.V_old (by (with_reducible repeat (first | apply vA | apply vN | apply vD)); exact HO220.out) hb) (Kd.R_base ho0)) (Kd.R_base ho1)) (Kd.R_base ho2)) (fun _ h_ => h_.1))
  have n6_ := mk0 (Kd.R_lower (Kd.R_new' (Kd.R_new' (Kd.R_new' ho0 (Kd.R_lt (by (with_reducible repeat (first | apply rA | apply rN | apply rD)); exact HO202.out))) (Kd.R_lt (by (with_reducible repeat (first | apply rA | apply rN | apply rD)); exact HO205.out))) (Kd.R_lt (by (with_reducible repeat (first | apply rA | apply rN | apply rD)); exact HO208.out))) (below_size (by repeat (first | (with_reducible first | exact HB.out | apply bA | apply bN | apply bD | refine bS ?_ GE209.out) | exact HB.out))))
  have n7_ := mk0 (Kd.R_lower (Kd.R_new' (Kd.R_new' (Kd.R_new' ho1 (Kd.R_lt (by (with_reducible repeat (first | apply rA | apply rN | apply rD)); exact HO202.out))) (Kd.R_lt (by (with_reducible repeat (first | apply rA | apply rN | apply rD)); exact HO205.out))) (Kd.R_lt (by (with_reducible repeat (first | apply rA | apply rN | apply rD)); exact HO208.out))) (below_size (by repeat (first | (with_reducible first | exact HB.out | apply bA | apply bN | apply bD | refine bS ?_ GE209.out) | exact HB.out))))
  have n8_ := mk0 (Kd.R_lower (Kd.R_new' (Kd.R_new' (Kd.R_new' ho2 (Kd.R_lt (by (with_reducible repeat (first | apply rA | apply rN | apply rD)); exact HO202.out))) (Kd.R_lt (by (with_reducible repeat (first | apply rA | apply rN | apply rD)); exact HO205.out))) (Kd.R_lt (by (with_reducible repeat (first | apply rA | apply rN | apply rD)); exact HO208.out))) (below_size (by repeat (first | (with_reducible first | exact HB.out | apply bA | apply bN | apply bD | refine bS ?_ GE209.out) | exact HB.out))))
  have n9_ := mk0 (blk_below (g := gb209) (o := .cells #[.slice Ao7 t200.length co7, .slice Ao9 t203.length co9, .slice Ao10 t206.length co10] 24 (0, 0)) (by (with_reducible repeat (first | refine pN ?_ _ | refine pD ?_ | refine pA ?_ _)); exact BK209.out) hb)
  have n10_ := mk0 (below_step (by repeat (first | (with_reducible first | exact HB.out | apply bA | apply bN | apply bD | refine bS ?_ GE209.out) | exact HB.out)) hb)
  clear HO202
  clear HO205
  clear HO208
  clear HO214
  clear HO217
  clear HO220
  clear BK209
  clear HB
  have HO202 := n0_
  have HO205 := n1_
  have HO208 := n2_
  have HO214 := n3_
  have HO217 := n4_
  have HO220 := n5_
  have HO223 := n6_
  have HO226 := n7_
  have HO229 := n8_
  have BK209 := n9_
  have HB := n10_
  clear n0_ n1_ n2_ n3_ n4_ n5_ n6_ n7_ n8_ n9_ n10_
  (try clear hb)
  (try clear hb2)
  (try clear hk)
  (try clear hi)
  (try clear ho0)
  (try clear ho1)
  (try clear ho2)
  obtain ⟨Ao29, co29, eo29⟩ := Kd.V_slice HO214.out
  (first | subst eo29 | (injection eo29 with f1_ f2_ f3_; have f4_ := f1_.symm; have f5_ := f3_.symm; clear f1_ f2_ f3_; subst f4_; subst f5_))
  obtain ⟨Ao30, co30, eo30⟩ := Kd.V_slice HO217.out
  (first | subst eo30 | (injection eo30 with f1_ f2_ f3_; have f4_ := f1_.symm; have f5_ := f3_.symm; clear f1_ f2_ f3_; subst f4_; subst f5_))
  obtain ⟨Ao31, co31, eo31⟩ := Kd.V_slice HO220.out
  (first | subst eo31 | (injection eo31 with f1_ f2_ f3_; have f4_ := f1_.symm; have f5_ := f3_.symm; clear f1_ f2_ f3_; subst f4_; subst f5_))
  obtain ⟨Ao32, co32, eo32⟩ := Kd.R_slice HO223.out
  (first | subst eo32 | (injection eo32 with f1_ f2_ f3_; have f4_ := f1_.symm; have f5_ := f3_.symm; clear f1_ f2_ f3_; subst f4_; subst f5_))
  obtain ⟨Ao33, co33, eo33⟩ := Kd.R_slice HO226.out
  (first | subst eo33 | (injection eo33 with f1_ f2_ f3_; have f4_ := f1_.symm; have f5_ := f3_.symm; clear f1_ f2_ f3_; subst f4_; subst f5_))
  obtain ⟨Ao34, co34, eo34⟩ := Kd.R_slice HO229.out
  (first | subst eo34 | (injection eo34 with f1_ f2_ f3_; have f4_ := f1_.symm; have f5_ := f3_.symm; clear f1_ f2_ f3_; subst f4_; subst f5_))
  refine hK.out _ _ ⟨(blk_cell BK209.out 0).trans rfl, (blk_cell BK209.out 1).trans rfl, (blk_cell BK209.out 2).trans rfl⟩ (fun hHeld => ?_)
  clear hK K
  refine norm_ (a' := ?_) ?_ ?_
  rotate_left
  · show Act.put _ (some 21) _ = _
    simp only [Act.put, qa, qb, qc, i64_w, i32_w]
    rfl
  refine one_ (i := 8) (N := some 22) #[true, true, true, true, true, true, true, true, true, false, false, false, false, false, false, false] rfl rfl (one_of HT_.out (by kernel_rfl)) (by decide) (fun K hK => ?_)
  refine goes_ Try.func19 (by kernel_rfl) rfl #[.agg #[.slice Ao29 t212.length co29, .slice Ao30 t215.length co30, .slice Ao31 t218.length co31], .agg #[.slice Ao32 t221.length co32, .slice Ao33 t224.length co33, .slice Ao34 t227.length co34]] (by rfl) rfl rfl (by (try simp only [List.map_toArray, List.map_cons, List.map_nil]); first | done | rfl | (simp only [List.length_drop, List.length_take]; rfl)) ?_
  with_reducible refine (impl_MemSame.calls k _ _ t212 _ _ t215 _ _ t218 _ _ t221 _ _ t224 _ _ t227 true _ ?side1 ?side2 ?side3 ?side4 ?side5 ?side6 ?side7 ?side8 ?side9 ?side10 ?side11 ?side12 A20.out).mono ?_
  (case side1 => repeat (first | exact (Kd.V_reads' HO214.out).2.2 | (with_reducible first | refine cA ?_ _ | refine cN ?_ _ | refine cD ?_)))
  (case side2 => exact (Kd.V_reads' HO214.out).2.1)
  (case side3 => repeat (first | exact (Kd.V_reads' HO217.out).2.2 | (with_reducible first | refine cA ?_ _ | refine cN ?_ _ | refine cD ?_)))
  (case side4 => exact (Kd.V_reads' HO217.out).2.1)
  (case side5 => repeat (first | exact (Kd.V_reads' HO220.out).2.2 | (with_reducible first | refine cA ?_ _ | refine cN ?_ _ | refine cD ?_)))
  (case side6 => exact (Kd.V_reads' HO220.out).2.1)
  (case side7 => repeat (first | exact (Kd.R_reads' HO223.out).2.2 | (with_reducible first | refine cA ?_ _ | refine cN ?_ _ | refine cD ?_)))
  (case side8 => exact (Kd.R_reads' HO223.out).2.1)
  (case side9 => repeat (first | exact (Kd.R_reads' HO226.out).2.2 | (with_reducible first | refine cA ?_ _ | refine cN ?_ _ | refine cD ?_)))
  (case side10 => exact (Kd.R_reads' HO226.out).2.1)
  (case side11 => repeat (first | exact (Kd.R_reads' HO229.out).2.2 | (with_reducible first | refine cA ?_ _ | refine cN ?_ _ | refine cD ?_)))
  (case side12 => exact (Kd.R_reads' HO229.out).2.1)
  rintro e w35 ⟨rfl, hb⟩
  refine ⟨_, rfl, ?_⟩
  have n0_ := mk0 (Kd.R_below (by (with_reducible repeat (first | apply rA | apply rN | apply rD)); exact HO202.out) hb)
  have n1_ := mk0 (Kd.R_below (by (with_reducible repeat (first | apply rA | apply rN | apply rD)); exact HO205.out) hb)
  have n2_ := mk0 (Kd.R_below (by (with_reducible repeat (first | apply rA | apply rN | apply rD)); exact HO208.out) hb)
  have n3_ := mk0 (Kd.V_below (by (with_reducible repeat (first | apply vA | apply vN | apply vD)); exact HO214.out) hb)
  have n4_ := mk0 (Kd.V_below (by (with_reducible repeat (first | apply vA | apply vN | apply vD)); exact HO217.out) hb)
  have n5_ := mk0 (Kd.V_below (by (with_reducible repeat (first | apply vA | apply vN | apply vD)); exact HO220.out) hb)
  have n6_ := mk0 (Kd.R_below (by (with_reducible repeat (first | apply rA | apply rN | apply rD)); exact HO223.out) hb)
  have n7_ := mk0 (Kd.R_below (by (with_reducible repeat (first | apply rA | apply rN | apply rD)); exact HO226.out) hb)
  have n8_ := mk0 (Kd.R_below (by (with_reducible repeat (first | apply rA | apply rN | apply rD)); exact HO229.out) hb)
  have n9_ := mk0 (blk_below (g := gb209) (o := .cells #[.slice Ao7 t200.length co7, .slice Ao9 t203.length co9, .slice Ao10 t206.length co10] 24 (0, 0)) (by (with_reducible repeat (first | refine pN ?_ _ | refine pD ?_ | refine pA ?_ _)); exact BK209.out) hb)
  have n10_ := mk0 (below_step (by repeat (first | (with_reducible first | exact HB.out | apply bA | apply bN | apply bD | refine bS ?_ GE209.out) | exact HB.out)) hb)
  clear HO202
  clear HO205
  clear HO208
  clear HO214
  clear HO217
  clear HO220
  clear HO223
  clear HO226
  clear HO229
  clear BK209
  clear HB
  have HO202 := n0_
  have HO205 := n1_
  have HO208 := n2_
  have HO214 := n3_
  have HO217 := n4_
  have HO220 := n5_
  have HO223 := n6_
  have HO226 := n7_
  have HO229 := n8_
  have BK209 := n9_
  have HB := n10_
  clear n0_ n1_ n2_ n3_ n4_ n5_ n6_ n7_ n8_ n9_ n10_
  (try clear hb)
  (try clear hb2)
  (try clear hk)
  (try clear hi)
  refine hK.out _ _ ⟨(blk_cell BK209.out 0).trans rfl, (blk_cell BK209.out 1).trans rfl, (blk_cell BK209.out 2).trans rfl⟩ (fun hHeld => ?_)
  clear hK K
  refine norm_ (a' := ?_) ?_ ?_
  rotate_left
  · show Act.put _ (some 22) _ = _
    simp only [Act.put, qa, qb, qc, i64_w, i32_w]
    rfl
  refine pure_ (i := 9) (N := some 23) (v := ?_) (a' := ?_) #[true, true, true, true, true, true, true, true, true, true, false, false, false, false, false, false] rfl rfl (any_of HT_.out (by kernel_rfl)) (fun _ _ _ h => h) (Or.inl ⟨by rfl, ?_⟩) ?_ ?_
  rotate_left
  · intro w'
    go_simp
    with_reducible rfl
  rotate_left
  · simp only [Act.put, qa, qb, qc, i64_w, i32_w]
    rfl
  refine pure_ (i := 10) (N := some 24) (v := ?_) (a' := ?_) #[true, true, true, true, true, true, true, true, true, true, true, false, false, false, false, false] rfl rfl (any_of HT_.out (by kernel_rfl)) (fun _ _ _ h => h) (Or.inl ⟨by rfl, ?_⟩) ?_ ?_
  rotate_left
  · intro w'
    go_simp
    with_reducible rfl
  rotate_left
  · simp only [Act.put, qa, qb, qc, i64_w, i32_w]
    rfl
  refine pure_ (i := 11) (N := some 25) (v := ?_) (a' := ?_) #[true, true, true, true, true, true, true, true, true, true, true, true, false, false, false, false] rfl rfl (any_of HT_.out (by kernel_rfl)) (fun _ _ _ h => h) (Or.inl ⟨by rfl, ?_⟩) ?_ ?_
  rotate_left
  · intro w'
    go_simp
    with_reducible rfl
  rotate_left
  · simp only [Act.put, qa, qb, qc, i64_w, i32_w]
    rfl
  refine take_ (i := 12) (N := some 26) (v := ?_) (a' := ?_) #[true, true, true, true, true, true, true, true, true, true, true, true, true, false, false, false] rfl rfl (take_ofW HT_.out HW_.out (by kernel_rfl)) (fun _ _ _ h => h) (Or.inl ⟨by rfl, ?_⟩) hHeld ?_ ?_
  rotate_left
  · rintro w' ⟨s0, s1, s2⟩
    go_simp
    with_reducible rfl
  rotate_left
  · simp only [Act.put, qa, qb, qc, i64_w, i32_w]
    rfl
  refine one_ (i := 13) (N := some 27) #[true, true, true, true, true, true, true, true, true, true, true, true, true, true, false, false] rfl rfl (one_of HT_.out (by kernel_rfl)) (by decide) (fun K hK => ?_)
  refine goes_ Try.func20 (by kernel_rfl) rfl #[.agg #[.slice Ao7 t200.length co7, .slice Ao9 t203.length co9, .slice Ao10 t206.length co10]] (by rfl) rfl rfl (by (try simp only [List.map_toArray, List.map_cons, List.map_nil]); first | done | rfl | (simp only [List.length_drop, List.length_take]; rfl)) ?_
  with_reducible refine (spec_MemOk.calls k _ _ t200 _ _ t203 _ _ t206 t231 _ ?side1 ?side2 ?side3 ?side4 ?side5 ?side6 A22.out).mono ?_
  (case side1 => repeat (first | exact (Kd.R_reads' HO202.out).2.2 | (with_reducible first | refine cA ?_ _ | refine cN ?_ _ | refine cD ?_)))
  (case side2 => exact (Kd.R_reads' HO202.out).2.1)
  (case side3 => repeat (first | exact (Kd.R_reads' HO205.out).2.2 | (with_reducible first | refine cA ?_ _ | refine cN ?_ _ | refine cD ?_)))
  (case side4 => exact (Kd.R_reads' HO205.out).2.1)
  (case side5 => repeat (first | exact (Kd.R_reads' HO208.out).2.2 | (with_reducible first | refine cA ?_ _ | refine cN ?_ _ | refine cD ?_)))
  (case side6 => exact (Kd.R_reads' HO208.out).2.1)
  rintro e w36 ⟨rfl, hb⟩
  refine ⟨_, rfl, ?_⟩
  have n0_ := mk0 (Kd.R_below (by (with_reducible repeat (first | apply rA | apply rN | apply rD)); exact HO202.out) hb)
  have n1_ := mk0 (Kd.R_below (by (with_reducible repeat (first | apply rA | apply rN | apply rD)); exact HO205.out) hb)
  have n2_ := mk0 (Kd.R_below (by (with_reducible repeat (first | apply rA | apply rN | apply rD)); exact HO208.out) hb)
  have n3_ := mk0 (Kd.V_below (by (with_reducible repeat (first | apply vA | apply vN | apply vD)); exact HO214.out) hb)
  have n4_ := mk0 (Kd.V_below (by (with_reducible repeat (first | apply vA | apply vN | apply vD)); exact HO217.out) hb)
  have n5_ := mk0 (Kd.V_below (by (with_reducible repeat (first | apply vA | apply vN | apply vD)); exact HO220.out) hb)
  have n6_ := mk0 (Kd.R_below (by (with_reducible repeat (first | apply rA | apply rN | apply rD)); exact HO223.out) hb)
  have n7_ := mk0 (Kd.R_below (by (with_reducible repeat (first | apply rA | apply rN | apply rD)); exact HO226.out) hb)
  have n8_ := mk0 (Kd.R_below (by (with_reducible repeat (first | apply rA | apply rN | apply rD)); exact HO229.out) hb)
  have n9_ := mk0 (blk_below (g := gb209) (o := .cells #[.slice Ao7 t200.length co7, .slice Ao9 t203.length co9, .slice Ao10 t206.length co10] 24 (0, 0)) (by (with_reducible repeat (first | refine pN ?_ _ | refine pD ?_ | refine pA ?_ _)); exact BK209.out) hb)
  have n10_ := mk0 (below_step (by repeat (first | (with_reducible first | exact HB.out | apply bA | apply bN | apply bD | refine bS ?_ GE209.out) | exact HB.out)) hb)
  clear HO202
  clear HO205
  clear HO208
  clear HO214
  clear HO217
  clear HO220
  clear HO223
  clear HO226
  clear HO229
  clear BK209
  clear HB
  have HO202 := n0_
  have HO205 := n1_
  have HO208 := n2_
  have HO214 := n3_
  have HO217 := n4_
  have HO220 := n5_
  have HO223 := n6_
  have HO226 := n7_
  have HO229 := n8_
  have BK209 := n9_
  have HB := n10_
  clear n0_ n1_ n2_ n3_ n4_ n5_ n6_ n7_ n8_ n9_ n10_
  (try clear hb)
  (try clear hb2)
  (try clear hk)
  (try clear hi)
  refine hK.out _ _ ⟨(blk_cell BK209.out 0).trans rfl, (blk_cell BK209.out 1).trans rfl, (blk_cell BK209.out 2).trans rfl⟩ (fun hHeld => ?_)
  clear hK K
  refine norm_ (a' := ?_) ?_ ?_
  rotate_left
  · show Act.put _ (some 27) _ = _
    simp only [Act.put, qa, qb, qc, i64_w, i32_w]
    rfl
  refine pure_ (i := 14) (N := some 28) (v := ?_) (a' := ?_) #[true, true, true, true, true, true, true, true, true, true, true, true, true, true, true, false] rfl rfl (any_of HT_.out (by kernel_rfl)) (fun _ _ _ h => h) (Or.inl ⟨by rfl, ?_⟩) ?_ ?_
  rotate_left
  · intro w'
    go_simp
    with_reducible rfl
  rotate_left
  · simp only [Act.put, qa, qb, qc, i64_w, i32_w]
    rfl
  refine pure_ (i := 15) (N := some 29) (v := ?_) (a' := ?_) #[true, true, true, true, true, true, true, true, true, true, true, true, true, true, true, true] rfl rfl (any_of HT_.out (by kernel_rfl)) (fun _ _ _ h => h) (Or.inl ⟨by rfl, ?_⟩) ?_ ?_
  rotate_left
  · intro w'
    go_simp
    with_reducible rfl
  rotate_left
  · simp only [Act.put, qa, qb, qc, i64_w, i32_w]
    rfl
  refine done_ (done_of HT_.out (by kernel_rfl)) ?_
  try go_wp2
  go_meet
  case rel => exact ⟨_, (!t231), (by first | rfl | (simp; done) | (simp [*]; done)), H', ⟨by first | omega | exact Nat.le_refl _⟩, ⟨by (with_reducible repeat (first | apply rA | apply rN | apply rD)); exact Kd.R_mono HO202.out (fun _ hk => ⟨hk.1.1.1.1, hk.1.1.1.2⟩)⟩, ⟨by (with_reducible repeat (first | apply rA | apply rN | apply rD)); exact Kd.R_mono HO205.out (fun _ hk => ⟨hk.1.1.1.1, hk.1.1.1.2⟩)⟩, ⟨by (with_reducible repeat (first | apply rA | apply rN | apply rD)); exact Kd.R_mono HO208.out (fun _ hk => ⟨hk.1.1.1.1, hk.1.1.1.2⟩)⟩, ⟨by (with_reducible repeat (first | refine pN ?_ _ | refine pD ?_ | refine pA ?_ _)); exact BK209.out⟩, ⟨by repeat (first | (with_reducible first | exact HB.out | apply bA | apply bN | apply bD | refine bS ?_ GE209.out) | exact HB.out)⟩⟩
 case rest =>
  clear HC4
  try clear c1
  try clear c2
  try clear p2
  try clear c11
  try clear c12
  try clear c19
  try clear c20
  try clear c21
  obtain ⟨kq, x29_3, rfl, HA, HJ3, HO_210000, HO_210001, HO_210002, BK209, HB⟩ := hcut
  cases kq with
  | zero => exact absurd HA.out (by simp [laws_FnMemAll.j0])
  | succ kj3 =>
   have H := HA.out
   clear HA
   simp only [laws_FnMemAll.j0] at H
   by_cases c50 : x29_3 = true
   · subst c50
     have H1 : ((impl_MemOk.f t200 t203 t206).bind fun t232 => ((spec_MemOk.f kj3 t200 t203 t206).bind fun t233 => (if (t232 == t233) = true then ((impl_MemOpen.f).bind fun bt234 => ((spec_MemOpen.f).bind fun bt243 => ((impl_MemSame.f kj3 bt234.1 bt234.2.1 bt234.2.2 bt243.1 bt243.2.1 bt243.2.2).bind fun t252 => (some t252)))) else (some false)))) = some true := by rw [if_pos rfl] at H; exact H
     clear H
     have H := H1
     clear H1
     replace H := Option.bind_eq_some_iff.mp H
     obtain ⟨t232, A510, H⟩ := H
     replace H : ((spec_MemOk.f kj3 t200 t203 t206).bind fun t233 => (if (t232 == t233) = true then ((impl_MemOpen.f).bind fun bt234 => ((spec_MemOpen.f).bind fun bt243 => ((impl_MemSame.f kj3 bt234.1 bt234.2.1 bt234.2.2 bt243.1 bt243.2.1 bt243.2.2).bind fun t252 => (some t252)))) else (some false))) = some true := H
     have A51 := mk0 A510
     clear A510
     replace H := Option.bind_eq_some_iff.mp H
     obtain ⟨t233, A520, H⟩ := H
     replace H : (if (t232 == t233) = true then ((impl_MemOpen.f).bind fun bt234 => ((spec_MemOpen.f).bind fun bt243 => ((impl_MemSame.f kj3 bt234.1 bt234.2.1 bt234.2.2 bt243.1 bt243.2.1 bt243.2.2).bind fun t252 => (some t252)))) else (some false)) = some true := H
     have A52 := mk0 A520
     clear A520
     by_cases c53 : (t232 == t233) = true
     rotate_left
     · rw [if_neg c53] at H
       exact absurd (Option.some.inj H) (by decide)
     rw [if_pos c53] at H
     have c53b0 : (t232 == t233) = true := c53
     (try (have c53b1 : decide (t232 = t233) = true := by simpa using c53))
     (try (have c53b2 : (t232 == t233) = true := by simpa using c53))
     clear c53
     replace H := Option.bind_eq_some_iff.mp H
     obtain ⟨⟨t234, t237, t240⟩, A540, H⟩ := H
     replace H : ((spec_MemOpen.f).bind fun bt243 => ((impl_MemSame.f kj3 t234 t237 t240 bt243.1 bt243.2.1 bt243.2.2).bind fun t252 => (some t252))) = some true := H
     have A54 := mk0 A540
     clear A540
     replace H := Option.bind_eq_some_iff.mp H
     obtain ⟨⟨t243, t246, t249⟩, A550, H⟩ := H
     replace H : ((impl_MemSame.f kj3 t234 t237 t240 t243 t246 t249).bind fun t252 => (some t252)) = some true := H
     have A55 := mk0 A550
     clear A550
     replace H := Option.bind_eq_some_iff.mp H
     obtain ⟨t252, A560, H⟩ := H
     replace H : (some t252) = some true := H
     have A56 := mk0 A560
     clear A560
     have HTR_ := mk0 (Option.some.inj H)
     clear H
     try go_wp2
     have n0_ := mk0 (Kd.R_drew HO_210000.out)
     have n1_ := mk0 (Kd.R_drew HO_210001.out)
     have n2_ := mk0 (Kd.R_drew HO_210002.out)
     have n3_ := mk0 (blk_drew BK209.out)
     have n4_ := mk0 (below_drew1 HB.out)
     clear HO_210000
     clear HO_210001
     clear HO_210002
     clear BK209
     clear HB
     have HO_210000 := n0_
     have HO_210001 := n1_
     have HO_210002 := n2_
     have BK209 := n3_
     have HB := n4_
     clear n0_ n1_ n2_ n3_ n4_
     refine start_ (n := 11) (S := fun w' => w'.cell? ⟨gb209, 0, none⟩ = some (.slice Ao7 t200.length co7) ∧ w'.cell? ⟨gb209, 1, none⟩ = some (.slice Ao9 t203.length co9) ∧ w'.cell? ⟨gb209, 2, none⟩ = some (.slice Ao10 t206.length co10)) (ds := []) #[false, false, false, false, false, false, false, false, false, false, false] (by kernel_rfl) rfl rfl ⟨(blk_cell BK209.out 0).trans rfl, (blk_cell BK209.out 1).trans rfl, (blk_cell BK209.out 2).trans rfl⟩ (fun hHeld => ?_); refine with_tabW laws_FnMemAll.tab5 laws_FnMemAll.bits5 (fun HT_ HW_ => ?_)
     generalize wc.drew = w57 at HO_210000 HO_210001 HO_210002 BK209 HB hHeld ⊢
     refine take_ (i := 0) (N := some 30) (v := ?_) (a' := ?_) #[true, false, false, false, false, false, false, false, false, false, false] rfl rfl (take_ofW HT_.out HW_.out (by kernel_rfl)) (fun _ _ _ h => h) (Or.inl ⟨by rfl, ?_⟩) hHeld ?_ ?_
     rotate_left
     · rintro w' ⟨s0, s1, s2⟩
       go_simp
       with_reducible rfl
     rotate_left
     · simp only [Act.put, qa, qb, qc, i64_w, i32_w]
       rfl
     refine take_ (i := 2) (N := some 32) (v := ?_) (a' := ?_) #[true, false, true, false, false, false, false, false, false, false, false] rfl rfl (take_ofW HT_.out HW_.out (by kernel_rfl)) (fun _ _ _ h => h) (Or.inl ⟨by rfl, ?_⟩) hHeld ?_ ?_
     rotate_left
     · rintro w' ⟨s0, s1, s2⟩
       go_simp
       with_reducible rfl
     rotate_left
     · simp only [Act.put, qa, qb, qc, i64_w, i32_w]
       rfl
     refine one_ (i := 1) (N := some 31) #[true, true, true, false, false, false, false, false, false, false, false] rfl rfl (one_of HT_.out (by kernel_rfl)) (by decide) (fun K hK => ?_)
     refine goes_ Try.func21 (by kernel_rfl) rfl #[.agg #[.slice Ao7 t200.length co7, .slice Ao9 t203.length co9, .slice Ao10 t206.length co10]] (by rfl) rfl rfl (by (try simp only [List.map_toArray, List.map_cons, List.map_nil]); first | done | rfl | (simp only [List.length_drop, List.length_take]; rfl)) ?_
     with_reducible refine (impl_MemOk.calls _ _ t200 _ _ t203 _ _ t206 t232 _ ?side1 ?side2 ?side3 ?side4 ?side5 ?side6 A51.out).mono ?_
     (case side1 => repeat (first | exact (Kd.R_reads' HO_210000.out).2.2 | (with_reducible first | refine cA ?_ _ | refine cN ?_ _ | refine cD ?_)))
     (case side2 => exact (Kd.R_reads' HO_210000.out).2.1)
     (case side3 => repeat (first | exact (Kd.R_reads' HO_210001.out).2.2 | (with_reducible first | refine cA ?_ _ | refine cN ?_ _ | refine cD ?_)))
     (case side4 => exact (Kd.R_reads' HO_210001.out).2.1)
     (case side5 => repeat (first | exact (Kd.R_reads' HO_210002.out).2.2 | (with_reducible first | refine cA ?_ _ | refine cN ?_ _ | refine cD ?_)))
     (case side6 => exact (Kd.R_reads' HO_210002.out).2.1)
     rintro e w58 ⟨rfl, hb⟩
     refine ⟨_, rfl, ?_⟩
     have n0_ := mk0 (Kd.R_below (by (with_reducible repeat (first | apply rA | apply rN | apply rD)); exact HO_210000.out) hb)
     have n1_ := mk0 (Kd.R_below (by (with_reducible repeat (first | apply rA | apply rN | apply rD)); exact HO_210001.out) hb)
     have n2_ := mk0 (Kd.R_below (by (with_reducible repeat (first | apply rA | apply rN | apply rD)); exact HO_210002.out) hb)
     have n3_ := mk0 (blk_below (g := gb209) (o := .cells #[.slice Ao7 t200.length co7, .slice Ao9 t203.length co9, .slice Ao10 t206.length co10] 24 (0, 0)) (by (with_reducible repeat (first | refine pN ?_ _ | refine pD ?_ | refine pA ?_ _)); exact BK209.out) hb)
     have n4_ := mk0 (below_step (by repeat (first | (with_reducible first | exact HB.out | apply bA | apply bN | apply bD | refine bS ?_ GE209.out) | exact HB.out)) hb)
     clear HO_210000
     clear HO_210001
     clear HO_210002
     clear BK209
     clear HB
     have HO_210000 := n0_
     have HO_210001 := n1_
     have HO_210002 := n2_
     have BK209 := n3_
     have HB := n4_
     clear n0_ n1_ n2_ n3_ n4_
     (try clear hb)
     (try clear hb2)
     (try clear hk)
     (try clear hi)
     refine hK.out _ _ ⟨(blk_cell BK209.out 0).trans rfl, (blk_cell BK209.out 1).trans rfl, (blk_cell BK209.out 2).trans rfl⟩ (fun hHeld => ?_)
     clear hK K
     refine norm_ (a' := ?_) ?_ ?_
     rotate_left
     · show Act.put _ (some 31) _ = _
       simp only [Act.put, qa, qb, qc, i64_w, i32_w]
       rfl
     refine one_ (i := 3) (N := some 33) #[true, true, true, true, false, false, false, false, false, false, false] rfl rfl (one_of HT_.out (by kernel_rfl)) (by decide) (fun K hK => ?_)
     refine goes_ Try.func20 (by kernel_rfl) rfl #[.agg #[.slice Ao7 t200.length co7, .slice Ao9 t203.length co9, .slice Ao10 t206.length co10]] (by rfl) rfl rfl (by (try simp only [List.map_toArray, List.map_cons, List.map_nil]); first | done | rfl | (simp only [List.length_drop, List.length_take]; rfl)) ?_
     with_reducible refine (spec_MemOk.calls kj3 _ _ t200 _ _ t203 _ _ t206 t233 _ ?side1 ?side2 ?side3 ?side4 ?side5 ?side6 A52.out).mono ?_
     (case side1 => repeat (first | exact (Kd.R_reads' HO_210000.out).2.2 | (with_reducible first | refine cA ?_ _ | refine cN ?_ _ | refine cD ?_)))
     (case side2 => exact (Kd.R_reads' HO_210000.out).2.1)
     (case side3 => repeat (first | exact (Kd.R_reads' HO_210001.out).2.2 | (with_reducible first | refine cA ?_ _ | refine cN ?_ _ | refine cD ?_)))
     (case side4 => exact (Kd.R_reads' HO_210001.out).2.1)
     (case side5 => repeat (first | exact (Kd.R_reads' HO_210002.out).2.2 | (with_reducible first | refine cA ?_ _ | refine cN ?_ _ | refine cD ?_)))
     (case side6 => exact (Kd.R_reads' HO_210002.out).2.1)
     rintro e w59 ⟨rfl, hb⟩
     refine ⟨_, rfl, ?_⟩
     have n0_ := mk0 (Kd.R_below (by (with_reducible repeat (first | apply rA | apply rN | apply rD)); exact HO_210000.out) hb)
     have n1_ := mk0 (Kd.R_below (by (with_reducible repeat (first | apply rA | apply rN | apply rD)); exact HO_210001.out) hb)
     have n2_ := mk0 (Kd.R_below (by (with_reducible repeat (first | apply rA | apply rN | apply rD)); exact HO_210002.out) hb)
     have n3_ := mk0 (blk_below (g := gb209) (o := .cells #[.slice Ao7 t200.length co7, .slice Ao9 t203.length co9, .slice Ao10 t206.length co10] 24 (0, 0)) (by (with_reducible repeat (first | refine pN ?_ _ | refine pD ?_ | refine pA ?_ _)); exact BK209.out) hb)
     have n4_ := mk0 (below_step (by repeat (first | (with_reducible first | exact HB.out | apply bA | apply bN | apply bD | refine bS ?_ GE209.out) | exact HB.out)) hb)
     clear HO_210000
     clear HO_210001
     clear HO_210002
     clear BK209
     clear HB
     have HO_210000 := n0_
     have HO_210001 := n1_
     have HO_210002 := n2_
     have BK209 := n3_
     have HB := n4_
     clear n0_ n1_ n2_ n3_ n4_
     (try clear hb)
     (try clear hb2)
     (try clear hk)
     (try clear hi)
     refine hK.out _ _ ⟨(blk_cell BK209.out 0).trans rfl, (blk_cell BK209.out 1).trans rfl, (blk_cell BK209.out 2).trans rfl⟩ (fun hHeld => ?_)
     clear hK K
     refine norm_ (a' := ?_) ?_ ?_
     rotate_left
     · show Act.put _ (some 33) _ = _
       simp only [Act.put, qa, qb, qc, i64_w, i32_w]
       rfl
     refine pure_ (i := 4) (N := some 34) (v := ?_) (a' := ?_) #[true, true, true, true, true, false, false, false, false, false, false] rfl rfl (any_of HT_.out (by kernel_rfl)) (fun _ _ _ h => h) (Or.inl ⟨by rfl, ?_⟩) ?_ ?_
     rotate_left
     · intro w'
       go_simp
       with_reducible rfl
     rotate_left
     · simp only [Act.put, qa, qb, qc, i64_w, i32_w]
       rfl
     refine pure_ (i := 5) (N := some 35) (v := ?_) (a' := ?_) #[true, true, true, true, true, true, false, false, false, false, false] rfl rfl (any_of HT_.out (by kernel_rfl)) (fun _ _ _ h => h) (Or.inl ⟨by rfl, ?_⟩) ?_ ?_
     rotate_left
     · intro w'
       go_simp
       with_reducible rfl
     rotate_left
     · simp only [Act.put, qa, qb, qc, i64_w, i32_w]
       rfl
     refine one_ (i := 6) (N := some 36) #[true, true, true, true, true, true, true, false, false, false, false] rfl rfl (one_of HT_.out (by kernel_rfl)) (by decide) (fun K hK => ?_)
     refine goes_ Try.func12 (by kernel_rfl) rfl #[] (by rfl) rfl rfl (by (try simp only [List.map_toArray, List.map_cons, List.map_nil]); first | done | rfl | (simp only [List.length_drop, List.length_take]; rfl)) ?_
     with_reducible refine (impl_MemOpen.calls  t234 t237 t240 _ A54.out).mono ?_
     rintro e w60 ⟨v235, v238, v241, rfl, ho0, ho1, ho2, hb⟩
     refine ⟨_, rfl, ?_⟩
     have n0_ := mk0 (Kd.R_below (by (with_reducible repeat (first | apply rA | apply rN | apply rD)); exact HO_210000.out) hb)
     have n1_ := mk0 (Kd.R_below (by (with_reducible repeat (first | apply rA | apply rN | apply rD)); exact HO_210001.out) hb)
     have n2_ := mk0 (Kd.R_below (by (with_reducible repeat (first | apply rA | apply rN | apply rD)); exact HO_210002.out) hb)
     have n3_ := mk0 (Kd.V_lower (Kd.V_mono (ok' := fun k_ => some k_ ≠ (.slice Ao7 t200.length co7 : Value).ownBlock ∧ some k_ ≠ (.slice Ao9 t203.length co9 : Value).ownBlock ∧ some k_ ≠ (.slice Ao10 t206.length co10 : Value).ownBlock ∧ k_ ≠ gb209) ho0 (fun k_ hk_ => ⟨(Kd.fresh' (Kd.R_lt (by (with_reducible repeat (first | apply rA | apply rN | apply rD)); exact HO_210000.out)) k_ hk_), (Kd.fresh' (Kd.R_lt (by (with_reducible repeat (first | apply rA | apply rN | apply rD)); exact HO_210001.out)) k_ hk_), (Kd.fresh' (Kd.R_lt (by (with_reducible repeat (first | apply rA | apply rN | apply rD)); exact HO_210002.out)) k_ hk_), (Kd.freshB (g := gb209) (o := .cells #[.slice Ao7 t200.length co7, .slice Ao9 t203.length co9, .slice Ao10 t206.length co10] 24 (0, 0)) (by (with_reducible repeat (first | refine pN ?_ _ | refine pD ?_ | refine pA ?_ _)); exact BK209.out) k_ hk_)⟩)) (below_size (by repeat (first | (with_reducible first | exact HB.out | apply bA | apply bN | apply bD | refine bS ?_ GE209.out) | exact HB.out))))
     have n4_ := mk0 (Kd.V_lower (Kd.V_mono (ok' := fun k_ => some k_ ≠ (.slice Ao7 t200.length co7 : Value).ownBlock ∧ some k_ ≠ (.slice Ao9 t203.length co9 : Value).ownBlock ∧ some k_ ≠ (.slice Ao10 t206.length co10 : Value).ownBlock ∧ k_ ≠ gb209) ho1 (fun k_ hk_ => ⟨(Kd.fresh' (Kd.R_lt (by (with_reducible repeat (first | apply rA | apply rN | apply rD)); exact HO_210000.out)) k_ hk_), (Kd.fresh' (Kd.R_lt (by (with_reducible repeat (first | apply rA | apply rN | apply rD)); exact HO_210001.out)) k_ hk_), (Kd.fresh' (Kd.R_lt (by (with_reducible repeat (first | apply rA | apply rN | apply rD)); exact HO_210002.out)) k_ hk_), (Kd.freshB (g := gb209) (o := .cells #[.slice Ao7 t200.length co7, .slice Ao9 t203.length co9, .slice Ao10 t206.length co10] 24 (0, 0)) (by (with_reducible repeat (first | refine pN ?_ _ | refine pD ?_ | refine pA ?_ _)); exact BK209.out) k_ hk_)⟩)) (below_size (by repeat (first | (with_reducible first | exact HB.out | apply bA | apply bN | apply bD | refine bS ?_ GE209.out) | exact HB.out))))
     have n5_ := mk0 (Kd.V_lower (Kd.V_mono (ok' := fun k_ => some k_ ≠ (.slice Ao7 t200.length co7 : Value).ownBlock ∧ some k_ ≠ (.slice Ao9 t203.length co9 : Value).ownBlock ∧ some k_ ≠ (.slice Ao10 t206.length co10 : Value).ownBlock ∧ k_ ≠ gb209) ho2 (fun k_ hk_ => ⟨(Kd.fresh' (Kd.R_lt (by (with_reducible repeat (first | apply rA | apply rN | apply rD)); exact HO_210000.out)) k_ hk_), (Kd.fresh' (Kd.R_lt (by (with_reducible repeat (first | apply rA | apply rN | apply rD)); exact HO_210001.out)) k_ hk_), (Kd.fresh' (Kd.R_lt (by (with_reducible repeat (first | apply rA | apply rN | apply rD)); exact HO_210002.out)) k_ hk_), (Kd.freshB (g := gb209) (o := .cells #[.slice Ao7 t200.length co7, .slice Ao9 t203.length co9, .slice Ao10 t206.length co10] 24 (0, 0)) (by (with_reducible repeat (first | refine pN ?_ _ | refine pD ?_ | refine pA ?_ _)); exact BK209.out) k_ hk_)⟩)) (below_size (by repeat (first | (with_reducible first | exact HB.out | apply bA | apply bN | apply bD | refine bS ?_ GE209.out) | exact HB.out))))
     have n6_ := mk0 (blk_below (g := gb209) (o := .cells #[.slice Ao7 t200.length co7, .slice Ao9 t203.length co9, .slice Ao10 t206.length co10] 24 (0, 0)) (by (with_reducible repeat (first | refine pN ?_ _ | refine pD ?_ | refine pA ?_ _)); exact BK209.out) hb)
     have n7_ := mk0 (below_step (by repeat (first | (with_reducible first | exact HB.out | apply bA | apply bN | apply bD | refine bS ?_ GE209.out) | exact HB.out)) hb)
     clear HO_210000
     clear HO_210001
     clear HO_210002
     clear BK209
     clear HB
     have HO_210000 := n0_
     have HO_210001 := n1_
     have HO_210002 := n2_
     have HO236 := n3_
     have HO239 := n4_
     have HO242 := n5_
     have BK209 := n6_
     have HB := n7_
     clear n0_ n1_ n2_ n3_ n4_ n5_ n6_ n7_
     (try clear hb)
     (try clear hb2)
     (try clear hk)
     (try clear hi)
     (try clear ho0)
     (try clear ho1)
     (try clear ho2)
     refine hK.out _ _ ⟨(blk_cell BK209.out 0).trans rfl, (blk_cell BK209.out 1).trans rfl, (blk_cell BK209.out 2).trans rfl⟩ (fun hHeld => ?_)
     clear hK K
     refine norm_ (a' := ?_) ?_ ?_
     rotate_left
     · show Act.put _ (some 36) _ = _
       simp only [Act.put, qa, qb, qc, i64_w, i32_w]
       rfl
     refine one_ (i := 7) (N := some 37) #[true, true, true, true, true, true, true, true, false, false, false] rfl rfl (one_of HT_.out (by kernel_rfl)) (by decide) (fun K hK => ?_)
     refine goes_ Try.func11 (by kernel_rfl) rfl #[] (by rfl) rfl rfl (by (try simp only [List.map_toArray, List.map_cons, List.map_nil]); first | done | rfl | (simp only [List.length_drop, List.length_take]; rfl)) ?_
     with_reducible refine (spec_MemOpen.calls  t243 t246 t249 _ A55.out).mono ?_
     rintro e w61 ⟨v244, v247, v250, rfl, ho0, ho1, ho2, hb⟩
     refine ⟨_, rfl, ?_⟩
     have n0_ := mk0 (Kd.R_mono (Kd.R_told (Kd.R_told (Kd.R_told (Kd.R_old (by (with_reducible repeat (first | apply rA | apply rN | apply rD)); exact HO_210000.out) hb) (Kd.R_base ho0)) (Kd.R_base ho1)) (Kd.R_base ho2)) (fun _ h_ => h_.1))
     have n1_ := mk0 (Kd.R_mono (Kd.R_told (Kd.R_told (Kd.R_told (Kd.R_old (by (with_reducible repeat (first | apply rA | apply rN | apply rD)); exact HO_210001.out) hb) (Kd.R_base ho0)) (Kd.R_base ho1)) (Kd.R_base ho2)) (fun _ h_ => h_.1))
     have n2_ := mk0 (Kd.R_mono (Kd.R_told (Kd.R_told (Kd.R_told (Kd.R_old (by (with_reducible repeat (first | apply rA | apply rN | apply rD)); exact HO_210002.out) hb) (Kd.R_base ho0)) (Kd.R_base ho1)) (Kd.R_base ho2)) (fun _ h_ => h_.1))
     have n3_ := mk0 (Kd.V_mono (Kd.V_told (Kd.V_told (Kd.V_told (Kd.V_old (by (with_reducible repeat (first | apply vA | apply vN | apply vD)); exact HO236.out) hb) (Kd.R_base ho0)) (Kd.R_base ho1)) (Kd.R_base ho2)) (fun _ h_ => h_.1))
     have n4_ := mk0 (Kd.V_mono (Kd.V_told (Kd.V_told (Kd.V_told (Kd.V_old (by (with_reducible repeat (first | apply vA | apply vN | apply vD)); exact HO239.out) hb) (Kd.R_base ho0)) (Kd.R_base ho1)) (Kd.R_base ho2)) (fun _ h_ => h_.1))
     have n5_ := mk0 (Kd.V_mono (Kd.V_told (Kd.V_told (Kd.V_told (Kd.V_old (by (with_reducible repeat (first | apply vA | apply vN | apply vD)); exact HO242.out) hb) (Kd.R_base ho0)) (Kd.R_base ho1)) (Kd.R_base ho2)) (fun _ h_ => h_.1))
     have n6_ := mk0 (Kd.R_lower (Kd.R_new' (Kd.R_new' (Kd.R_new' ho0 (Kd.R_lt (by (with_reducible repeat (first | apply rA | apply rN | apply rD)); exact HO_210000.out))) (Kd.R_lt (by (with_reducible repeat (first | apply rA | apply rN | apply rD)); exact HO_210001.out))) (Kd.R_lt (by (with_reducible repeat (first | apply rA | apply rN | apply rD)); exact HO_210002.out))) (below_size (by repeat (first | (with_reducible first | exact HB.out | apply bA | apply bN | apply bD | refine bS ?_ GE209.out) | exact HB.out))))
     have n7_ := mk0 (Kd.R_lower (Kd.R_new' (Kd.R_new' (Kd.R_new' ho1 (Kd.R_lt (by (with_reducible repeat (first | apply rA | apply rN | apply rD)); exact HO_210000.out))) (Kd.R_lt (by (with_reducible repeat (first | apply rA | apply rN | apply rD)); exact HO_210001.out))) (Kd.R_lt (by (with_reducible repeat (first | apply rA | apply rN | apply rD)); exact HO_210002.out))) (below_size (by repeat (first | (with_reducible first | exact HB.out | apply bA | apply bN | apply bD | refine bS ?_ GE209.out) | exact HB.out))))
     have n8_ := mk0 (Kd.R_lower (Kd.R_new' (Kd.R_new' (Kd.R_new' ho2 (Kd.R_lt (by (with_reducible repeat (first | apply rA | apply rN | apply rD)); exact HO_210000.out))) (Kd.R_lt (by (with_reducible repeat (first | apply rA | apply rN | apply rD)); exact HO_210001.out))) (Kd.R_lt (by (with_reducible repeat (first | apply rA | apply rN | apply rD)); exact HO_210002.out))) (below_size (by repeat (first | (with_reducible first | exact HB.out | apply bA | apply bN | apply bD | refine bS ?_ GE209.out) | exact HB.out))))
     have n9_ := mk0 (blk_below (g := gb209) (o := .cells #[.slice Ao7 t200.length co7, .slice Ao9 t203.length co9, .slice Ao10 t206.length co10] 24 (0, 0)) (by (with_reducible repeat (first | refine pN ?_ _ | refine pD ?_ | refine pA ?_ _)); exact BK209.out) hb)
     have n10_ := mk0 (below_step (by repeat (first | (with_reducible first | exact HB.out | apply bA | apply bN | apply bD | refine bS ?_ GE209.out) | exact HB.out)) hb)
     clear HO_210000
     clear HO_210001
     clear HO_210002
     clear HO236
     clear HO239
     clear HO242
     clear BK209
     clear HB
     have HO_210000 := n0_
     have HO_210001 := n1_
     have HO_210002 := n2_
     have HO236 := n3_
     have HO239 := n4_
     have HO242 := n5_
     have HO245 := n6_
     have HO248 := n7_
     have HO251 := n8_
     have BK209 := n9_
     have HB := n10_
     clear n0_ n1_ n2_ n3_ n4_ n5_ n6_ n7_ n8_ n9_ n10_
     (try clear hb)
     (try clear hb2)
     (try clear hk)
     (try clear hi)
     (try clear ho0)
     (try clear ho1)
     (try clear ho2)
     obtain ⟨Ao62, co62, eo62⟩ := Kd.V_slice HO236.out
     (first | subst eo62 | (injection eo62 with f1_ f2_ f3_; have f4_ := f1_.symm; have f5_ := f3_.symm; clear f1_ f2_ f3_; subst f4_; subst f5_))
     obtain ⟨Ao63, co63, eo63⟩ := Kd.V_slice HO239.out
     (first | subst eo63 | (injection eo63 with f1_ f2_ f3_; have f4_ := f1_.symm; have f5_ := f3_.symm; clear f1_ f2_ f3_; subst f4_; subst f5_))
     obtain ⟨Ao64, co64, eo64⟩ := Kd.V_slice HO242.out
     (first | subst eo64 | (injection eo64 with f1_ f2_ f3_; have f4_ := f1_.symm; have f5_ := f3_.symm; clear f1_ f2_ f3_; subst f4_; subst f5_))
     obtain ⟨Ao65, co65, eo65⟩ := Kd.R_slice HO245.out
     (first | subst eo65 | (injection eo65 with f1_ f2_ f3_; have f4_ := f1_.symm; have f5_ := f3_.symm; clear f1_ f2_ f3_; subst f4_; subst f5_))
     obtain ⟨Ao66, co66, eo66⟩ := Kd.R_slice HO248.out
     (first | subst eo66 | (injection eo66 with f1_ f2_ f3_; have f4_ := f1_.symm; have f5_ := f3_.symm; clear f1_ f2_ f3_; subst f4_; subst f5_))
     obtain ⟨Ao67, co67, eo67⟩ := Kd.R_slice HO251.out
     (first | subst eo67 | (injection eo67 with f1_ f2_ f3_; have f4_ := f1_.symm; have f5_ := f3_.symm; clear f1_ f2_ f3_; subst f4_; subst f5_))
     refine hK.out _ _ ⟨(blk_cell BK209.out 0).trans rfl, (blk_cell BK209.out 1).trans rfl, (blk_cell BK209.out 2).trans rfl⟩ (fun hHeld => ?_)
     clear hK K
     refine norm_ (a' := ?_) ?_ ?_
     rotate_left
     · show Act.put _ (some 37) _ = _
       simp only [Act.put, qa, qb, qc, i64_w, i32_w]
       rfl
     refine one_ (i := 8) (N := some 38) #[true, true, true, true, true, true, true, true, true, false, false] rfl rfl (one_of HT_.out (by kernel_rfl)) (by decide) (fun K hK => ?_)
     refine goes_ Try.func19 (by kernel_rfl) rfl #[.agg #[.slice Ao62 t234.length co62, .slice Ao63 t237.length co63, .slice Ao64 t240.length co64], .agg #[.slice Ao65 t243.length co65, .slice Ao66 t246.length co66, .slice Ao67 t249.length co67]] (by rfl) rfl rfl (by (try simp only [List.map_toArray, List.map_cons, List.map_nil]); first | done | rfl | (simp only [List.length_drop, List.length_take]; rfl)) ?_
     with_reducible refine (impl_MemSame.calls kj3 _ _ t234 _ _ t237 _ _ t240 _ _ t243 _ _ t246 _ _ t249 t252 _ ?side1 ?side2 ?side3 ?side4 ?side5 ?side6 ?side7 ?side8 ?side9 ?side10 ?side11 ?side12 A56.out).mono ?_
     (case side1 => repeat (first | exact (Kd.V_reads' HO236.out).2.2 | (with_reducible first | refine cA ?_ _ | refine cN ?_ _ | refine cD ?_)))
     (case side2 => exact (Kd.V_reads' HO236.out).2.1)
     (case side3 => repeat (first | exact (Kd.V_reads' HO239.out).2.2 | (with_reducible first | refine cA ?_ _ | refine cN ?_ _ | refine cD ?_)))
     (case side4 => exact (Kd.V_reads' HO239.out).2.1)
     (case side5 => repeat (first | exact (Kd.V_reads' HO242.out).2.2 | (with_reducible first | refine cA ?_ _ | refine cN ?_ _ | refine cD ?_)))
     (case side6 => exact (Kd.V_reads' HO242.out).2.1)
     (case side7 => repeat (first | exact (Kd.R_reads' HO245.out).2.2 | (with_reducible first | refine cA ?_ _ | refine cN ?_ _ | refine cD ?_)))
     (case side8 => exact (Kd.R_reads' HO245.out).2.1)
     (case side9 => repeat (first | exact (Kd.R_reads' HO248.out).2.2 | (with_reducible first | refine cA ?_ _ | refine cN ?_ _ | refine cD ?_)))
     (case side10 => exact (Kd.R_reads' HO248.out).2.1)
     (case side11 => repeat (first | exact (Kd.R_reads' HO251.out).2.2 | (with_reducible first | refine cA ?_ _ | refine cN ?_ _ | refine cD ?_)))
     (case side12 => exact (Kd.R_reads' HO251.out).2.1)
     rintro e w68 ⟨rfl, hb⟩
     refine ⟨_, rfl, ?_⟩
     have n0_ := mk0 (Kd.R_below (by (with_reducible repeat (first | apply rA | apply rN | apply rD)); exact HO_210000.out) hb)
     have n1_ := mk0 (Kd.R_below (by (with_reducible repeat (first | apply rA | apply rN | apply rD)); exact HO_210001.out) hb)
     have n2_ := mk0 (Kd.R_below (by (with_reducible repeat (first | apply rA | apply rN | apply rD)); exact HO_210002.out) hb)
     have n3_ := mk0 (Kd.V_below (by (with_reducible repeat (first | apply vA | apply vN | apply vD)); exact HO236.out) hb)
     have n4_ := mk0 (Kd.V_below (by (with_reducible repeat (first | apply vA | apply vN | apply vD)); exact HO239.out) hb)
     have n5_ := mk0 (Kd.V_below (by (with_reducible repeat (first | apply vA | apply vN | apply vD)); exact HO242.out) hb)
     have n6_ := mk0 (Kd.R_below (by (with_reducible repeat (first | apply rA | apply rN | apply rD)); exact HO245.out) hb)
     have n7_ := mk0 (Kd.R_below (by (with_reducible repeat (first | apply rA | apply rN | apply rD)); exact HO248.out) hb)
     have n8_ := mk0 (Kd.R_below (by (with_reducible repeat (first | apply rA | apply rN | apply rD)); exact HO251.out) hb)
     have n9_ := mk0 (blk_below (g := gb209) (o := .cells #[.slice Ao7 t200.length co7, .slice Ao9 t203.length co9, .slice Ao10 t206.length co10] 24 (0, 0)) (by (with_reducible repeat (first | refine pN ?_ _ | refine pD ?_ | refine pA ?_ _)); exact BK209.out) hb)
     have n10_ := mk0 (below_step (by repeat (first | (with_reducible first | exact HB.out | apply bA | apply bN | apply bD | refine bS ?_ GE209.out) | exact HB.out)) hb)
     clear HO_210000
     clear HO_210001
     clear HO_210002
     clear HO236
     clear HO239
     clear HO242
     clear HO245
     clear HO248
     clear HO251
     clear BK209
     clear HB
     have HO_210000 := n0_
     have HO_210001 := n1_
     have HO_210002 := n2_
     have HO236 := n3_
     have HO239 := n4_
     have HO242 := n5_
     have HO245 := n6_
     have HO248 := n7_
     have HO251 := n8_
     have BK209 := n9_
     have HB := n10_
     clear n0_ n1_ n2_ n3_ n4_ n5_ n6_ n7_ n8_ n9_ n10_
     (try clear hb)
     (try clear hb2)
     (try clear hk)
     (try clear hi)
     refine hK.out _ _ ⟨(blk_cell BK209.out 0).trans rfl, (blk_cell BK209.out 1).trans rfl, (blk_cell BK209.out 2).trans rfl⟩ (fun hHeld => ?_)
     clear hK K
     refine norm_ (a' := ?_) ?_ ?_
     rotate_left
     · show Act.put _ (some 38) _ = _
       simp only [Act.put, qa, qb, qc, i64_w, i32_w]
       rfl
     refine pure_ (i := 9) (N := some 39) (v := ?_) (a' := ?_) #[true, true, true, true, true, true, true, true, true, true, false] rfl rfl (any_of HT_.out (by kernel_rfl)) (fun _ _ _ h => h) (Or.inl ⟨by rfl, ?_⟩) ?_ ?_
     rotate_left
     · intro w'
       go_simp
       with_reducible rfl
     rotate_left
     · simp only [Act.put, qa, qb, qc, i64_w, i32_w]
       rfl
     refine pure_ (i := 10) (N := some 2) (v := ?_) (a' := ?_) #[true, true, true, true, true, true, true, true, true, true, true] rfl rfl (any_of HT_.out (by kernel_rfl)) (fun _ _ _ h => h) (Or.inl ⟨by rfl, ?_⟩) ?_ ?_
     rotate_left
     · intro w'
       go_simp
       with_reducible rfl
     rotate_left
     · simp only [Act.put, qa, qb, qc, i64_w, i32_w]
       rfl
     refine done_ (done_of HT_.out (by kernel_rfl)) ?_
     try go_wp2
     go_ret
     exact ⟨by first | rfl | exact congrArg (fun b => Ending.returned (.bool b)) HTR_.out | exact absurd HTR_.out (by decide) | (simp [errW_none, errW_some] <;> rfl) | (simp [*, errW_none, errW_some] <;> rfl), by repeat (first | (with_reducible first | exact HB.out | apply bA | apply bN | apply bD | refine bS ?_ GE209.out) | exact HB.out)⟩
   replace c50 := Bool.eq_false_iff.mpr c50
   subst c50
   have H1 : ((impl_MemOpen.f).bind fun bt253 => (laws_FnMemAll.l0 kj3 1 t200 t203 t206 bt253.1 bt253.2.1 bt253.2.2)) = some true := by rw [if_neg (show ¬ (false = true) by decide)] at H; exact H
   clear H
   have H := H1
   clear H1
   replace H := Option.bind_eq_some_iff.mp H
   obtain ⟨⟨t253, t256, t259⟩, A720, H⟩ := H
   replace H : (laws_FnMemAll.l0 kj3 1 t200 t203 t206 t253 t256 t259) = some true := H
   have A72 := mk0 A720
   clear A720
   have H' := mk0 H
   clear H
   go_wp2_with (first | ((with_reducible refine gate_callee (f := 12) rfl ?_); refine goesL_ (some 40) rfl rfl Try.func12 (by kernel_rfl) rfl #[] rfl (by (try simp only [List.map_toArray, List.map_cons, List.map_nil]); first | done | rfl | (simp only [List.length_drop, List.length_take]; rfl)) ?_; (with_reducible refine (impl_MemOpen.calls  t253 t256 t259 _ A72.out).mono ?_); rintro e w73 ⟨v254, v257, v260, rfl, ho0, ho1, ho2, hb⟩; refine ⟨_, rfl, ?_⟩; have n0_ := mk0 (Kd.R_below (by (with_reducible repeat (first | apply rA | apply rN | apply rD)); exact HO_210000.out) hb); have n1_ := mk0 (Kd.R_below (by (with_reducible repeat (first | apply rA | apply rN | apply rD)); exact HO_210001.out) hb); have n2_ := mk0 (Kd.R_below (by (with_reducible repeat (first | apply rA | apply rN | apply rD)); exact HO_210002.out) hb); have n3_ := mk0 (Kd.V_lower (Kd.V_mono (ok' := fun k_ => some k_ ≠ (.slice Ao7 t200.length co7 : Value).ownBlock ∧ some k_ ≠ (.slice Ao9 t203.length co9 : Value).ownBlock ∧ some k_ ≠ (.slice Ao10 t206.length co10 : Value).ownBlock ∧ k_ ≠ gb209) ho0 (fun k_ hk_ => ⟨(Kd.fresh' (Kd.R_lt (by (with_reducible repeat (first | apply rA | apply rN | apply rD)); exact HO_210000.out)) k_ hk_), (Kd.fresh' (Kd.R_lt (by (with_reducible repeat (first | apply rA | apply rN | apply rD)); exact HO_210001.out)) k_ hk_), (Kd.fresh' (Kd.R_lt (by (with_reducible repeat (first | apply rA | apply rN | apply rD)); exact HO_210002.out)) k_ hk_), (Kd.freshB (g := gb209) (o := .cells #[.slice Ao7 t200.length co7, .slice Ao9 t203.length co9, .slice Ao10 t206.length co10] 24 (0, 0)) (by (with_reducible repeat (first | refine pN ?_ _ | refine pD ?_ | refine pA ?_ _)); exact BK209.out) k_ hk_)⟩)) (below_size (by repeat (first | (with_reducible first | exact HB.out | apply bA | apply bN | apply bD | refine bS ?_ GE209.out) | exact HB.out)))); have n4_ := mk0 (Kd.V_lower (Kd.V_mono (ok' := fun k_ => some k_ ≠ (.slice Ao7 t200.length co7 : Value).ownBlock ∧ some k_ ≠ (.slice Ao9 t203.length co9 : Value).ownBlock ∧ some k_ ≠ (.slice Ao10 t206.length co10 : Value).ownBlock ∧ k_ ≠ gb209) ho1 (fun k_ hk_ => ⟨(Kd.fresh' (Kd.R_lt (by (with_reducible repeat (first | apply rA | apply rN | apply rD)); exact HO_210000.out)) k_ hk_), (Kd.fresh' (Kd.R_lt (by (with_reducible repeat (first | apply rA | apply rN | apply rD)); exact HO_210001.out)) k_ hk_), (Kd.fresh' (Kd.R_lt (by (with_reducible repeat (first | apply rA | apply rN | apply rD)); exact HO_210002.out)) k_ hk_), (Kd.freshB (g := gb209) (o := .cells #[.slice Ao7 t200.length co7, .slice Ao9 t203.length co9, .slice Ao10 t206.length co10] 24 (0, 0)) (by (with_reducible repeat (first | refine pN ?_ _ | refine pD ?_ | refine pA ?_ _)); exact BK209.out) k_ hk_)⟩)) (below_size (by repeat (first | (with_reducible first | exact HB.out | apply bA | apply bN | apply bD | refine bS ?_ GE209.out) | exact HB.out)))); have n5_ := mk0 (Kd.V_lower (Kd.V_mono (ok' := fun k_ => some k_ ≠ (.slice Ao7 t200.length co7 : Value).ownBlock ∧ some k_ ≠ (.slice Ao9 t203.length co9 : Value).ownBlock ∧ some k_ ≠ (.slice Ao10 t206.length co10 : Value).ownBlock ∧ k_ ≠ gb209) ho2 (fun k_ hk_ => ⟨(Kd.fresh' (Kd.R_lt (by (with_reducible repeat (first | apply rA | apply rN | apply rD)); exact HO_210000.out)) k_ hk_), (Kd.fresh' (Kd.R_lt (by (with_reducible repeat (first | apply rA | apply rN | apply rD)); exact HO_210001.out)) k_ hk_), (Kd.fresh' (Kd.R_lt (by (with_reducible repeat (first | apply rA | apply rN | apply rD)); exact HO_210002.out)) k_ hk_), (Kd.freshB (g := gb209) (o := .cells #[.slice Ao7 t200.length co7, .slice Ao9 t203.length co9, .slice Ao10 t206.length co10] 24 (0, 0)) (by (with_reducible repeat (first | refine pN ?_ _ | refine pD ?_ | refine pA ?_ _)); exact BK209.out) k_ hk_)⟩)) (below_size (by repeat (first | (with_reducible first | exact HB.out | apply bA | apply bN | apply bD | refine bS ?_ GE209.out) | exact HB.out)))); have n6_ := mk0 (blk_below (g := gb209) (o := .cells #[.slice Ao7 t200.length co7, .slice Ao9 t203.length co9, .slice Ao10 t206.length co10] 24 (0, 0)) (by (with_reducible repeat (first | refine pN ?_ _ | refine pD ?_ | refine pA ?_ _)); exact BK209.out) hb); have n7_ := mk0 (below_step (by repeat (first | (with_reducible first | exact HB.out | apply bA | apply bN | apply bD | refine bS ?_ GE209.out) | exact HB.out)) hb); clear HO_210000; clear HO_210001; clear HO_210002; clear BK209; clear HB; have HO_210000 := n0_; have HO_210001 := n1_; have HO_210002 := n2_; have HO255 := n3_; have HO258 := n4_; have HO261 := n5_; have BK209 := n6_; have HB := n7_; clear n0_ n1_ n2_ n3_ n4_ n5_ n6_ n7_; (try clear hb); (try clear hb2); (try clear hk); (try clear hi); (try clear ho0); (try clear ho1); (try clear ho2)) | ((with_reducible refine gate_dst (N := 4) rfl ?_); refine box_event ?hg (N := 4) ?hd (cs := #[.slice none 0 0, .slice none 0 0, .slice none 0 0]) (t := 24) ?hr ?_; (case hd => rfl); (case hg => rfl); (case hr => first | (go_simp; done) | (go_simp; rfl)); intro gb262 hg w74 hbox hb; have n0_ := mk0 (Kd.R_below (by (with_reducible repeat (first | apply rA | apply rN | apply rD)); exact HO_210000.out) hb); have n1_ := mk0 (Kd.R_below (by (with_reducible repeat (first | apply rA | apply rN | apply rD)); exact HO_210001.out) hb); have n2_ := mk0 (Kd.R_below (by (with_reducible repeat (first | apply rA | apply rN | apply rD)); exact HO_210002.out) hb); have n3_ := mk0 (Kd.V_below (Kd.V_elderB (by (with_reducible repeat (first | apply vA | apply vN | apply vD)); exact HO255.out) gb262 (Nat.le_of_eq hg.symm)) hb); have n4_ := mk0 (Kd.V_below (Kd.V_elderB (by (with_reducible repeat (first | apply vA | apply vN | apply vD)); exact HO258.out) gb262 (Nat.le_of_eq hg.symm)) hb); have n5_ := mk0 (Kd.V_below (Kd.V_elderB (by (with_reducible repeat (first | apply vA | apply vN | apply vD)); exact HO261.out) gb262 (Nat.le_of_eq hg.symm)) hb); have n6_ := mk0 (blk_below (g := gb209) (o := .cells #[.slice Ao7 t200.length co7, .slice Ao9 t203.length co9, .slice Ao10 t206.length co10] 24 (0, 0)) (by (with_reducible repeat (first | refine pN ?_ _ | refine pD ?_ | refine pA ?_ _)); exact BK209.out) hb); have n7_ := mk0 (below_step (by repeat (first | (with_reducible first | exact HB.out | apply bA | apply bN | apply bD | refine bS ?_ GE209.out) | exact HB.out)) hb); have n8_ := mk0 (hbox); have n9_ := mk0 ((by rw [hg]; exact (below_size (by repeat (first | (with_reducible first | exact HB.out | apply bA | apply bN | apply bD | refine bS ?_ GE209.out) | exact HB.out))) : w.heap.size ≤ gb262)); have n10_ := mk0 ((by rw [hg]; exact (below_size (by repeat (first | (with_reducible first | exact HB.out | apply bA | apply bN | apply bD | refine bS ?_ GE209.out) | exact HB.out))) : w.heap.size ≤ gb262)); have n11_ := mk0 ((by rw [hg]; exact Nat.ne_of_lt (blk_lt (g := gb209) (o := .cells #[.slice Ao7 t200.length co7, .slice Ao9 t203.length co9, .slice Ao10 t206.length co10] 24 (0, 0)) (by (with_reducible repeat (first | refine pN ?_ _ | refine pD ?_ | refine pA ?_ _)); exact BK209.out)) : gb209 ≠ gb262)); have n12_ := mk0 ((by rw [hg]; exact Nat.ne_of_gt (blk_lt (g := gb209) (o := .cells #[.slice Ao7 t200.length co7, .slice Ao9 t203.length co9, .slice Ao10 t206.length co10] 24 (0, 0)) (by (with_reducible repeat (first | refine pN ?_ _ | refine pD ?_ | refine pA ?_ _)); exact BK209.out)) : gb262 ≠ gb209)); clear HO_210000; clear HO_210001; clear HO_210002; clear HO255; clear HO258; clear HO261; clear BK209; clear HB; have HO_210000 := n0_; have HO_210001 := n1_; have HO_210002 := n2_; have HO255 := n3_; have HO258 := n4_; have HO261 := n5_; have BK209 := n6_; have HB := n7_; have BK262 := n8_; have GW262 := n9_; have GE262 := n10_; have NB209_262 := n11_; have NB262_209 := n12_; clear n0_ n1_ n2_ n3_ n4_ n5_ n6_ n7_ n8_ n9_ n10_ n11_ n12_; clear hb hbox hg; obtain ⟨Ao75, co75, eo75⟩ := Kd.V_slice HO255.out; subst eo75; have hnb76 := NB262_209.out; have hnc76 := NB209_262.out; have hcz77_0 : w74.cell? ⟨gb262, 0, none⟩ = some (.slice none 0 0) := (blk_cell BK262.out 0).trans rfl; have hcz77_1 : w74.cell? ⟨gb262, 1, none⟩ = some (.slice none 0 0) := (blk_cell BK262.out 1).trans rfl; have hcz77_2 : w74.cell? ⟨gb262, 2, none⟩ = some (.slice none 0 0) := (blk_cell BK262.out 2).trans rfl; have hfz77_0 := blk_frozen BK262.out 0; have hfz77_1 := blk_frozen BK262.out 1; have hfz77_2 := blk_frozen BK262.out 2; obtain ⟨Ao78, co78, eo78⟩ := Kd.V_slice HO258.out; subst eo78; obtain ⟨Ao79, co79, eo79⟩ := Kd.V_slice HO261.out; subst eo79))
   go_loopg [5] kj3 (fun kq v5 w' => ∃ (x5_2 : Int) (x263000_2 : List Int) (x263001_2 : List Int) (x263002_2 : List Int) (u263000 : Value) (u263001 : Value) (u263002 : Value), v5 = .int .i64 x5_2 ∧ Aside0 (laws_FnMemAll.l0 kq x5_2 t200 t203 t206 x263000_2 x263001_2 x263002_2 = some true) ∧ Aside0 (kq ≤ kj3) ∧ Aside0 (Kd.R (Kd.int .i64) 3 w' w.heap.size (fun k_ => some k_ ≠ ((.slice Ao9 t203.length co9) : Value).ownBlock ∧ some k_ ≠ ((.slice Ao10 t206.length co10) : Value).ownBlock) (.slice Ao7 t200.length co7) t200) ∧ Aside0 (Kd.R (Kd.int .i64) 3 w' w.heap.size (fun k_ => some k_ ≠ ((.slice Ao7 t200.length co7) : Value).ownBlock ∧ some k_ ≠ ((.slice Ao10 t206.length co10) : Value).ownBlock) (.slice Ao9 t203.length co9) t203) ∧ Aside0 (Kd.R (Kd.int .i64) 3 w' w.heap.size (fun k_ => some k_ ≠ ((.slice Ao7 t200.length co7) : Value).ownBlock ∧ some k_ ≠ ((.slice Ao9 t203.length co9) : Value).ownBlock) (.slice Ao10 t206.length co10) t206) ∧ Aside0 (Kd.V (Kd.int .i64) 3 w' w.heap.size (fun k_ => some k_ ≠ ((.slice Ao7 t200.length co7) : Value).ownBlock ∧ some k_ ≠ ((.slice Ao9 t203.length co9) : Value).ownBlock ∧ some k_ ≠ ((.slice Ao10 t206.length co10) : Value).ownBlock ∧ k_ ≠ gb209 ∧ k_ ≠ gb262) u263000 x263000_2) ∧ Aside0 (Kd.V (Kd.int .i64) 3 w' w.heap.size (fun k_ => some k_ ≠ ((.slice Ao7 t200.length co7) : Value).ownBlock ∧ some k_ ≠ ((.slice Ao9 t203.length co9) : Value).ownBlock ∧ some k_ ≠ ((.slice Ao10 t206.length co10) : Value).ownBlock ∧ k_ ≠ gb209 ∧ k_ ≠ gb262) u263001 x263001_2) ∧ Aside0 (Kd.V (Kd.int .i64) 3 w' w.heap.size (fun k_ => some k_ ≠ ((.slice Ao7 t200.length co7) : Value).ownBlock ∧ some k_ ≠ ((.slice Ao9 t203.length co9) : Value).ownBlock ∧ some k_ ≠ ((.slice Ao10 t206.length co10) : Value).ownBlock ∧ k_ ≠ gb209 ∧ k_ ≠ gb262) u263002 x263002_2) ∧ Aside0 (w'.heap[gb209]? = some (.cells #[(.slice Ao7 t200.length co7), (.slice Ao9 t203.length co9), (.slice Ao10 t206.length co10)] 24 (0, 0))) ∧ Aside0 (w'.heap[gb262]? = some (.cells #[u263000, u263001, u263002] 24 (0, 0))) ∧ Aside0 (Below w.heap.size w w'))
   case atStart => exact ⟨(1), (t253), (t256), (t259), (.slice Ao75 t253.length co75), (.slice Ao78 t256.length co78), (.slice Ao79 t259.length co79), (by first | rfl | (simp; done) | (simp [*]; done)), H', ⟨Nat.le_refl _⟩, ⟨by (with_reducible repeat (first | apply rA | apply rN | apply rD)); exact Kd.R_mono (Kd.R_far (p := ⟨gb262, 2, none⟩) (Kd.R_far (p := ⟨gb262, 1, none⟩) (Kd.R_far (p := ⟨gb262, 0, none⟩) (Kd.R_types HO_210000.out BK262.out (by decide)) (fun _ hk => hk.2) (.slice Ao75 t253.length co75)) (fun _ hk => hk.2) (.slice Ao78 t256.length co78)) (fun _ hk => hk.2) (.slice Ao79 t259.length co79)) (fun _ hk => ⟨hk.1.1, hk.1.2⟩)⟩, ⟨by (with_reducible repeat (first | apply rA | apply rN | apply rD)); exact Kd.R_mono (Kd.R_far (p := ⟨gb262, 2, none⟩) (Kd.R_far (p := ⟨gb262, 1, none⟩) (Kd.R_far (p := ⟨gb262, 0, none⟩) (Kd.R_types HO_210001.out BK262.out (by decide)) (fun _ hk => hk.2) (.slice Ao75 t253.length co75)) (fun _ hk => hk.2) (.slice Ao78 t256.length co78)) (fun _ hk => hk.2) (.slice Ao79 t259.length co79)) (fun _ hk => ⟨hk.1.1, hk.1.2⟩)⟩, ⟨by (with_reducible repeat (first | apply rA | apply rN | apply rD)); exact Kd.R_mono (Kd.R_far (p := ⟨gb262, 2, none⟩) (Kd.R_far (p := ⟨gb262, 1, none⟩) (Kd.R_far (p := ⟨gb262, 0, none⟩) (Kd.R_types HO_210002.out BK262.out (by decide)) (fun _ hk => hk.2) (.slice Ao75 t253.length co75)) (fun _ hk => hk.2) (.slice Ao78 t256.length co78)) (fun _ hk => hk.2) (.slice Ao79 t259.length co79)) (fun _ hk => ⟨hk.1.1, hk.1.2⟩)⟩, ⟨by (with_reducible repeat (first | apply vA | apply vN | apply vD)); exact Kd.V_mono (Kd.V_far (p := ⟨gb262, 2, none⟩) (Kd.V_far (p := ⟨gb262, 1, none⟩) (Kd.V_far (p := ⟨gb262, 0, none⟩) (Kd.V_mono HO255.out (fun k_ hk => (⟨hk, hk.2⟩ : _ ∧ k_ ≠ gb262))) (fun _ hk => hk.2) (.slice Ao75 t253.length co75)) (fun _ hk => hk.2) (.slice Ao78 t256.length co78)) (fun _ hk => hk.2) (.slice Ao79 t259.length co79)) (fun _ hk => ⟨hk.1.1.1, ⟨hk.1.1.2.1, ⟨hk.1.1.2.2.1, ⟨hk.1.1.2.2.2, hk.1.2⟩⟩⟩⟩)⟩, ⟨by (with_reducible repeat (first | apply vA | apply vN | apply vD)); exact Kd.V_mono (Kd.V_far (p := ⟨gb262, 2, none⟩) (Kd.V_far (p := ⟨gb262, 1, none⟩) (Kd.V_far (p := ⟨gb262, 0, none⟩) (Kd.V_mono HO258.out (fun k_ hk => (⟨hk, hk.2⟩ : _ ∧ k_ ≠ gb262))) (fun _ hk => hk.2) (.slice Ao75 t253.length co75)) (fun _ hk => hk.2) (.slice Ao78 t256.length co78)) (fun _ hk => hk.2) (.slice Ao79 t259.length co79)) (fun _ hk => ⟨hk.1.1.1, ⟨hk.1.1.2.1, ⟨hk.1.1.2.2.1, ⟨hk.1.1.2.2.2, hk.1.2⟩⟩⟩⟩)⟩, ⟨by (with_reducible repeat (first | apply vA | apply vN | apply vD)); exact Kd.V_mono (Kd.V_far (p := ⟨gb262, 2, none⟩) (Kd.V_far (p := ⟨gb262, 1, none⟩) (Kd.V_far (p := ⟨gb262, 0, none⟩) (Kd.V_mono HO261.out (fun k_ hk => (⟨hk, hk.2⟩ : _ ∧ k_ ≠ gb262))) (fun _ hk => hk.2) (.slice Ao75 t253.length co75)) (fun _ hk => hk.2) (.slice Ao78 t256.length co78)) (fun _ hk => hk.2) (.slice Ao79 t259.length co79)) (fun _ hk => ⟨hk.1.1.1, ⟨hk.1.1.2.1, ⟨hk.1.1.2.2.1, ⟨hk.1.1.2.2.2, hk.1.2⟩⟩⟩⟩)⟩, ⟨by (with_reducible repeat (first | refine pN ?_ _ | refine pD ?_ | refine pA ?_ _)); refine blk_far ?_ NB209_262.out _; (with_reducible repeat (first | refine pN ?_ _ | refine pD ?_ | refine pA ?_ _)); refine blk_far ?_ NB209_262.out _; (with_reducible repeat (first | refine pN ?_ _ | refine pD ?_ | refine pA ?_ _)); refine blk_far ?_ NB209_262.out _; (with_reducible repeat (first | refine pN ?_ _ | refine pD ?_ | refine pA ?_ _)); exact BK209.out⟩, ⟨by (with_reducible repeat (first | refine pN ?_ _ | refine pD ?_ | refine pA ?_ _)); refine blk_put (cs := #[.slice Ao75 t253.length co75, .slice Ao78 t256.length co78, .slice none 0 0]) ?_ 2 _ rfl; (with_reducible repeat (first | refine pN ?_ _ | refine pD ?_ | refine pA ?_ _)); refine blk_put (cs := #[.slice Ao75 t253.length co75, .slice none 0 0, .slice none 0 0]) ?_ 1 _ rfl; (with_reducible repeat (first | refine pN ?_ _ | refine pD ?_ | refine pA ?_ _)); refine blk_put (cs := #[.slice none 0 0, .slice none 0 0, .slice none 0 0]) ?_ 0 _ rfl; (with_reducible repeat (first | refine pN ?_ _ | refine pD ?_ | refine pA ?_ _)); exact BK262.out⟩, ⟨by repeat (first | (with_reducible first | exact HB.out | apply bA | apply bN | apply bD | refine bS ?_ GE209.out | refine bS ?_ GE262.out) | exact HB.out)⟩⟩
   case round =>
    clear H'
    try clear c1
    try clear c2
    try clear p2
    try clear c5
    try clear c7
    try clear c11
    try clear c12
    try clear c19
    try clear c20
    try clear c21
    try clear c50
    try clear c53
    try clear c53b0
    try clear c53b1
    try clear c53b2
    try clear c76
    try clear hcz77_0
    try clear hcz77_1
    try clear hcz77_2
    try clear hfz77_0
    try clear hfz77_1
    try clear hfz77_2
    try clear p2
    obtain ⟨x5_2, x263000_2, x263001_2, x263002_2, u263000, u263001, u263002, rfl, HA, HK2, HO_210000, HO_210001, HO_210002, HO_263000, HO_263001, HO_263002, BK209, BK262, HB⟩ := hrel
    cases gk with
    | zero => exact absurd HA.out (by simp [laws_FnMemAll.l0])
    | succ k2 =>
     have H := HA.out
     clear HA
     simp only [laws_FnMemAll.l0] at H
     by_cases c80 : x5_2 ≤ 3
     · rw [if_pos c80] at H
       have c80b0 : decide (x5_2 ≤ 3) = true := decide_eq_true c80
       clear c80
       have H' := mk0 H
       clear H
       go_wp2
       go_loopg [6] k2 (fun kq v6 w' => ∃ (x6_3 : Int) (x263000_3 : List Int) (x263001_3 : List Int) (x263002_3 : List Int) (u263000 : Value) (u263001 : Value) (u263002 : Value), v6 = .int .i64 x6_3 ∧ Aside0 (laws_FnMemAll.l1 kq x5_2 x6_3 t200 t203 t206 x263000_3 x263001_3 x263002_3 = some true) ∧ Aside0 (kq ≤ k2) ∧ Aside0 (Kd.R (Kd.int .i64) 3 w' w.heap.size (fun k_ => some k_ ≠ ((.slice Ao9 t203.length co9) : Value).ownBlock ∧ some k_ ≠ ((.slice Ao10 t206.length co10) : Value).ownBlock) (.slice Ao7 t200.length co7) t200) ∧ Aside0 (Kd.R (Kd.int .i64) 3 w' w.heap.size (fun k_ => some k_ ≠ ((.slice Ao7 t200.length co7) : Value).ownBlock ∧ some k_ ≠ ((.slice Ao10 t206.length co10) : Value).ownBlock) (.slice Ao9 t203.length co9) t203) ∧ Aside0 (Kd.R (Kd.int .i64) 3 w' w.heap.size (fun k_ => some k_ ≠ ((.slice Ao7 t200.length co7) : Value).ownBlock ∧ some k_ ≠ ((.slice Ao9 t203.length co9) : Value).ownBlock) (.slice Ao10 t206.length co10) t206) ∧ Aside0 (Kd.V (Kd.int .i64) 3 w' w.heap.size (fun k_ => some k_ ≠ ((.slice Ao7 t200.length co7) : Value).ownBlock ∧ some k_ ≠ ((.slice Ao9 t203.length co9) : Value).ownBlock ∧ some k_ ≠ ((.slice Ao10 t206.length co10) : Value).ownBlock ∧ k_ ≠ gb209 ∧ k_ ≠ gb262) u263000 x263000_3) ∧ Aside0 (Kd.V (Kd.int .i64) 3 w' w.heap.size (fun k_ => some k_ ≠ ((.slice Ao7 t200.length co7) : Value).ownBlock ∧ some k_ ≠ ((.slice Ao9 t203.length co9) : Value).ownBlock ∧ some k_ ≠ ((.slice Ao10 t206.length co10) : Value).ownBlock ∧ k_ ≠ gb209 ∧ k_ ≠ gb262) u263001 x263001_3) ∧ Aside0 (Kd.V (Kd.int .i64) 3 w' w.heap.size (fun k_ => some k_ ≠ ((.slice Ao7 t200.length co7) : Value).ownBlock ∧ some k_ ≠ ((.slice Ao9 t203.length co9) : Value).ownBlock ∧ some k_ ≠ ((.slice Ao10 t206.length co10) : Value).ownBlock ∧ k_ ≠ gb209 ∧ k_ ≠ gb262) u263002 x263002_3) ∧ Aside0 (w'.heap[gb209]? = some (.cells #[(.slice Ao7 t200.length co7), (.slice Ao9 t203.length co9), (.slice Ao10 t206.length co10)] 24 (0, 0))) ∧ Aside0 (w'.heap[gb262]? = some (.cells #[u263000, u263001, u263002] 24 (0, 0))) ∧ Aside0 (Below w.heap.size w w'))
       case atStart => exact ⟨(0), (x263000_2), (x263001_2), (x263002_2), (u263000), (u263001), (u263002), (by first | rfl | (simp; done) | (simp [*]; done)), H', ⟨Nat.le_refl _⟩, ⟨by (with_reducible repeat (first | apply rA | apply rN | apply rD)); exact HO_210000.out⟩, ⟨by (with_reducible repeat (first | apply rA | apply rN | apply rD)); exact HO_210001.out⟩, ⟨by (with_reducible repeat (first | apply rA | apply rN | apply rD)); exact HO_210002.out⟩, ⟨by (with_reducible repeat (first | apply vA | apply vN | apply vD)); exact HO_263000.out⟩, ⟨by (with_reducible repeat (first | apply vA | apply vN | apply vD)); exact HO_263001.out⟩, ⟨by (with_reducible repeat (first | apply vA | apply vN | apply vD)); exact HO_263002.out⟩, ⟨by (with_reducible repeat (first | refine pN ?_ _ | refine pD ?_ | refine pA ?_ _)); exact BK209.out⟩, ⟨by (with_reducible repeat (first | refine pN ?_ _ | refine pD ?_ | refine pA ?_ _)); exact BK262.out⟩, ⟨by repeat (first | (with_reducible first | exact HB.out | apply bA | apply bN | apply bD | refine bS ?_ GE209.out | refine bS ?_ GE262.out) | exact HB.out)⟩⟩
       case round =>
        clear H'
        try clear c1
        try clear c2
        try clear p2
        try clear c5
        try clear c7
        try clear c8
        try clear c11
        try clear c12
        try clear c19
        try clear c20
        try clear c21
        try clear c50
        try clear c53
        try clear c53b0
        try clear c53b1
        try clear c53b2
        try clear c76
        try clear c80
        try clear c80b0
        try clear hcz77_0
        try clear hcz77_1
        try clear hcz77_2
        try clear hfz77_0
        try clear hfz77_1
        try clear hfz77_2
        try clear p2
        obtain ⟨x6_3, x263000_3, x263001_3, x263002_3, u263000, u263001, u263002, rfl, HA, HK3, HO_210000, HO_210001, HO_210002, HO_263000, HO_263001, HO_263002, BK209, BK262, HB⟩ := hrel
        cases gk with
        | zero => exact absurd HA.out (by simp [laws_FnMemAll.l1])
        | succ k3 =>
         have H := HA.out
         clear HA
         simp only [laws_FnMemAll.l1] at H
         by_cases c81 : x6_3 < 6
         rotate_left
         · rw [if_neg c81] at H
           have c81b0 : decide (x6_3 < 6) = false := decide_eq_false c81
           clear c81
           have H' := mk0 H
           clear H
           go_wp2
           go_roundg k3
           case measure => have := HJ3.out; have := HK2.out; have := HK3.out; omega
           case rel => exact ⟨(wrap64 (x5_2 + 1)), (x263000_3), (x263001_3), (x263002_3), (u263000), (u263001), (u263002), (by first | rfl | (simp; done) | (simp [*]; done)), H', ⟨by have := HJ3.out; have := HK2.out; have := HK3.out; omega⟩, ⟨by (with_reducible repeat (first | apply rA | apply rN | apply rD)); exact HO_210000.out⟩, ⟨by (with_reducible repeat (first | apply rA | apply rN | apply rD)); exact HO_210001.out⟩, ⟨by (with_reducible repeat (first | apply rA | apply rN | apply rD)); exact HO_210002.out⟩, ⟨by (with_reducible repeat (first | apply vA | apply vN | apply vD)); exact HO_263000.out⟩, ⟨by (with_reducible repeat (first | apply vA | apply vN | apply vD)); exact HO_263001.out⟩, ⟨by (with_reducible repeat (first | apply vA | apply vN | apply vD)); exact HO_263002.out⟩, ⟨by (with_reducible repeat (first | refine pN ?_ _ | refine pD ?_ | refine pA ?_ _)); exact BK209.out⟩, ⟨by (with_reducible repeat (first | refine pN ?_ _ | refine pD ?_ | refine pA ?_ _)); exact BK262.out⟩, ⟨by repeat (first | (with_reducible first | exact HB.out | apply bA | apply bN | apply bD | refine bS ?_ GE209.out | refine bS ?_ GE262.out) | exact HB.out)⟩⟩
         rw [if_pos c81] at H
         have c81b0 : decide (x6_3 < 6) = true := decide_eq_true c81
         clear c81
         replace H := Option.bind_eq_some_iff.mp H
         obtain ⟨t264, A820, H⟩ := H
         replace H : ((impl_MemPut.f x263000_3 x263001_3 x263002_3 x5_2 x6_3 t264).bind fun bt265 => (laws_FnMemAll.l1 k3 x5_2 (wrap64 (x6_3 + 1)) t200 t203 t206 bt265.1 bt265.2.1 bt265.2.2)) = some true := H
         have A82 := mk0 A820
         clear A820
         replace H := Option.bind_eq_some_iff.mp H
         obtain ⟨⟨t265, t268, t271⟩, A830, H⟩ := H
         replace H : (laws_FnMemAll.l1 k3 x5_2 (wrap64 (x6_3 + 1)) t200 t203 t206 t265 t268 t271) = some true := H
         have A83 := mk0 A830
         clear A830
         have H' := mk0 H
         clear H
         try go_wp2_with (first | ((with_reducible refine gate_dst (N := 7) rfl ?_); refine box_event ?hg (N := 7) ?hd (cs := #[.int .i64 0, .int .i64 0]) (t := 38) ?hr ?_; (case hd => rfl); (case hg => rfl); (case hr => first | (go_simp; done) | (go_simp; rfl)); intro gb263 hg w84 hbox hb; have n0_ := mk0 (Kd.R_below (by (with_reducible repeat (first | apply rA | apply rN | apply rD)); exact HO_210000.out) hb); have n1_ := mk0 (Kd.R_below (by (with_reducible repeat (first | apply rA | apply rN | apply rD)); exact HO_210001.out) hb); have n2_ := mk0 (Kd.R_below (by (with_reducible repeat (first | apply rA | apply rN | apply rD)); exact HO_210002.out) hb); have n3_ := mk0 (Kd.V_below (Kd.V_elderB (by (with_reducible repeat (first | apply vA | apply vN | apply vD)); exact HO_263000.out) gb263 (Nat.le_of_eq hg.symm)) hb); have n4_ := mk0 (Kd.V_below (Kd.V_elderB (by (with_reducible repeat (first | apply vA | apply vN | apply vD)); exact HO_263001.out) gb263 (Nat.le_of_eq hg.symm)) hb); have n5_ := mk0 (Kd.V_below (Kd.V_elderB (by (with_reducible repeat (first | apply vA | apply vN | apply vD)); exact HO_263002.out) gb263 (Nat.le_of_eq hg.symm)) hb); have n6_ := mk0 (blk_below (g := gb209) (o := .cells #[.slice Ao7 t200.length co7, .slice Ao9 t203.length co9, .slice Ao10 t206.length co10] 24 (0, 0)) (by (with_reducible repeat (first | refine pN ?_ _ | refine pD ?_ | refine pA ?_ _)); exact BK209.out) hb); have n7_ := mk0 (blk_below (g := gb262) (o := .cells #[u263000, u263001, u263002] 24 (0, 0)) (by (with_reducible repeat (first | refine pN ?_ _ | refine pD ?_ | refine pA ?_ _)); exact BK262.out) hb); have n8_ := mk0 (below_step (by repeat (first | (with_reducible first | exact HB.out | apply bA | apply bN | apply bD | refine bS ?_ GE209.out | refine bS ?_ GE262.out) | exact HB.out)) hb); have n9_ := mk0 (hbox); have n10_ := mk0 ((by rw [hg]; exact (below_size (by repeat (first | (with_reducible first | exact HB.out | apply bA | apply bN | apply bD | refine bS ?_ GE209.out | refine bS ?_ GE262.out) | exact HB.out))) : w.heap.size ≤ gb263)); have n11_ := mk0 ((by rw [hg]; exact (below_size (by repeat (first | (with_reducible first | exact HB.out | apply bA | apply bN | apply bD | refine bS ?_ GE209.out | refine bS ?_ GE262.out) | exact HB.out))) : w.heap.size ≤ gb263)); have n12_ := mk0 ((by rw [hg]; exact Nat.ne_of_lt (blk_lt (g := gb209) (o := .cells #[.slice Ao7 t200.length co7, .slice Ao9 t203.length co9, .slice Ao10 t206.length co10] 24 (0, 0)) (by (with_reducible repeat (first | refine pN ?_ _ | refine pD ?_ | refine pA ?_ _)); exact BK209.out)) : gb209 ≠ gb263)); have n13_ := mk0 ((by rw [hg]; exact Nat.ne_of_gt (blk_lt (g := gb209) (o := .cells #[.slice Ao7 t200.length co7, .slice Ao9 t203.length co9, .slice Ao10 t206.length co10] 24 (0, 0)) (by (with_reducible repeat (first | refine pN ?_ _ | refine pD ?_ | refine pA ?_ _)); exact BK209.out)) : gb263 ≠ gb209)); have n14_ := mk0 ((by rw [hg]; exact Nat.ne_of_lt (blk_lt (g := gb262) (o := .cells #[u263000, u263001, u263002] 24 (0, 0)) (by (with_reducible repeat (first | refine pN ?_ _ | refine pD ?_ | refine pA ?_ _)); exact BK262.out)) : gb262 ≠ gb263)); have n15_ := mk0 ((by rw [hg]; exact Nat.ne_of_gt (blk_lt (g := gb262) (o := .cells #[u263000, u263001, u263002] 24 (0, 0)) (by (with_reducible repeat (first | refine pN ?_ _ | refine pD ?_ | refine pA ?_ _)); exact BK262.out)) : gb263 ≠ gb262)); clear HO_210000; clear HO_210001; clear HO_210002; clear HO_263000; clear HO_263001; clear HO_263002; clear BK209; clear BK262; clear HB; have HO_210000 := n0_; have HO_210001 := n1_; have HO_210002 := n2_; have HO_263000 := n3_; have HO_263001 := n4_; have HO_263002 := n5_; have BK209 := n6_; have BK262 := n7_; have HB := n8_; have BK263 := n9_; have GW263 := n10_; have GE263 := n11_; have NB209_263 := n12_; have NB263_209 := n13_; have NB262_263 := n14_; have NB263_262 := n15_; clear n0_ n1_ n2_ n3_ n4_ n5_ n6_ n7_ n8_ n9_ n10_ n11_ n12_ n13_ n14_ n15_; clear hb hbox hg; have hnb85 := NB263_209.out; have hnc85 := NB209_263.out; have hnb86 := NB263_262.out; have hnc86 := NB262_263.out; have hcz87_0 : w84.cell? ⟨gb263, 0, none⟩ = some (.int .i64 0) := (blk_cell BK263.out 0).trans rfl; have hcz87_1 : w84.cell? ⟨gb263, 1, none⟩ = some (.int .i64 0) := (blk_cell BK263.out 1).trans rfl; have hfz87_0 := blk_frozen BK263.out 0; have hfz87_1 := blk_frozen BK263.out 1))
         have n0_ : Aside0 (Kd.R (Kd.int .i64) 3 ((w84.setCell ⟨gb263, 0, none⟩ (.int .i64 x5_2)).setCell ⟨gb263, 1, none⟩ (.int .i64 x6_3)) w.heap.size (fun k_ => some k_ ≠ (.slice Ao9 t203.length co9 : Value).ownBlock ∧ some k_ ≠ (.slice Ao10 t206.length co10 : Value).ownBlock) (.slice Ao7 t200.length co7) t200) := ⟨by (with_reducible repeat (first | apply rA | apply rN | apply rD)); exact Kd.R_mono (Kd.R_far (p := ⟨gb263, 1, none⟩) (Kd.R_far (p := ⟨gb263, 0, none⟩) (Kd.R_types HO_210000.out BK263.out (by decide)) (fun _ hk => hk.2) (.int .i64 x5_2)) (fun _ hk => hk.2) (.int .i64 x6_3)) (fun _ hk => ⟨hk.1.1, hk.1.2⟩)⟩
         have n1_ : Aside0 (Kd.R (Kd.int .i64) 3 ((w84.setCell ⟨gb263, 0, none⟩ (.int .i64 x5_2)).setCell ⟨gb263, 1, none⟩ (.int .i64 x6_3)) w.heap.size (fun k_ => some k_ ≠ (.slice Ao7 t200.length co7 : Value).ownBlock ∧ some k_ ≠ (.slice Ao10 t206.length co10 : Value).ownBlock) (.slice Ao9 t203.length co9) t203) := ⟨by (with_reducible repeat (first | apply rA | apply rN | apply rD)); exact Kd.R_mono (Kd.R_far (p := ⟨gb263, 1, none⟩) (Kd.R_far (p := ⟨gb263, 0, none⟩) (Kd.R_types HO_210001.out BK263.out (by decide)) (fun _ hk => hk.2) (.int .i64 x5_2)) (fun _ hk => hk.2) (.int .i64 x6_3)) (fun _ hk => ⟨hk.1.1, hk.1.2⟩)⟩
         have n2_ : Aside0 (Kd.R (Kd.int .i64) 3 ((w84.setCell ⟨gb263, 0, none⟩ (.int .i64 x5_2)).setCell ⟨gb263, 1, none⟩ (.int .i64 x6_3)) w.heap.size (fun k_ => some k_ ≠ (.slice Ao7 t200.length co7 : Value).ownBlock ∧ some k_ ≠ (.slice Ao9 t203.length co9 : Value).ownBlock) (.slice Ao10 t206.length co10) t206) := ⟨by (with_reducible repeat (first | apply rA | apply rN | apply rD)); exact Kd.R_mono (Kd.R_far (p := ⟨gb263, 1, none⟩) (Kd.R_far (p := ⟨gb263, 0, none⟩) (Kd.R_types HO_210002.out BK263.out (by decide)) (fun _ hk => hk.2) (.int .i64 x5_2)) (fun _ hk => hk.2) (.int .i64 x6_3)) (fun _ hk => ⟨hk.1.1, hk.1.2⟩)⟩
         have n3_ : Aside0 (Kd.V (Kd.int .i64) 3 ((w84.setCell ⟨gb263, 0, none⟩ (.int .i64 x5_2)).setCell ⟨gb263, 1, none⟩ (.int .i64 x6_3)) w.heap.size (fun k_ => some k_ ≠ (.slice Ao7 t200.length co7 : Value).ownBlock ∧ some k_ ≠ (.slice Ao9 t203.length co9 : Value).ownBlock ∧ some k_ ≠ (.slice Ao10 t206.length co10 : Value).ownBlock ∧ k_ ≠ gb209 ∧ k_ ≠ gb262 ∧ k_ ≠ gb263) u263000 x263000_3) := ⟨by (with_reducible repeat (first | apply vA | apply vN | apply vD)); exact Kd.V_mono (Kd.V_far (p := ⟨gb263, 1, none⟩) (Kd.V_far (p := ⟨gb263, 0, none⟩) (Kd.V_mono HO_263000.out (fun k_ hk => (⟨hk, hk.2⟩ : _ ∧ k_ ≠ gb263))) (fun _ hk => hk.2) (.int .i64 x5_2)) (fun _ hk => hk.2) (.int .i64 x6_3)) (fun _ hk => ⟨hk.1.1.1, ⟨hk.1.1.2.1, ⟨hk.1.1.2.2.1, ⟨hk.1.1.2.2.2.1, ⟨hk.1.1.2.2.2.2, hk.1.2⟩⟩⟩⟩⟩)⟩
         have n4_ : Aside0 (Kd.V (Kd.int .i64) 3 ((w84.setCell ⟨gb263, 0, none⟩ (.int .i64 x5_2)).setCell ⟨gb263, 1, none⟩ (.int .i64 x6_3)) w.heap.size (fun k_ => some k_ ≠ (.slice Ao7 t200.length co7 : Value).ownBlock ∧ some k_ ≠ (.slice Ao9 t203.length co9 : Value).ownBlock ∧ some k_ ≠ (.slice Ao10 t206.length co10 : Value).ownBlock ∧ k_ ≠ gb209 ∧ k_ ≠ gb262 ∧ k_ ≠ gb263) u263001 x263001_3) := ⟨by (with_reducible repeat (first | apply vA | apply vN | apply vD)); exact Kd.V_mono (Kd.V_far (p := ⟨gb263, 1, none⟩) (Kd.V_far (p := ⟨gb263, 0, none⟩) (Kd.V_mono HO_263001.out (fun k_ hk => (⟨hk, hk.2⟩ : _ ∧ k_ ≠ gb263))) (fun _ hk => hk.2) (.int .i64 x5_2)) (fun _ hk => hk.2) (.int .i64 x6_3)) (fun _ hk => ⟨hk.1.1.1, ⟨hk.1.1.2.1, ⟨hk.1.1.2.2.1, ⟨hk.1.1.2.2.2.1, ⟨hk.1.1.2.2.2.2, hk.1.2⟩⟩⟩⟩⟩)⟩
         have n5_ : Aside0 (Kd.V (Kd.int .i64) 3 ((w84.setCell ⟨gb263, 0, none⟩ (.int .i64 x5_2)).setCell ⟨gb263, 1, none⟩ (.int .i64 x6_3)) w.heap.size (fun k_ => some k_ ≠ (.slice Ao7 t200.length co7 : Value).ownBlock ∧ some k_ ≠ (.slice Ao9 t203.length co9 : Value).ownBlock ∧ some k_ ≠ (.slice Ao10 t206.length co10 : Value).ownBlock ∧ k_ ≠ gb209 ∧ k_ ≠ gb262 ∧ k_ ≠ gb263) u263002 x263002_3) := ⟨by (with_reducible repeat (first | apply vA | apply vN | apply vD)); exact Kd.V_mono (Kd.V_far (p := ⟨gb263, 1, none⟩) (Kd.V_far (p := ⟨gb263, 0, none⟩) (Kd.V_mono HO_263002.out (fun k_ hk => (⟨hk, hk.2⟩ : _ ∧ k_ ≠ gb263))) (fun _ hk => hk.2) (.int .i64 x5_2)) (fun _ hk => hk.2) (.int .i64 x6_3)) (fun _ hk => ⟨hk.1.1.1, ⟨hk.1.1.2.1, ⟨hk.1.1.2.2.1, ⟨hk.1.1.2.2.2.1, ⟨hk.1.1.2.2.2.2, hk.1.2⟩⟩⟩⟩⟩)⟩
         have n6_ : Aside0 (((w84.setCell ⟨gb263, 0, none⟩ (.int .i64 x5_2)).setCell ⟨gb263, 1, none⟩ (.int .i64 x6_3)).heap[gb209]? = some (.cells #[.slice Ao7 t200.length co7, .slice Ao9 t203.length co9, .slice Ao10 t206.length co10] 24 (0, 0))) := ⟨by (with_reducible repeat (first | refine pN ?_ _ | refine pD ?_ | refine pA ?_ _)); refine blk_far ?_ NB209_263.out _; (with_reducible repeat (first | refine pN ?_ _ | refine pD ?_ | refine pA ?_ _)); refine blk_far ?_ NB209_263.out _; (with_reducible repeat (first | refine pN ?_ _ | refine pD ?_ | refine pA ?_ _)); exact BK209.out⟩
         have n7_ : Aside0 (((w84.setCell ⟨gb263, 0, none⟩ (.int .i64 x5_2)).setCell ⟨gb263, 1, none⟩ (.int .i64 x6_3)).heap[gb262]? = some (.cells #[u263000, u263001, u263002] 24 (0, 0))) := ⟨by (with_reducible repeat (first | refine pN ?_ _ | refine pD ?_ | refine pA ?_ _)); refine blk_far ?_ NB262_263.out _; (with_reducible repeat (first | refine pN ?_ _ | refine pD ?_ | refine pA ?_ _)); refine blk_far ?_ NB262_263.out _; (with_reducible repeat (first | refine pN ?_ _ | refine pD ?_ | refine pA ?_ _)); exact BK262.out⟩
         have n8_ : Aside0 (((w84.setCell ⟨gb263, 0, none⟩ (.int .i64 x5_2)).setCell ⟨gb263, 1, none⟩ (.int .i64 x6_3)).heap[gb263]? = some (.cells #[.int .i64 x5_2, .int .i64 x6_3] 38 (0, 0))) := ⟨by (with_reducible repeat (first | refine pN ?_ _ | refine pD ?_ | refine pA ?_ _)); refine blk_put (cs := #[.int .i64 x5_2, .int .i64 0]) ?_ 1 _ rfl; (with_reducible repeat (first | refine pN ?_ _ | refine pD ?_ | refine pA ?_ _)); refine blk_put (cs := #[.int .i64 0, .int .i64 0]) ?_ 0 _ rfl; (with_reducible repeat (first | refine pN ?_ _ | refine pD ?_ | refine pA ?_ _)); exact BK263.out⟩
         have n9_ : Aside0 (Below w.heap.size w ((w84.setCell ⟨gb263, 0, none⟩ (.int .i64 x5_2)).setCell ⟨gb263, 1, none⟩ (.int .i64 x6_3))) := ⟨by repeat (first | (with_reducible first | exact HB.out | apply bA | apply bN | apply bD | refine bS ?_ GE209.out | refine bS ?_ GE262.out | refine bS ?_ GE263.out) | exact HB.out)⟩
         (try clear HO_210000)
         (try clear HO_210001)
         (try clear HO_210002)
         (try clear HO_263000)
         (try clear HO_263001)
         (try clear HO_263002)
         (try clear BK209)
         (try clear BK262)
         (try clear BK263)
         (try clear HB)
         generalize ((w84.setCell ⟨gb263, 0, none⟩ (.int .i64 x5_2)).setCell ⟨gb263, 1, none⟩ (.int .i64 x6_3)) = w88 at n0_ n1_ n2_ n3_ n4_ n5_ n6_ n7_ n8_ n9_ ⊢
         have HO_210000 := n0_
         have HO_210001 := n1_
         have HO_210002 := n2_
         have HO_263000 := n3_
         have HO_263001 := n4_
         have HO_263002 := n5_
         have BK209 := n6_
         have BK262 := n7_
         have BK263 := n8_
         have HB := n9_
         clear n0_ n1_ n2_ n3_ n4_ n5_ n6_ n7_ n8_ n9_
         have n0_ := mk0 (Kd.R_drew HO_210000.out)
         have n1_ := mk0 (Kd.R_drew HO_210001.out)
         have n2_ := mk0 (Kd.R_drew HO_210002.out)
         have n3_ := mk0 (Kd.V_drew HO_263000.out)
         have n4_ := mk0 (Kd.V_drew HO_263001.out)
         have n5_ := mk0 (Kd.V_drew HO_263002.out)
         have n6_ := mk0 (blk_drew BK209.out)
         have n7_ := mk0 (blk_drew BK262.out)
         have n8_ := mk0 (blk_drew BK263.out)
         have n9_ := mk0 (below_drew1 HB.out)
         clear HO_210000
         clear HO_210001
         clear HO_210002
         clear HO_263000
         clear HO_263001
         clear HO_263002
         clear BK209
         clear BK262
         clear BK263
         clear HB
         have HO_210000 := n0_
         have HO_210001 := n1_
         have HO_210002 := n2_
         have HO_263000 := n3_
         have HO_263001 := n4_
         have HO_263002 := n5_
         have BK209 := n6_
         have BK262 := n7_
         have BK263 := n8_
         have HB := n9_
         clear n0_ n1_ n2_ n3_ n4_ n5_ n6_ n7_ n8_ n9_
         refine start_ (n := 7) (S := fun w' => w'.cell? ⟨gb262, 0, none⟩ = some (u263000) ∧ w'.cell? ⟨gb262, 1, none⟩ = some (u263001) ∧ w'.cell? ⟨gb262, 2, none⟩ = some (u263002) ∧ w'.cell? ⟨gb263, 0, none⟩ = some (.int .i64 x5_2) ∧ w'.cell? ⟨gb263, 1, none⟩ = some (.int .i64 x6_3) ∧ w'.cell? ⟨gb209, 0, none⟩ = some (.slice Ao7 t200.length co7) ∧ w'.cell? ⟨gb209, 1, none⟩ = some (.slice Ao9 t203.length co9) ∧ w'.cell? ⟨gb209, 2, none⟩ = some (.slice Ao10 t206.length co10)) (ds := [6]) #[false, false, false, false, false, false, false] (by kernel_rfl) rfl rfl ⟨(blk_cell BK262.out 0).trans rfl, (blk_cell BK262.out 1).trans rfl, (blk_cell BK262.out 2).trans rfl, (blk_cell BK263.out 0).trans rfl, (blk_cell BK263.out 1).trans rfl, (blk_cell BK209.out 0).trans rfl, (blk_cell BK209.out 1).trans rfl, (blk_cell BK209.out 2).trans rfl⟩ (fun hHeld => ?_)
         generalize w88.drew = w89 at HO_210000 HO_210001 HO_210002 HO_263000 HO_263001 HO_263002 BK209 BK262 BK263 HB hHeld ⊢
         refine take_ (i := 0) (N := some 52) (v := ?_) (a' := ?_) #[true, false, false, false, false, false, false] rfl rfl (by kernel_rfl) (fun _ _ _ h => h) (Or.inl ⟨by rfl, ?_⟩) hHeld ?_ ?_
         rotate_left
         · rintro w' ⟨s0, s1, s2, s3, s4, s5, s6, s7⟩
           go_simp
           with_reducible rfl
         rotate_left
         · simp only [Act.put, qa, qb, qc, i64_w, i32_w]
           rfl
         refine take_ (i := 1) (N := some 53) (v := ?_) (a' := ?_) #[true, true, false, false, false, false, false] rfl rfl (by kernel_rfl) (fun _ _ _ h => h) (Or.inl ⟨by rfl, ?_⟩) hHeld ?_ ?_
         rotate_left
         · rintro w' ⟨s0, s1, s2, s3, s4, s5, s6, s7⟩
           go_simp
           with_reducible rfl
         rotate_left
         · simp only [Act.put, qa, qb, qc, i64_w, i32_w]
           rfl
         refine take_ (i := 2) (N := some 54) (v := ?_) (a' := ?_) #[true, true, true, false, false, false, false] rfl rfl (by kernel_rfl) (fun _ _ _ h => h) (Or.inl ⟨by rfl, ?_⟩) hHeld ?_ ?_
         rotate_left
         · rintro w' ⟨s0, s1, s2, s3, s4, s5, s6, s7⟩
           go_simp
           with_reducible rfl
         rotate_left
         · simp only [Act.put, qa, qb, qc, i64_w, i32_w]
           rfl
         refine take_ (i := 3) (N := some 55) (v := ?_) (a' := ?_) #[true, true, true, true, false, false, false] rfl rfl (by kernel_rfl) (fun _ _ _ h => h) (Or.inl ⟨by rfl, ?_⟩) hHeld ?_ ?_
         rotate_left
         · rintro w' ⟨s0, s1, s2, s3, s4, s5, s6, s7⟩
           go_simp
           with_reducible rfl
         rotate_left
         · simp only [Act.put, qa, qb, qc, i64_w, i32_w]
           rfl
         refine one_ (i := 4) (N := some 56) #[true, true, true, true, true, false, false] rfl rfl (by kernel_rfl) (by decide) (fun K hK => ?_)
         refine goes_ Try.func24 (by kernel_rfl) rfl #[.agg #[.slice Ao7 t200.length co7, .slice Ao9 t203.length co9, .slice Ao10 t206.length co10], .agg #[.int .i64 x5_2, .int .i64 x6_3]] (by rfl) rfl rfl (by (try simp only [List.map_toArray, List.map_cons, List.map_nil]); first | done | rfl | (simp only [List.length_drop, List.length_take]; rfl)) ?_
         with_reducible refine (impl_MemGet.calls _ _ t200 _ _ t203 _ _ t206 x5_2 x6_3 t264 _ ?side1 ?side2 ?side3 ?side4 ?side5 ?side6 A82.out).mono ?_
         (case side1 => repeat (first | exact (Kd.R_reads' HO_210000.out).2.2 | (with_reducible first | refine cA ?_ _ | refine cN ?_ _ | refine cD ?_)))
         (case side2 => exact (Kd.R_reads' HO_210000.out).2.1)
         (case side3 => repeat (first | exact (Kd.R_reads' HO_210001.out).2.2 | (with_reducible first | refine cA ?_ _ | refine cN ?_ _ | refine cD ?_)))
         (case side4 => exact (Kd.R_reads' HO_210001.out).2.1)
         (case side5 => repeat (first | exact (Kd.R_reads' HO_210002.out).2.2 | (with_reducible first | refine cA ?_ _ | refine cN ?_ _ | refine cD ?_)))
         (case side6 => exact (Kd.R_reads' HO_210002.out).2.1)
         rintro e w90 ⟨rfl, hb⟩
         refine ⟨_, rfl, ?_⟩
         have n0_ := mk0 (Kd.R_below (by (with_reducible repeat (first | apply rA | apply rN | apply rD)); exact HO_210000.out) hb)
         have n1_ := mk0 (Kd.R_below (by (with_reducible repeat (first | apply rA | apply rN | apply rD)); exact HO_210001.out) hb)
         have n2_ := mk0 (Kd.R_below (by (with_reducible repeat (first | apply rA | apply rN | apply rD)); exact HO_210002.out) hb)
         have n3_ := mk0 (Kd.V_below (by (with_reducible repeat (first | apply vA | apply vN | apply vD)); exact HO_263000.out) hb)
         have n4_ := mk0 (Kd.V_below (by (with_reducible repeat (first | apply vA | apply vN | apply vD)); exact HO_263001.out) hb)
         have n5_ := mk0 (Kd.V_below (by (with_reducible repeat (first | apply vA | apply vN | apply vD)); exact HO_263002.out) hb)
         have n6_ := mk0 (blk_below (g := gb209) (o := .cells #[.slice Ao7 t200.length co7, .slice Ao9 t203.length co9, .slice Ao10 t206.length co10] 24 (0, 0)) (by (with_reducible repeat (first | refine pN ?_ _ | refine pD ?_ | refine pA ?_ _)); exact BK209.out) hb)
         have n7_ := mk0 (blk_below (g := gb262) (o := .cells #[u263000, u263001, u263002] 24 (0, 0)) (by (with_reducible repeat (first | refine pN ?_ _ | refine pD ?_ | refine pA ?_ _)); exact BK262.out) hb)
         have n8_ := mk0 (blk_below (g := gb263) (o := .cells #[.int .i64 x5_2, .int .i64 x6_3] 38 (0, 0)) (by (with_reducible repeat (first | refine pN ?_ _ | refine pD ?_ | refine pA ?_ _)); exact BK263.out) hb)
         have n9_ := mk0 (below_step (by repeat (first | (with_reducible first | exact HB.out | apply bA | apply bN | apply bD | refine bS ?_ GE209.out | refine bS ?_ GE262.out | refine bS ?_ GE263.out) | exact HB.out)) hb)
         clear HO_210000
         clear HO_210001
         clear HO_210002
         clear HO_263000
         clear HO_263001
         clear HO_263002
         clear BK209
         clear BK262
         clear BK263
         clear HB
         have HO_210000 := n0_
         have HO_210001 := n1_
         have HO_210002 := n2_
         have HO_263000 := n3_
         have HO_263001 := n4_
         have HO_263002 := n5_
         have BK209 := n6_
         have BK262 := n7_
         have BK263 := n8_
         have HB := n9_
         clear n0_ n1_ n2_ n3_ n4_ n5_ n6_ n7_ n8_ n9_
         (try clear hb)
         (try clear hb2)
         (try clear hk)
         (try clear hi)
         obtain ⟨Ao91, co91, eo91⟩ := Kd.V_slice HO_263000.out
         (first | subst eo91 | (injection eo91 with f1_ f2_ f3_; have f4_ := f1_.symm; have f5_ := f3_.symm; clear f1_ f2_ f3_; subst f4_; subst f5_))
         obtain ⟨Ao92, co92, eo92⟩ := Kd.V_slice HO_263001.out
         (first | subst eo92 | (injection eo92 with f1_ f2_ f3_; have f4_ := f1_.symm; have f5_ := f3_.symm; clear f1_ f2_ f3_; subst f4_; subst f5_))
         obtain ⟨Ao93, co93, eo93⟩ := Kd.V_slice HO_263002.out
         (first | subst eo93 | (injection eo93 with f1_ f2_ f3_; have f4_ := f1_.symm; have f5_ := f3_.symm; clear f1_ f2_ f3_; subst f4_; subst f5_))
         refine hK.out _ _ ⟨(blk_cell BK262.out 0).trans rfl, (blk_cell BK262.out 1).trans rfl, (blk_cell BK262.out 2).trans rfl, (blk_cell BK263.out 0).trans rfl, (blk_cell BK263.out 1).trans rfl, (blk_cell BK209.out 0).trans rfl, (blk_cell BK209.out 1).trans rfl, (blk_cell BK209.out 2).trans rfl⟩ (fun hHeld => ?_)
         clear hK K
         refine norm_ (a' := ?_) ?_ ?_
         rotate_left
         · show Act.put _ (some 56) _ = _
           simp only [Act.put, qa, qb, qc, i64_w, i32_w]
           rfl
         refine one_ (i := 5) (N := some 57) #[true, true, true, true, true, true, false] rfl rfl (by kernel_rfl) (by decide) (fun K hK => ?_)
         refine goes_ Try.func26 (by kernel_rfl) rfl #[.agg #[.slice Ao91 x263000_3.length co91, .slice Ao92 x263001_3.length co92, .slice Ao93 x263002_3.length co93], .agg #[.int .i64 x5_2, .int .i64 x6_3], .int .i64 t264] (by rfl) rfl rfl (by (try simp only [List.map_toArray, List.map_cons, List.map_nil]); first | done | rfl | (simp only [List.length_drop, List.length_take]; rfl)) ?_
         with_reducible refine (impl_MemPut.calls _ _ x263000_3 _ _ x263001_3 _ _ x263002_3 x5_2 x6_3 t264 t265 t268 t271 _ ?side1 ?side2 ?side3 ?side4 ?side5 ?side6 A83.out).mono ?_
         (case side1 => repeat (first | exact (Kd.V_reads' HO_263000.out).2.2 | (with_reducible first | refine cA ?_ _ | refine cN ?_ _ | refine cD ?_)))
         (case side2 => exact (Kd.V_reads' HO_263000.out).2.1)
         (case side3 => repeat (first | exact (Kd.V_reads' HO_263001.out).2.2 | (with_reducible first | refine cA ?_ _ | refine cN ?_ _ | refine cD ?_)))
         (case side4 => exact (Kd.V_reads' HO_263001.out).2.1)
         (case side5 => repeat (first | exact (Kd.V_reads' HO_263002.out).2.2 | (with_reducible first | refine cA ?_ _ | refine cN ?_ _ | refine cD ?_)))
         (case side6 => exact (Kd.V_reads' HO_263002.out).2.1)
         rintro e w94 ⟨v266, v269, v272, rfl, ho0, ho1, ho2, hb⟩
         refine ⟨_, rfl, ?_⟩
         have n0_ := mk0 (Kd.R_below (by (with_reducible repeat (first | apply rA | apply rN | apply rD)); exact HO_210000.out) hb)
         have n1_ := mk0 (Kd.R_below (by (with_reducible repeat (first | apply rA | apply rN | apply rD)); exact HO_210001.out) hb)
         have n2_ := mk0 (Kd.R_below (by (with_reducible repeat (first | apply rA | apply rN | apply rD)); exact HO_210002.out) hb)
         have n3_ := mk0 (Kd.V_below (by (with_reducible repeat (first | apply vA | apply vN | apply vD)); exact HO_263000.out) hb)
         have n4_ := mk0 (Kd.V_below (by (with_reducible repeat (first | apply vA | apply vN | apply vD)); exact HO_263001.out) hb)
         have n5_ := mk0 (Kd.V_below (by (with_reducible repeat (first | apply vA | apply vN | apply vD)); exact HO_263002.out) hb)
         have n6_ := mk0 (Kd.V_lower (Kd.V_mono (ok' := fun k_ => some k_ ≠ (.slice Ao7 t200.length co7 : Value).ownBlock ∧ some k_ ≠ (.slice Ao9 t203.length co9 : Value).ownBlock ∧ some k_ ≠ (.slice Ao10 t206.length co10 : Value).ownBlock ∧ k_ ≠ gb209 ∧ k_ ≠ gb262 ∧ k_ ≠ gb263) ho0 (fun k_ hk_ => ⟨(Kd.fresh' (Kd.R_lt (by (with_reducible repeat (first | apply rA | apply rN | apply rD)); exact HO_210000.out)) k_ hk_), (Kd.fresh' (Kd.R_lt (by (with_reducible repeat (first | apply rA | apply rN | apply rD)); exact HO_210001.out)) k_ hk_), (Kd.fresh' (Kd.R_lt (by (with_reducible repeat (first | apply rA | apply rN | apply rD)); exact HO_210002.out)) k_ hk_), (Kd.freshB (g := gb209) (o := .cells #[.slice Ao7 t200.length co7, .slice Ao9 t203.length co9, .slice Ao10 t206.length co10] 24 (0, 0)) (by (with_reducible repeat (first | refine pN ?_ _ | refine pD ?_ | refine pA ?_ _)); exact BK209.out) k_ hk_), (Kd.freshB (g := gb262) (o := .cells #[.slice Ao91 x263000_3.length co91, .slice Ao92 x263001_3.length co92, .slice Ao93 x263002_3.length co93] 24 (0, 0)) (by (with_reducible repeat (first | refine pN ?_ _ | refine pD ?_ | refine pA ?_ _)); exact BK262.out) k_ hk_), (Kd.freshB (g := gb263) (o := .cells #[.int .i64 x5_2, .int .i64 x6_3] 38 (0, 0)) (by (with_reducible repeat (first | refine pN ?_ _ | refine pD ?_ | refine pA ?_ _)); exact BK263.out) k_ hk_)⟩)) (below_size (by repeat (first | (with_reducible first | exact HB.out | apply bA | apply bN | apply bD | refine bS ?_ GE209.out | refine bS ?_ GE262.out | refine bS ?_ GE263.out) | exact HB.out))))
         have n7_ := mk0 (Kd.V_lower (Kd.V_mono (ok' := fun k_ => some k_ ≠ (.slice Ao7 t200.length co7 : Value).ownBlock ∧ some k_ ≠ (.slice Ao9 t203.length co9 : Value).ownBlock ∧ some k_ ≠ (.slice Ao10 t206.length co10 : Value).ownBlock ∧ k_ ≠ gb209 ∧ k_ ≠ gb262 ∧ k_ ≠ gb263) ho1 (fun k_ hk_ => ⟨(Kd.fresh' (Kd.R_lt (by (with_reducible repeat (first | apply rA | apply rN | apply rD)); exact HO_210000.out)) k_ hk_), (Kd.fresh' (Kd.R_lt (by (with_reducible repeat (first | apply rA | apply rN | apply rD)); exact HO_210001.out)) k_ hk_), (Kd.fresh' (Kd.R_lt (by (with_reducible repeat (first | apply rA | apply rN | apply rD)); exact HO_210002.out)) k_ hk_), (Kd.freshB (g := gb209) (o := .cells #[.slice Ao7 t200.length co7, .slice Ao9 t203.length co9, .slice Ao10 t206.length co10] 24 (0, 0)) (by (with_reducible repeat (first | refine pN ?_ _ | refine pD ?_ | refine pA ?_ _)); exact BK209.out) k_ hk_), (Kd.freshB (g := gb262) (o := .cells #[.slice Ao91 x263000_3.length co91, .slice Ao92 x263001_3.length co92, .slice Ao93 x263002_3.length co93] 24 (0, 0)) (by (with_reducible repeat (first | refine pN ?_ _ | refine pD ?_ | refine pA ?_ _)); exact BK262.out) k_ hk_), (Kd.freshB (g := gb263) (o := .cells #[.int .i64 x5_2, .int .i64 x6_3] 38 (0, 0)) (by (with_reducible repeat (first | refine pN ?_ _ | refine pD ?_ | refine pA ?_ _)); exact BK263.out) k_ hk_)⟩)) (below_size (by repeat (first | (with_reducible first | exact HB.out | apply bA | apply bN | apply bD | refine bS ?_ GE209.out | refine bS ?_ GE262.out | refine bS ?_ GE263.out) | exact HB.out))))
         have n8_ := mk0 (Kd.V_lower (Kd.V_mono (ok' := fun k_ => some k_ ≠ (.slice Ao7 t200.length co7 : Value).ownBlock ∧ some k_ ≠ (.slice Ao9 t203.length co9 : Value).ownBlock ∧ some k_ ≠ (.slice Ao10 t206.length co10 : Value).ownBlock ∧ k_ ≠ gb209 ∧ k_ ≠ gb262 ∧ k_ ≠ gb263) ho2 (fun k_ hk_ => ⟨(Kd.fresh' (Kd.R_lt (by (with_reducible repeat (first | apply rA | apply rN | apply rD)); exact HO_210000.out)) k_ hk_), (Kd.fresh' (Kd.R_lt (by (with_reducible repeat (first | apply rA | apply rN | apply rD)); exact HO_210001.out)) k_ hk_), (Kd.fresh' (Kd.R_lt (by (with_reducible repeat (first | apply rA | apply rN | apply rD)); exact HO_210002.out)) k_ hk_), (Kd.freshB (g := gb209) (o := .cells #[.slice Ao7 t200.length co7, .slice Ao9 t203.length co9, .slice Ao10 t206.length co10] 24 (0, 0)) (by (with_reducible repeat (first | refine pN ?_ _ | refine pD ?_ | refine pA ?_ _)); exact BK209.out) k_ hk_), (Kd.freshB (g := gb262) (o := .cells #[.slice Ao91 x263000_3.length co91, .slice Ao92 x263001_3.length co92, .slice Ao93 x263002_3.length co93] 24 (0, 0)) (by (with_reducible repeat (first | refine pN ?_ _ | refine pD ?_ | refine pA ?_ _)); exact BK262.out) k_ hk_), (Kd.freshB (g := gb263) (o := .cells #[.int .i64 x5_2, .int .i64 x6_3] 38 (0, 0)) (by (with_reducible repeat (first | refine pN ?_ _ | refine pD ?_ | refine pA ?_ _)); exact BK263.out) k_ hk_)⟩)) (below_size (by repeat (first | (with_reducible first | exact HB.out | apply bA | apply bN | apply bD | refine bS ?_ GE209.out | refine bS ?_ GE262.out | refine bS ?_ GE263.out) | exact HB.out))))
         have n9_ := mk0 (blk_below (g := gb209) (o := .cells #[.slice Ao7 t200.length co7, .slice Ao9 t203.length co9, .slice Ao10 t206.length co10] 24 (0, 0)) (by (with_reducible repeat (first | refine pN ?_ _ | refine pD ?_ | refine pA ?_ _)); exact BK209.out) hb)
         have n10_ := mk0 (blk_below (g := gb262) (o := .cells #[.slice Ao91 x263000_3.length co91, .slice Ao92 x263001_3.length co92, .slice Ao93 x263002_3.length co93] 24 (0, 0)) (by (with_reducible repeat (first | refine pN ?_ _ | refine pD ?_ | refine pA ?_ _)); exact BK262.out) hb)
         have n11_ := mk0 (blk_below (g := gb263) (o := .cells #[.int .i64 x5_2, .int .i64 x6_3] 38 (0, 0)) (by (with_reducible repeat (first | refine pN ?_ _ | refine pD ?_ | refine pA ?_ _)); exact BK263.out) hb)
         have n12_ := mk0 (below_step (by repeat (first | (with_reducible first | exact HB.out | apply bA | apply bN | apply bD | refine bS ?_ GE209.out | refine bS ?_ GE262.out | refine bS ?_ GE263.out) | exact HB.out)) hb)
         clear HO_210000
         clear HO_210001
         clear HO_210002
         clear HO_263000
         clear HO_263001
         clear HO_263002
         clear BK209
         clear BK262
         clear BK263
         clear HB
         have HO_210000 := n0_
         have HO_210001 := n1_
         have HO_210002 := n2_
         have HO_263000 := n3_
         have HO_263001 := n4_
         have HO_263002 := n5_
         have HO267 := n6_
         have HO270 := n7_
         have HO273 := n8_
         have BK209 := n9_
         have BK262 := n10_
         have BK263 := n11_
         have HB := n12_
         clear n0_ n1_ n2_ n3_ n4_ n5_ n6_ n7_ n8_ n9_ n10_ n11_ n12_
         (try clear hb)
         (try clear hb2)
         (try clear hk)
         (try clear hi)
         (try clear ho0)
         (try clear ho1)
         (try clear ho2)
         obtain ⟨Ao95, co95, eo95⟩ := Kd.V_slice HO267.out
         (first | subst eo95 | (injection eo95 with f1_ f2_ f3_; have f4_ := f1_.symm; have f5_ := f3_.symm; clear f1_ f2_ f3_; subst f4_; subst f5_))
         obtain ⟨Ao97, co97, eo97⟩ := Kd.V_slice HO270.out
         (first | subst eo97 | (injection eo97 with f1_ f2_ f3_; have f4_ := f1_.symm; have f5_ := f3_.symm; clear f1_ f2_ f3_; subst f4_; subst f5_))
         obtain ⟨Ao99, co99, eo99⟩ := Kd.V_slice HO273.out
         (first | subst eo99 | (injection eo99 with f1_ f2_ f3_; have f4_ := f1_.symm; have f5_ := f3_.symm; clear f1_ f2_ f3_; subst f4_; subst f5_))
         refine hK.out _ _ ⟨(blk_cell BK262.out 0).trans rfl, (blk_cell BK262.out 1).trans rfl, (blk_cell BK262.out 2).trans rfl, (blk_cell BK263.out 0).trans rfl, (blk_cell BK263.out 1).trans rfl, (blk_cell BK209.out 0).trans rfl, (blk_cell BK209.out 1).trans rfl, (blk_cell BK209.out 2).trans rfl⟩ (fun hHeld => ?_)
         clear hK K
         refine norm_ (a' := ?_) ?_ ?_
         rotate_left
         · show Act.put _ (some 57) _ = _
           simp only [Act.put, qa, qb, qc, i64_w, i32_w]
           rfl
         refine last_ (i := 6) (N := none) #[true, true, true, true, true, true, true] rfl rfl (by kernel_rfl) (by decide) (fun K hK => ?_)
         have hs96 : w94.cell? ⟨gb262, 0, none⟩ = some (.slice Ao91 x263000_3.length co91) := (blk_cell BK262.out 0).trans rfl
         have hfs96 := blk_frozen BK262.out 0
         have hns96_0 := NB209_262.out
         have hns96_2 := NB263_262.out
         have hms96_0 := NB262_209.out
         have hms96_2 := NB262_263.out
         have hs98 : w94.cell? ⟨gb262, 1, none⟩ = some (.slice Ao92 x263001_3.length co92) := (blk_cell BK262.out 1).trans rfl
         have hfs98 := blk_frozen BK262.out 1
         have hns98_0 := NB209_262.out
         have hns98_2 := NB263_262.out
         have hms98_0 := NB262_209.out
         have hms98_2 := NB262_263.out
         have hs100 : w94.cell? ⟨gb262, 2, none⟩ = some (.slice Ao93 x263002_3.length co93) := (blk_cell BK262.out 2).trans rfl
         have hfs100 := blk_frozen BK262.out 2
         have hns100_0 := NB209_262.out
         have hns100_2 := NB263_262.out
         have hms100_0 := NB262_209.out
         have hms100_2 := NB262_263.out
         refine skip_ (w1 := ?_) (by rfl) rfl ?_ ?_
         rotate_left
         · go_simp
           rfl
         refine hK.out _ _ ?_
         clear hK K
         refine done_ (by kernel_rfl) ?_
         try go_wp2
         go_roundg k3
         case measure => have := HJ3.out; have := HK2.out; have := HK3.out; omega
         case rel => exact ⟨(wrap64 (x6_3 + 1)), (t265), (t268), (t271), (.slice Ao95 t265.length co95), (.slice Ao97 t268.length co97), (.slice Ao99 t271.length co99), (by first | rfl | (simp; done) | (simp [*]; done)), H', ⟨by have := HJ3.out; have := HK2.out; have := HK3.out; omega⟩, ⟨by (with_reducible repeat (first | apply rA | apply rN | apply rD)); exact Kd.R_mono (Kd.R_far (p := ⟨gb262, 2, none⟩) (Kd.R_far (p := ⟨gb262, 1, none⟩) (Kd.R_far (p := ⟨gb262, 0, none⟩) (Kd.R_types HO_210000.out BK262.out (by decide)) (fun _ hk => hk.2) (.slice Ao95 t265.length co95)) (fun _ hk => hk.2) (.slice Ao97 t268.length co97)) (fun _ hk => hk.2) (.slice Ao99 t271.length co99)) (fun _ hk => ⟨hk.1.1, hk.1.2⟩)⟩, ⟨by (with_reducible repeat (first | apply rA | apply rN | apply rD)); exact Kd.R_mono (Kd.R_far (p := ⟨gb262, 2, none⟩) (Kd.R_far (p := ⟨gb262, 1, none⟩) (Kd.R_far (p := ⟨gb262, 0, none⟩) (Kd.R_types HO_210001.out BK262.out (by decide)) (fun _ hk => hk.2) (.slice Ao95 t265.length co95)) (fun _ hk => hk.2) (.slice Ao97 t268.length co97)) (fun _ hk => hk.2) (.slice Ao99 t271.length co99)) (fun _ hk => ⟨hk.1.1, hk.1.2⟩)⟩, ⟨by (with_reducible repeat (first | apply rA | apply rN | apply rD)); exact Kd.R_mono (Kd.R_far (p := ⟨gb262, 2, none⟩) (Kd.R_far (p := ⟨gb262, 1, none⟩) (Kd.R_far (p := ⟨gb262, 0, none⟩) (Kd.R_types HO_210002.out BK262.out (by decide)) (fun _ hk => hk.2) (.slice Ao95 t265.length co95)) (fun _ hk => hk.2) (.slice Ao97 t268.length co97)) (fun _ hk => hk.2) (.slice Ao99 t271.length co99)) (fun _ hk => ⟨hk.1.1, hk.1.2⟩)⟩, ⟨by (with_reducible repeat (first | apply vA | apply vN | apply vD)); exact Kd.V_mono (Kd.V_far (p := ⟨gb262, 2, none⟩) (Kd.V_far (p := ⟨gb262, 1, none⟩) (Kd.V_far (p := ⟨gb262, 0, none⟩) (Kd.V_mono HO267.out (fun k_ hk => (⟨hk, hk.2.2.2.2.1⟩ : _ ∧ k_ ≠ gb262))) (fun _ hk => hk.2) (.slice Ao95 t265.length co95)) (fun _ hk => hk.2) (.slice Ao97 t268.length co97)) (fun _ hk => hk.2) (.slice Ao99 t271.length co99)) (fun _ hk => ⟨hk.1.1, ⟨hk.1.2.1, ⟨hk.1.2.2.1, ⟨hk.1.2.2.2.1, hk.1.2.2.2.2.1⟩⟩⟩⟩)⟩, ⟨by (with_reducible repeat (first | apply vA | apply vN | apply vD)); exact Kd.V_mono (Kd.V_far (p := ⟨gb262, 2, none⟩) (Kd.V_far (p := ⟨gb262, 1, none⟩) (Kd.V_far (p := ⟨gb262, 0, none⟩) (Kd.V_mono HO270.out (fun k_ hk => (⟨hk, hk.2.2.2.2.1⟩ : _ ∧ k_ ≠ gb262))) (fun _ hk => hk.2) (.slice Ao95 t265.length co95)) (fun _ hk => hk.2) (.slice Ao97 t268.length co97)) (fun _ hk => hk.2) (.slice Ao99 t271.length co99)) (fun _ hk => ⟨hk.1.1, ⟨hk.1.2.1, ⟨hk.1.2.2.1, ⟨hk.1.2.2.2.1, hk.1.2.2.2.2.1⟩⟩⟩⟩)⟩, ⟨by (with_reducible repeat (first | apply vA | apply vN | apply vD)); exact Kd.V_mono (Kd.V_far (p := ⟨gb262, 2, none⟩) (Kd.V_far (p := ⟨gb262, 1, none⟩) (Kd.V_far (p := ⟨gb262, 0, none⟩) (Kd.V_mono HO273.out (fun k_ hk => (⟨hk, hk.2.2.2.2.1⟩ : _ ∧ k_ ≠ gb262))) (fun _ hk => hk.2) (.slice Ao95 t265.length co95)) (fun _ hk => hk.2) (.slice Ao97 t268.length co97)) (fun _ hk => hk.2) (.slice Ao99 t271.length co99)) (fun _ hk => ⟨hk.1.1, ⟨hk.1.2.1, ⟨hk.1.2.2.1, ⟨hk.1.2.2.2.1, hk.1.2.2.2.2.1⟩⟩⟩⟩)⟩, ⟨by (with_reducible repeat (first | refine pN ?_ _ | refine pD ?_ | refine pA ?_ _)); refine blk_far ?_ NB209_262.out _; (with_reducible repeat (first | refine pN ?_ _ | refine pD ?_ | refine pA ?_ _)); refine blk_far ?_ NB209_262.out _; (with_reducible repeat (first | refine pN ?_ _ | refine pD ?_ | refine pA ?_ _)); refine blk_far ?_ NB209_262.out _; (with_reducible repeat (first | refine pN ?_ _ | refine pD ?_ | refine pA ?_ _)); exact BK209.out⟩, ⟨by (with_reducible repeat (first | refine pN ?_ _ | refine pD ?_ | refine pA ?_ _)); refine blk_put (cs := #[.slice Ao95 t265.length co95, .slice Ao97 t268.length co97, .slice Ao93 x263002_3.length co93]) ?_ 2 _ rfl; (with_reducible repeat (first | refine pN ?_ _ | refine pD ?_ | refine pA ?_ _)); refine blk_put (cs := #[.slice Ao95 t265.length co95, .slice Ao92 x263001_3.length co92, .slice Ao93 x263002_3.length co93]) ?_ 1 _ rfl; (with_reducible repeat (first | refine pN ?_ _ | refine pD ?_ | refine pA ?_ _)); refine blk_put (cs := #[.slice Ao91 x263000_3.length co91, .slice Ao92 x263001_3.length co92, .slice Ao93 x263002_3.length co93]) ?_ 0 _ rfl; (with_reducible repeat (first | refine pN ?_ _ | refine pD ?_ | refine pA ?_ _)); exact BK262.out⟩, ⟨by repeat (first | (with_reducible first | exact HB.out | apply bA | apply bN | apply bD | refine bS ?_ GE209.out | refine bS ?_ GE262.out | refine bS ?_ GE263.out) | exact HB.out)⟩⟩
     rw [if_neg c80] at H
     have c80b0 : decide (x5_2 ≤ 3) = false := decide_eq_false c80
     clear c80
     have H' := mk0 H
     clear H
     go_wp2
     go_loopg [8] k2 (fun kq v8 w' => ∃ (x8_3 : Int), v8 = .int .i64 x8_3 ∧ Aside0 (laws_FnMemAll.l2 kq x8_3 t200 t203 t206 x263000_2 x263001_2 x263002_2 = some true) ∧ Aside0 (kq ≤ k2) ∧ Aside0 (Kd.R (Kd.int .i64) 3 w' w.heap.size (fun k_ => some k_ ≠ ((.slice Ao9 t203.length co9) : Value).ownBlock ∧ some k_ ≠ ((.slice Ao10 t206.length co10) : Value).ownBlock) (.slice Ao7 t200.length co7) t200) ∧ Aside0 (Kd.R (Kd.int .i64) 3 w' w.heap.size (fun k_ => some k_ ≠ ((.slice Ao7 t200.length co7) : Value).ownBlock ∧ some k_ ≠ ((.slice Ao10 t206.length co10) : Value).ownBlock) (.slice Ao9 t203.length co9) t203) ∧ Aside0 (Kd.R (Kd.int .i64) 3 w' w.heap.size (fun k_ => some k_ ≠ ((.slice Ao7 t200.length co7) : Value).ownBlock ∧ some k_ ≠ ((.slice Ao9 t203.length co9) : Value).ownBlock) (.slice Ao10 t206.length co10) t206) ∧ Aside0 (Kd.V (Kd.int .i64) 3 w' w.heap.size (fun k_ => some k_ ≠ ((.slice Ao7 t200.length co7) : Value).ownBlock ∧ some k_ ≠ ((.slice Ao9 t203.length co9) : Value).ownBlock ∧ some k_ ≠ ((.slice Ao10 t206.length co10) : Value).ownBlock ∧ k_ ≠ gb209 ∧ k_ ≠ gb262) u263000 x263000_2) ∧ Aside0 (Kd.V (Kd.int .i64) 3 w' w.heap.size (fun k_ => some k_ ≠ ((.slice Ao7 t200.length co7) : Value).ownBlock ∧ some k_ ≠ ((.slice Ao9 t203.length co9) : Value).ownBlock ∧ some k_ ≠ ((.slice Ao10 t206.length co10) : Value).ownBlock ∧ k_ ≠ gb209 ∧ k_ ≠ gb262) u263001 x263001_2) ∧ Aside0 (Kd.V (Kd.int .i64) 3 w' w.heap.size (fun k_ => some k_ ≠ ((.slice Ao7 t200.length co7) : Value).ownBlock ∧ some k_ ≠ ((.slice Ao9 t203.length co9) : Value).ownBlock ∧ some k_ ≠ ((.slice Ao10 t206.length co10) : Value).ownBlock ∧ k_ ≠ gb209 ∧ k_ ≠ gb262) u263002 x263002_2) ∧ Aside0 (w'.heap[gb209]? = some (.cells #[(.slice Ao7 t200.length co7), (.slice Ao9 t203.length co9), (.slice Ao10 t206.length co10)] 24 (0, 0))) ∧ Aside0 (w'.heap[gb262]? = some (.cells #[u263000, u263001, u263002] 24 (0, 0))) ∧ Aside0 (Below w.heap.size w w'))
     case atStart => exact ⟨(0), (by first | rfl | (simp; done) | (simp [*]; done)), H', ⟨Nat.le_refl _⟩, ⟨by (with_reducible repeat (first | apply rA | apply rN | apply rD)); exact HO_210000.out⟩, ⟨by (with_reducible repeat (first | apply rA | apply rN | apply rD)); exact HO_210001.out⟩, ⟨by (with_reducible repeat (first | apply rA | apply rN | apply rD)); exact HO_210002.out⟩, ⟨by (with_reducible repeat (first | apply vA | apply vN | apply vD)); exact HO_263000.out⟩, ⟨by (with_reducible repeat (first | apply vA | apply vN | apply vD)); exact HO_263001.out⟩, ⟨by (with_reducible repeat (first | apply vA | apply vN | apply vD)); exact HO_263002.out⟩, ⟨by (with_reducible repeat (first | refine pN ?_ _ | refine pD ?_ | refine pA ?_ _)); exact BK209.out⟩, ⟨by (with_reducible repeat (first | refine pN ?_ _ | refine pD ?_ | refine pA ?_ _)); exact BK262.out⟩, ⟨by repeat (first | (with_reducible first | exact HB.out | apply bA | apply bN | apply bD | refine bS ?_ GE209.out | refine bS ?_ GE262.out) | exact HB.out)⟩⟩
     case round =>
      clear H'
      try clear c1
      try clear c2
      try clear p2
      try clear c5
      try clear p6
      try clear c7
      try clear c8
      try clear c11
      try clear c12
      try clear c19
      try clear c20
      try clear c21
      try clear c24
      try clear c26
      try clear c50
      try clear c53
      try clear c53b0
      try clear c53b1
      try clear c53b2
      try clear p64
      try clear c76
      try clear c80
      try clear c80b0
      try clear c81
      try clear c81b0
      try clear c85
      try clear c86
      try clear hcz77_0
      try clear hcz77_1
      try clear hcz77_2
      try clear hcz87_0
      try clear hcz87_1
      try clear hfz77_0
      try clear hfz77_1
      try clear hfz77_2
      try clear hfz87_0
      try clear hfz87_1
      try clear p2
      obtain ⟨x8_3, rfl, HA, HK3, HO_210000, HO_210001, HO_210002, HO_263000, HO_263001, HO_263002, BK209, BK262, HB⟩ := hrel
      cases gk with
      | zero => exact absurd HA.out (by simp [laws_FnMemAll.l2])
      | succ k3 =>
       have H := HA.out
       clear HA
       simp only [laws_FnMemAll.l2] at H
       by_cases c101 : x8_3 < 6
       rotate_left
       · rw [if_neg c101] at H
         have c101b0 : decide (x8_3 < 6) = false := decide_eq_false c101
         clear c101
         replace H := Option.bind_eq_some_iff.mp H
         obtain ⟨t279, A1240, H⟩ := H
         replace H : (some t279) = some true := H
         have A124 := mk0 A1240
         clear A1240
         have HTR_ := mk0 (Option.some.inj H)
         clear H
         have hnb125 := NB262_209.out
         have hnc125 := NB209_262.out
         have hcz126_0 : wr.cell? ⟨gb262, 0, none⟩ = some (u263000) := (blk_cell BK262.out 0).trans rfl
         have hcz126_1 : wr.cell? ⟨gb262, 1, none⟩ = some (u263001) := (blk_cell BK262.out 1).trans rfl
         have hcz126_2 : wr.cell? ⟨gb262, 2, none⟩ = some (u263002) := (blk_cell BK262.out 2).trans rfl
         have hfz126_0 := blk_frozen BK262.out 0
         have hfz126_1 := blk_frozen BK262.out 1
         have hfz126_2 := blk_frozen BK262.out 2
         obtain ⟨Ao127, co127, eo127⟩ := Kd.V_slice HO_263000.out
         subst eo127
         obtain ⟨Ao128, co128, eo128⟩ := Kd.V_slice HO_263001.out
         subst eo128
         obtain ⟨Ao129, co129, eo129⟩ := Kd.V_slice HO_263002.out
         subst eo129
         go_wp2_with (first | ((with_reducible refine gate_callee (f := 21) rfl ?_); refine goesL_ (some 95) rfl rfl Try.func21 (by kernel_rfl) rfl #[.agg #[.slice Ao127 x263000_2.length co127, .slice Ao128 x263001_2.length co128, .slice Ao129 x263002_2.length co129]] rfl (by (try simp only [List.map_toArray, List.map_cons, List.map_nil]); first | done | rfl | (simp only [List.length_drop, List.length_take]; rfl)) ?_; (with_reducible refine (impl_MemOk.calls _ _ x263000_2 _ _ x263001_2 _ _ x263002_2 t279 _ ?side1 ?side2 ?side3 ?side4 ?side5 ?side6 A124.out).mono ?_); (case side1 => repeat (first | exact (Kd.V_reads' HO_263000.out).2.2 | (with_reducible first | refine cA ?_ _ | refine cN ?_ _ | refine cD ?_))); (case side2 => exact (Kd.V_reads' HO_263000.out).2.1); (case side3 => repeat (first | exact (Kd.V_reads' HO_263001.out).2.2 | (with_reducible first | refine cA ?_ _ | refine cN ?_ _ | refine cD ?_))); (case side4 => exact (Kd.V_reads' HO_263001.out).2.1); (case side5 => repeat (first | exact (Kd.V_reads' HO_263002.out).2.2 | (with_reducible first | refine cA ?_ _ | refine cN ?_ _ | refine cD ?_))); (case side6 => exact (Kd.V_reads' HO_263002.out).2.1); rintro e w130 ⟨rfl, hb⟩; refine ⟨_, rfl, ?_⟩; have n0_ := mk0 (Kd.R_below (by (with_reducible repeat (first | apply rA | apply rN | apply rD)); exact HO_210000.out) hb); have n1_ := mk0 (Kd.R_below (by (with_reducible repeat (first | apply rA | apply rN | apply rD)); exact HO_210001.out) hb); have n2_ := mk0 (Kd.R_below (by (with_reducible repeat (first | apply rA | apply rN | apply rD)); exact HO_210002.out) hb); have n3_ := mk0 (Kd.V_below (by (with_reducible repeat (first | apply vA | apply vN | apply vD)); exact HO_263000.out) hb); have n4_ := mk0 (Kd.V_below (by (with_reducible repeat (first | apply vA | apply vN | apply vD)); exact HO_263001.out) hb); have n5_ := mk0 (Kd.V_below (by (with_reducible repeat (first | apply vA | apply vN | apply vD)); exact HO_263002.out) hb); have n6_ := mk0 (blk_below (g := gb209) (o := .cells #[.slice Ao7 t200.length co7, .slice Ao9 t203.length co9, .slice Ao10 t206.length co10] 24 (0, 0)) (by (with_reducible repeat (first | refine pN ?_ _ | refine pD ?_ | refine pA ?_ _)); exact BK209.out) hb); have n7_ := mk0 (blk_below (g := gb262) (o := .cells #[.slice Ao127 x263000_2.length co127, .slice Ao128 x263001_2.length co128, .slice Ao129 x263002_2.length co129] 24 (0, 0)) (by (with_reducible repeat (first | refine pN ?_ _ | refine pD ?_ | refine pA ?_ _)); exact BK262.out) hb); have n8_ := mk0 (below_step (by repeat (first | (with_reducible first | exact HB.out | apply bA | apply bN | apply bD | refine bS ?_ GE209.out | refine bS ?_ GE262.out) | exact HB.out)) hb); clear HO_210000; clear HO_210001; clear HO_210002; clear HO_263000; clear HO_263001; clear HO_263002; clear BK209; clear BK262; clear HB; have HO_210000 := n0_; have HO_210001 := n1_; have HO_210002 := n2_; have HO_263000 := n3_; have HO_263001 := n4_; have HO_263002 := n5_; have BK209 := n6_; have BK262 := n7_; have HB := n8_; clear n0_ n1_ n2_ n3_ n4_ n5_ n6_ n7_ n8_; (try clear hb); (try clear hb2); (try clear hk); (try clear hi)))
         go_ret
         exact ⟨by first | rfl | exact congrArg (fun b => Ending.returned (.bool b)) HTR_.out | exact absurd HTR_.out (by decide) | (simp [errW_none, errW_some] <;> rfl) | (simp [*, errW_none, errW_some] <;> rfl), by repeat (first | (with_reducible first | exact HB.out | apply bA | apply bN | apply bD | refine bS ?_ GE209.out | refine bS ?_ GE262.out) | exact HB.out)⟩
       rw [if_pos c101] at H
       have c101b0 : decide (x8_3 < 6) = true := decide_eq_true c101
       clear c101
       by_cases c102 : 0 ≤ x8_3
       rotate_left
       · rw [if_neg c102] at H
         exact absurd H (by simp)
       rw [if_pos c102] at H
       have c102b0 : decide (0 ≤ x8_3) = true := decide_eq_true c102
       clear c102
       by_cases c103 : x8_3 < (x263001_2.length : Int)
       rotate_left
       · rw [if_neg c103] at H
         exact absurd H (by simp)
       rw [if_pos c103] at H
       have c103b0 : decide (x8_3 < (x263001_2.length : Int)) = true := decide_eq_true c103
       clear c103
       by_cases c104 : x8_3 < (t203.length : Int)
       rotate_left
       · rw [if_neg c104] at H
         exact absurd H (by simp)
       rw [if_pos c104] at H
       have c104b0 : decide (x8_3 < (t203.length : Int)) = true := decide_eq_true c104
       clear c104
       by_cases c105 : (rd x263001_2 x8_3) = (rd t203 x8_3)
       rotate_left
       · rw [if_neg c105] at H
         have c105b0 : ((rd x263001_2 x8_3) == (rd t203 x8_3)) = false := beq_eq_false_iff_ne.mpr c105
         have c105b1 : ((rd x263001_2 x8_3) != (rd t203 x8_3)) = true := bne_iff_ne.mpr c105
         have HTR_ := mk0 (Option.some.inj H)
         clear H
         try go_wp2
         have n0_ := mk0 (Kd.R_drew HO_210000.out)
         have n1_ := mk0 (Kd.R_drew HO_210001.out)
         have n2_ := mk0 (Kd.R_drew HO_210002.out)
         have n3_ := mk0 (Kd.V_drew HO_263000.out)
         have n4_ := mk0 (Kd.V_drew HO_263001.out)
         have n5_ := mk0 (Kd.V_drew HO_263002.out)
         have n6_ := mk0 (blk_drew BK209.out)
         have n7_ := mk0 (blk_drew BK262.out)
         have n8_ := mk0 (below_drew1 HB.out)
         clear HO_210000
         clear HO_210001
         clear HO_210002
         clear HO_263000
         clear HO_263001
         clear HO_263002
         clear BK209
         clear BK262
         clear HB
         have HO_210000 := n0_
         have HO_210001 := n1_
         have HO_210002 := n2_
         have HO_263000 := n3_
         have HO_263001 := n4_
         have HO_263002 := n5_
         have BK209 := n6_
         have BK262 := n7_
         have HB := n8_
         clear n0_ n1_ n2_ n3_ n4_ n5_ n6_ n7_ n8_
         obtain ⟨Ao123, co123, eo123⟩ := Kd.V_slice HO_263001.out
         (first | subst eo123 | (injection eo123 with f1_ f2_ f3_; have f4_ := f1_.symm; have f5_ := f3_.symm; clear f1_ f2_ f3_; subst f4_; subst f5_))
         have p274 : 0 ≤ (x8_3 : Int) := of_decide_eq_true (by first | (with_reducible assumption) | assumption)
         have q274 : x8_3 < (x263001_2.length : Int) := of_decide_eq_true (by first | (with_reducible assumption) | assumption)
         obtain ⟨ad274, e274, hx274_0⟩ := Kd.at_int (Kd.V_reads' HO_263001.out).2.2 x8_3 p274 q274
         cases e274
         replace p274 := eq_true p274
         replace q274 := eq_true q274
         have p275 : 0 ≤ (x8_3 : Int) := of_decide_eq_true (by first | (with_reducible assumption) | assumption)
         have q275 : x8_3 < (t203.length : Int) := of_decide_eq_true (by first | (with_reducible assumption) | assumption)
         obtain ⟨ad275, e275, hx275_0⟩ := Kd.at_int (Kd.R_reads' HO_210001.out).2.2 x8_3 p275 q275
         cases e275
         replace p275 := eq_true p275
         replace q275 := eq_true q275
         refine start_ (n := 32) (S := fun w' => w'.cell? ⟨gb262, 0, none⟩ = some (u263000) ∧ w'.cell? ⟨gb262, 1, none⟩ = some (.slice (some ad274) x263001_2.length co123) ∧ w'.cell? ⟨gb262, 2, none⟩ = some (u263002) ∧ w'.cell? ⟨gb209, 0, none⟩ = some (.slice Ao7 t200.length co7) ∧ w'.cell? ⟨gb209, 1, none⟩ = some (.slice (some ad275) t203.length co9) ∧ w'.cell? ⟨gb209, 2, none⟩ = some (.slice Ao10 t206.length co10) ∧ w'.cell? (ad274.add (x8_3).toNat) = some (.int .i64 (rd x263001_2 x8_3)) ∧ w'.cell? (ad275.add (x8_3).toNat) = some (.int .i64 (rd t203 x8_3))) (ds := []) #[false, false, false, false, false, false, false, false, false, false, false, false, false, false, false, false, false, false, false, false, false, false, false, false, false, false, false, false, false, false, false, false] (by kernel_rfl) rfl rfl ⟨(blk_cell BK262.out 0).trans rfl, (blk_cell BK262.out 1).trans rfl, (blk_cell BK262.out 2).trans rfl, (blk_cell BK209.out 0).trans rfl, (blk_cell BK209.out 1).trans rfl, (blk_cell BK209.out 2).trans rfl, hx274_0, hx275_0⟩ (fun hHeld => ?_); refine with_tabW laws_FnMemAll.tab18 laws_FnMemAll.bits18 (fun HT_ HW_ => ?_)
         generalize wr.drew = w122 at HO_210000 HO_210001 HO_210002 HO_263000 HO_263001 HO_263002 BK209 BK262 HB hx274_0 hx275_0 hHeld ⊢
         refine pure_ (i := 0) (N := some 62) (v := ?_) (a' := ?_) #[true, false, false, false, false, false, false, false, false, false, false, false, false, false, false, false, false, false, false, false, false, false, false, false, false, false, false, false, false, false, false, false] rfl rfl (any_of HT_.out (by kernel_rfl)) (fun _ _ _ h => h) (Or.inl ⟨by rfl, ?_⟩) ?_ ?_
         rotate_left
         · intro w'
           go_simp
           with_reducible rfl
         rotate_left
         · simp only [Act.put, qa, qb, qc, i64_w, i32_w]
           rfl
         refine pure_ (i := 2) (N := some 64) (v := ?_) (a' := ?_) #[true, false, true, false, false, false, false, false, false, false, false, false, false, false, false, false, false, false, false, false, false, false, false, false, false, false, false, false, false, false, false, false] rfl rfl (any_of HT_.out (by kernel_rfl)) (fun _ _ _ h => h) (Or.inl ⟨by rfl, ?_⟩) ?_ ?_
         rotate_left
         · intro w'
           go_simp
           with_reducible rfl
         rotate_left
         · simp only [Act.put, qa, qb, qc, i64_w, i32_w]
           rfl
         refine pure_ (i := 5) (N := some 67) (v := ?_) (a' := ?_) #[true, false, true, false, false, true, false, false, false, false, false, false, false, false, false, false, false, false, false, false, false, false, false, false, false, false, false, false, false, false, false, false] rfl rfl (any_of HT_.out (by kernel_rfl)) (fun _ _ _ h => h) (Or.inl ⟨by rfl, ?_⟩) ?_ ?_
         rotate_left
         · intro w'
           go_simp
           with_reducible rfl
         rotate_left
         · simp only [Act.put, qa, qb, qc, i64_w, i32_w]
           rfl
         refine pure_ (i := 7) (N := some 69) (v := ?_) (a' := ?_) #[true, false, true, false, false, true, false, true, false, false, false, false, false, false, false, false, false, false, false, false, false, false, false, false, false, false, false, false, false, false, false, false] rfl rfl (any_of HT_.out (by kernel_rfl)) (fun _ _ _ h => h) (Or.inl ⟨by rfl, ?_⟩) ?_ ?_
         rotate_left
         · intro w'
           go_simp
           with_reducible rfl
         rotate_left
         · simp only [Act.put, qa, qb, qc, i64_w, i32_w]
           rfl
         refine take_ (i := 1) (N := some 63) (v := ?_) (a' := ?_) #[true, true, true, false, false, true, false, true, false, false, false, false, false, false, false, false, false, false, false, false, false, false, false, false, false, false, false, false, false, false, false, false] rfl rfl (take_ofW HT_.out HW_.out (by kernel_rfl)) (fun _ _ _ h => h) (Or.inl ⟨by rfl, ?_⟩) hHeld ?_ ?_
         rotate_left
         · rintro w' ⟨s0, s1, s2, s3, s4, s5, s6, s7⟩
           go_simp
           with_reducible rfl
         rotate_left
         · simp only [Act.put, qa, qb, qc, i64_w, i32_w]
           rfl
         refine pure_ (i := 3) (N := some 65) (v := ?_) (a' := ?_) #[true, true, true, true, false, true, false, true, false, false, false, false, false, false, false, false, false, false, false, false, false, false, false, false, false, false, false, false, false, false, false, false] rfl rfl (any_of HT_.out (by kernel_rfl)) (fun _ _ _ h => h) (Or.inl ⟨by rfl, ?_⟩) ?_ ?_
         rotate_left
         · intro w'
           go_simp
           with_reducible rfl
         rotate_left
         · simp only [Act.put, qa, qb, qc, i64_w, i32_w]
           rfl
         refine take_ (i := 4) (N := some 66) (v := ?_) (a' := ?_) #[true, true, true, true, true, true, false, true, false, false, false, false, false, false, false, false, false, false, false, false, false, false, false, false, false, false, false, false, false, false, false, false] rfl rfl (take_ofW HT_.out HW_.out (by kernel_rfl)) (fun _ _ _ h => h) (Or.inl ⟨by rfl, ?_⟩) hHeld ?_ ?_
         rotate_left
         · rintro w' ⟨s0, s1, s2, s3, s4, s5, s6, s7⟩
           go_simp
           with_reducible rfl
         rotate_left
         · simp only [Act.put, qa, qb, qc, i64_w, i32_w]
           rfl
         refine take_ (i := 6) (N := some 68) (v := ?_) (a' := ?_) #[true, true, true, true, true, true, true, true, false, false, false, false, false, false, false, false, false, false, false, false, false, false, false, false, false, false, false, false, false, false, false, false] rfl rfl (take_ofW HT_.out HW_.out (by kernel_rfl)) (fun _ _ _ h => h) (Or.inl ⟨by rfl, ?_⟩) hHeld ?_ ?_
         rotate_left
         · rintro w' ⟨s0, s1, s2, s3, s4, s5, s6, s7⟩
           go_simp
           with_reducible rfl
         rotate_left
         · simp only [Act.put, qa, qb, qc, i64_w, i32_w]
           rfl
         refine pure_ (i := 8) (N := some 70) (v := ?_) (a' := ?_) #[true, true, true, true, true, true, true, true, true, false, false, false, false, false, false, false, false, false, false, false, false, false, false, false, false, false, false, false, false, false, false, false] rfl rfl (any_of HT_.out (by kernel_rfl)) (fun _ _ _ h => h) (Or.inl ⟨by rfl, ?_⟩) ?_ ?_
         rotate_left
         · intro w'
           go_simp
           with_reducible rfl
         rotate_left
         · simp only [Act.put, qa, qb, qc, i64_w, i32_w]
           rfl
         refine take_ (i := 9) (N := some 71) (v := ?_) (a' := ?_) #[true, true, true, true, true, true, true, true, true, true, false, false, false, false, false, false, false, false, false, false, false, false, false, false, false, false, false, false, false, false, false, false] rfl rfl (take_ofW HT_.out HW_.out (by kernel_rfl)) (fun _ _ _ h => h) (Or.inl ⟨by rfl, ?_⟩) hHeld ?_ ?_
         rotate_left
         · rintro w' ⟨s0, s1, s2, s3, s4, s5, s6, s7⟩
           go_simp
           with_reducible rfl
         rotate_left
         · simp only [Act.put, qa, qb, qc, i64_w, i32_w]
           rfl
         refine pure_ (i := 10) (N := some 72) (v := ?_) (a' := ?_) #[true, true, true, true, true, true, true, true, true, true, true, false, false, false, false, false, false, false, false, false, false, false, false, false, false, false, false, false, false, false, false, false] rfl rfl (any_of HT_.out (by kernel_rfl)) (fun _ _ _ h => h) (Or.inl ⟨by rfl, ?_⟩) ?_ ?_
         rotate_left
         · intro w'
           go_simp
           with_reducible rfl
         rotate_left
         · simp only [Act.put, qa, qb, qc, i64_w, i32_w]
           rfl
         refine pure_ (i := 11) (N := some 73) (v := ?_) (a' := ?_) #[true, true, true, true, true, true, true, true, true, true, true, true, false, false, false, false, false, false, false, false, false, false, false, false, false, false, false, false, false, false, false, false] rfl rfl (any_of HT_.out (by kernel_rfl)) (fun _ _ _ h => h) (Or.inl ⟨by rfl, ?_⟩) ?_ ?_
         rotate_left
         · intro w'
           go_simp
           with_reducible rfl
         rotate_left
         · simp only [Act.put, qa, qb, qc, i64_w, i32_w]
           rfl
         refine pure_ (i := 12) (N := some 74) (v := undef) (a' := ?_) #[true, true, true, true, true, true, true, true, true, true, true, true, true, false, false, false, false, false, false, false, false, false, false, false, false, false, false, false, false, false, false, false] rfl rfl (any_of HT_.out (by kernel_rfl)) (fun _ _ _ h => h) (Or.inr ⟨by rfl, rfl⟩) ?_ ?_
         rotate_left
         · simp only [Act.put, qa, qb, qc, i64_w, i32_w]
           rfl
         refine pure_ (i := 13) (N := some 75) (v := undef) (a' := ?_) #[true, true, true, true, true, true, true, true, true, true, true, true, true, true, false, false, false, false, false, false, false, false, false, false, false, false, false, false, false, false, false, false] rfl rfl (any_of HT_.out (by kernel_rfl)) (fun _ _ _ h => h) (Or.inr ⟨by rfl, rfl⟩) ?_ ?_
         rotate_left
         · simp only [Act.put, qa, qb, qc, i64_w, i32_w]
           rfl
         refine pure_ (i := 14) (N := some 76) (v := undef) (a' := ?_) #[true, true, true, true, true, true, true, true, true, true, true, true, true, true, true, false, false, false, false, false, false, false, false, false, false, false, false, false, false, false, false, false] rfl rfl (any_of HT_.out (by kernel_rfl)) (fun _ _ _ h => h) (Or.inr ⟨by rfl, rfl⟩) ?_ ?_
         rotate_left
         · simp only [Act.put, qa, qb, qc, i64_w, i32_w]
           rfl
         refine pure_ (i := 15) (N := some 77) (v := undef) (a' := ?_) #[true, true, true, true, true, true, true, true, true, true, true, true, true, true, true, true, false, false, false, false, false, false, false, false, false, false, false, false, false, false, false, false] rfl rfl (any_of HT_.out (by kernel_rfl)) (fun _ _ _ h => h) (Or.inr ⟨by rfl, rfl⟩) ?_ ?_
         rotate_left
         · simp only [Act.put, qa, qb, qc, i64_w, i32_w]
           rfl
         refine pure_ (i := 16) (N := some 78) (v := undef) (a' := ?_) #[true, true, true, true, true, true, true, true, true, true, true, true, true, true, true, true, true, false, false, false, false, false, false, false, false, false, false, false, false, false, false, false] rfl rfl (any_of HT_.out (by kernel_rfl)) (fun _ _ _ h => h) (Or.inr ⟨by rfl, rfl⟩) ?_ ?_
         rotate_left
         · simp only [Act.put, qa, qb, qc, i64_w, i32_w]
           rfl
         refine pure_ (i := 17) (N := some 79) (v := undef) (a' := ?_) #[true, true, true, true, true, true, true, true, true, true, true, true, true, true, true, true, true, true, false, false, false, false, false, false, false, false, false, false, false, false, false, false] rfl rfl (any_of HT_.out (by kernel_rfl)) (fun _ _ _ h => h) (Or.inr ⟨by rfl, rfl⟩) ?_ ?_
         rotate_left
         · simp only [Act.put, qa, qb, qc, i64_w, i32_w]
           rfl
         refine pure_ (i := 18) (N := some 80) (v := undef) (a' := ?_) #[true, true, true, true, true, true, true, true, true, true, true, true, true, true, true, true, true, true, true, false, false, false, false, false, false, false, false, false, false, false, false, false] rfl rfl (any_of HT_.out (by kernel_rfl)) (fun _ _ _ h => h) (Or.inr ⟨by rfl, rfl⟩) ?_ ?_
         rotate_left
         · simp only [Act.put, qa, qb, qc, i64_w, i32_w]
           rfl
         refine pure_ (i := 19) (N := some 81) (v := undef) (a' := ?_) #[true, true, true, true, true, true, true, true, true, true, true, true, true, true, true, true, true, true, true, true, false, false, false, false, false, false, false, false, false, false, false, false] rfl rfl (any_of HT_.out (by kernel_rfl)) (fun _ _ _ h => h) (Or.inr ⟨by rfl, rfl⟩) ?_ ?_
         rotate_left
         · simp only [Act.put, qa, qb, qc, i64_w, i32_w]
           rfl
         refine pure_ (i := 20) (N := some 82) (v := undef) (a' := ?_) #[true, true, true, true, true, true, true, true, true, true, true, true, true, true, true, true, true, true, true, true, true, false, false, false, false, false, false, false, false, false, false, false] rfl rfl (any_of HT_.out (by kernel_rfl)) (fun _ _ _ h => h) (Or.inr ⟨by rfl, rfl⟩) ?_ ?_
         rotate_left
         · simp only [Act.put, qa, qb, qc, i64_w, i32_w]
           rfl
         refine pure_ (i := 21) (N := some 83) (v := undef) (a' := ?_) #[true, true, true, true, true, true, true, true, true, true, true, true, true, true, true, true, true, true, true, true, true, true, false, false, false, false, false, false, false, false, false, false] rfl rfl (any_of HT_.out (by kernel_rfl)) (fun _ _ _ h => h) (Or.inr ⟨by rfl, rfl⟩) ?_ ?_
         rotate_left
         · simp only [Act.put, qa, qb, qc, i64_w, i32_w]
           rfl
         refine pure_ (i := 22) (N := some 84) (v := undef) (a' := ?_) #[true, true, true, true, true, true, true, true, true, true, true, true, true, true, true, true, true, true, true, true, true, true, true, false, false, false, false, false, false, false, false, false] rfl rfl (any_of HT_.out (by kernel_rfl)) (fun _ _ _ h => h) (Or.inr ⟨by rfl, rfl⟩) ?_ ?_
         rotate_left
         · simp only [Act.put, qa, qb, qc, i64_w, i32_w]
           rfl
         refine pure_ (i := 23) (N := some 85) (v := ?_) (a' := ?_) #[true, true, true, true, true, true, true, true, true, true, true, true, true, true, true, true, true, true, true, true, true, true, true, true, false, false, false, false, false, false, false, false] rfl rfl (any_of HT_.out (by kernel_rfl)) (fun _ _ _ h => h) (Or.inl ⟨by rfl, ?_⟩) ?_ ?_
         rotate_left
         · intro w'
           go_simp
           with_reducible rfl
         rotate_left
         · simp only [Act.put, qa, qb, qc, i64_w, i32_w]
           rfl
         refine pure_ (i := 24) (N := some 86) (v := ?_) (a' := ?_) #[true, true, true, true, true, true, true, true, true, true, true, true, true, true, true, true, true, true, true, true, true, true, true, true, true, false, false, false, false, false, false, false] rfl rfl (any_of HT_.out (by kernel_rfl)) (fun _ _ _ h => h) (Or.inl ⟨by rfl, ?_⟩) ?_ ?_
         rotate_left
         · intro w'
           go_simp
           with_reducible rfl
         rotate_left
         · simp only [Act.put, qa, qb, qc, i64_w, i32_w]
           rfl
         refine pure_ (i := 25) (N := some 87) (v := undef) (a' := ?_) #[true, true, true, true, true, true, true, true, true, true, true, true, true, true, true, true, true, true, true, true, true, true, true, true, true, true, false, false, false, false, false, false] rfl rfl (any_of HT_.out (by kernel_rfl)) (fun _ _ _ h => h) (Or.inr ⟨by rfl, rfl⟩) ?_ ?_
         rotate_left
         · simp only [Act.put, qa, qb, qc, i64_w, i32_w]
           rfl
         refine pure_ (i := 26) (N := some 88) (v := undef) (a' := ?_) #[true, true, true, true, true, true, true, true, true, true, true, true, true, true, true, true, true, true, true, true, true, true, true, true, true, true, true, false, false, false, false, false] rfl rfl (any_of HT_.out (by kernel_rfl)) (fun _ _ _ h => h) (Or.inr ⟨by rfl, rfl⟩) ?_ ?_
         rotate_left
         · simp only [Act.put, qa, qb, qc, i64_w, i32_w]
           rfl
         refine pure_ (i := 27) (N := some 89) (v := undef) (a' := ?_) #[true, true, true, true, true, true, true, true, true, true, true, true, true, true, true, true, true, true, true, true, true, true, true, true, true, true, true, true, false, false, false, false] rfl rfl (any_of HT_.out (by kernel_rfl)) (fun _ _ _ h => h) (Or.inr ⟨by rfl, rfl⟩) ?_ ?_
         rotate_left
         · simp only [Act.put, qa, qb, qc, i64_w, i32_w]
           rfl
         refine pure_ (i := 28) (N := some 90) (v := undef) (a' := ?_) #[true, true, true, true, true, true, true, true, true, true, true, true, true, true, true, true, true, true, true, true, true, true, true, true, true, true, true, true, true, false, false, false] rfl rfl (any_of HT_.out (by kernel_rfl)) (fun _ _ _ h => h) (Or.inr ⟨by rfl, rfl⟩) ?_ ?_
         rotate_left
         · simp only [Act.put, qa, qb, qc, i64_w, i32_w]
           rfl
         refine pure_ (i := 29) (N := some 91) (v := undef) (a' := ?_) #[true, true, true, true, true, true, true, true, true, true, true, true, true, true, true, true, true, true, true, true, true, true, true, true, true, true, true, true, true, true, false, false] rfl rfl (any_of HT_.out (by kernel_rfl)) (fun _ _ _ h => h) (Or.inr ⟨by rfl, rfl⟩) ?_ ?_
         rotate_left
         · simp only [Act.put, qa, qb, qc, i64_w, i32_w]
           rfl
         refine pure_ (i := 30) (N := some 92) (v := undef) (a' := ?_) #[true, true, true, true, true, true, true, true, true, true, true, true, true, true, true, true, true, true, true, true, true, true, true, true, true, true, true, true, true, true, true, false] rfl rfl (any_of HT_.out (by kernel_rfl)) (fun _ _ _ h => h) (Or.inr ⟨by rfl, rfl⟩) ?_ ?_
         rotate_left
         · simp only [Act.put, qa, qb, qc, i64_w, i32_w]
           rfl
         refine pure_ (i := 31) (N := some 93) (v := ?_) (a' := ?_) #[true, true, true, true, true, true, true, true, true, true, true, true, true, true, true, true, true, true, true, true, true, true, true, true, true, true, true, true, true, true, true, true] rfl rfl (any_of HT_.out (by kernel_rfl)) (fun _ _ _ h => h) (Or.inl ⟨by rfl, ?_⟩) ?_ ?_
         rotate_left
         · intro w'
           go_simp
           with_reducible rfl
         rotate_left
         · simp only [Act.put, qa, qb, qc, i64_w, i32_w]
           rfl
         refine done_ (done_of HT_.out (by kernel_rfl)) ?_
         try go_wp2
         go_ret
         exact ⟨by first | rfl | exact congrArg (fun b => Ending.returned (.bool b)) HTR_.out | exact absurd HTR_.out (by decide) | (simp [errW_none, errW_some] <;> rfl) | (simp [*, errW_none, errW_some] <;> rfl), by repeat (first | (with_reducible first | exact HB.out | apply bA | apply bN | apply bD | refine bS ?_ GE209.out | refine bS ?_ GE262.out) | exact HB.out)⟩
       rw [if_pos c105] at H
       have c105b0 : ((rd x263001_2 x8_3) == (rd t203 x8_3)) = true := beq_iff_eq.mpr c105
       have c105b1 : ((rd x263001_2 x8_3) != (rd t203 x8_3)) = false := bne_eq_false_iff_eq.mpr c105
       clear c105
       by_cases c106 : x8_3 < (x263002_2.length : Int)
       rotate_left
       · rw [if_neg c106] at H
         exact absurd H (by simp)
       rw [if_pos c106] at H
       have c106b0 : decide (x8_3 < (x263002_2.length : Int)) = true := decide_eq_true c106
       clear c106
       by_cases c107 : x8_3 < (t206.length : Int)
       rotate_left
       · rw [if_neg c107] at H
         exact absurd H (by simp)
       rw [if_pos c107] at H
       have c107b0 : decide (x8_3 < (t206.length : Int)) = true := decide_eq_true c107
       clear c107
       by_cases c108 : (rd x263002_2 x8_3) = (rd t206 x8_3)
       rotate_left
       · rw [if_neg c108] at H
         have c108b0 : ((rd x263002_2 x8_3) == (rd t206 x8_3)) = false := beq_eq_false_iff_ne.mpr c108
         have c108b1 : ((rd x263002_2 x8_3) != (rd t206 x8_3)) = true := bne_iff_ne.mpr c108
         have HTR_ := mk0 (Option.some.inj H)
         clear H
         try go_wp2
         have n0_ := mk0 (Kd.R_drew HO_210000.out)
         have n1_ := mk0 (Kd.R_drew HO_210001.out)
         have n2_ := mk0 (Kd.R_drew HO_210002.out)
         have n3_ := mk0 (Kd.V_drew HO_263000.out)
         have n4_ := mk0 (Kd.V_drew HO_263001.out)
         have n5_ := mk0 (Kd.V_drew HO_263002.out)
         have n6_ := mk0 (blk_drew BK209.out)
         have n7_ := mk0 (blk_drew BK262.out)
         have n8_ := mk0 (below_drew1 HB.out)
         clear HO_210000
         clear HO_210001
         clear HO_210002
         clear HO_263000
         clear HO_263001
         clear HO_263002
         clear BK209
         clear BK262
         clear HB
         have HO_210000 := n0_
         have HO_210001 := n1_
         have HO_210002 := n2_
         have HO_263000 := n3_
         have HO_263001 := n4_
         have HO_263002 := n5_
         have BK209 := n6_
         have BK262 := n7_
         have HB := n8_
         clear n0_ n1_ n2_ n3_ n4_ n5_ n6_ n7_ n8_
         obtain ⟨Ao120, co120, eo120⟩ := Kd.V_slice HO_263001.out
         (first | subst eo120 | (injection eo120 with f1_ f2_ f3_; have f4_ := f1_.symm; have f5_ := f3_.symm; clear f1_ f2_ f3_; subst f4_; subst f5_))
         have p274 : 0 ≤ (x8_3 : Int) := of_decide_eq_true (by first | (with_reducible assumption) | assumption)
         have q274 : x8_3 < (x263001_2.length : Int) := of_decide_eq_true (by first | (with_reducible assumption) | assumption)
         obtain ⟨ad274, e274, hx274_0⟩ := Kd.at_int (Kd.V_reads' HO_263001.out).2.2 x8_3 p274 q274
         cases e274
         replace p274 := eq_true p274
         replace q274 := eq_true q274
         have p275 : 0 ≤ (x8_3 : Int) := of_decide_eq_true (by first | (with_reducible assumption) | assumption)
         have q275 : x8_3 < (t203.length : Int) := of_decide_eq_true (by first | (with_reducible assumption) | assumption)
         obtain ⟨ad275, e275, hx275_0⟩ := Kd.at_int (Kd.R_reads' HO_210001.out).2.2 x8_3 p275 q275
         cases e275
         replace p275 := eq_true p275
         replace q275 := eq_true q275
         obtain ⟨Ao121, co121, eo121⟩ := Kd.V_slice HO_263002.out
         (first | subst eo121 | (injection eo121 with f1_ f2_ f3_; have f4_ := f1_.symm; have f5_ := f3_.symm; clear f1_ f2_ f3_; subst f4_; subst f5_))
         have p276 : 0 ≤ (x8_3 : Int) := of_decide_eq_true (by first | (with_reducible assumption) | assumption)
         have q276 : x8_3 < (x263002_2.length : Int) := of_decide_eq_true (by first | (with_reducible assumption) | assumption)
         obtain ⟨ad276, e276, hx276_0⟩ := Kd.at_int (Kd.V_reads' HO_263002.out).2.2 x8_3 p276 q276
         cases e276
         replace p276 := eq_true p276
         replace q276 := eq_true q276
         have p277 : 0 ≤ (x8_3 : Int) := of_decide_eq_true (by first | (with_reducible assumption) | assumption)
         have q277 : x8_3 < (t206.length : Int) := of_decide_eq_true (by first | (with_reducible assumption) | assumption)
         obtain ⟨ad277, e277, hx277_0⟩ := Kd.at_int (Kd.R_reads' HO_210002.out).2.2 x8_3 p277 q277
         cases e277
         replace p277 := eq_true p277
         replace q277 := eq_true q277
         refine start_ (n := 32) (S := fun w' => w'.cell? ⟨gb262, 0, none⟩ = some (u263000) ∧ w'.cell? ⟨gb262, 1, none⟩ = some (.slice (some ad274) x263001_2.length co120) ∧ w'.cell? ⟨gb262, 2, none⟩ = some (.slice (some ad276) x263002_2.length co121) ∧ w'.cell? ⟨gb209, 0, none⟩ = some (.slice Ao7 t200.length co7) ∧ w'.cell? ⟨gb209, 1, none⟩ = some (.slice (some ad275) t203.length co9) ∧ w'.cell? ⟨gb209, 2, none⟩ = some (.slice (some ad277) t206.length co10) ∧ w'.cell? (ad274.add (x8_3).toNat) = some (.int .i64 (rd x263001_2 x8_3)) ∧ w'.cell? (ad275.add (x8_3).toNat) = some (.int .i64 (rd t203 x8_3)) ∧ w'.cell? (ad276.add (x8_3).toNat) = some (.int .i64 (rd x263002_2 x8_3)) ∧ w'.cell? (ad277.add (x8_3).toNat) = some (.int .i64 (rd t206 x8_3))) (ds := []) #[false, false, false, false, false, false, false, false, false, false, false, false, false, false, false, false, false, false, false, false, false, false, false, false, false, false, false, false, false, false, false, false] (by kernel_rfl) rfl rfl ⟨(blk_cell BK262.out 0).trans rfl, (blk_cell BK262.out 1).trans rfl, (blk_cell BK262.out 2).trans rfl, (blk_cell BK209.out 0).trans rfl, (blk_cell BK209.out 1).trans rfl, (blk_cell BK209.out 2).trans rfl, hx274_0, hx275_0, hx276_0, hx277_0⟩ (fun hHeld => ?_); refine with_tabW laws_FnMemAll.tab18 laws_FnMemAll.bits18 (fun HT_ HW_ => ?_)
         generalize wr.drew = w119 at HO_210000 HO_210001 HO_210002 HO_263000 HO_263001 HO_263002 BK209 BK262 HB hx274_0 hx275_0 hx276_0 hx277_0 hHeld ⊢
         refine pure_ (i := 0) (N := some 62) (v := ?_) (a' := ?_) #[true, false, false, false, false, false, false, false, false, false, false, false, false, false, false, false, false, false, false, false, false, false, false, false, false, false, false, false, false, false, false, false] rfl rfl (any_of HT_.out (by kernel_rfl)) (fun _ _ _ h => h) (Or.inl ⟨by rfl, ?_⟩) ?_ ?_
         rotate_left
         · intro w'
           go_simp
           with_reducible rfl
         rotate_left
         · simp only [Act.put, qa, qb, qc, i64_w, i32_w]
           rfl
         refine pure_ (i := 2) (N := some 64) (v := ?_) (a' := ?_) #[true, false, true, false, false, false, false, false, false, false, false, false, false, false, false, false, false, false, false, false, false, false, false, false, false, false, false, false, false, false, false, false] rfl rfl (any_of HT_.out (by kernel_rfl)) (fun _ _ _ h => h) (Or.inl ⟨by rfl, ?_⟩) ?_ ?_
         rotate_left
         · intro w'
           go_simp
           with_reducible rfl
         rotate_left
         · simp only [Act.put, qa, qb, qc, i64_w, i32_w]
           rfl
         refine pure_ (i := 5) (N := some 67) (v := ?_) (a' := ?_) #[true, false, true, false, false, true, false, false, false, false, false, false, false, false, false, false, false, false, false, false, false, false, false, false, false, false, false, false, false, false, false, false] rfl rfl (any_of HT_.out (by kernel_rfl)) (fun _ _ _ h => h) (Or.inl ⟨by rfl, ?_⟩) ?_ ?_
         rotate_left
         · intro w'
           go_simp
           with_reducible rfl
         rotate_left
         · simp only [Act.put, qa, qb, qc, i64_w, i32_w]
           rfl
         refine pure_ (i := 7) (N := some 69) (v := ?_) (a' := ?_) #[true, false, true, false, false, true, false, true, false, false, false, false, false, false, false, false, false, false, false, false, false, false, false, false, false, false, false, false, false, false, false, false] rfl rfl (any_of HT_.out (by kernel_rfl)) (fun _ _ _ h => h) (Or.inl ⟨by rfl, ?_⟩) ?_ ?_
         rotate_left
         · intro w'
           go_simp
           with_reducible rfl
         rotate_left
         · simp only [Act.put, qa, qb, qc, i64_w, i32_w]
           rfl
         refine take_ (i := 1) (N := some 63) (v := ?_) (a' := ?_) #[true, true, true, false, false, true, false, true, false, false, false, false, false, false, false, false, false, false, false, false, false, false, false, false, false, false, false, false, false, false, false, false] rfl rfl (take_ofW HT_.out HW_.out (by kernel_rfl)) (fun _ _ _ h => h) (Or.inl ⟨by rfl, ?_⟩) hHeld ?_ ?_
         rotate_left
         · rintro w' ⟨s0, s1, s2, s3, s4, s5, s6, s7, s8, s9⟩
           go_simp
           with_reducible rfl
         rotate_left
         · simp only [Act.put, qa, qb, qc, i64_w, i32_w]
           rfl
         refine pure_ (i := 3) (N := some 65) (v := ?_) (a' := ?_) #[true, true, true, true, false, true, false, true, false, false, false, false, false, false, false, false, false, false, false, false, false, false, false, false, false, false, false, false, false, false, false, false] rfl rfl (any_of HT_.out (by kernel_rfl)) (fun _ _ _ h => h) (Or.inl ⟨by rfl, ?_⟩) ?_ ?_
         rotate_left
         · intro w'
           go_simp
           with_reducible rfl
         rotate_left
         · simp only [Act.put, qa, qb, qc, i64_w, i32_w]
           rfl
         refine take_ (i := 4) (N := some 66) (v := ?_) (a' := ?_) #[true, true, true, true, true, true, false, true, false, false, false, false, false, false, false, false, false, false, false, false, false, false, false, false, false, false, false, false, false, false, false, false] rfl rfl (take_ofW HT_.out HW_.out (by kernel_rfl)) (fun _ _ _ h => h) (Or.inl ⟨by rfl, ?_⟩) hHeld ?_ ?_
         rotate_left
         · rintro w' ⟨s0, s1, s2, s3, s4, s5, s6, s7, s8, s9⟩
           go_simp
           with_reducible rfl
         rotate_left
         · simp only [Act.put, qa, qb, qc, i64_w, i32_w]
           rfl
         refine take_ (i := 6) (N := some 68) (v := ?_) (a' := ?_) #[true, true, true, true, true, true, true, true, false, false, false, false, false, false, false, false, false, false, false, false, false, false, false, false, false, false, false, false, false, false, false, false] rfl rfl (take_ofW HT_.out HW_.out (by kernel_rfl)) (fun _ _ _ h => h) (Or.inl ⟨by rfl, ?_⟩) hHeld ?_ ?_
         rotate_left
         · rintro w' ⟨s0, s1, s2, s3, s4, s5, s6, s7, s8, s9⟩
           go_simp
           with_reducible rfl
         rotate_left
         · simp only [Act.put, qa, qb, qc, i64_w, i32_w]
           rfl
         refine pure_ (i := 8) (N := some 70) (v := ?_) (a' := ?_) #[true, true, true, true, true, true, true, true, true, false, false, false, false, false, false, false, false, false, false, false, false, false, false, false, false, false, false, false, false, false, false, false] rfl rfl (any_of HT_.out (by kernel_rfl)) (fun _ _ _ h => h) (Or.inl ⟨by rfl, ?_⟩) ?_ ?_
         rotate_left
         · intro w'
           go_simp
           with_reducible rfl
         rotate_left
         · simp only [Act.put, qa, qb, qc, i64_w, i32_w]
           rfl
         refine take_ (i := 9) (N := some 71) (v := ?_) (a' := ?_) #[true, true, true, true, true, true, true, true, true, true, false, false, false, false, false, false, false, false, false, false, false, false, false, false, false, false, false, false, false, false, false, false] rfl rfl (take_ofW HT_.out HW_.out (by kernel_rfl)) (fun _ _ _ h => h) (Or.inl ⟨by rfl, ?_⟩) hHeld ?_ ?_
         rotate_left
         · rintro w' ⟨s0, s1, s2, s3, s4, s5, s6, s7, s8, s9⟩
           go_simp
           with_reducible rfl
         rotate_left
         · simp only [Act.put, qa, qb, qc, i64_w, i32_w]
           rfl
         refine pure_ (i := 10) (N := some 72) (v := ?_) (a' := ?_) #[true, true, true, true, true, true, true, true, true, true, true, false, false, false, false, false, false, false, false, false, false, false, false, false, false, false, false, false, false, false, false, false] rfl rfl (any_of HT_.out (by kernel_rfl)) (fun _ _ _ h => h) (Or.inl ⟨by rfl, ?_⟩) ?_ ?_
         rotate_left
         · intro w'
           go_simp
           with_reducible rfl
         rotate_left
         · simp only [Act.put, qa, qb, qc, i64_w, i32_w]
           rfl
         refine pure_ (i := 11) (N := some 73) (v := ?_) (a' := ?_) #[true, true, true, true, true, true, true, true, true, true, true, true, false, false, false, false, false, false, false, false, false, false, false, false, false, false, false, false, false, false, false, false] rfl rfl (any_of HT_.out (by kernel_rfl)) (fun _ _ _ h => h) (Or.inl ⟨by rfl, ?_⟩) ?_ ?_
         rotate_left
         · intro w'
           go_simp
           with_reducible rfl
         rotate_left
         · simp only [Act.put, qa, qb, qc, i64_w, i32_w]
           rfl
         refine pure_ (i := 12) (N := some 74) (v := ?_) (a' := ?_) #[true, true, true, true, true, true, true, true, true, true, true, true, true, false, false, false, false, false, false, false, false, false, false, false, false, false, false, false, false, false, false, false] rfl rfl (any_of HT_.out (by kernel_rfl)) (fun _ _ _ h => h) (Or.inl ⟨by rfl, ?_⟩) ?_ ?_
         rotate_left
         · intro w'
           go_simp
           with_reducible rfl
         rotate_left
         · simp only [Act.put, qa, qb, qc, i64_w, i32_w]
           rfl
         refine pure_ (i := 14) (N := some 76) (v := ?_) (a' := ?_) #[true, true, true, true, true, true, true, true, true, true, true, true, true, false, true, false, false, false, false, false, false, false, false, false, false, false, false, false, false, false, false, false] rfl rfl (any_of HT_.out (by kernel_rfl)) (fun _ _ _ h => h) (Or.inl ⟨by rfl, ?_⟩) ?_ ?_
         rotate_left
         · intro w'
           go_simp
           with_reducible rfl
         rotate_left
         · simp only [Act.put, qa, qb, qc, i64_w, i32_w]
           rfl
         refine pure_ (i := 17) (N := some 79) (v := ?_) (a' := ?_) #[true, true, true, true, true, true, true, true, true, true, true, true, true, false, true, false, false, true, false, false, false, false, false, false, false, false, false, false, false, false, false, false] rfl rfl (any_of HT_.out (by kernel_rfl)) (fun _ _ _ h => h) (Or.inl ⟨by rfl, ?_⟩) ?_ ?_
         rotate_left
         · intro w'
           go_simp
           with_reducible rfl
         rotate_left
         · simp only [Act.put, qa, qb, qc, i64_w, i32_w]
           rfl
         refine pure_ (i := 19) (N := some 81) (v := ?_) (a' := ?_) #[true, true, true, true, true, true, true, true, true, true, true, true, true, false, true, false, false, true, false, true, false, false, false, false, false, false, false, false, false, false, false, false] rfl rfl (any_of HT_.out (by kernel_rfl)) (fun _ _ _ h => h) (Or.inl ⟨by rfl, ?_⟩) ?_ ?_
         rotate_left
         · intro w'
           go_simp
           with_reducible rfl
         rotate_left
         · simp only [Act.put, qa, qb, qc, i64_w, i32_w]
           rfl
         refine take_ (i := 13) (N := some 75) (v := ?_) (a' := ?_) #[true, true, true, true, true, true, true, true, true, true, true, true, true, true, true, false, false, true, false, true, false, false, false, false, false, false, false, false, false, false, false, false] rfl rfl (take_ofW HT_.out HW_.out (by kernel_rfl)) (fun _ _ _ h => h) (Or.inl ⟨by rfl, ?_⟩) hHeld ?_ ?_
         rotate_left
         · rintro w' ⟨s0, s1, s2, s3, s4, s5, s6, s7, s8, s9⟩
           go_simp
           with_reducible rfl
         rotate_left
         · simp only [Act.put, qa, qb, qc, i64_w, i32_w]
           rfl
         refine pure_ (i := 15) (N := some 77) (v := ?_) (a' := ?_) #[true, true, true, true, true, true, true, true, true, true, true, true, true, true, true, true, false, true, false, true, false, false, false, false, false, false, false, false, false, false, false, false] rfl rfl (any_of HT_.out (by kernel_rfl)) (fun _ _ _ h => h) (Or.inl ⟨by rfl, ?_⟩) ?_ ?_
         rotate_left
         · intro w'
           go_simp
           with_reducible rfl
         rotate_left
         · simp only [Act.put, qa, qb, qc, i64_w, i32_w]
           rfl
         refine take_ (i := 16) (N := some 78) (v := ?_) (a' := ?_) #[true, true, true, true, true, true, true, true, true, true, true, true, true, true, true, true, true, true, false, true, false, false, false, false, false, false, false, false, false, false, false, false] rfl rfl (take_ofW HT_.out HW_.out (by kernel_rfl)) (fun _ _ _ h => h) (Or.inl ⟨by rfl, ?_⟩) hHeld ?_ ?_
         rotate_left
         · rintro w' ⟨s0, s1, s2, s3, s4, s5, s6, s7, s8, s9⟩
           go_simp
           with_reducible rfl
         rotate_left
         · simp only [Act.put, qa, qb, qc, i64_w, i32_w]
           rfl
         refine take_ (i := 18) (N := some 80) (v := ?_) (a' := ?_) #[true, true, true, true, true, true, true, true, true, true, true, true, true, true, true, true, true, true, true, true, false, false, false, false, false, false, false, false, false, false, false, false] rfl rfl (take_ofW HT_.out HW_.out (by kernel_rfl)) (fun _ _ _ h => h) (Or.inl ⟨by rfl, ?_⟩) hHeld ?_ ?_
         rotate_left
         · rintro w' ⟨s0, s1, s2, s3, s4, s5, s6, s7, s8, s9⟩
           go_simp
           with_reducible rfl
         rotate_left
         · simp only [Act.put, qa, qb, qc, i64_w, i32_w]
           rfl
         refine pure_ (i := 20) (N := some 82) (v := ?_) (a' := ?_) #[true, true, true, true, true, true, true, true, true, true, true, true, true, true, true, true, true, true, true, true, true, false, false, false, false, false, false, false, false, false, false, false] rfl rfl (any_of HT_.out (by kernel_rfl)) (fun _ _ _ h => h) (Or.inl ⟨by rfl, ?_⟩) ?_ ?_
         rotate_left
         · intro w'
           go_simp
           with_reducible rfl
         rotate_left
         · simp only [Act.put, qa, qb, qc, i64_w, i32_w]
           rfl
         refine take_ (i := 21) (N := some 83) (v := ?_) (a' := ?_) #[true, true, true, true, true, true, true, true, true, true, true, true, true, true, true, true, true, true, true, true, true, true, false, false, false, false, false, false, false, false, false, false] rfl rfl (take_ofW HT_.out HW_.out (by kernel_rfl)) (fun _ _ _ h => h) (Or.inl ⟨by rfl, ?_⟩) hHeld ?_ ?_
         rotate_left
         · rintro w' ⟨s0, s1, s2, s3, s4, s5, s6, s7, s8, s9⟩
           go_simp
           with_reducible rfl
         rotate_left
         · simp only [Act.put, qa, qb, qc, i64_w, i32_w]
           rfl
         refine pure_ (i := 22) (N := some 84) (v := ?_) (a' := ?_) #[true, true, true, true, true, true, true, true, true, true, true, true, true, true, true, true, true, true, true, true, true, true, true, false, false, false, false, false, false, false, false, false] rfl rfl (any_of HT_.out (by kernel_rfl)) (fun _ _ _ h => h) (Or.inl ⟨by rfl, ?_⟩) ?_ ?_
         rotate_left
         · intro w'
           go_simp
           with_reducible rfl
         rotate_left
         · simp only [Act.put, qa, qb, qc, i64_w, i32_w]
           rfl
         refine pure_ (i := 23) (N := some 85) (v := ?_) (a' := ?_) #[true, true, true, true, true, true, true, true, true, true, true, true, true, true, true, true, true, true, true, true, true, true, true, true, false, false, false, false, false, false, false, false] rfl rfl (any_of HT_.out (by kernel_rfl)) (fun _ _ _ h => h) (Or.inl ⟨by rfl, ?_⟩) ?_ ?_
         rotate_left
         · intro w'
           go_simp
           with_reducible rfl
         rotate_left
         · simp only [Act.put, qa, qb, qc, i64_w, i32_w]
           rfl
         refine pure_ (i := 24) (N := some 86) (v := ?_) (a' := ?_) #[true, true, true, true, true, true, true, true, true, true, true, true, true, true, true, true, true, true, true, true, true, true, true, true, true, false, false, false, false, false, false, false] rfl rfl (any_of HT_.out (by kernel_rfl)) (fun _ _ _ h => h) (Or.inl ⟨by rfl, ?_⟩) ?_ ?_
         rotate_left
         · intro w'
           go_simp
           with_reducible rfl
         rotate_left
         · simp only [Act.put, qa, qb, qc, i64_w, i32_w]
           rfl
         refine pure_ (i := 25) (N := some 87) (v := undef) (a' := ?_) #[true, true, true, true, true, true, true, true, true, true, true, true, true, true, true, true, true, true, true, true, true, true, true, true, true, true, false, false, false, false, false, false] rfl rfl (any_of HT_.out (by kernel_rfl)) (fun _ _ _ h => h) (Or.inr ⟨by rfl, rfl⟩) ?_ ?_
         rotate_left
         · simp only [Act.put, qa, qb, qc, i64_w, i32_w]
           rfl
         refine pure_ (i := 26) (N := some 88) (v := undef) (a' := ?_) #[true, true, true, true, true, true, true, true, true, true, true, true, true, true, true, true, true, true, true, true, true, true, true, true, true, true, true, false, false, false, false, false] rfl rfl (any_of HT_.out (by kernel_rfl)) (fun _ _ _ h => h) (Or.inr ⟨by rfl, rfl⟩) ?_ ?_
         rotate_left
         · simp only [Act.put, qa, qb, qc, i64_w, i32_w]
           rfl
         refine pure_ (i := 27) (N := some 89) (v := undef) (a' := ?_) #[true, true, true, true, true, true, true, true, true, true, true, true, true, true, true, true, true, true, true, true, true, true, true, true, true, true, true, true, false, false, false, false] rfl rfl (any_of HT_.out (by kernel_rfl)) (fun _ _ _ h => h) (Or.inr ⟨by rfl, rfl⟩) ?_ ?_
         rotate_left
         · simp only [Act.put, qa, qb, qc, i64_w, i32_w]
           rfl
         refine pure_ (i := 28) (N := some 90) (v := undef) (a' := ?_) #[true, true, true, true, true, true, true, true, true, true, true, true, true, true, true, true, true, true, true, true, true, true, true, true, true, true, true, true, true, false, false, false] rfl rfl (any_of HT_.out (by kernel_rfl)) (fun _ _ _ h => h) (Or.inr ⟨by rfl, rfl⟩) ?_ ?_
         rotate_left
         · simp only [Act.put, qa, qb, qc, i64_w, i32_w]
           rfl
         refine pure_ (i := 29) (N := some 91) (v := undef) (a' := ?_) #[true, true, true, true, true, true, true, true, true, true, true, true, true, true, true, true, true, true, true, true, true, true, true, true, true, true, true, true, true, true, false, false] rfl rfl (any_of HT_.out (by kernel_rfl)) (fun _ _ _ h => h) (Or.inr ⟨by rfl, rfl⟩) ?_ ?_
         rotate_left
         · simp only [Act.put, qa, qb, qc, i64_w, i32_w]
           rfl
         refine pure_ (i := 30) (N := some 92) (v := undef) (a' := ?_) #[true, true, true, true, true, true, true, true, true, true, true, true, true, true, true, true, true, true, true, true, true, true, true, true, true, true, true, true, true, true, true, false] rfl rfl (any_of HT_.out (by kernel_rfl)) (fun _ _ _ h => h) (Or.inr ⟨by rfl, rfl⟩) ?_ ?_
         rotate_left
         · simp only [Act.put, qa, qb, qc, i64_w, i32_w]
           rfl
         refine pure_ (i := 31) (N := some 93) (v := ?_) (a' := ?_) #[true, true, true, true, true, true, true, true, true, true, true, true, true, true, true, true, true, true, true, true, true, true, true, true, true, true, true, true, true, true, true, true] rfl rfl (any_of HT_.out (by kernel_rfl)) (fun _ _ _ h => h) (Or.inl ⟨by rfl, ?_⟩) ?_ ?_
         rotate_left
         · intro w'
           go_simp
           with_reducible rfl
         rotate_left
         · simp only [Act.put, qa, qb, qc, i64_w, i32_w]
           rfl
         refine done_ (done_of HT_.out (by kernel_rfl)) ?_
         try go_wp2
         go_ret
         exact ⟨by first | rfl | exact congrArg (fun b => Ending.returned (.bool b)) HTR_.out | exact absurd HTR_.out (by decide) | (simp [errW_none, errW_some] <;> rfl) | (simp [*, errW_none, errW_some] <;> rfl), by repeat (first | (with_reducible first | exact HB.out | apply bA | apply bN | apply bD | refine bS ?_ GE209.out | refine bS ?_ GE262.out) | exact HB.out)⟩
       rw [if_pos c108] at H
       have c108b0 : ((rd x263002_2 x8_3) == (rd t206 x8_3)) = true := beq_iff_eq.mpr c108
       have c108b1 : ((rd x263002_2 x8_3) != (rd t206 x8_3)) = false := bne_eq_false_iff_eq.mpr c108
       clear c108
       by_cases c109 : x8_3 < (x263000_2.length : Int)
       rotate_left
       · rw [if_neg c109] at H
         exact absurd H (by simp)
       rw [if_pos c109] at H
       have c109b0 : decide (x8_3 < (x263000_2.length : Int)) = true := decide_eq_true c109
       clear c109
       by_cases c110 : (rd x263000_2 x8_3) = 0
       rotate_left
       · rw [if_neg c110] at H
         have c110b0 : ((rd x263000_2 x8_3) == 0) = false := beq_eq_false_iff_ne.mpr c110
         have c110b1 : ((rd x263000_2 x8_3) != 0) = true := bne_iff_ne.mpr c110
         have HTR_ := mk0 (Option.some.inj H)
         clear H
         try go_wp2
         have n0_ := mk0 (Kd.R_drew HO_210000.out)
         have n1_ := mk0 (Kd.R_drew HO_210001.out)
         have n2_ := mk0 (Kd.R_drew HO_210002.out)
         have n3_ := mk0 (Kd.V_drew HO_263000.out)
         have n4_ := mk0 (Kd.V_drew HO_263001.out)
         have n5_ := mk0 (Kd.V_drew HO_263002.out)
         have n6_ := mk0 (blk_drew BK209.out)
         have n7_ := mk0 (blk_drew BK262.out)
         have n8_ := mk0 (below_drew1 HB.out)
         clear HO_210000
         clear HO_210001
         clear HO_210002
         clear HO_263000
         clear HO_263001
         clear HO_263002
         clear BK209
         clear BK262
         clear HB
         have HO_210000 := n0_
         have HO_210001 := n1_
         have HO_210002 := n2_
         have HO_263000 := n3_
         have HO_263001 := n4_
         have HO_263002 := n5_
         have BK209 := n6_
         have BK262 := n7_
         have HB := n8_
         clear n0_ n1_ n2_ n3_ n4_ n5_ n6_ n7_ n8_
         obtain ⟨Ao116, co116, eo116⟩ := Kd.V_slice HO_263001.out
         (first | subst eo116 | (injection eo116 with f1_ f2_ f3_; have f4_ := f1_.symm; have f5_ := f3_.symm; clear f1_ f2_ f3_; subst f4_; subst f5_))
         have p274 : 0 ≤ (x8_3 : Int) := of_decide_eq_true (by first | (with_reducible assumption) | assumption)
         have q274 : x8_3 < (x263001_2.length : Int) := of_decide_eq_true (by first | (with_reducible assumption) | assumption)
         obtain ⟨ad274, e274, hx274_0⟩ := Kd.at_int (Kd.V_reads' HO_263001.out).2.2 x8_3 p274 q274
         cases e274
         replace p274 := eq_true p274
         replace q274 := eq_true q274
         have p275 : 0 ≤ (x8_3 : Int) := of_decide_eq_true (by first | (with_reducible assumption) | assumption)
         have q275 : x8_3 < (t203.length : Int) := of_decide_eq_true (by first | (with_reducible assumption) | assumption)
         obtain ⟨ad275, e275, hx275_0⟩ := Kd.at_int (Kd.R_reads' HO_210001.out).2.2 x8_3 p275 q275
         cases e275
         replace p275 := eq_true p275
         replace q275 := eq_true q275
         obtain ⟨Ao117, co117, eo117⟩ := Kd.V_slice HO_263002.out
         (first | subst eo117 | (injection eo117 with f1_ f2_ f3_; have f4_ := f1_.symm; have f5_ := f3_.symm; clear f1_ f2_ f3_; subst f4_; subst f5_))
         have p276 : 0 ≤ (x8_3 : Int) := of_decide_eq_true (by first | (with_reducible assumption) | assumption)
         have q276 : x8_3 < (x263002_2.length : Int) := of_decide_eq_true (by first | (with_reducible assumption) | assumption)
         obtain ⟨ad276, e276, hx276_0⟩ := Kd.at_int (Kd.V_reads' HO_263002.out).2.2 x8_3 p276 q276
         cases e276
         replace p276 := eq_true p276
         replace q276 := eq_true q276
         have p277 : 0 ≤ (x8_3 : Int) := of_decide_eq_true (by first | (with_reducible assumption) | assumption)
         have q277 : x8_3 < (t206.length : Int) := of_decide_eq_true (by first | (with_reducible assumption) | assumption)
         obtain ⟨ad277, e277, hx277_0⟩ := Kd.at_int (Kd.R_reads' HO_210002.out).2.2 x8_3 p277 q277
         cases e277
         replace p277 := eq_true p277
         replace q277 := eq_true q277
         obtain ⟨Ao118, co118, eo118⟩ := Kd.V_slice HO_263000.out
         (first | subst eo118 | (injection eo118 with f1_ f2_ f3_; have f4_ := f1_.symm; have f5_ := f3_.symm; clear f1_ f2_ f3_; subst f4_; subst f5_))
         have p278 : 0 ≤ (x8_3 : Int) := of_decide_eq_true (by first | (with_reducible assumption) | assumption)
         have q278 : x8_3 < (x263000_2.length : Int) := of_decide_eq_true (by first | (with_reducible assumption) | assumption)
         obtain ⟨ad278, e278, hx278_0⟩ := Kd.at_int (Kd.V_reads' HO_263000.out).2.2 x8_3 p278 q278
         cases e278
         replace p278 := eq_true p278
         replace q278 := eq_true q278
         refine start_ (n := 32) (S := fun w' => w'.cell? ⟨gb262, 0, none⟩ = some (.slice (some ad278) x263000_2.length co118) ∧ w'.cell? ⟨gb262, 1, none⟩ = some (.slice (some ad274) x263001_2.length co116) ∧ w'.cell? ⟨gb262, 2, none⟩ = some (.slice (some ad276) x263002_2.length co117) ∧ w'.cell? ⟨gb209, 0, none⟩ = some (.slice Ao7 t200.length co7) ∧ w'.cell? ⟨gb209, 1, none⟩ = some (.slice (some ad275) t203.length co9) ∧ w'.cell? ⟨gb209, 2, none⟩ = some (.slice (some ad277) t206.length co10) ∧ w'.cell? (ad274.add (x8_3).toNat) = some (.int .i64 (rd x263001_2 x8_3)) ∧ w'.cell? (ad275.add (x8_3).toNat) = some (.int .i64 (rd t203 x8_3)) ∧ w'.cell? (ad276.add (x8_3).toNat) = some (.int .i64 (rd x263002_2 x8_3)) ∧ w'.cell? (ad277.add (x8_3).toNat) = some (.int .i64 (rd t206 x8_3)) ∧ w'.cell? (ad278.add (x8_3).toNat) = some (.int .i64 (rd x263000_2 x8_3))) (ds := []) #[false, false, false, false, false, false, false, false, false, false, false, false, false, false, false, false, false, false, false, false, false, false, false, false, false, false, false, false, false, false, false, false] (by kernel_rfl) rfl rfl ⟨(blk_cell BK262.out 0).trans rfl, (blk_cell BK262.out 1).trans rfl, (blk_cell BK262.out 2).trans rfl, (blk_cell BK209.out 0).trans rfl, (blk_cell BK209.out 1).trans rfl, (blk_cell BK209.out 2).trans rfl, hx274_0, hx275_0, hx276_0, hx277_0, hx278_0⟩ (fun hHeld => ?_); refine with_tabW laws_FnMemAll.tab18 laws_FnMemAll.bits18 (fun HT_ HW_ => ?_)
         generalize wr.drew = w115 at HO_210000 HO_210001 HO_210002 HO_263000 HO_263001 HO_263002 BK209 BK262 HB hx274_0 hx275_0 hx276_0 hx277_0 hx278_0 hHeld ⊢
         refine pure_ (i := 0) (N := some 62) (v := ?_) (a' := ?_) #[true, false, false, false, false, false, false, false, false, false, false, false, false, false, false, false, false, false, false, false, false, false, false, false, false, false, false, false, false, false, false, false] rfl rfl (any_of HT_.out (by kernel_rfl)) (fun _ _ _ h => h) (Or.inl ⟨by rfl, ?_⟩) ?_ ?_
         rotate_left
         · intro w'
           go_simp
           with_reducible rfl
         rotate_left
         · simp only [Act.put, qa, qb, qc, i64_w, i32_w]
           rfl
         refine pure_ (i := 2) (N := some 64) (v := ?_) (a' := ?_) #[true, false, true, false, false, false, false, false, false, false, false, false, false, false, false, false, false, false, false, false, false, false, false, false, false, false, false, false, false, false, false, false] rfl rfl (any_of HT_.out (by kernel_rfl)) (fun _ _ _ h => h) (Or.inl ⟨by rfl, ?_⟩) ?_ ?_
         rotate_left
         · intro w'
           go_simp
           with_reducible rfl
         rotate_left
         · simp only [Act.put, qa, qb, qc, i64_w, i32_w]
           rfl
         refine pure_ (i := 5) (N := some 67) (v := ?_) (a' := ?_) #[true, false, true, false, false, true, false, false, false, false, false, false, false, false, false, false, false, false, false, false, false, false, false, false, false, false, false, false, false, false, false, false] rfl rfl (any_of HT_.out (by kernel_rfl)) (fun _ _ _ h => h) (Or.inl ⟨by rfl, ?_⟩) ?_ ?_
         rotate_left
         · intro w'
           go_simp
           with_reducible rfl
         rotate_left
         · simp only [Act.put, qa, qb, qc, i64_w, i32_w]
           rfl
         refine pure_ (i := 7) (N := some 69) (v := ?_) (a' := ?_) #[true, false, true, false, false, true, false, true, false, false, false, false, false, false, false, false, false, false, false, false, false, false, false, false, false, false, false, false, false, false, false, false] rfl rfl (any_of HT_.out (by kernel_rfl)) (fun _ _ _ h => h) (Or.inl ⟨by rfl, ?_⟩) ?_ ?_
         rotate_left
         · intro w'
           go_simp
           with_reducible rfl
         rotate_left
         · simp only [Act.put, qa, qb, qc, i64_w, i32_w]
           rfl
         refine take_ (i := 1) (N := some 63) (v := ?_) (a' := ?_) #[true, true, true, false, false, true, false, true, false, false, false, false, false, false, false, false, false, false, false, false, false, false, false, false, false, false, false, false, false, false, false, false] rfl rfl (take_ofW HT_.out HW_.out (by kernel_rfl)) (fun _ _ _ h => h) (Or.inl ⟨by rfl, ?_⟩) hHeld ?_ ?_
         rotate_left
         · rintro w' ⟨s0, s1, s2, s3, s4, s5, s6, s7, s8, s9, s10⟩
           go_simp
           with_reducible rfl
         rotate_left
         · simp only [Act.put, qa, qb, qc, i64_w, i32_w]
           rfl
         refine pure_ (i := 3) (N := some 65) (v := ?_) (a' := ?_) #[true, true, true, true, false, true, false, true, false, false, false, false, false, false, false, false, false, false, false, false, false, false, false, false, false, false, false, false, false, false, false, false] rfl rfl (any_of HT_.out (by kernel_rfl)) (fun _ _ _ h => h) (Or.inl ⟨by rfl, ?_⟩) ?_ ?_
         rotate_left
         · intro w'
           go_simp
           with_reducible rfl
         rotate_left
         · simp only [Act.put, qa, qb, qc, i64_w, i32_w]
           rfl
         refine take_ (i := 4) (N := some 66) (v := ?_) (a' := ?_) #[true, true, true, true, true, true, false, true, false, false, false, false, false, false, false, false, false, false, false, false, false, false, false, false, false, false, false, false, false, false, false, false] rfl rfl (take_ofW HT_.out HW_.out (by kernel_rfl)) (fun _ _ _ h => h) (Or.inl ⟨by rfl, ?_⟩) hHeld ?_ ?_
         rotate_left
         · rintro w' ⟨s0, s1, s2, s3, s4, s5, s6, s7, s8, s9, s10⟩
           go_simp
           with_reducible rfl
         rotate_left
         · simp only [Act.put, qa, qb, qc, i64_w, i32_w]
           rfl
         refine take_ (i := 6) (N := some 68) (v := ?_) (a' := ?_) #[true, true, true, true, true, true, true, true, false, false, false, false, false, false, false, false, false, false, false, false, false, false, false, false, false, false, false, false, false, false, false, false] rfl rfl (take_ofW HT_.out HW_.out (by kernel_rfl)) (fun _ _ _ h => h) (Or.inl ⟨by rfl, ?_⟩) hHeld ?_ ?_
         rotate_left
         · rintro w' ⟨s0, s1, s2, s3, s4, s5, s6, s7, s8, s9, s10⟩
           go_simp
           with_reducible rfl
         rotate_left
         · simp only [Act.put, qa, qb, qc, i64_w, i32_w]
           rfl
         refine pure_ (i := 8) (N := some 70) (v := ?_) (a' := ?_) #[true, true, true, true, true, true, true, true, true, false, false, false, false, false, false, false, false, false, false, false, false, false, false, false, false, false, false, false, false, false, false, false] rfl rfl (any_of HT_.out (by kernel_rfl)) (fun _ _ _ h => h) (Or.inl ⟨by rfl, ?_⟩) ?_ ?_
         rotate_left
         · intro w'
           go_simp
           with_reducible rfl
         rotate_left
         · simp only [Act.put, qa, qb, qc, i64_w, i32_w]
           rfl
         refine take_ (i := 9) (N := some 71) (v := ?_) (a' := ?_) #[true, true, true, true, true, true, true, true, true, true, false, false, false, false, false, false, false, false, false, false, false, false, false, false, false, false, false, false, false, false, false, false] rfl rfl (take_ofW HT_.out HW_.out (by kernel_rfl)) (fun _ _ _ h => h) (Or.inl ⟨by rfl, ?_⟩) hHeld ?_ ?_
         rotate_left
         · rintro w' ⟨s0, s1, s2, s3, s4, s5, s6, s7, s8, s9, s10⟩
           go_simp
           with_reducible rfl
         rotate_left
         · simp only [Act.put, qa, qb, qc, i64_w, i32_w]
           rfl
         refine pure_ (i := 10) (N := some 72) (v := ?_) (a' := ?_) #[true, true, true, true, true, true, true, true, true, true, true, false, false, false, false, false, false, false, false, false, false, false, false, false, false, false, false, false, false, false, false, false] rfl rfl (any_of HT_.out (by kernel_rfl)) (fun _ _ _ h => h) (Or.inl ⟨by rfl, ?_⟩) ?_ ?_
         rotate_left
         · intro w'
           go_simp
           with_reducible rfl
         rotate_left
         · simp only [Act.put, qa, qb, qc, i64_w, i32_w]
           rfl
         refine pure_ (i := 11) (N := some 73) (v := ?_) (a' := ?_) #[true, true, true, true, true, true, true, true, true, true, true, true, false, false, false, false, false, false, false, false, false, false, false, false, false, false, false, false, false, false, false, false] rfl rfl (any_of HT_.out (by kernel_rfl)) (fun _ _ _ h => h) (Or.inl ⟨by rfl, ?_⟩) ?_ ?_
         rotate_left
         · intro w'
           go_simp
           with_reducible rfl
         rotate_left
         · simp only [Act.put, qa, qb, qc, i64_w, i32_w]
           rfl
         refine pure_ (i := 12) (N := some 74) (v := ?_) (a' := ?_) #[true, true, true, true, true, true, true, true, true, true, true, true, true, false, false, false, false, false, false, false, false, false, false, false, false, false, false, false, false, false, false, false] rfl rfl (any_of HT_.out (by kernel_rfl)) (fun _ _ _ h => h) (Or.inl ⟨by rfl, ?_⟩) ?_ ?_
         rotate_left
         · intro w'
           go_simp
           with_reducible rfl
         rotate_left
         · simp only [Act.put, qa, qb, qc, i64_w, i32_w]
           rfl
         refine pure_ (i := 14) (N := some 76) (v := ?_) (a' := ?_) #[true, true, true, true, true, true, true, true, true, true, true, true, true, false, true, false, false, false, false, false, false, false, false, false, false, false, false, false, false, false, false, false] rfl rfl (any_of HT_.out (by kernel_rfl)) (fun _ _ _ h => h) (Or.inl ⟨by rfl, ?_⟩) ?_ ?_
         rotate_left
         · intro w'
           go_simp
           with_reducible rfl
         rotate_left
         · simp only [Act.put, qa, qb, qc, i64_w, i32_w]
           rfl
         refine pure_ (i := 17) (N := some 79) (v := ?_) (a' := ?_) #[true, true, true, true, true, true, true, true, true, true, true, true, true, false, true, false, false, true, false, false, false, false, false, false, false, false, false, false, false, false, false, false] rfl rfl (any_of HT_.out (by kernel_rfl)) (fun _ _ _ h => h) (Or.inl ⟨by rfl, ?_⟩) ?_ ?_
         rotate_left
         · intro w'
           go_simp
           with_reducible rfl
         rotate_left
         · simp only [Act.put, qa, qb, qc, i64_w, i32_w]
           rfl
         refine pure_ (i := 19) (N := some 81) (v := ?_) (a' := ?_) #[true, true, true, true, true, true, true, true, true, true, true, true, true, false, true, false, false, true, false, true, false, false, false, false, false, false, false, false, false, false, false, false] rfl rfl (any_of HT_.out (by kernel_rfl)) (fun _ _ _ h => h) (Or.inl ⟨by rfl, ?_⟩) ?_ ?_
         rotate_left
         · intro w'
           go_simp
           with_reducible rfl
         rotate_left
         · simp only [Act.put, qa, qb, qc, i64_w, i32_w]
           rfl
         refine take_ (i := 13) (N := some 75) (v := ?_) (a' := ?_) #[true, true, true, true, true, true, true, true, true, true, true, true, true, true, true, false, false, true, false, true, false, false, false, false, false, false, false, false, false, false, false, false] rfl rfl (take_ofW HT_.out HW_.out (by kernel_rfl)) (fun _ _ _ h => h) (Or.inl ⟨by rfl, ?_⟩) hHeld ?_ ?_
         rotate_left
         · rintro w' ⟨s0, s1, s2, s3, s4, s5, s6, s7, s8, s9, s10⟩
           go_simp
           with_reducible rfl
         rotate_left
         · simp only [Act.put, qa, qb, qc, i64_w, i32_w]
           rfl
         refine pure_ (i := 15) (N := some 77) (v := ?_) (a' := ?_) #[true, true, true, true, true, true, true, true, true, true, true, true, true, true, true, true, false, true, false, true, false, false, false, false, false, false, false, false, false, false, false, false] rfl rfl (any_of HT_.out (by kernel_rfl)) (fun _ _ _ h => h) (Or.inl ⟨by rfl, ?_⟩) ?_ ?_
         rotate_left
         · intro w'
           go_simp
           with_reducible rfl
         rotate_left
         · simp only [Act.put, qa, qb, qc, i64_w, i32_w]
           rfl
         refine take_ (i := 16) (N := some 78) (v := ?_) (a' := ?_) #[true, true, true, true, true, true, true, true, true, true, true, true, true, true, true, true, true, true, false, true, false, false, false, false, false, false, false, false, false, false, false, false] rfl rfl (take_ofW HT_.out HW_.out (by kernel_rfl)) (fun _ _ _ h => h) (Or.inl ⟨by rfl, ?_⟩) hHeld ?_ ?_
         rotate_left
         · rintro w' ⟨s0, s1, s2, s3, s4, s5, s6, s7, s8, s9, s10⟩
           go_simp
           with_reducible rfl
         rotate_left
         · simp only [Act.put, qa, qb, qc, i64_w, i32_w]
           rfl
         refine take_ (i := 18) (N := some 80) (v := ?_) (a' := ?_) #[true, true, true, true, true, true, true, true, true, true, true, true, true, true, true, true, true, true, true, true, false, false, false, false, false, false, false, false, false, false, false, false] rfl rfl (take_ofW HT_.out HW_.out (by kernel_rfl)) (fun _ _ _ h => h) (Or.inl ⟨by rfl, ?_⟩) hHeld ?_ ?_
         rotate_left
         · rintro w' ⟨s0, s1, s2, s3, s4, s5, s6, s7, s8, s9, s10⟩
           go_simp
           with_reducible rfl
         rotate_left
         · simp only [Act.put, qa, qb, qc, i64_w, i32_w]
           rfl
         refine pure_ (i := 20) (N := some 82) (v := ?_) (a' := ?_) #[true, true, true, true, true, true, true, true, true, true, true, true, true, true, true, true, true, true, true, true, true, false, false, false, false, false, false, false, false, false, false, false] rfl rfl (any_of HT_.out (by kernel_rfl)) (fun _ _ _ h => h) (Or.inl ⟨by rfl, ?_⟩) ?_ ?_
         rotate_left
         · intro w'
           go_simp
           with_reducible rfl
         rotate_left
         · simp only [Act.put, qa, qb, qc, i64_w, i32_w]
           rfl
         refine take_ (i := 21) (N := some 83) (v := ?_) (a' := ?_) #[true, true, true, true, true, true, true, true, true, true, true, true, true, true, true, true, true, true, true, true, true, true, false, false, false, false, false, false, false, false, false, false] rfl rfl (take_ofW HT_.out HW_.out (by kernel_rfl)) (fun _ _ _ h => h) (Or.inl ⟨by rfl, ?_⟩) hHeld ?_ ?_
         rotate_left
         · rintro w' ⟨s0, s1, s2, s3, s4, s5, s6, s7, s8, s9, s10⟩
           go_simp
           with_reducible rfl
         rotate_left
         · simp only [Act.put, qa, qb, qc, i64_w, i32_w]
           rfl
         refine pure_ (i := 22) (N := some 84) (v := ?_) (a' := ?_) #[true, true, true, true, true, true, true, true, true, true, true, true, true, true, true, true, true, true, true, true, true, true, true, false, false, false, false, false, false, false, false, false] rfl rfl (any_of HT_.out (by kernel_rfl)) (fun _ _ _ h => h) (Or.inl ⟨by rfl, ?_⟩) ?_ ?_
         rotate_left
         · intro w'
           go_simp
           with_reducible rfl
         rotate_left
         · simp only [Act.put, qa, qb, qc, i64_w, i32_w]
           rfl
         refine pure_ (i := 23) (N := some 85) (v := ?_) (a' := ?_) #[true, true, true, true, true, true, true, true, true, true, true, true, true, true, true, true, true, true, true, true, true, true, true, true, false, false, false, false, false, false, false, false] rfl rfl (any_of HT_.out (by kernel_rfl)) (fun _ _ _ h => h) (Or.inl ⟨by rfl, ?_⟩) ?_ ?_
         rotate_left
         · intro w'
           go_simp
           with_reducible rfl
         rotate_left
         · simp only [Act.put, qa, qb, qc, i64_w, i32_w]
           rfl
         refine pure_ (i := 24) (N := some 86) (v := ?_) (a' := ?_) #[true, true, true, true, true, true, true, true, true, true, true, true, true, true, true, true, true, true, true, true, true, true, true, true, true, false, false, false, false, false, false, false] rfl rfl (any_of HT_.out (by kernel_rfl)) (fun _ _ _ h => h) (Or.inl ⟨by rfl, ?_⟩) ?_ ?_
         rotate_left
         · intro w'
           go_simp
           with_reducible rfl
         rotate_left
         · simp only [Act.put, qa, qb, qc, i64_w, i32_w]
           rfl
         refine pure_ (i := 25) (N := some 87) (v := ?_) (a' := ?_) #[true, true, true, true, true, true, true, true, true, true, true, true, true, true, true, true, true, true, true, true, true, true, true, true, true, true, false, false, false, false, false, false] rfl rfl (any_of HT_.out (by kernel_rfl)) (fun _ _ _ h => h) (Or.inl ⟨by rfl, ?_⟩) ?_ ?_
         rotate_left
         · intro w'
           go_simp
           with_reducible rfl
         rotate_left
         · simp only [Act.put, qa, qb, qc, i64_w, i32_w]
           rfl
         refine pure_ (i := 27) (N := some 89) (v := ?_) (a' := ?_) #[true, true, true, true, true, true, true, true, true, true, true, true, true, true, true, true, true, true, true, true, true, true, true, true, true, true, false, true, false, false, false, false] rfl rfl (any_of HT_.out (by kernel_rfl)) (fun _ _ _ h => h) (Or.inl ⟨by rfl, ?_⟩) ?_ ?_
         rotate_left
         · intro w'
           go_simp
           with_reducible rfl
         rotate_left
         · simp only [Act.put, qa, qb, qc, i64_w, i32_w]
           rfl
         refine take_ (i := 26) (N := some 88) (v := ?_) (a' := ?_) #[true, true, true, true, true, true, true, true, true, true, true, true, true, true, true, true, true, true, true, true, true, true, true, true, true, true, true, true, false, false, false, false] rfl rfl (take_ofW HT_.out HW_.out (by kernel_rfl)) (fun _ _ _ h => h) (Or.inl ⟨by rfl, ?_⟩) hHeld ?_ ?_
         rotate_left
         · rintro w' ⟨s0, s1, s2, s3, s4, s5, s6, s7, s8, s9, s10⟩
           go_simp
           with_reducible rfl
         rotate_left
         · simp only [Act.put, qa, qb, qc, i64_w, i32_w]
           rfl
         refine pure_ (i := 28) (N := some 90) (v := ?_) (a' := ?_) #[true, true, true, true, true, true, true, true, true, true, true, true, true, true, true, true, true, true, true, true, true, true, true, true, true, true, true, true, true, false, false, false] rfl rfl (any_of HT_.out (by kernel_rfl)) (fun _ _ _ h => h) (Or.inl ⟨by rfl, ?_⟩) ?_ ?_
         rotate_left
         · intro w'
           go_simp
           with_reducible rfl
         rotate_left
         · simp only [Act.put, qa, qb, qc, i64_w, i32_w]
           rfl
         refine take_ (i := 29) (N := some 91) (v := ?_) (a' := ?_) #[true, true, true, true, true, true, true, true, true, true, true, true, true, true, true, true, true, true, true, true, true, true, true, true, true, true, true, true, true, true, false, false] rfl rfl (take_ofW HT_.out HW_.out (by kernel_rfl)) (fun _ _ _ h => h) (Or.inl ⟨by rfl, ?_⟩) hHeld ?_ ?_
         rotate_left
         · rintro w' ⟨s0, s1, s2, s3, s4, s5, s6, s7, s8, s9, s10⟩
           go_simp
           with_reducible rfl
         rotate_left
         · simp only [Act.put, qa, qb, qc, i64_w, i32_w]
           rfl
         refine pure_ (i := 30) (N := some 92) (v := ?_) (a' := ?_) #[true, true, true, true, true, true, true, true, true, true, true, true, true, true, true, true, true, true, true, true, true, true, true, true, true, true, true, true, true, true, true, false] rfl rfl (any_of HT_.out (by kernel_rfl)) (fun _ _ _ h => h) (Or.inl ⟨by rfl, ?_⟩) ?_ ?_
         rotate_left
         · intro w'
           go_simp
           with_reducible rfl
         rotate_left
         · simp only [Act.put, qa, qb, qc, i64_w, i32_w]
           rfl
         refine pure_ (i := 31) (N := some 93) (v := ?_) (a' := ?_) #[true, true, true, true, true, true, true, true, true, true, true, true, true, true, true, true, true, true, true, true, true, true, true, true, true, true, true, true, true, true, true, true] rfl rfl (any_of HT_.out (by kernel_rfl)) (fun _ _ _ h => h) (Or.inl ⟨by rfl, ?_⟩) ?_ ?_
         rotate_left
         · intro w'
           go_simp
           with_reducible rfl
         rotate_left
         · simp only [Act.put, qa, qb, qc, i64_w, i32_w]
           rfl
         refine done_ (done_of HT_.out (by kernel_rfl)) ?_
         try go_wp2
         go_ret
         exact ⟨by first | rfl | exact congrArg (fun b => Ending.returned (.bool b)) HTR_.out | exact absurd HTR_.out (by decide) | (simp [errW_none, errW_some] <;> rfl) | (simp [*, errW_none, errW_some] <;> rfl), by repeat (first | (with_reducible first | exact HB.out | apply bA | apply bN | apply bD | refine bS ?_ GE209.out | refine bS ?_ GE262.out) | exact HB.out)⟩
       rw [if_pos c110] at H
       have c110b0 : ((rd x263000_2 x8_3) == 0) = true := beq_iff_eq.mpr c110
       have c110b1 : ((rd x263000_2 x8_3) != 0) = false := bne_eq_false_iff_eq.mpr c110
       clear c110
       have H' := mk0 H
       clear H
       try go_wp2
       have n0_ := mk0 (Kd.R_drew HO_210000.out)
       have n1_ := mk0 (Kd.R_drew HO_210001.out)
       have n2_ := mk0 (Kd.R_drew HO_210002.out)
       have n3_ := mk0 (Kd.V_drew HO_263000.out)
       have n4_ := mk0 (Kd.V_drew HO_263001.out)
       have n5_ := mk0 (Kd.V_drew HO_263002.out)
       have n6_ := mk0 (blk_drew BK209.out)
       have n7_ := mk0 (blk_drew BK262.out)
       have n8_ := mk0 (below_drew1 HB.out)
       clear HO_210000
       clear HO_210001
       clear HO_210002
       clear HO_263000
       clear HO_263001
       clear HO_263002
       clear BK209
       clear BK262
       clear HB
       have HO_210000 := n0_
       have HO_210001 := n1_
       have HO_210002 := n2_
       have HO_263000 := n3_
       have HO_263001 := n4_
       have HO_263002 := n5_
       have BK209 := n6_
       have BK262 := n7_
       have HB := n8_
       clear n0_ n1_ n2_ n3_ n4_ n5_ n6_ n7_ n8_
       obtain ⟨Ao112, co112, eo112⟩ := Kd.V_slice HO_263001.out
       (first | subst eo112 | (injection eo112 with f1_ f2_ f3_; have f4_ := f1_.symm; have f5_ := f3_.symm; clear f1_ f2_ f3_; subst f4_; subst f5_))
       have p274 : 0 ≤ (x8_3 : Int) := of_decide_eq_true (by first | (with_reducible assumption) | assumption)
       have q274 : x8_3 < (x263001_2.length : Int) := of_decide_eq_true (by first | (with_reducible assumption) | assumption)
       obtain ⟨ad274, e274, hx274_0⟩ := Kd.at_int (Kd.V_reads' HO_263001.out).2.2 x8_3 p274 q274
       cases e274
       replace p274 := eq_true p274
       replace q274 := eq_true q274
       have p275 : 0 ≤ (x8_3 : Int) := of_decide_eq_true (by first | (with_reducible assumption) | assumption)
       have q275 : x8_3 < (t203.length : Int) := of_decide_eq_true (by first | (with_reducible assumption) | assumption)
       obtain ⟨ad275, e275, hx275_0⟩ := Kd.at_int (Kd.R_reads' HO_210001.out).2.2 x8_3 p275 q275
       cases e275
       replace p275 := eq_true p275
       replace q275 := eq_true q275
       obtain ⟨Ao113, co113, eo113⟩ := Kd.V_slice HO_263002.out
       (first | subst eo113 | (injection eo113 with f1_ f2_ f3_; have f4_ := f1_.symm; have f5_ := f3_.symm; clear f1_ f2_ f3_; subst f4_; subst f5_))
       have p276 : 0 ≤ (x8_3 : Int) := of_decide_eq_true (by first | (with_reducible assumption) | assumption)
       have q276 : x8_3 < (x263002_2.length : Int) := of_decide_eq_true (by first | (with_reducible assumption) | assumption)
       obtain ⟨ad276, e276, hx276_0⟩ := Kd.at_int (Kd.V_reads' HO_263002.out).2.2 x8_3 p276 q276
       cases e276
       replace p276 := eq_true p276
       replace q276 := eq_true q276
       have p277 : 0 ≤ (x8_3 : Int) := of_decide_eq_true (by first | (with_reducible assumption) | assumption)
       have q277 : x8_3 < (t206.length : Int) := of_decide_eq_true (by first | (with_reducible assumption) | assumption)
       obtain ⟨ad277, e277, hx277_0⟩ := Kd.at_int (Kd.R_reads' HO_210002.out).2.2 x8_3 p277 q277
       cases e277
       replace p277 := eq_true p277
       replace q277 := eq_true q277
       obtain ⟨Ao114, co114, eo114⟩ := Kd.V_slice HO_263000.out
       (first | subst eo114 | (injection eo114 with f1_ f2_ f3_; have f4_ := f1_.symm; have f5_ := f3_.symm; clear f1_ f2_ f3_; subst f4_; subst f5_))
       have p278 : 0 ≤ (x8_3 : Int) := of_decide_eq_true (by first | (with_reducible assumption) | assumption)
       have q278 : x8_3 < (x263000_2.length : Int) := of_decide_eq_true (by first | (with_reducible assumption) | assumption)
       obtain ⟨ad278, e278, hx278_0⟩ := Kd.at_int (Kd.V_reads' HO_263000.out).2.2 x8_3 p278 q278
       cases e278
       replace p278 := eq_true p278
       replace q278 := eq_true q278
       refine start_ (n := 32) (S := fun w' => w'.cell? ⟨gb262, 0, none⟩ = some (.slice (some ad278) x263000_2.length co114) ∧ w'.cell? ⟨gb262, 1, none⟩ = some (.slice (some ad274) x263001_2.length co112) ∧ w'.cell? ⟨gb262, 2, none⟩ = some (.slice (some ad276) x263002_2.length co113) ∧ w'.cell? ⟨gb209, 0, none⟩ = some (.slice Ao7 t200.length co7) ∧ w'.cell? ⟨gb209, 1, none⟩ = some (.slice (some ad275) t203.length co9) ∧ w'.cell? ⟨gb209, 2, none⟩ = some (.slice (some ad277) t206.length co10) ∧ w'.cell? (ad274.add (x8_3).toNat) = some (.int .i64 (rd x263001_2 x8_3)) ∧ w'.cell? (ad275.add (x8_3).toNat) = some (.int .i64 (rd t203 x8_3)) ∧ w'.cell? (ad276.add (x8_3).toNat) = some (.int .i64 (rd x263002_2 x8_3)) ∧ w'.cell? (ad277.add (x8_3).toNat) = some (.int .i64 (rd t206 x8_3)) ∧ w'.cell? (ad278.add (x8_3).toNat) = some (.int .i64 (rd x263000_2 x8_3))) (ds := []) #[false, false, false, false, false, false, false, false, false, false, false, false, false, false, false, false, false, false, false, false, false, false, false, false, false, false, false, false, false, false, false, false] (by kernel_rfl) rfl rfl ⟨(blk_cell BK262.out 0).trans rfl, (blk_cell BK262.out 1).trans rfl, (blk_cell BK262.out 2).trans rfl, (blk_cell BK209.out 0).trans rfl, (blk_cell BK209.out 1).trans rfl, (blk_cell BK209.out 2).trans rfl, hx274_0, hx275_0, hx276_0, hx277_0, hx278_0⟩ (fun hHeld => ?_); refine with_tabW laws_FnMemAll.tab18 laws_FnMemAll.bits18 (fun HT_ HW_ => ?_)
       generalize wr.drew = w111 at HO_210000 HO_210001 HO_210002 HO_263000 HO_263001 HO_263002 BK209 BK262 HB hx274_0 hx275_0 hx276_0 hx277_0 hx278_0 hHeld ⊢
       refine pure_ (i := 0) (N := some 62) (v := ?_) (a' := ?_) #[true, false, false, false, false, false, false, false, false, false, false, false, false, false, false, false, false, false, false, false, false, false, false, false, false, false, false, false, false, false, false, false] rfl rfl (any_of HT_.out (by kernel_rfl)) (fun _ _ _ h => h) (Or.inl ⟨by rfl, ?_⟩) ?_ ?_
       rotate_left
       · intro w'
         go_simp
         with_reducible rfl
       rotate_left
       · simp only [Act.put, qa, qb, qc, i64_w, i32_w]
         rfl
       refine pure_ (i := 2) (N := some 64) (v := ?_) (a' := ?_) #[true, false, true, false, false, false, false, false, false, false, false, false, false, false, false, false, false, false, false, false, false, false, false, false, false, false, false, false, false, false, false, false] rfl rfl (any_of HT_.out (by kernel_rfl)) (fun _ _ _ h => h) (Or.inl ⟨by rfl, ?_⟩) ?_ ?_
       rotate_left
       · intro w'
         go_simp
         with_reducible rfl
       rotate_left
       · simp only [Act.put, qa, qb, qc, i64_w, i32_w]
         rfl
       refine pure_ (i := 5) (N := some 67) (v := ?_) (a' := ?_) #[true, false, true, false, false, true, false, false, false, false, false, false, false, false, false, false, false, false, false, false, false, false, false, false, false, false, false, false, false, false, false, false] rfl rfl (any_of HT_.out (by kernel_rfl)) (fun _ _ _ h => h) (Or.inl ⟨by rfl, ?_⟩) ?_ ?_
       rotate_left
       · intro w'
         go_simp
         with_reducible rfl
       rotate_left
       · simp only [Act.put, qa, qb, qc, i64_w, i32_w]
         rfl
       refine pure_ (i := 7) (N := some 69) (v := ?_) (a' := ?_) #[true, false, true, false, false, true, false, true, false, false, false, false, false, false, false, false, false, false, false, false, false, false, false, false, false, false, false, false, false, false, false, false] rfl rfl (any_of HT_.out (by kernel_rfl)) (fun _ _ _ h => h) (Or.inl ⟨by rfl, ?_⟩) ?_ ?_
       rotate_left
       · intro w'
         go_simp
         with_reducible rfl
       rotate_left
       · simp only [Act.put, qa, qb, qc, i64_w, i32_w]
         rfl
       refine take_ (i := 1) (N := some 63) (v := ?_) (a' := ?_) #[true, true, true, false, false, true, false, true, false, false, false, false, false, false, false, false, false, false, false, false, false, false, false, false, false, false, false, false, false, false, false, false] rfl rfl (take_ofW HT_.out HW_.out (by kernel_rfl)) (fun _ _ _ h => h) (Or.inl ⟨by rfl, ?_⟩) hHeld ?_ ?_
       rotate_left
       · rintro w' ⟨s0, s1, s2, s3, s4, s5, s6, s7, s8, s9, s10⟩
         go_simp
         with_reducible rfl
       rotate_left
       · simp only [Act.put, qa, qb, qc, i64_w, i32_w]
         rfl
       refine pure_ (i := 3) (N := some 65) (v := ?_) (a' := ?_) #[true, true, true, true, false, true, false, true, false, false, false, false, false, false, false, false, false, false, false, false, false, false, false, false, false, false, false, false, false, false, false, false] rfl rfl (any_of HT_.out (by kernel_rfl)) (fun _ _ _ h => h) (Or.inl ⟨by rfl, ?_⟩) ?_ ?_
       rotate_left
       · intro w'
         go_simp
         with_reducible rfl
       rotate_left
       · simp only [Act.put, qa, qb, qc, i64_w, i32_w]
         rfl
       refine take_ (i := 4) (N := some 66) (v := ?_) (a' := ?_) #[true, true, true, true, true, true, false, true, false, false, false, false, false, false, false, false, false, false, false, false, false, false, false, false, false, false, false, false, false, false, false, false] rfl rfl (take_ofW HT_.out HW_.out (by kernel_rfl)) (fun _ _ _ h => h) (Or.inl ⟨by rfl, ?_⟩) hHeld ?_ ?_
       rotate_left
       · rintro w' ⟨s0, s1, s2, s3, s4, s5, s6, s7, s8, s9, s10⟩
         go_simp
         with_reducible rfl
       rotate_left
       · simp only [Act.put, qa, qb, qc, i64_w, i32_w]
         rfl
       refine take_ (i := 6) (N := some 68) (v := ?_) (a' := ?_) #[true, true, true, true, true, true, true, true, false, false, false, false, false, false, false, false, false, false, false, false, false, false, false, false, false, false, false, false, false, false, false, false] rfl rfl (take_ofW HT_.out HW_.out (by kernel_rfl)) (fun _ _ _ h => h) (Or.inl ⟨by rfl, ?_⟩) hHeld ?_ ?_
       rotate_left
       · rintro w' ⟨s0, s1, s2, s3, s4, s5, s6, s7, s8, s9, s10⟩
         go_simp
         with_reducible rfl
       rotate_left
       · simp only [Act.put, qa, qb, qc, i64_w, i32_w]
         rfl
       refine pure_ (i := 8) (N := some 70) (v := ?_) (a' := ?_) #[true, true, true, true, true, true, true, true, true, false, false, false, false, false, false, false, false, false, false, false, false, false, false, false, false, false, false, false, false, false, false, false] rfl rfl (any_of HT_.out (by kernel_rfl)) (fun _ _ _ h => h) (Or.inl ⟨by rfl, ?_⟩) ?_ ?_
       rotate_left
       · intro w'
         go_simp
         with_reducible rfl
       rotate_left
       · simp only [Act.put, qa, qb, qc, i64_w, i32_w]
         rfl
       refine take_ (i := 9) (N := some 71) (v := ?_) (a' := ?_) #[true, true, true, true, true, true, true, true, true, true, false, false, false, false, false, false, false, false, false, false, false, false, false, false, false, false, false, false, false, false, false, false] rfl rfl (take_ofW HT_.out HW_.out (by kernel_rfl)) (fun _ _ _ h => h) (Or.inl ⟨by rfl, ?_⟩) hHeld ?_ ?_
       rotate_left
       · rintro w' ⟨s0, s1, s2, s3, s4, s5, s6, s7, s8, s9, s10⟩
         go_simp
         with_reducible rfl
       rotate_left
       · simp only [Act.put, qa, qb, qc, i64_w, i32_w]
         rfl
       refine pure_ (i := 10) (N := some 72) (v := ?_) (a' := ?_) #[true, true, true, true, true, true, true, true, true, true, true, false, false, false, false, false, false, false, false, false, false, false, false, false, false, false, false, false, false, false, false, false] rfl rfl (any_of HT_.out (by kernel_rfl)) (fun _ _ _ h => h) (Or.inl ⟨by rfl, ?_⟩) ?_ ?_
       rotate_left
       · intro w'
         go_simp
         with_reducible rfl
       rotate_left
       · simp only [Act.put, qa, qb, qc, i64_w, i32_w]
         rfl
       refine pure_ (i := 11) (N := some 73) (v := ?_) (a' := ?_) #[true, true, true, true, true, true, true, true, true, true, true, true, false, false, false, false, false, false, false, false, false, false, false, false, false, false, false, false, false, false, false, false] rfl rfl (any_of HT_.out (by kernel_rfl)) (fun _ _ _ h => h) (Or.inl ⟨by rfl, ?_⟩) ?_ ?_
       rotate_left
       · intro w'
         go_simp
         with_reducible rfl
       rotate_left
       · simp only [Act.put, qa, qb, qc, i64_w, i32_w]
         rfl
       refine pure_ (i := 12) (N := some 74) (v := ?_) (a' := ?_) #[true, true, true, true, true, true, true, true, true, true, true, true, true, false, false, false, false, false, false, false, false, false, false, false, false, false, false, false, false, false, false, false] rfl rfl (any_of HT_.out (by kernel_rfl)) (fun _ _ _ h => h) (Or.inl ⟨by rfl, ?_⟩) ?_ ?_
       rotate_left
       · intro w'
         go_simp
         with_reducible rfl
       rotate_left
       · simp only [Act.put, qa, qb, qc, i64_w, i32_w]
         rfl
       refine pure_ (i := 14) (N := some 76) (v := ?_) (a' := ?_) #[true, true, true, true, true, true, true, true, true, true, true, true, true, false, true, false, false, false, false, false, false, false, false, false, false, false, false, false, false, false, false, false] rfl rfl (any_of HT_.out (by kernel_rfl)) (fun _ _ _ h => h) (Or.inl ⟨by rfl, ?_⟩) ?_ ?_
       rotate_left
       · intro w'
         go_simp
         with_reducible rfl
       rotate_left
       · simp only [Act.put, qa, qb, qc, i64_w, i32_w]
         rfl
       refine pure_ (i := 17) (N := some 79) (v := ?_) (a' := ?_) #[true, true, true, true, true, true, true, true, true, true, true, true, true, false, true, false, false, true, false, false, false, false, false, false, false, false, false, false, false, false, false, false] rfl rfl (any_of HT_.out (by kernel_rfl)) (fun _ _ _ h => h) (Or.inl ⟨by rfl, ?_⟩) ?_ ?_
       rotate_left
       · intro w'
         go_simp
         with_reducible rfl
       rotate_left
       · simp only [Act.put, qa, qb, qc, i64_w, i32_w]
         rfl
       refine pure_ (i := 19) (N := some 81) (v := ?_) (a' := ?_) #[true, true, true, true, true, true, true, true, true, true, true, true, true, false, true, false, false, true, false, true, false, false, false, false, false, false, false, false, false, false, false, false] rfl rfl (any_of HT_.out (by kernel_rfl)) (fun _ _ _ h => h) (Or.inl ⟨by rfl, ?_⟩) ?_ ?_
       rotate_left
       · intro w'
         go_simp
         with_reducible rfl
       rotate_left
       · simp only [Act.put, qa, qb, qc, i64_w, i32_w]
         rfl
       refine take_ (i := 13) (N := some 75) (v := ?_) (a' := ?_) #[true, true, true, true, true, true, true, true, true, true, true, true, true, true, true, false, false, true, false, true, false, false, false, false, false, false, false, false, false, false, false, false] rfl rfl (take_ofW HT_.out HW_.out (by kernel_rfl)) (fun _ _ _ h => h) (Or.inl ⟨by rfl, ?_⟩) hHeld ?_ ?_
       rotate_left
       · rintro w' ⟨s0, s1, s2, s3, s4, s5, s6, s7, s8, s9, s10⟩
         go_simp
         with_reducible rfl
       rotate_left
       · simp only [Act.put, qa, qb, qc, i64_w, i32_w]
         rfl
       refine pure_ (i := 15) (N := some 77) (v := ?_) (a' := ?_) #[true, true, true, true, true, true, true, true, true, true, true, true, true, true, true, true, false, true, false, true, false, false, false, false, false, false, false, false, false, false, false, false] rfl rfl (any_of HT_.out (by kernel_rfl)) (fun _ _ _ h => h) (Or.inl ⟨by rfl, ?_⟩) ?_ ?_
       rotate_left
       · intro w'
         go_simp
         with_reducible rfl
       rotate_left
       · simp only [Act.put, qa, qb, qc, i64_w, i32_w]
         rfl
       refine take_ (i := 16) (N := some 78) (v := ?_) (a' := ?_) #[true, true, true, true, true, true, true, true, true, true, true, true, true, true, true, true, true, true, false, true, false, false, false, false, false, false, false, false, false, false, false, false] rfl rfl (take_ofW HT_.out HW_.out (by kernel_rfl)) (fun _ _ _ h => h) (Or.inl ⟨by rfl, ?_⟩) hHeld ?_ ?_
       rotate_left
       · rintro w' ⟨s0, s1, s2, s3, s4, s5, s6, s7, s8, s9, s10⟩
         go_simp
         with_reducible rfl
       rotate_left
       · simp only [Act.put, qa, qb, qc, i64_w, i32_w]
         rfl
       refine take_ (i := 18) (N := some 80) (v := ?_) (a' := ?_) #[true, true, true, true, true, true, true, true, true, true, true, true, true, true, true, true, true, true, true, true, false, false, false, false, false, false, false, false, false, false, false, false] rfl rfl (take_ofW HT_.out HW_.out (by kernel_rfl)) (fun _ _ _ h => h) (Or.inl ⟨by rfl, ?_⟩) hHeld ?_ ?_
       rotate_left
       · rintro w' ⟨s0, s1, s2, s3, s4, s5, s6, s7, s8, s9, s10⟩
         go_simp
         with_reducible rfl
       rotate_left
       · simp only [Act.put, qa, qb, qc, i64_w, i32_w]
         rfl
       refine pure_ (i := 20) (N := some 82) (v := ?_) (a' := ?_) #[true, true, true, true, true, true, true, true, true, true, true, true, true, true, true, true, true, true, true, true, true, false, false, false, false, false, false, false, false, false, false, false] rfl rfl (any_of HT_.out (by kernel_rfl)) (fun _ _ _ h => h) (Or.inl ⟨by rfl, ?_⟩) ?_ ?_
       rotate_left
       · intro w'
         go_simp
         with_reducible rfl
       rotate_left
       · simp only [Act.put, qa, qb, qc, i64_w, i32_w]
         rfl
       refine take_ (i := 21) (N := some 83) (v := ?_) (a' := ?_) #[true, true, true, true, true, true, true, true, true, true, true, true, true, true, true, true, true, true, true, true, true, true, false, false, false, false, false, false, false, false, false, false] rfl rfl (take_ofW HT_.out HW_.out (by kernel_rfl)) (fun _ _ _ h => h) (Or.inl ⟨by rfl, ?_⟩) hHeld ?_ ?_
       rotate_left
       · rintro w' ⟨s0, s1, s2, s3, s4, s5, s6, s7, s8, s9, s10⟩
         go_simp
         with_reducible rfl
       rotate_left
       · simp only [Act.put, qa, qb, qc, i64_w, i32_w]
         rfl
       refine pure_ (i := 22) (N := some 84) (v := ?_) (a' := ?_) #[true, true, true, true, true, true, true, true, true, true, true, true, true, true, true, true, true, true, true, true, true, true, true, false, false, false, false, false, false, false, false, false] rfl rfl (any_of HT_.out (by kernel_rfl)) (fun _ _ _ h => h) (Or.inl ⟨by rfl, ?_⟩) ?_ ?_
       rotate_left
       · intro w'
         go_simp
         with_reducible rfl
       rotate_left
       · simp only [Act.put, qa, qb, qc, i64_w, i32_w]
         rfl
       refine pure_ (i := 23) (N := some 85) (v := ?_) (a' := ?_) #[true, true, true, true, true, true, true, true, true, true, true, true, true, true, true, true, true, true, true, true, true, true, true, true, false, false, false, false, false, false, false, false] rfl rfl (any_of HT_.out (by kernel_rfl)) (fun _ _ _ h => h) (Or.inl ⟨by rfl, ?_⟩) ?_ ?_
       rotate_left
       · intro w'
         go_simp
         with_reducible rfl
       rotate_left
       · simp only [Act.put, qa, qb, qc, i64_w, i32_w]
         rfl
       refine pure_ (i := 24) (N := some 86) (v := ?_) (a' := ?_) #[true, true, true, true, true, true, true, true, true, true, true, true, true, true, true, true, true, true, true, true, true, true, true, true, true, false, false, false, false, false, false, false] rfl rfl (any_of HT_.out (by kernel_rfl)) (fun _ _ _ h => h) (Or.inl ⟨by rfl, ?_⟩) ?_ ?_
       rotate_left
       · intro w'
         go_simp
         with_reducible rfl
       rotate_left
       · simp only [Act.put, qa, qb, qc, i64_w, i32_w]
         rfl
       refine pure_ (i := 25) (N := some 87) (v := ?_) (a' := ?_) #[true, true, true, true, true, true, true, true, true, true, true, true, true, true, true, true, true, true, true, true, true, true, true, true, true, true, false, false, false, false, false, false] rfl rfl (any_of HT_.out (by kernel_rfl)) (fun _ _ _ h => h) (Or.inl ⟨by rfl, ?_⟩) ?_ ?_
       rotate_left
       · intro w'
         go_simp
         with_reducible rfl
       rotate_left
       · simp only [Act.put, qa, qb, qc, i64_w, i32_w]
         rfl
       refine pure_ (i := 27) (N := some 89) (v := ?_) (a' := ?_) #[true, true, true, true, true, true, true, true, true, true, true, true, true, true, true, true, true, true, true, true, true, true, true, true, true, true, false, true, false, false, false, false] rfl rfl (any_of HT_.out (by kernel_rfl)) (fun _ _ _ h => h) (Or.inl ⟨by rfl, ?_⟩) ?_ ?_
       rotate_left
       · intro w'
         go_simp
         with_reducible rfl
       rotate_left
       · simp only [Act.put, qa, qb, qc, i64_w, i32_w]
         rfl
       refine take_ (i := 26) (N := some 88) (v := ?_) (a' := ?_) #[true, true, true, true, true, true, true, true, true, true, true, true, true, true, true, true, true, true, true, true, true, true, true, true, true, true, true, true, false, false, false, false] rfl rfl (take_ofW HT_.out HW_.out (by kernel_rfl)) (fun _ _ _ h => h) (Or.inl ⟨by rfl, ?_⟩) hHeld ?_ ?_
       rotate_left
       · rintro w' ⟨s0, s1, s2, s3, s4, s5, s6, s7, s8, s9, s10⟩
         go_simp
         with_reducible rfl
       rotate_left
       · simp only [Act.put, qa, qb, qc, i64_w, i32_w]
         rfl
       refine pure_ (i := 28) (N := some 90) (v := ?_) (a' := ?_) #[true, true, true, true, true, true, true, true, true, true, true, true, true, true, true, true, true, true, true, true, true, true, true, true, true, true, true, true, true, false, false, false] rfl rfl (any_of HT_.out (by kernel_rfl)) (fun _ _ _ h => h) (Or.inl ⟨by rfl, ?_⟩) ?_ ?_
       rotate_left
       · intro w'
         go_simp
         with_reducible rfl
       rotate_left
       · simp only [Act.put, qa, qb, qc, i64_w, i32_w]
         rfl
       refine take_ (i := 29) (N := some 91) (v := ?_) (a' := ?_) #[true, true, true, true, true, true, true, true, true, true, true, true, true, true, true, true, true, true, true, true, true, true, true, true, true, true, true, true, true, true, false, false] rfl rfl (take_ofW HT_.out HW_.out (by kernel_rfl)) (fun _ _ _ h => h) (Or.inl ⟨by rfl, ?_⟩) hHeld ?_ ?_
       rotate_left
       · rintro w' ⟨s0, s1, s2, s3, s4, s5, s6, s7, s8, s9, s10⟩
         go_simp
         with_reducible rfl
       rotate_left
       · simp only [Act.put, qa, qb, qc, i64_w, i32_w]
         rfl
       refine pure_ (i := 30) (N := some 92) (v := ?_) (a' := ?_) #[true, true, true, true, true, true, true, true, true, true, true, true, true, true, true, true, true, true, true, true, true, true, true, true, true, true, true, true, true, true, true, false] rfl rfl (any_of HT_.out (by kernel_rfl)) (fun _ _ _ h => h) (Or.inl ⟨by rfl, ?_⟩) ?_ ?_
       rotate_left
       · intro w'
         go_simp
         with_reducible rfl
       rotate_left
       · simp only [Act.put, qa, qb, qc, i64_w, i32_w]
         rfl
       refine pure_ (i := 31) (N := some 93) (v := ?_) (a' := ?_) #[true, true, true, true, true, true, true, true, true, true, true, true, true, true, true, true, true, true, true, true, true, true, true, true, true, true, true, true, true, true, true, true] rfl rfl (any_of HT_.out (by kernel_rfl)) (fun _ _ _ h => h) (Or.inl ⟨by rfl, ?_⟩) ?_ ?_
       rotate_left
       · intro w'
         go_simp
         with_reducible rfl
       rotate_left
       · simp only [Act.put, qa, qb, qc, i64_w, i32_w]
         rfl
       refine done_ (done_of HT_.out (by kernel_rfl)) ?_
       try go_wp2
       go_roundg k3
       case measure => have := HJ3.out; have := HK2.out; have := HK3.out; omega
       case rel => exact ⟨(wrap64 (x8_3 + 1)), (by first | rfl | (simp; done) | (simp [*]; done)), H', ⟨by have := HJ3.out; have := HK2.out; have := HK3.out; omega⟩, ⟨by (with_reducible repeat (first | apply rA | apply rN | apply rD)); exact HO_210000.out⟩, ⟨by (with_reducible repeat (first | apply rA | apply rN | apply rD)); exact HO_210001.out⟩, ⟨by (with_reducible repeat (first | apply rA | apply rN | apply rD)); exact HO_210002.out⟩, ⟨by (with_reducible repeat (first | apply vA | apply vN | apply vD)); exact HO_263000.out⟩, ⟨by (with_reducible repeat (first | apply vA | apply vN | apply vD)); exact HO_263001.out⟩, ⟨by (with_reducible repeat (first | apply vA | apply vN | apply vD)); exact HO_263002.out⟩, ⟨by (with_reducible repeat (first | refine pN ?_ _ | refine pD ?_ | refine pA ?_ _)); exact BK209.out⟩, ⟨by (with_reducible repeat (first | refine pN ?_ _ | refine pD ?_ | refine pA ?_ _)); exact BK262.out⟩, ⟨by repeat (first | (with_reducible first | exact HB.out | apply bA | apply bN | apply bD | refine bS ?_ GE209.out | refine bS ?_ GE262.out) | exact HB.out)⟩⟩

theorem laws_FnMemAll.walk (P : laws_FnMemAll.Pure) (a0 : Option Addr) (len0 cap0 : Nat) (z0 : List Int) (w : World) (w0 : (a0 = none ∧ len0 = 0 ∧ cap0 = 0 ∧ z0 = []) ∨ ∃ x, a0 = some x ∧ len0 ≤ cap0 ∧ cap0 ≤ maxLen ∧ z0.length = cap0 ∧ (∀ i, i < z0.length → w.cell? (x.add i) = some (.int .u8 (z0.getD i 0))) ∧ ∀ n ∈ z0, (Lit.int .u8 n).wf = true) (y0 : len0 * 1 ≤ 140737488351232) :
    Calls Try.prog 8 #[.slice a0 len0 cap0] w fun e w' => e = .returned (.bool true) ∧ Below w.heap.size w w' := by
  obtain ⟨l0, rfl, hr0, hm0, hw0, hc0⟩ := ReadsInt.ofRowC w0
  obtain ⟨k, h⟩ := P l0 hm0 y0 hw0
  refine (laws_FnMemAll.calls k _ _ l0 w (Kd.C_of_reads (d := (0 : Int)) (h1 := fun _ => rfl) hr0) hc0 h).mono ?_
  rintro e w' ⟨rfl, hd⟩
  exact ⟨rfl, hd⟩

end Go.Proofs.Ytlgogdpnakbhiaa.HFnMemAll
