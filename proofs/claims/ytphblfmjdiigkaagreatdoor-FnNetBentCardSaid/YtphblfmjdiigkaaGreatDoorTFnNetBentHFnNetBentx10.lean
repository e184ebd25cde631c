-- Made by a program of this session (hp.py) over the kit's print: functions told by hand stand beside printed ones. Lean checks it.
import Derived.Test.YtphblfmjdiigkaaGreatDoorTFnNetBentHFnNetBentx0
import Derived.Test.YtphblfmjdiigkaaGreatDoorTFnNetBentHFnNetBentx2
import Derived.Test.YtphblfmjdiigkaaGreatDoorTFnNetBentHFnNetBentx5
import Derived.Test.YtphblfmjdiigkaaGreatDoorTFnNetBentHFnNetBentx9
namespace Go.Proofs.YtphblfmjdiigkaaGreatDoor.HFnNetBent
open Go.RowKit Go.Proofs.YtphblfmjdiigkaaGreatDoorW.PrintWords Go.Proofs.YtphblfmjdiigkaaGreatDoorW.PrintLast Go.Proofs.YtphblfmjdiigkaaGreatDoorW.PrintMore
attribute [local go_sem] max2_int min2_int max_two min_two max_three min_three max_four min_four   -- for this text's walks alone
set_option linter.unusedVariables false
set_option linter.unusedSimpArgs false

attribute [local go_sem high] eqA41
/-! ### spec_l7Wire: function 36 -/
def spec_l7Wire.j0 : Nat → Int → Bool → Int → Int → Int → Int → Int → Int → Bool → Int → Int → Int → Int → Bool → Option (Bool)
  | 0, _, _, _, _, _, _, _, _, _, _, _, _, _, _ => none
  | k + 1, x1, x33, x326000, x326001, x326002, x326003, x326004, x326005, x326006, x326007, x326008, x326009, x326010, x326011 => if x33 = true then (some false) else ((spec_l7Two.f x326000).bind fun t335 => (if t335 = true then ((spec_l7Src.f x326007 x326008 x326009 x326010 x326011 x1).bind fun t336 => (some t336)) else (some (x326007 == 0 && (x326008 == 0 && ((x326009 == 0 && (x326010 == 0)) && (!x326011)))))))
def spec_l7Wire.f (k : Nat) (a0_0 : Int) (a0_1 : Int) (a0_2 : Int) (a0_3 : Int) (a0_4 : Int) (a0_5 : Int) (a0_6 : Bool) (a0_7 : Int) (a0_8 : Int) (a0_9 : Int) (a0_10 : Int) (a0_11 : Bool) (a1 : Int) : Option (Bool) := (spec_l7Gate.f a0_0).bind fun t326 => (if t326 = true then (if a0_1 = 0 then ((spec_l7Gate.f a0_0).bind fun t327 => (if t327 = true then ((spec_l7Src.f a0_2 a0_3 a0_4 a0_5 a0_6 a1).bind fun t328 => (spec_l7Wire.j0 k a1 (!t328) a0_0 a0_1 a0_2 a0_3 a0_4 a0_5 a0_6 a0_7 a0_8 a0_9 a0_10 a0_11)) else ((spec_l6N.f k a0_0 a0_1).bind fun t329 => (if t329 = true then ((spec_l7Src.f a0_2 a0_3 a0_4 a0_5 a0_6 a1).bind fun t330 => (spec_l7Wire.j0 k a1 (!t330) a0_0 a0_1 a0_2 a0_3 a0_4 a0_5 a0_6 a0_7 a0_8 a0_9 a0_10 a0_11)) else (spec_l7Wire.j0 k a1 true a0_0 a0_1 a0_2 a0_3 a0_4 a0_5 a0_6 a0_7 a0_8 a0_9 a0_10 a0_11))))) else (spec_l7Wire.j0 k a1 true a0_0 a0_1 a0_2 a0_3 a0_4 a0_5 a0_6 a0_7 a0_8 a0_9 a0_10 a0_11)) else ((spec_l7Gate.f a0_0).bind fun t331 => (if t331 = true then ((spec_l7Src.f a0_2 a0_3 a0_4 a0_5 a0_6 a1).bind fun t332 => (spec_l7Wire.j0 k a1 (!t332) a0_0 a0_1 a0_2 a0_3 a0_4 a0_5 a0_6 a0_7 a0_8 a0_9 a0_10 a0_11)) else ((spec_l6N.f k a0_0 a0_1).bind fun t333 => (if t333 = true then ((spec_l7Src.f a0_2 a0_3 a0_4 a0_5 a0_6 a1).bind fun t334 => (spec_l7Wire.j0 k a1 (!t334) a0_0 a0_1 a0_2 a0_3 a0_4 a0_5 a0_6 a0_7 a0_8 a0_9 a0_10 a0_11)) else (spec_l7Wire.j0 k a1 true a0_0 a0_1 a0_2 a0_3 a0_4 a0_5 a0_6 a0_7 a0_8 a0_9 a0_10 a0_11))))))
set_option maxHeartbeats 8000000 in
set_option maxRecDepth 100000 in
theorem spec_l7Wire.calls (k : Nat) (a0_0 : Int) (a0_1 : Int) (a0_2 : Int) (a0_3 : Int) (a0_4 : Int) (a0_5 : Int) (a0_6 : Bool) (a0_7 : Int) (a0_8 : Int) (a0_9 : Int) (a0_10 : Int) (a0_11 : Bool) (a1 : Int) (r : Bool) (w : World) (h : spec_l7Wire.f k a0_0 a0_1 a0_2 a0_3 a0_4 a0_5 a0_6 a0_7 a0_8 a0_9 a0_10 a0_11 a1 = some r) :
    Calls Tryz.prog 36 #[.agg #[.int .i64 a0_0, .int .i64 a0_1, .int .i64 a0_2, .int .i64 a0_3, .int .i64 a0_4, .int .i64 a0_5, .bool a0_6, .int .i64 a0_7, .int .i64 a0_8, .int .i64 a0_9, .int .i64 a0_10, .bool a0_11], .int .i64 a1] w fun e w' => e = .returned (.bool r) ∧ Below w.heap.size w w' := by
  have hu43 := Tryz.underlying43
  have hu41 := Tryz.underlying41
  have HB := Aside0.mk (Below.refl w.heap.size w)
  have H : ((spec_l7Gate.f a0_0).bind fun t326 => (if t326 = true then (if a0_1 = 0 then ((spec_l7Gate.f a0_0).bind fun t327 => (if t327 = true then ((spec_l7Src.f a0_2 a0_3 a0_4 a0_5 a0_6 a1).bind fun t328 => (spec_l7Wire.j0 k a1 (!t328) a0_0 a0_1 a0_2 a0_3 a0_4 a0_5 a0_6 a0_7 a0_8 a0_9 a0_10 a0_11)) else ((spec_l6N.f k a0_0 a0_1).bind fun t329 => (if t329 = true then ((spec_l7Src.f a0_2 a0_3 a0_4 a0_5 a0_6 a1).bind fun t330 => (spec_l7Wire.j0 k a1 (!t330) a0_0 a0_1 a0_2 a0_3 a0_4 a0_5 a0_6 a0_7 a0_8 a0_9 a0_10 a0_11)) else (spec_l7Wire.j0 k a1 true a0_0 a0_1 a0_2 a0_3 a0_4 a0_5 a0_6 a0_7 a0_8 a0_9 a0_10 a0_11))))) else (spec_l7Wire.j0 k a1 true a0_0 a0_1 a0_2 a0_3 a0_4 a0_5 a0_6 a0_7 a0_8 a0_9 a0_10 a0_11)) else ((spec_l7Gate.f a0_0).bind fun t331 => (if t331 = true then ((spec_l7Src.f a0_2 a0_3 a0_4 a0_5 a0_6 a1).bind fun t332 => (spec_l7Wire.j0 k a1 (!t332) a0_0 a0_1 a0_2 a0_3 a0_4 a0_5 a0_6 a0_7 a0_8 a0_9 a0_10 a0_11)) else ((spec_l6N.f k a0_0 a0_1).bind fun t333 => (if t333 = true then ((spec_l7Src.f a0_2 a0_3 a0_4 a0_5 a0_6 a1).bind fun t334 => (spec_l7Wire.j0 k a1 (!t334) a0_0 a0_1 a0_2 a0_3 a0_4 a0_5 a0_6 a0_7 a0_8 a0_9 a0_10 a0_11)) else (spec_l7Wire.j0 k a1 true a0_0 a0_1 a0_2 a0_3 a0_4 a0_5 a0_6 a0_7 a0_8 a0_9 a0_10 a0_11))))))) = some r := h
  clear h
  have HC3 := Aside0.mk H
  clear H
  go_enter Tryz.func36, Tryz.ntmps36
  go_upto_region 1 with (first | ((with_reducible refine gate_dst (N := 2) rfl ?_); refine box_event ?hg (N := 2) ?hd (cs := #[.int .i64 a0_0, .int .i64 a0_1, .int .i64 a0_2, .int .i64 a0_3, .int .i64 a0_4, .int .i64 a0_5, .bool a0_6, .int .i64 a0_7, .int .i64 a0_8, .int .i64 a0_9, .int .i64 a0_10, .bool a0_11]) (t := 43) ?hr ?_; (case hd => rfl); (case hg => rfl); (case hr => first | (go_simp; done) | (go_simp; rfl)); intro gb325 hg w4 hbox hb; have n0_ := Aside0.mk (below_step (by repeat (first | (with_reducible first | exact HB.out | apply below_alloc | apply pw_below_drewN | apply below_drew1) | exact HB.out)) hb); have n1_ := Aside0.mk (hbox); have n2_ := Aside0.mk ((by rw [hg]; exact (below_size (by repeat (first | (with_reducible first | exact HB.out | apply below_alloc | apply pw_below_drewN | apply below_drew1) | exact HB.out))) : w.heap.size ≤ gb325)); have n3_ := Aside0.mk ((by rw [hg]; exact (below_size (by repeat (first | (with_reducible first | exact HB.out | apply below_alloc | apply pw_below_drewN | apply below_drew1) | exact HB.out))) : w.heap.size ≤ gb325)); clear HB; have HB := n0_; have BK325 := n1_; have GW325 := n2_; have GE325 := n3_; clear n0_ n1_ n2_ n3_; clear hb hbox hg))
  (try simp only [Act.put, List.setIfInBounds_toArray, List.set_cons_zero, List.set_cons_succ])
  go_cut [33] (fun v33 wc => ∃ (kq : Nat) (x33_2 : Bool), v33 = .bool x33_2 ∧ Aside0 (spec_l7Wire.j0 kq a1 x33_2 a0_0 a0_1 a0_2 a0_3 a0_4 a0_5 a0_6 a0_7 a0_8 a0_9 a0_10 a0_11 = some r) ∧ Aside0 (kq ≤ k) ∧ Aside0 (wc.heap[gb325]? = some (.cells #[.int .i64 a0_0, .int .i64 a0_1, .int .i64 a0_2, .int .i64 a0_3, .int .i64 a0_4, .int .i64 a0_5, .bool a0_6, .int .i64 a0_7, .int .i64 a0_8, .int .i64 a0_9, .int .i64 a0_10, .bool a0_11] 43 (0, 0))) ∧ Aside0 (Below w.heap.size w wc))
  case first =>
    have H := HC3.out
    clear HC3
    replace H := Option.bind_eq_some_iff.mp H
    obtain ⟨t326, A50, H⟩ := H
    replace H : (if t326 = true then (if a0_1 = 0 then ((spec_l7Gate.f a0_0).bind fun t327 => (if t327 = true then ((spec_l7Src.f a0_2 a0_3 a0_4 a0_5 a0_6 a1).bind fun t328 => (spec_l7Wire.j0 k a1 (!t328) a0_0 a0_1 a0_2 a0_3 a0_4 a0_5 a0_6 a0_7 a0_8 a0_9 a0_10 a0_11)) else ((spec_l6N.f k a0_0 a0_1).bind fun t329 => (if t329 = true then ((spec_l7Src.f a0_2 a0_3 a0_4 a0_5 a0_6 a1).bind fun t330 => (spec_l7Wire.j0 k a1 (!t330) a0_0 a0_1 a0_2 a0_3 a0_4 a0_5 a0_6 a0_7 a0_8 a0_9 a0_10 a0_11)) else (spec_l7Wire.j0 k a1 true a0_0 a0_1 a0_2 a0_3 a0_4 a0_5 a0_6 a0_7 a0_8 a0_9 a0_10 a0_11))))) else (spec_l7Wire.j0 k a1 true a0_0 a0_1 a0_2 a0_3 a0_4 a0_5 a0_6 a0_7 a0_8 a0_9 a0_10 a0_11)) else ((spec_l7Gate.f a0_0).bind fun t331 => (if t331 = true then ((spec_l7Src.f a0_2 a0_3 a0_4 a0_5 a0_6 a1).bind fun t332 => (spec_l7Wire.j0 k a1 (!t332) a0_0 a0_1 a0_2 a0_3 a0_4 a0_5 a0_6 a0_7 a0_8 a0_9 a0_10 a0_11)) else ((spec_l6N.f k a0_0 a0_1).bind fun t333 => (if t333 = true then ((spec_l7Src.f a0_2 a0_3 a0_4 a0_5 a0_6 a1).bind fun t334 => (spec_l7Wire.j0 k a1 (!t334) a0_0 a0_1 a0_2 a0_3 a0_4 a0_5 a0_6 a0_7 a0_8 a0_9 a0_10 a0_11)) else (spec_l7Wire.j0 k a1 true a0_0 a0_1 a0_2 a0_3 a0_4 a0_5 a0_6 a0_7 a0_8 a0_9 a0_10 a0_11)))))) = some r := H
    have A5 := Aside0.mk A50
    clear A50
    by_cases c6 : t326 = true
    · subst c6
      have H1 : (if a0_1 = 0 then ((spec_l7Gate.f a0_0).bind fun t327 => (if t327 = true then ((spec_l7Src.f a0_2 a0_3 a0_4 a0_5 a0_6 a1).bind fun t328 => (spec_l7Wire.j0 k a1 (!t328) a0_0 a0_1 a0_2 a0_3 a0_4 a0_5 a0_6 a0_7 a0_8 a0_9 a0_10 a0_11)) else ((spec_l6N.f k a0_0 a0_1).bind fun t329 => (if t329 = true then ((spec_l7Src.f a0_2 a0_3 a0_4 a0_5 a0_6 a1).bind fun t330 => (spec_l7Wire.j0 k a1 (!t330) a0_0 a0_1 a0_2 a0_3 a0_4 a0_5 a0_6 a0_7 a0_8 a0_9 a0_10 a0_11)) else (spec_l7Wire.j0 k a1 true a0_0 a0_1 a0_2 a0_3 a0_4 a0_5 a0_6 a0_7 a0_8 a0_9 a0_10 a0_11))))) else (spec_l7Wire.j0 k a1 true a0_0 a0_1 a0_2 a0_3 a0_4 a0_5 a0_6 a0_7 a0_8 a0_9 a0_10 a0_11)) = some r := by rw [if_pos rfl] at H; exact H
      clear H
      have H := H1
      clear H1
      by_cases c7 : a0_1 = 0
      · rw [if_pos c7] at H
        have c7b0 : (a0_1 == 0) = true := beq_iff_eq.mpr c7
        have c7b1 : (a0_1 != 0) = false := bne_eq_false_iff_eq.mpr c7
        clear c7
        (first | rw [c7b0] | (simp only [i64_w, i32_w]; rw [c7b0]) | skip)
        replace H := Option.bind_eq_some_iff.mp H
        obtain ⟨t327, A80, H⟩ := H
        replace H : (if t327 = true then ((spec_l7Src.f a0_2 a0_3 a0_4 a0_5 a0_6 a1).bind fun t328 => (spec_l7Wire.j0 k a1 (!t328) a0_0 a0_1 a0_2 a0_3 a0_4 a0_5 a0_6 a0_7 a0_8 a0_9 a0_10 a0_11)) else ((spec_l6N.f k a0_0 a0_1).bind fun t329 => (if t329 = true then ((spec_l7Src.f a0_2 a0_3 a0_4 a0_5 a0_6 a1).bind fun t330 => (spec_l7Wire.j0 k a1 (!t330) a0_0 a0_1 a0_2 a0_3 a0_4 a0_5 a0_6 a0_7 a0_8 a0_9 a0_10 a0_11)) else (spec_l7Wire.j0 k a1 true a0_0 a0_1 a0_2 a0_3 a0_4 a0_5 a0_6 a0_7 a0_8 a0_9 a0_10 a0_11)))) = some r := H
        have A8 := Aside0.mk A80
        clear A80
        by_cases c9 : t327 = true
        · subst c9
          have H1 : ((spec_l7Src.f a0_2 a0_3 a0_4 a0_5 a0_6 a1).bind fun t328 => (spec_l7Wire.j0 k a1 (!t328) a0_0 a0_1 a0_2 a0_3 a0_4 a0_5 a0_6 a0_7 a0_8 a0_9 a0_10 a0_11)) = some r := by rw [if_pos rfl] at H; exact H
          clear H
          have H := H1
          clear H1
          replace H := Option.bind_eq_some_iff.mp H
          obtain ⟨t328, A100, H⟩ := H
          replace H : (spec_l7Wire.j0 k a1 (!t328) a0_0 a0_1 a0_2 a0_3 a0_4 a0_5 a0_6 a0_7 a0_8 a0_9 a0_10 a0_11) = some r := H
          have A10 := Aside0.mk A100
          clear A100
          have H' := Aside0.mk H
          clear H
          have hcz11_0 : w4.cell? ⟨gb325, 0, none⟩ = some (.int .i64 a0_0) := (blk_cell BK325.out 0).trans rfl
          have hcz11_1 : w4.cell? ⟨gb325, 1, none⟩ = some (.int .i64 a0_1) := (blk_cell BK325.out 1).trans rfl
          have hcz11_2 : w4.cell? ⟨gb325, 2, none⟩ = some (.int .i64 a0_2) := (blk_cell BK325.out 2).trans rfl
          have hcz11_3 : w4.cell? ⟨gb325, 3, none⟩ = some (.int .i64 a0_3) := (blk_cell BK325.out 3).trans rfl
          have hcz11_4 : w4.cell? ⟨gb325, 4, none⟩ = some (.int .i64 a0_4) := (blk_cell BK325.out 4).trans rfl
          have hcz11_5 : w4.cell? ⟨gb325, 5, none⟩ = some (.int .i64 a0_5) := (blk_cell BK325.out 5).trans rfl
          have hcz11_6 : w4.cell? ⟨gb325, 6, none⟩ = some (.bool a0_6) := (blk_cell BK325.out 6).trans rfl
          have hcz11_7 : w4.cell? ⟨gb325, 7, none⟩ = some (.int .i64 a0_7) := (blk_cell BK325.out 7).trans rfl
          have hcz11_8 : w4.cell? ⟨gb325, 8, none⟩ = some (.int .i64 a0_8) := (blk_cell BK325.out 8).trans rfl
          have hcz11_9 : w4.cell? ⟨gb325, 9, none⟩ = some (.int .i64 a0_9) := (blk_cell BK325.out 9).trans rfl
          have hcz11_10 : w4.cell? ⟨gb325, 10, none⟩ = some (.int .i64 a0_10) := (blk_cell BK325.out 10).trans rfl
          have hcz11_11 : w4.cell? ⟨gb325, 11, none⟩ = some (.bool a0_11) := (blk_cell BK325.out 11).trans rfl
          have hfz11_0 := blk_frozen BK325.out 0
          have hfz11_1 := blk_frozen BK325.out 1
          have hfz11_2 := blk_frozen BK325.out 2
          have hfz11_3 := blk_frozen BK325.out 3
          have hfz11_4 := blk_frozen BK325.out 4
          have hfz11_5 := blk_frozen BK325.out 5
          have hfz11_6 := blk_frozen BK325.out 6
          have hfz11_7 := blk_frozen BK325.out 7
          have hfz11_8 := blk_frozen BK325.out 8
          have hfz11_9 := blk_frozen BK325.out 9
          have hfz11_10 := blk_frozen BK325.out 10
          have hfz11_11 := blk_frozen BK325.out 11
          go_wp2_with (first | ((with_reducible refine gate_callee (f := 67) rfl ?_); refine goesL_ (some 7) rfl rfl Tryz.func67 (by kernel_rfl) rfl #[.int .i64 a0_0] rfl (by (try simp only [List.map_toArray, List.map_cons, List.map_nil]); first | done | rfl | (simp only [List.length_drop, List.length_take]; rfl)) ?_; (with_reducible refine (spec_l7Gate.calls a0_0 true _ A5.out).mono ?_); rintro e w' ⟨rfl, ⟨nd, rfl⟩⟩; refine ⟨_, rfl, ?_⟩) | (go_at_call 67; (with_reducible refine (spec_l7Gate.calls a0_0 true _ A8.out).mono ?_); rintro e w' ⟨rfl, ⟨nd, rfl⟩⟩) | (go_at_call 69; (with_reducible refine (spec_l7Src.calls a0_2 a0_3 a0_4 a0_5 a0_6 a1 t328 _ A10.out).mono ?_); rintro e w12 ⟨rfl, hb⟩; have n0_ := Aside0.mk (blk_below (g := gb325) (o := .cells #[.int .i64 a0_0, .int .i64 a0_1, .int .i64 a0_2, .int .i64 a0_3, .int .i64 a0_4, .int .i64 a0_5, .bool a0_6, .int .i64 a0_7, .int .i64 a0_8, .int .i64 a0_9, .int .i64 a0_10, .bool a0_11] 43 (0, 0)) (by (with_reducible repeat (first | refine blk_drewN ?_ _ | refine blk_drew ?_ | refine blk_alloc ?_ _)); exact BK325.out) hb); have n1_ := Aside0.mk (below_step (by repeat (first | (with_reducible first | exact HB.out | apply below_alloc | apply pw_below_drewN | apply below_drew1 | refine below_set ?_ GE325.out) | exact HB.out)) hb); clear BK325; clear HB; have BK325 := n0_; have HB := n1_; clear n0_ n1_; (try clear hb); (try clear hb2); (try clear hk); (try clear hi)))
          go_meet
          case rel => exact ⟨_, (!t328), (by first | rfl | (simp; done) | (simp [*]; done)), H', ⟨by first | omega | exact Nat.le_refl _⟩, ⟨by (with_reducible repeat (first | refine blk_drewN ?_ _ | refine blk_drew ?_ | refine blk_alloc ?_ _)); exact BK325.out⟩, ⟨by repeat (first | (with_reducible first | exact HB.out | apply below_alloc | apply pw_below_drewN | apply below_drew1 | refine below_set ?_ GE325.out) | exact HB.out)⟩⟩
        · replace c9 := Bool.eq_false_iff.mpr c9
          subst c9
          have H1 : ((spec_l6N.f k a0_0 a0_1).bind fun t329 => (if t329 = true then ((spec_l7Src.f a0_2 a0_3 a0_4 a0_5 a0_6 a1).bind fun t330 => (spec_l7Wire.j0 k a1 (!t330) a0_0 a0_1 a0_2 a0_3 a0_4 a0_5 a0_6 a0_7 a0_8 a0_9 a0_10 a0_11)) else (spec_l7Wire.j0 k a1 true a0_0 a0_1 a0_2 a0_3 a0_4 a0_5 a0_6 a0_7 a0_8 a0_9 a0_10 a0_11))) = some r := by rw [if_neg (show ¬ (false = true) by decide)] at H; exact H
          clear H
          have H := H1
          clear H1
          replace H := Option.bind_eq_some_iff.mp H
          obtain ⟨t329, A130, H⟩ := H
          replace H : (if t329 = true then ((spec_l7Src.f a0_2 a0_3 a0_4 a0_5 a0_6 a1).bind fun t330 => (spec_l7Wire.j0 k a1 (!t330) a0_0 a0_1 a0_2 a0_3 a0_4 a0_5 a0_6 a0_7 a0_8 a0_9 a0_10 a0_11)) else (spec_l7Wire.j0 k a1 true a0_0 a0_1 a0_2 a0_3 a0_4 a0_5 a0_6 a0_7 a0_8 a0_9 a0_10 a0_11)) = some r := H
          have A13 := Aside0.mk A130
          clear A130
          by_cases c14 : t329 = true
          · subst c14
            have H1 : ((spec_l7Src.f a0_2 a0_3 a0_4 a0_5 a0_6 a1).bind fun t330 => (spec_l7Wire.j0 k a1 (!t330) a0_0 a0_1 a0_2 a0_3 a0_4 a0_5 a0_6 a0_7 a0_8 a0_9 a0_10 a0_11)) = some r := by rw [if_pos rfl] at H; exact H
            clear H
            have H := H1
            clear H1
            replace H := Option.bind_eq_some_iff.mp H
            obtain ⟨t330, A150, H⟩ := H
            replace H : (spec_l7Wire.j0 k a1 (!t330) a0_0 a0_1 a0_2 a0_3 a0_4 a0_5 a0_6 a0_7 a0_8 a0_9 a0_10 a0_11) = some r := H
            have A15 := Aside0.mk A150
            clear A150
            have H' := Aside0.mk H
            clear H
            have hcz16_0 : w4.cell? ⟨gb325, 0, none⟩ = some (.int .i64 a0_0) := (blk_cell BK325.out 0).trans rfl
            have hcz16_1 : w4.cell? ⟨gb325, 1, none⟩ = some (.int .i64 a0_1) := (blk_cell BK325.out 1).trans rfl
            have hcz16_2 : w4.cell? ⟨gb325, 2, none⟩ = some (.int .i64 a0_2) := (blk_cell BK325.out 2).trans rfl
            have hcz16_3 : w4.cell? ⟨gb325, 3, none⟩ = some (.int .i64 a0_3) := (blk_cell BK325.out 3).trans rfl
            have hcz16_4 : w4.cell? ⟨gb325, 4, none⟩ = some (.int .i64 a0_4) := (blk_cell BK325.out 4).trans rfl
            have hcz16_5 : w4.cell? ⟨gb325, 5, none⟩ = some (.int .i64 a0_5) := (blk_cell BK325.out 5).trans rfl
            have hcz16_6 : w4.cell? ⟨gb325, 6, none⟩ = some (.bool a0_6) := (blk_cell BK325.out 6).trans rfl
            have hcz16_7 : w4.cell? ⟨gb325, 7, none⟩ = some (.int .i64 a0_7) := (blk_cell BK325.out 7).trans rfl
            have hcz16_8 : w4.cell? ⟨gb325, 8, none⟩ = some (.int .i64 a0_8) := (blk_cell BK325.out 8).trans rfl
            have hcz16_9 : w4.cell? ⟨gb325, 9, none⟩ = some (.int .i64 a0_9) := (blk_cell BK325.out 9).trans rfl
            have hcz16_10 : w4.cell? ⟨gb325, 10, none⟩ = some (.int .i64 a0_10) := (blk_cell BK325.out 10).trans rfl
            have hcz16_11 : w4.cell? ⟨gb325, 11, none⟩ = some (.bool a0_11) := (blk_cell BK325.out 11).trans rfl
            have hfz16_0 := blk_frozen BK325.out 0
            have hfz16_1 := blk_frozen BK325.out 1
            have hfz16_2 := blk_frozen BK325.out 2
            have hfz16_3 := blk_frozen BK325.out 3
            have hfz16_4 := blk_frozen BK325.out 4
            have hfz16_5 := blk_frozen BK325.out 5
            have hfz16_6 := blk_frozen BK325.out 6
            have hfz16_7 := blk_frozen BK325.out 7
            have hfz16_8 := blk_frozen BK325.out 8
            have hfz16_9 := blk_frozen BK325.out 9
            have hfz16_10 := blk_frozen BK325.out 10
            have hfz16_11 := blk_frozen BK325.out 11
            go_wp2_with (first | ((with_reducible refine gate_callee (f := 67) rfl ?_); refine goesL_ (some 7) rfl rfl Tryz.func67 (by kernel_rfl) rfl #[.int .i64 a0_0] rfl (by (try simp only [List.map_toArray, List.map_cons, List.map_nil]); first | done | rfl | (simp only [List.length_drop, List.length_take]; rfl)) ?_; (with_reducible refine (spec_l7Gate.calls a0_0 true _ A5.out).mono ?_); rintro e w' ⟨rfl, ⟨nd, rfl⟩⟩; refine ⟨_, rfl, ?_⟩) | (go_at_call 67; (with_reducible refine (spec_l7Gate.calls a0_0 false _ A8.out).mono ?_); rintro e w' ⟨rfl, ⟨nd, rfl⟩⟩) | (go_at_call 68; (with_reducible refine (spec_l6N.calls k a0_0 a0_1 true _ A13.out).mono ?_); rintro e w' ⟨rfl, ⟨nd, rfl⟩⟩) | (go_at_call 69; (with_reducible refine (spec_l7Src.calls a0_2 a0_3 a0_4 a0_5 a0_6 a1 t330 _ A15.out).mono ?_); rintro e w17 ⟨rfl, hb⟩; have n0_ := Aside0.mk (blk_below (g := gb325) (o := .cells #[.int .i64 a0_0, .int .i64 a0_1, .int .i64 a0_2, .int .i64 a0_3, .int .i64 a0_4, .int .i64 a0_5, .bool a0_6, .int .i64 a0_7, .int .i64 a0_8, .int .i64 a0_9, .int .i64 a0_10, .bool a0_11] 43 (0, 0)) (by (with_reducible repeat (first | refine blk_drewN ?_ _ | refine blk_drew ?_ | refine blk_alloc ?_ _)); exact BK325.out) hb); have n1_ := Aside0.mk (below_step (by repeat (first | (with_reducible first | exact HB.out | apply below_alloc | apply pw_below_drewN | apply below_drew1 | refine below_set ?_ GE325.out) | exact HB.out)) hb); clear BK325; clear HB; have BK325 := n0_; have HB := n1_; clear n0_ n1_; (try clear hb); (try clear hb2); (try clear hk); (try clear hi)))
            go_meet
            case rel => exact ⟨_, (!t330), (by first | rfl | (simp; done) | (simp [*]; done)), H', ⟨by first | omega | exact Nat.le_refl _⟩, ⟨by (with_reducible repeat (first | refine blk_drewN ?_ _ | refine blk_drew ?_ | refine blk_alloc ?_ _)); exact BK325.out⟩, ⟨by repeat (first | (with_reducible first | exact HB.out | apply below_alloc | apply pw_below_drewN | apply below_drew1 | refine below_set ?_ GE325.out) | exact HB.out)⟩⟩
          · replace c14 := Bool.eq_false_iff.mpr c14
            subst c14
            have H1 : (spec_l7Wire.j0 k a1 true a0_0 a0_1 a0_2 a0_3 a0_4 a0_5 a0_6 a0_7 a0_8 a0_9 a0_10 a0_11) = some r := by rw [if_neg (show ¬ (false = true) by decide)] at H; exact H
            clear H
            have H := H1
            clear H1
            have H' := Aside0.mk H
            clear H
            have hcz18_0 : w4.cell? ⟨gb325, 0, none⟩ = some (.int .i64 a0_0) := (blk_cell BK325.out 0).trans rfl
            have hcz18_1 : w4.cell? ⟨gb325, 1, none⟩ = some (.int .i64 a0_1) := (blk_cell BK325.out 1).trans rfl
            have hcz18_2 : w4.cell? ⟨gb325, 2, none⟩ = some (.int .i64 a0_2) := (blk_cell BK325.out 2).trans rfl
            have hcz18_3 : w4.cell? ⟨gb325, 3, none⟩ = some (.int .i64 a0_3) := (blk_cell BK325.out 3).trans rfl
            have hcz18_4 : w4.cell? ⟨gb325, 4, none⟩ = some (.int .i64 a0_4) := (blk_cell BK325.out 4).trans rfl
            have hcz18_5 : w4.cell? ⟨gb325, 5, none⟩ = some (.int .i64 a0_5) := (blk_cell BK325.out 5).trans rfl
            have hcz18_6 : w4.cell? ⟨gb325, 6, none⟩ = some (.bool a0_6) := (blk_cell BK325.out 6).trans rfl
            have hcz18_7 : w4.cell? ⟨gb325, 7, none⟩ = some (.int .i64 a0_7) := (blk_cell BK325.out 7).trans rfl
            have hcz18_8 : w4.cell? ⟨gb325, 8, none⟩ = some (.int .i64 a0_8) := (blk_cell BK325.out 8).trans rfl
            have hcz18_9 : w4.cell? ⟨gb325, 9, none⟩ = some (.int .i64 a0_9) := (blk_cell BK325.out 9).trans rfl
            have hcz18_10 : w4.cell? ⟨gb325, 10, none⟩ = some (.int .i64 a0_10) := (blk_cell BK325.out 10).trans rfl
            have hcz18_11 : w4.cell? ⟨gb325, 11, none⟩ = some (.bool a0_11) := (blk_cell BK325.out 11).trans rfl
            have hfz18_0 := blk_frozen BK325.out 0
            have hfz18_1 := blk_frozen BK325.out 1
            have hfz18_2 := blk_frozen BK325.out 2
            have hfz18_3 := blk_frozen BK325.out 3
            have hfz18_4 := blk_frozen BK325.out 4
            have hfz18_5 := blk_frozen BK325.out 5
            have hfz18_6 := blk_frozen BK325.out 6
            have hfz18_7 := blk_frozen BK325.out 7
            have hfz18_8 := blk_frozen BK325.out 8
            have hfz18_9 := blk_frozen BK325.out 9
            have hfz18_10 := blk_frozen BK325.out 10
            have hfz18_11 := blk_frozen BK325.out 11
            go_wp2_with (first | ((with_reducible refine gate_callee (f := 67) rfl ?_); refine goesL_ (some 7) rfl rfl Tryz.func67 (by kernel_rfl) rfl #[.int .i64 a0_0] rfl (by (try simp only [List.map_toArray, List.map_cons, List.map_nil]); first | done | rfl | (simp only [List.length_drop, List.length_take]; rfl)) ?_; (with_reducible refine (spec_l7Gate.calls a0_0 true _ A5.out).mono ?_); rintro e w' ⟨rfl, ⟨nd, rfl⟩⟩; refine ⟨_, rfl, ?_⟩) | (go_at_call 67; (with_reducible refine (spec_l7Gate.calls a0_0 false _ A8.out).mono ?_); rintro e w' ⟨rfl, ⟨nd, rfl⟩⟩) | (go_at_call 68; (with_reducible refine (spec_l6N.calls k a0_0 a0_1 false _ A13.out).mono ?_); rintro e w' ⟨rfl, ⟨nd, rfl⟩⟩))
            go_meet
            case rel => exact ⟨_, (true), (by first | rfl | (simp; done) | (simp [*]; done)), H', ⟨by first | omega | exact Nat.le_refl _⟩, ⟨by (with_reducible repeat (first | refine blk_drewN ?_ _ | refine blk_drew ?_ | refine blk_alloc ?_ _)); exact BK325.out⟩, ⟨by repeat (first | (with_reducible first | exact HB.out | apply below_alloc | apply pw_below_drewN | apply below_drew1 | refine below_set ?_ GE325.out) | exact HB.out)⟩⟩
      · rw [if_neg c7] at H
        have c7b0 : (a0_1 == 0) = false := beq_eq_false_iff_ne.mpr c7
        have c7b1 : (a0_1 != 0) = true := bne_iff_ne.mpr c7
        (first | rw [c7b0] | (simp only [i64_w, i32_w]; rw [c7b0]) | skip)
        have H' := Aside0.mk H
        clear H
        have hcz19_0 : w4.cell? ⟨gb325, 0, none⟩ = some (.int .i64 a0_0) := (blk_cell BK325.out 0).trans rfl
        have hcz19_1 : w4.cell? ⟨gb325, 1, none⟩ = some (.int .i64 a0_1) := (blk_cell BK325.out 1).trans rfl
        have hcz19_2 : w4.cell? ⟨gb325, 2, none⟩ = some (.int .i64 a0_2) := (blk_cell BK325.out 2).trans rfl
        have hcz19_3 : w4.cell? ⟨gb325, 3, none⟩ = some (.int .i64 a0_3) := (blk_cell BK325.out 3).trans rfl
        have hcz19_4 : w4.cell? ⟨gb325, 4, none⟩ = some (.int .i64 a0_4) := (blk_cell BK325.out 4).trans rfl
        have hcz19_5 : w4.cell? ⟨gb325, 5, none⟩ = some (.int .i64 a0_5) := (blk_cell BK325.out 5).trans rfl
        have hcz19_6 : w4.cell? ⟨gb325, 6, none⟩ = some (.bool a0_6) := (blk_cell BK325.out 6).trans rfl
        have hcz19_7 : w4.cell? ⟨gb325, 7, none⟩ = some (.int .i64 a0_7) := (blk_cell BK325.out 7).trans rfl
        have hcz19_8 : w4.cell? ⟨gb325, 8, none⟩ = some (.int .i64 a0_8) := (blk_cell BK325.out 8).trans rfl
        have hcz19_9 : w4.cell? ⟨gb325, 9, none⟩ = some (.int .i64 a0_9) := (blk_cell BK325.out 9).trans rfl
        have hcz19_10 : w4.cell? ⟨gb325, 10, none⟩ = some (.int .i64 a0_10) := (blk_cell BK325.out 10).trans rfl
        have hcz19_11 : w4.cell? ⟨gb325, 11, none⟩ = some (.bool a0_11) := (blk_cell BK325.out 11).trans rfl
        have hfz19_0 := blk_frozen BK325.out 0
        have hfz19_1 := blk_frozen BK325.out 1
        have hfz19_2 := blk_frozen BK325.out 2
        have hfz19_3 := blk_frozen BK325.out 3
        have hfz19_4 := blk_frozen BK325.out 4
        have hfz19_5 := blk_frozen BK325.out 5
        have hfz19_6 := blk_frozen BK325.out 6
        have hfz19_7 := blk_frozen BK325.out 7
        have hfz19_8 := blk_frozen BK325.out 8
        have hfz19_9 := blk_frozen BK325.out 9
        have hfz19_10 := blk_frozen BK325.out 10
        have hfz19_11 := blk_frozen BK325.out 11
        go_wp2_with (first | ((with_reducible refine gate_callee (f := 67) rfl ?_); refine goesL_ (some 7) rfl rfl Tryz.func67 (by kernel_rfl) rfl #[.int .i64 a0_0] rfl (by (try simp only [List.map_toArray, List.map_cons, List.map_nil]); first | done | rfl | (simp only [List.length_drop, List.length_take]; rfl)) ?_; (with_reducible refine (spec_l7Gate.calls a0_0 true _ A5.out).mono ?_); rintro e w' ⟨rfl, ⟨nd, rfl⟩⟩; refine ⟨_, rfl, ?_⟩))
        go_meet
        case rel => exact ⟨_, (true), (by first | rfl | (simp; done) | (simp [*]; done)), H', ⟨by first | omega | exact Nat.le_refl _⟩, ⟨by (with_reducible repeat (first | refine blk_drewN ?_ _ | refine blk_drew ?_ | refine blk_alloc ?_ _)); exact BK325.out⟩, ⟨by repeat (first | (with_reducible first | exact HB.out | apply below_alloc | apply pw_below_drewN | apply below_drew1 | refine below_set ?_ GE325.out) | exact HB.out)⟩⟩
    · replace c6 := Bool.eq_false_iff.mpr c6
      subst c6
      have H1 : ((spec_l7Gate.f a0_0).bind fun t331 => (if t331 = true then ((spec_l7Src.f a0_2 a0_3 a0_4 a0_5 a0_6 a1).bind fun t332 => (spec_l7Wire.j0 k a1 (!t332) a0_0 a0_1 a0_2 a0_3 a0_4 a0_5 a0_6 a0_7 a0_8 a0_9 a0_10 a0_11)) else ((spec_l6N.f k a0_0 a0_1).bind fun t333 => (if t333 = true then ((spec_l7Src.f a0_2 a0_3 a0_4 a0_5 a0_6 a1).bind fun t334 => (spec_l7Wire.j0 k a1 (!t334) a0_0 a0_1 a0_2 a0_3 a0_4 a0_5 a0_6 a0_7 a0_8 a0_9 a0_10 a0_11)) else (spec_l7Wire.j0 k a1 true a0_0 a0_1 a0_2 a0_3 a0_4 a0_5 a0_6 a0_7 a0_8 a0_9 a0_10 a0_11))))) = some r := by rw [if_neg (show ¬ (false = true) by decide)] at H; exact H
      clear H
      have H := H1
      clear H1
      replace H := Option.bind_eq_some_iff.mp H
      obtain ⟨t331, A200, H⟩ := H
      replace H : (if t331 = true then ((spec_l7Src.f a0_2 a0_3 a0_4 a0_5 a0_6 a1).bind fun t332 => (spec_l7Wire.j0 k a1 (!t332) a0_0 a0_1 a0_2 a0_3 a0_4 a0_5 a0_6 a0_7 a0_8 a0_9 a0_10 a0_11)) else ((spec_l6N.f k a0_0 a0_1).bind fun t333 => (if t333 = true then ((spec_l7Src.f a0_2 a0_3 a0_4 a0_5 a0_6 a1).bind fun t334 => (spec_l7Wire.j0 k a1 (!t334) a0_0 a0_1 a0_2 a0_3 a0_4 a0_5 a0_6 a0_7 a0_8 a0_9 a0_10 a0_11)) else (spec_l7Wire.j0 k a1 true a0_0 a0_1 a0_2 a0_3 a0_4 a0_5 a0_6 a0_7 a0_8 a0_9 a0_10 a0_11)))) = some r := H
      have A20 := Aside0.mk A200
      clear A200
      by_cases c21 : t331 = true
      · subst c21
        have H1 : ((spec_l7Src.f a0_2 a0_3 a0_4 a0_5 a0_6 a1).bind fun t332 => (spec_l7Wire.j0 k a1 (!t332) a0_0 a0_1 a0_2 a0_3 a0_4 a0_5 a0_6 a0_7 a0_8 a0_9 a0_10 a0_11)) = some r := by rw [if_pos rfl] at H; exact H
        clear H
        have H := H1
        clear H1
        replace H := Option.bind_eq_some_iff.mp H
        obtain ⟨t332, A220, H⟩ := H
        replace H : (spec_l7Wire.j0 k a1 (!t332) a0_0 a0_1 a0_2 a0_3 a0_4 a0_5 a0_6 a0_7 a0_8 a0_9 a0_10 a0_11) = some r := H
        have A22 := Aside0.mk A220
        clear A220
        have H' := Aside0.mk H
        clear H
        have hcz23_0 : w4.cell? ⟨gb325, 0, none⟩ = some (.int .i64 a0_0) := (blk_cell BK325.out 0).trans rfl
        have hcz23_1 : w4.cell? ⟨gb325, 1, none⟩ = some (.int .i64 a0_1) := (blk_cell BK325.out 1).trans rfl
        have hcz23_2 : w4.cell? ⟨gb325, 2, none⟩ = some (.int .i64 a0_2) := (blk_cell BK325.out 2).trans rfl
        have hcz23_3 : w4.cell? ⟨gb325, 3, none⟩ = some (.int .i64 a0_3) := (blk_cell BK325.out 3).trans rfl
        have hcz23_4 : w4.cell? ⟨gb325, 4, none⟩ = some (.int .i64 a0_4) := (blk_cell BK325.out 4).trans rfl
        have hcz23_5 : w4.cell? ⟨gb325, 5, none⟩ = some (.int .i64 a0_5) := (blk_cell BK325.out 5).trans rfl
        have hcz23_6 : w4.cell? ⟨gb325, 6, none⟩ = some (.bool a0_6) := (blk_cell BK325.out 6).trans rfl
        have hcz23_7 : w4.cell? ⟨gb325, 7, none⟩ = some (.int .i64 a0_7) := (blk_cell BK325.out 7).trans rfl
        have hcz23_8 : w4.cell? ⟨gb325, 8, none⟩ = some (.int .i64 a0_8) := (blk_cell BK325.out 8).trans rfl
        have hcz23_9 : w4.cell? ⟨gb325, 9, none⟩ = some (.int .i64 a0_9) := (blk_cell BK325.out 9).trans rfl
        have hcz23_10 : w4.cell? ⟨gb325, 10, none⟩ = some (.int .i64 a0_10) := (blk_cell BK325.out 10).trans rfl
        have hcz23_11 : w4.cell? ⟨gb325, 11, none⟩ = some (.bool a0_11) := (blk_cell BK325.out 11).trans rfl
        have hfz23_0 := blk_frozen BK325.out 0
        have hfz23_1 := blk_frozen BK325.out 1
        have hfz23_2 := blk_frozen BK325.out 2
        have hfz23_3 := blk_frozen BK325.out 3
        have hfz23_4 := blk_frozen BK325.out 4
        have hfz23_5 := blk_frozen BK325.out 5
        have hfz23_6 := blk_frozen BK325.out 6
        have hfz23_7 := blk_frozen BK325.out 7
        have hfz23_8 := blk_frozen BK325.out 8
        have hfz23_9 := blk_frozen BK325.out 9
        have hfz23_10 := blk_frozen BK325.out 10
        have hfz23_11 := blk_frozen BK325.out 11
        go_wp2_with (first | ((with_reducible refine gate_callee (f := 67) rfl ?_); refine goesL_ (some 7) rfl rfl Tryz.func67 (by kernel_rfl) rfl #[.int .i64 a0_0] rfl (by (try simp only [List.map_toArray, List.map_cons, List.map_nil]); first | done | rfl | (simp only [List.length_drop, List.length_take]; rfl)) ?_; (with_reducible refine (spec_l7Gate.calls a0_0 false _ A5.out).mono ?_); rintro e w' ⟨rfl, ⟨nd, rfl⟩⟩; refine ⟨_, rfl, ?_⟩) | (go_at_call 67; (with_reducible refine (spec_l7Gate.calls a0_0 true _ A20.out).mono ?_); rintro e w' ⟨rfl, ⟨nd, rfl⟩⟩) | (go_at_call 69; (with_reducible refine (spec_l7Src.calls a0_2 a0_3 a0_4 a0_5 a0_6 a1 t332 _ A22.out).mono ?_); rintro e w24 ⟨rfl, hb⟩; have n0_ := Aside0.mk (blk_below (g := gb325) (o := .cells #[.int .i64 a0_0, .int .i64 a0_1, .int .i64 a0_2, .int .i64 a0_3, .int .i64 a0_4, .int .i64 a0_5, .bool a0_6, .int .i64 a0_7, .int .i64 a0_8, .int .i64 a0_9, .int .i64 a0_10, .bool a0_11] 43 (0, 0)) (by (with_reducible repeat (first | refine blk_drewN ?_ _ | refine blk_drew ?_ | refine blk_alloc ?_ _)); exact BK325.out) hb); have n1_ := Aside0.mk (below_step (by repeat (first | (with_reducible first | exact HB.out | apply below_alloc | apply pw_below_drewN | apply below_drew1 | refine below_set ?_ GE325.out) | exact HB.out)) hb); clear BK325; clear HB; have BK325 := n0_; have HB := n1_; clear n0_ n1_; (try clear hb); (try clear hb2); (try clear hk); (try clear hi)))
        go_meet
        case rel => exact ⟨_, (!t332), (by first | rfl | (simp; done) | (simp [*]; done)), H', ⟨by first | omega | exact Nat.le_refl _⟩, ⟨by (with_reducible repeat (first | refine blk_drewN ?_ _ | refine blk_drew ?_ | refine blk_alloc ?_ _)); exact BK325.out⟩, ⟨by repeat (first | (with_reducible first | exact HB.out | apply below_alloc | apply pw_below_drewN | apply below_drew1 | refine below_set ?_ GE325.out) | exact HB.out)⟩⟩
      · replace c21 := Bool.eq_false_iff.mpr c21
        subst c21
        have H1 : ((spec_l6N.f k a0_0 a0_1).bind fun t333 => (if t333 = true then ((spec_l7Src.f a0_2 a0_3 a0_4 a0_5 a0_6 a1).bind fun t334 => (spec_l7Wire.j0 k a1 (!t334) a0_0 a0_1 a0_2 a0_3 a0_4 a0_5 a0_6 a0_7 a0_8 a0_9 a0_10 a0_11)) else (spec_l7Wire.j0 k a1 true a0_0 a0_1 a0_2 a0_3 a0_4 a0_5 a0_6 a0_7 a0_8 a0_9 a0_10 a0_11))) = some r := by rw [if_neg (show ¬ (false = true) by decide)] at H; exact H
        clear H
        have H := H1
        clear H1
        replace H := Option.bind_eq_some_iff.mp H
        obtain ⟨t333, A250, H⟩ := H
        replace H : (if t333 = true then ((spec_l7Src.f a0_2 a0_3 a0_4 a0_5 a0_6 a1).bind fun t334 => (spec_l7Wire.j0 k a1 (!t334) a0_0 a0_1 a0_2 a0_3 a0_4 a0_5 a0_6 a0_7 a0_8 a0_9 a0_10 a0_11)) else (spec_l7Wire.j0 k a1 true a0_0 a0_1 a0_2 a0_3 a0_4 a0_5 a0_6 a0_7 a0_8 a0_9 a0_10 a0_11)) = some r := H
        have A25 := Aside0.mk A250
        clear A250
        by_cases c26 : t333 = true
        · subst c26
          have H1 : ((spec_l7Src.f a0_2 a0_3 a0_4 a0_5 a0_6 a1).bind fun t334 => (spec_l7Wire.j0 k a1 (!t334) a0_0 a0_1 a0_2 a0_3 a0_4 a0_5 a0_6 a0_7 a0_8 a0_9 a0_10 a0_11)) = some r := by rw [if_pos rfl] at H; exact H
          clear H
          have H := H1
          clear H1
          replace H := Option.bind_eq_some_iff.mp H
          obtain ⟨t334, A270, H⟩ := H
          replace H : (spec_l7Wire.j0 k a1 (!t334) a0_0 a0_1 a0_2 a0_3 a0_4 a0_5 a0_6 a0_7 a0_8 a0_9 a0_10 a0_11) = some r := H
          have A27 := Aside0.mk A270
          clear A270
          have H' := Aside0.mk H
          clear H
          have hcz28_0 : w4.cell? ⟨gb325, 0, none⟩ = some (.int .i64 a0_0) := (blk_cell BK325.out 0).trans rfl
          have hcz28_1 : w4.cell? ⟨gb325, 1, none⟩ = some (.int .i64 a0_1) := (blk_cell BK325.out 1).trans rfl
          have hcz28_2 : w4.cell? ⟨gb325, 2, none⟩ = some (.int .i64 a0_2) := (blk_cell BK325.out 2).trans rfl
          have hcz28_3 : w4.cell? ⟨gb325, 3, none⟩ = some (.int .i64 a0_3) := (blk_cell BK325.out 3).trans rfl
          have hcz28_4 : w4.cell? ⟨gb325, 4, none⟩ = some (.int .i64 a0_4) := (blk_cell BK325.out 4).trans rfl
          have hcz28_5 : w4.cell? ⟨gb325, 5, none⟩ = some (.int .i64 a0_5) := (blk_cell BK325.out 5).trans rfl
          have hcz28_6 : w4.cell? ⟨gb325, 6, none⟩ = some (.bool a0_6) := (blk_cell BK325.out 6).trans rfl
          have hcz28_7 : w4.cell? ⟨gb325, 7, none⟩ = some (.int .i64 a0_7) := (blk_cell BK325.out 7).trans rfl
          have hcz28_8 : w4.cell? ⟨gb325, 8, none⟩ = some (.int .i64 a0_8) := (blk_cell BK325.out 8).trans rfl
          have hcz28_9 : w4.cell? ⟨gb325, 9, none⟩ = some (.int .i64 a0_9) := (blk_cell BK325.out 9).trans rfl
          have hcz28_10 : w4.cell? ⟨gb325, 10, none⟩ = some (.int .i64 a0_10) := (blk_cell BK325.out 10).trans rfl
          have hcz28_11 : w4.cell? ⟨gb325, 11, none⟩ = some (.bool a0_11) := (blk_cell BK325.out 11).trans rfl
          have hfz28_0 := blk_frozen BK325.out 0
          have hfz28_1 := blk_frozen BK325.out 1
          have hfz28_2 := blk_frozen BK325.out 2
          have hfz28_3 := blk_frozen BK325.out 3
          have hfz28_4 := blk_frozen BK325.out 4
          have hfz28_5 := blk_frozen BK325.out 5
          have hfz28_6 := blk_frozen BK325.out 6
          have hfz28_7 := blk_frozen BK325.out 7
          have hfz28_8 := blk_frozen BK325.out 8
          have hfz28_9 := blk_frozen BK325.out 9
          have hfz28_10 := blk_frozen BK325.out 10
          have hfz28_11 := blk_frozen BK325.out 11
          go_wp2_with (first | ((with_reducible refine gate_callee (f := 67) rfl ?_); refine goesL_ (some 7) rfl rfl Tryz.func67 (by kernel_rfl) rfl #[.int .i64 a0_0] rfl (by (try simp only [List.map_toArray, List.map_cons, List.map_nil]); first | done | rfl | (simp only [List.length_drop, List.length_take]; rfl)) ?_; (with_reducible refine (spec_l7Gate.calls a0_0 false _ A5.out).mono ?_); rintro e w' ⟨rfl, ⟨nd, rfl⟩⟩; refine ⟨_, rfl, ?_⟩) | (go_at_call 67; (with_reducible refine (spec_l7Gate.calls a0_0 false _ A20.out).mono ?_); rintro e w' ⟨rfl, ⟨nd, rfl⟩⟩) | (go_at_call 68; (with_reducible refine (spec_l6N.calls k a0_0 a0_1 true _ A25.out).mono ?_); rintro e w' ⟨rfl, ⟨nd, rfl⟩⟩) | (go_at_call 69; (with_reducible refine (spec_l7Src.calls a0_2 a0_3 a0_4 a0_5 a0_6 a1 t334 _ A27.out).mono ?_); rintro e w29 ⟨rfl, hb⟩; have n0_ := Aside0.mk (blk_below (g := gb325) (o := .cells #[.int .i64 a0_0, .int .i64 a0_1, .int .i64 a0_2, .int .i64 a0_3, .int .i64 a0_4, .int .i64 a0_5, .bool a0_6, .int .i64 a0_7, .int .i64 a0_8, .int .i64 a0_9, .int .i64 a0_10, .bool a0_11] 43 (0, 0)) (by (with_reducible repeat (first | refine blk_drewN ?_ _ | refine blk_drew ?_ | refine blk_alloc ?_ _)); exact BK325.out) hb); have n1_ := Aside0.mk (below_step (by repeat (first | (with_reducible first | exact HB.out | apply below_alloc | apply pw_below_drewN | apply below_drew1 | refine below_set ?_ GE325.out) | exact HB.out)) hb); clear BK325; clear HB; have BK325 := n0_; have HB := n1_; clear n0_ n1_; (try clear hb); (try clear hb2); (try clear hk); (try clear hi)))
          go_meet
          case rel => exact ⟨_, (!t334), (by first | rfl | (simp; done) | (simp [*]; done)), H', ⟨by first | omega | exact Nat.le_refl _⟩, ⟨by (with_reducible repeat (first | refine blk_drewN ?_ _ | refine blk_drew ?_ | refine blk_alloc ?_ _)); exact BK325.out⟩, ⟨by repeat (first | (with_reducible first | exact HB.out | apply below_alloc | apply pw_below_drewN | apply below_drew1 | refine below_set ?_ GE325.out) | exact HB.out)⟩⟩
        · replace c26 := Bool.eq_false_iff.mpr c26
          subst c26
          have H1 : (spec_l7Wire.j0 k a1 true a0_0 a0_1 a0_2 a0_3 a0_4 a0_5 a0_6 a0_7 a0_8 a0_9 a0_10 a0_11) = some r := by rw [if_neg (show ¬ (false = true) by decide)] at H; exact H
          clear H
          have H := H1
          clear H1
          have H' := Aside0.mk H
          clear H
          have hcz30_0 : w4.cell? ⟨gb325, 0, none⟩ = some (.int .i64 a0_0) := (blk_cell BK325.out 0).trans rfl
          have hcz30_1 : w4.cell? ⟨gb325, 1, none⟩ = some (.int .i64 a0_1) := (blk_cell BK325.out 1).trans rfl
          have hcz30_2 : w4.cell? ⟨gb325, 2, none⟩ = some (.int .i64 a0_2) := (blk_cell BK325.out 2).trans rfl
          have hcz30_3 : w4.cell? ⟨gb325, 3, none⟩ = some (.int .i64 a0_3) := (blk_cell BK325.out 3).trans rfl
          have hcz30_4 : w4.cell? ⟨gb325, 4, none⟩ = some (.int .i64 a0_4) := (blk_cell BK325.out 4).trans rfl
          have hcz30_5 : w4.cell? ⟨gb325, 5, none⟩ = some (.int .i64 a0_5) := (blk_cell BK325.out 5).trans rfl
          have hcz30_6 : w4.cell? ⟨gb325, 6, none⟩ = some (.bool a0_6) := (blk_cell BK325.out 6).trans rfl
          have hcz30_7 : w4.cell? ⟨gb325, 7, none⟩ = some (.int .i64 a0_7) := (blk_cell BK325.out 7).trans rfl
          have hcz30_8 : w4.cell? ⟨gb325, 8, none⟩ = some (.int .i64 a0_8) := (blk_cell BK325.out 8).trans rfl
          have hcz30_9 : w4.cell? ⟨gb325, 9, none⟩ = some (.int .i64 a0_9) := (blk_cell BK325.out 9).trans rfl
          have hcz30_10 : w4.cell? ⟨gb325, 10, none⟩ = some (.int .i64 a0_10) := (blk_cell BK325.out 10).trans rfl
          have hcz30_11 : w4.cell? ⟨gb325, 11, none⟩ = some (.bool a0_11) := (blk_cell BK325.out 11).trans rfl
          have hfz30_0 := blk_frozen BK325.out 0
          have hfz30_1 := blk_frozen BK325.out 1
          have hfz30_2 := blk_frozen BK325.out 2
          have hfz30_3 := blk_frozen BK325.out 3
          have hfz30_4 := blk_frozen BK325.out 4
          have hfz30_5 := blk_frozen BK325.out 5
          have hfz30_6 := blk_frozen BK325.out 6
          have hfz30_7 := blk_frozen BK325.out 7
          have hfz30_8 := blk_frozen BK325.out 8
          have hfz30_9 := blk_frozen BK325.out 9
          have hfz30_10 := blk_frozen BK325.out 10
          have hfz30_11 := blk_frozen BK325.out 11
          go_wp2_with (first | ((with_reducible refine gate_callee (f := 67) rfl ?_); refine goesL_ (some 7) rfl rfl Tryz.func67 (by kernel_rfl) rfl #[.int .i64 a0_0] rfl (by (try simp only [List.map_toArray, List.map_cons, List.map_nil]); first | done | rfl | (simp only [List.length_drop, List.length_take]; rfl)) ?_; (with_reducible refine (spec_l7Gate.calls a0_0 false _ A5.out).mono ?_); rintro e w' ⟨rfl, ⟨nd, rfl⟩⟩; refine ⟨_, rfl, ?_⟩) | (go_at_call 67; (with_reducible refine (spec_l7Gate.calls a0_0 false _ A20.out).mono ?_); rintro e w' ⟨rfl, ⟨nd, rfl⟩⟩) | (go_at_call 68; (with_reducible refine (spec_l6N.calls k a0_0 a0_1 false _ A25.out).mono ?_); rintro e w' ⟨rfl, ⟨nd, rfl⟩⟩))
          go_meet
          case rel => exact ⟨_, (true), (by first | rfl | (simp; done) | (simp [*]; done)), H', ⟨by first | omega | exact Nat.le_refl _⟩, ⟨by (with_reducible repeat (first | refine blk_drewN ?_ _ | refine blk_drew ?_ | refine blk_alloc ?_ _)); exact BK325.out⟩, ⟨by repeat (first | (with_reducible first | exact HB.out | apply below_alloc | apply pw_below_drewN | apply below_drew1 | refine below_set ?_ GE325.out) | exact HB.out)⟩⟩
  case rest =>
    clear HC3
    try clear c1
    try clear c2
    try clear p2
    try clear c3
    try clear c6
    try clear c7
    try clear c7b0
    try clear c7b1
    try clear c9
    try clear c14
    try clear c21
    try clear c26
    try clear hcz11_0
    try clear hcz11_1
    try clear hcz11_10
    try clear hcz11_11
    try clear hcz11_2
    try clear hcz11_3
    try clear hcz11_4
    try clear hcz11_5
    try clear hcz11_6
    try clear hcz11_7
    try clear hcz11_8
    try clear hcz11_9
    try clear hcz16_0
    try clear hcz16_1
    try clear hcz16_10
    try clear hcz16_11
    try clear hcz16_2
    try clear hcz16_3
    try clear hcz16_4
    try clear hcz16_5
    try clear hcz16_6
    try clear hcz16_7
    try clear hcz16_8
    try clear hcz16_9
    try clear hcz18_0
    try clear hcz18_1
    try clear hcz18_10
    try clear hcz18_11
    try clear hcz18_2
    try clear hcz18_3
    try clear hcz18_4
    try clear hcz18_5
    try clear hcz18_6
    try clear hcz18_7
    try clear hcz18_8
    try clear hcz18_9
    try clear hcz19_0
    try clear hcz19_1
    try clear hcz19_10
    try clear hcz19_11
    try clear hcz19_2
    try clear hcz19_3
    try clear hcz19_4
    try clear hcz19_5
    try clear hcz19_6
    try clear hcz19_7
    try clear hcz19_8
    try clear hcz19_9
    try clear hcz23_0
    try clear hcz23_1
    try clear hcz23_10
    try clear hcz23_11
    try clear hcz23_2
    try clear hcz23_3
    try clear hcz23_4
    try clear hcz23_5
    try clear hcz23_6
    try clear hcz23_7
    try clear hcz23_8
    try clear hcz23_9
    try clear hcz28_0
    try clear hcz28_1
    try clear hcz28_10
    try clear hcz28_11
    try clear hcz28_2
    try clear hcz28_3
    try clear hcz28_4
    try clear hcz28_5
    try clear hcz28_6
    try clear hcz28_7
    try clear hcz28_8
    try clear hcz28_9
    try clear hcz30_0
    try clear hcz30_1
    try clear hcz30_10
    try clear hcz30_11
    try clear hcz30_2
    try clear hcz30_3
    try clear hcz30_4
    try clear hcz30_5
    try clear hcz30_6
    try clear hcz30_7
    try clear hcz30_8
    try clear hcz30_9
    try clear hfz11_0
    try clear hfz11_1
    try clear hfz11_10
    try clear hfz11_11
    try clear hfz11_2
    try clear hfz11_3
    try clear hfz11_4
    try clear hfz11_5
    try clear hfz11_6
    try clear hfz11_7
    try clear hfz11_8
    try clear hfz11_9
    try clear hfz16_0
    try clear hfz16_1
    try clear hfz16_10
    try clear hfz16_11
    try clear hfz16_2
    try clear hfz16_3
    try clear hfz16_4
    try clear hfz16_5
    try clear hfz16_6
    try clear hfz16_7
    try clear hfz16_8
    try clear hfz16_9
    try clear hfz18_0
    try clear hfz18_1
    try clear hfz18_10
    try clear hfz18_11
    try clear hfz18_2
    try clear hfz18_3
    try clear hfz18_4
    try clear hfz18_5
    try clear hfz18_6
    try clear hfz18_7
    try clear hfz18_8
    try clear hfz18_9
    try clear hfz19_0
    try clear hfz19_1
    try clear hfz19_10
    try clear hfz19_11
    try clear hfz19_2
    try clear hfz19_3
    try clear hfz19_4
    try clear hfz19_5
    try clear hfz19_6
    try clear hfz19_7
    try clear hfz19_8
    try clear hfz19_9
    try clear hfz23_0
    try clear hfz23_1
    try clear hfz23_10
    try clear hfz23_11
    try clear hfz23_2
    try clear hfz23_3
    try clear hfz23_4
    try clear hfz23_5
    try clear hfz23_6
    try clear hfz23_7
    try clear hfz23_8
    try clear hfz23_9
    try clear hfz28_0
    try clear hfz28_1
    try clear hfz28_10
    try clear hfz28_11
    try clear hfz28_2
    try clear hfz28_3
    try clear hfz28_4
    try clear hfz28_5
    try clear hfz28_6
    try clear hfz28_7
    try clear hfz28_8
    try clear hfz28_9
    try clear hfz30_0
    try clear hfz30_1
    try clear hfz30_10
    try clear hfz30_11
    try clear hfz30_2
    try clear hfz30_3
    try clear hfz30_4
    try clear hfz30_5
    try clear hfz30_6
    try clear hfz30_7
    try clear hfz30_8
    try clear hfz30_9
    obtain ⟨kq, x33_2, rfl, HA, HJ2, BK325, HB⟩ := hcut
    cases kq with
    | zero => exact absurd HA.out (by simp [spec_l7Wire.j0])
    | succ kj2 =>
      have H := HA.out
      clear HA
      simp only [spec_l7Wire.j0] at H
      by_cases c31 : x33_2 = true
      · subst c31
        have H1 : (some false) = some r := by rw [if_pos rfl] at H; exact H
        clear H
        have H := H1
        clear H1
        obtain rfl := Option.some.inj H
        go_wp2
        go_ret
        exact ⟨by first | rfl | (simp [errW_none, errW_some] <;> rfl) | (simp [*, errW_none, errW_some] <;> rfl), by repeat (first | (with_reducible first | exact HB.out | apply below_alloc | apply pw_below_drewN | apply below_drew1 | refine below_set ?_ GE325.out) | exact HB.out)⟩
      · replace c31 := Bool.eq_false_iff.mpr c31
        subst c31
        have H1 : ((spec_l7Two.f a0_0).bind fun t335 => (if t335 = true then ((spec_l7Src.f a0_7 a0_8 a0_9 a0_10 a0_11 a1).bind fun t336 => (some t336)) else (some (a0_7 == 0 && (a0_8 == 0 && ((a0_9 == 0 && (a0_10 == 0)) && (!a0_11))))))) = some r := by rw [if_neg (show ¬ (false = true) by decide)] at H; exact H
        clear H
        have H := H1
        clear H1
        replace H := Option.bind_eq_some_iff.mp H
        obtain ⟨t335, A320, H⟩ := H
        replace H : (if t335 = true then ((spec_l7Src.f a0_7 a0_8 a0_9 a0_10 a0_11 a1).bind fun t336 => (some t336)) else (some (a0_7 == 0 && (a0_8 == 0 && ((a0_9 == 0 && (a0_10 == 0)) && (!a0_11)))))) = some r := H
        have A32 := Aside0.mk A320
        clear A320
        by_cases c33 : t335 = true
        · subst c33
          have H1 : ((spec_l7Src.f a0_7 a0_8 a0_9 a0_10 a0_11 a1).bind fun t336 => (some t336)) = some r := by rw [if_pos rfl] at H; exact H
          clear H
          have H := H1
          clear H1
          replace H := Option.bind_eq_some_iff.mp H
          obtain ⟨t336, A340, H⟩ := H
          replace H : (some t336) = some r := H
          have A34 := Aside0.mk A340
          clear A340
          obtain rfl := Option.some.inj H
          have hcz35_0 : wc.cell? ⟨gb325, 0, none⟩ = some (.int .i64 a0_0) := (blk_cell BK325.out 0).trans rfl
          have hcz35_1 : wc.cell? ⟨gb325, 1, none⟩ = some (.int .i64 a0_1) := (blk_cell BK325.out 1).trans rfl
          have hcz35_2 : wc.cell? ⟨gb325, 2, none⟩ = some (.int .i64 a0_2) := (blk_cell BK325.out 2).trans rfl
          have hcz35_3 : wc.cell? ⟨gb325, 3, none⟩ = some (.int .i64 a0_3) := (blk_cell BK325.out 3).trans rfl
          have hcz35_4 : wc.cell? ⟨gb325, 4, none⟩ = some (.int .i64 a0_4) := (blk_cell BK325.out 4).trans rfl
          have hcz35_5 : wc.cell? ⟨gb325, 5, none⟩ = some (.int .i64 a0_5) := (blk_cell BK325.out 5).trans rfl
          have hcz35_6 : wc.cell? ⟨gb325, 6, none⟩ = some (.bool a0_6) := (blk_cell BK325.out 6).trans rfl
          have hcz35_7 : wc.cell? ⟨gb325, 7, none⟩ = some (.int .i64 a0_7) := (blk_cell BK325.out 7).trans rfl
          have hcz35_8 : wc.cell? ⟨gb325, 8, none⟩ = some (.int .i64 a0_8) := (blk_cell BK325.out 8).trans rfl
          have hcz35_9 : wc.cell? ⟨gb325, 9, none⟩ = some (.int .i64 a0_9) := (blk_cell BK325.out 9).trans rfl
          have hcz35_10 : wc.cell? ⟨gb325, 10, none⟩ = some (.int .i64 a0_10) := (blk_cell BK325.out 10).trans rfl
          have hcz35_11 : wc.cell? ⟨gb325, 11, none⟩ = some (.bool a0_11) := (blk_cell BK325.out 11).trans rfl
          have hfz35_0 := blk_frozen BK325.out 0
          have hfz35_1 := blk_frozen BK325.out 1
          have hfz35_2 := blk_frozen BK325.out 2
          have hfz35_3 := blk_frozen BK325.out 3
          have hfz35_4 := blk_frozen BK325.out 4
          have hfz35_5 := blk_frozen BK325.out 5
          have hfz35_6 := blk_frozen BK325.out 6
          have hfz35_7 := blk_frozen BK325.out 7
          have hfz35_8 := blk_frozen BK325.out 8
          have hfz35_9 := blk_frozen BK325.out 9
          have hfz35_10 := blk_frozen BK325.out 10
          have hfz35_11 := blk_frozen BK325.out 11
          go_wp2_with (first | ((with_reducible refine gate_callee (f := 70) rfl ?_); refine goesL_ (some 36) rfl rfl Tryz.func70 (by kernel_rfl) rfl #[.int .i64 a0_0] rfl (by (try simp only [List.map_toArray, List.map_cons, List.map_nil]); first | done | rfl | (simp only [List.length_drop, List.length_take]; rfl)) ?_; (with_reducible refine (spec_l7Two.calls a0_0 true _ A32.out).mono ?_); rintro e w' ⟨rfl, ⟨nd, rfl⟩⟩; refine ⟨_, rfl, ?_⟩) | ((with_reducible refine gate_callee (f := 69) rfl ?_); refine goesL_ (some 40) rfl rfl Tryz.func69 (by kernel_rfl) rfl #[.agg #[.int .i64 a0_7, .int .i64 a0_8, .int .i64 a0_9, .int .i64 a0_10, .bool a0_11], .int .i64 a1] rfl (by (try simp only [List.map_toArray, List.map_cons, List.map_nil]); first | done | rfl | (simp only [List.length_drop, List.length_take]; rfl)) ?_; (with_reducible refine (spec_l7Src.calls a0_7 a0_8 a0_9 a0_10 a0_11 a1 t336 _ A34.out).mono ?_); rintro e w36 ⟨rfl, hb⟩; refine ⟨_, rfl, ?_⟩; have n0_ := Aside0.mk (blk_below (g := gb325) (o := .cells #[.int .i64 a0_0, .int .i64 a0_1, .int .i64 a0_2, .int .i64 a0_3, .int .i64 a0_4, .int .i64 a0_5, .bool a0_6, .int .i64 a0_7, .int .i64 a0_8, .int .i64 a0_9, .int .i64 a0_10, .bool a0_11] 43 (0, 0)) (by (with_reducible repeat (first | refine blk_drewN ?_ _ | refine blk_drew ?_ | refine blk_alloc ?_ _)); exact BK325.out) hb); have n1_ := Aside0.mk (below_step (by repeat (first | (with_reducible first | exact HB.out | apply below_alloc | apply pw_below_drewN | apply below_drew1 | refine below_set ?_ GE325.out) | exact HB.out)) hb); clear BK325; clear HB; have BK325 := n0_; have HB := n1_; clear n0_ n1_; (try clear hb); (try clear hb2); (try clear hk); (try clear hi)))
          go_ret
          exact ⟨by first | rfl | (simp [errW_none, errW_some] <;> rfl) | (simp [*, errW_none, errW_some] <;> rfl), by repeat (first | (with_reducible first | exact HB.out | apply below_alloc | apply pw_below_drewN | apply below_drew1 | refine below_set ?_ GE325.out) | exact HB.out)⟩
        · replace c33 := Bool.eq_false_iff.mpr c33
          subst c33
          have H1 : (some (a0_7 == 0 && (a0_8 == 0 && ((a0_9 == 0 && (a0_10 == 0)) && (!a0_11))))) = some r := by rw [if_neg (show ¬ (false = true) by decide)] at H; exact H
          clear H
          have H := H1
          clear H1
          obtain rfl := Option.some.inj H
          have hcz37_0 : wc.cell? ⟨gb325, 0, none⟩ = some (.int .i64 a0_0) := (blk_cell BK325.out 0).trans rfl
          have hcz37_1 : wc.cell? ⟨gb325, 1, none⟩ = some (.int .i64 a0_1) := (blk_cell BK325.out 1).trans rfl
          have hcz37_2 : wc.cell? ⟨gb325, 2, none⟩ = some (.int .i64 a0_2) := (blk_cell BK325.out 2).trans rfl
          have hcz37_3 : wc.cell? ⟨gb325, 3, none⟩ = some (.int .i64 a0_3) := (blk_cell BK325.out 3).trans rfl
          have hcz37_4 : wc.cell? ⟨gb325, 4, none⟩ = some (.int .i64 a0_4) := (blk_cell BK325.out 4).trans rfl
          have hcz37_5 : wc.cell? ⟨gb325, 5, none⟩ = some (.int .i64 a0_5) := (blk_cell BK325.out 5).trans rfl
          have hcz37_6 : wc.cell? ⟨gb325, 6, none⟩ = some (.bool a0_6) := (blk_cell BK325.out 6).trans rfl
          have hcz37_7 : wc.cell? ⟨gb325, 7, none⟩ = some (.int .i64 a0_7) := (blk_cell BK325.out 7).trans rfl
          have hcz37_8 : wc.cell? ⟨gb325, 8, none⟩ = some (.int .i64 a0_8) := (blk_cell BK325.out 8).trans rfl
          have hcz37_9 : wc.cell? ⟨gb325, 9, none⟩ = some (.int .i64 a0_9) := (blk_cell BK325.out 9).trans rfl
          have hcz37_10 : wc.cell? ⟨gb325, 10, none⟩ = some (.int .i64 a0_10) := (blk_cell BK325.out 10).trans rfl
          have hcz37_11 : wc.cell? ⟨gb325, 11, none⟩ = some (.bool a0_11) := (blk_cell BK325.out 11).trans rfl
          have hfz37_0 := blk_frozen BK325.out 0
          have hfz37_1 := blk_frozen BK325.out 1
          have hfz37_2 := blk_frozen BK325.out 2
          have hfz37_3 := blk_frozen BK325.out 3
          have hfz37_4 := blk_frozen BK325.out 4
          have hfz37_5 := blk_frozen BK325.out 5
          have hfz37_6 := blk_frozen BK325.out 6
          have hfz37_7 := blk_frozen BK325.out 7
          have hfz37_8 := blk_frozen BK325.out 8
          have hfz37_9 := blk_frozen BK325.out 9
          have hfz37_10 := blk_frozen BK325.out 10
          have hfz37_11 := blk_frozen BK325.out 11
          go_wp2_with (first | ((with_reducible refine gate_callee (f := 70) rfl ?_); refine goesL_ (some 36) rfl rfl Tryz.func70 (by kernel_rfl) rfl #[.int .i64 a0_0] rfl (by (try simp only [List.map_toArray, List.map_cons, List.map_nil]); first | done | rfl | (simp only [List.length_drop, List.length_take]; rfl)) ?_; (with_reducible refine (spec_l7Two.calls a0_0 false _ A32.out).mono ?_); rintro e w' ⟨rfl, ⟨nd, rfl⟩⟩; refine ⟨_, rfl, ?_⟩))
          go_ret
          exact ⟨by first | rfl | (simp [errW_none, errW_some] <;> rfl) | (simp [*, errW_none, errW_some] <;> rfl), by repeat (first | (with_reducible first | exact HB.out | apply below_alloc | apply pw_below_drewN | apply below_drew1 | refine below_set ?_ GE325.out) | exact HB.out)⟩

/-! ### spec_l7Waits: function 71 -/
def spec_l7Waits.f (a0_0 : Int) (a0_1 : Int) (a0_2 : Int) (a0_3 : Int) (a0_4 : Int) (a0_5 : Int) (a0_6 : Bool) (a0_7 : Int) (a0_8 : Int) (a0_9 : Int) (a0_10 : Int) (a0_11 : Bool) (l1 : List Bool) : Option (Bool) := if a0_2 = 2 then (if 0 ≤ a0_3 then (if a0_3 < (l1.length : Int) then (if rdOf false l1 a0_3 = true then (if a0_7 = 2 then (if 0 ≤ a0_8 then (if a0_8 < (l1.length : Int) then (some (!(rdOf false l1 a0_8))) else (none)) else (none)) else (some false)) else (some true)) else (none)) else (none)) else (if a0_7 = 2 then (if 0 ≤ a0_8 then (if a0_8 < (l1.length : Int) then (some (!(rdOf false l1 a0_8))) else (none)) else (none)) else (some false))
set_option maxHeartbeats 8000000 in
set_option maxRecDepth 100000 in
theorem spec_l7Waits.calls (a0_0 : Int) (a0_1 : Int) (a0_2 : Int) (a0_3 : Int) (a0_4 : Int) (a0_5 : Int) (a0_6 : Bool) (a0_7 : Int) (a0_8 : Int) (a0_9 : Int) (a0_10 : Int) (a0_11 : Bool) (A1 : Option Addr) (c1 : Nat) (l1 : List Bool) (r : Bool) (w : World) (hr1 : Kd.C Kd.bool w A1 l1.length l1) (hc1 : l1.length ≤ c1) (h : spec_l7Waits.f a0_0 a0_1 a0_2 a0_3 a0_4 a0_5 a0_6 a0_7 a0_8 a0_9 a0_10 a0_11 l1 = some r) :
    Calls Tryz.prog 71 #[.agg #[.int .i64 a0_0, .int .i64 a0_1, .int .i64 a0_2, .int .i64 a0_3, .int .i64 a0_4, .int .i64 a0_5, .bool a0_6, .int .i64 a0_7, .int .i64 a0_8, .int .i64 a0_9, .int .i64 a0_10, .bool a0_11], .slice A1 l1.length c1] w fun e w' => e = .returned (.bool r) ∧ Below w.heap.size w w' := by
  have hu43 := Tryz.underlying43
  have HR1 := Aside0.mk hr1
  have HC1 := Aside0.mk hc1
  clear hr1 hc1
  have HB := Aside0.mk (Below.refl w.heap.size w)
  have H : (if a0_2 = 2 then (if 0 ≤ a0_3 then (if a0_3 < (l1.length : Int) then (if rdOf false l1 a0_3 = true then (if a0_7 = 2 then (if 0 ≤ a0_8 then (if a0_8 < (l1.length : Int) then (some (!(rdOf false l1 a0_8))) else (none)) else (none)) else (some false)) else (some true)) else (none)) else (none)) else (if a0_7 = 2 then (if 0 ≤ a0_8 then (if a0_8 < (l1.length : Int) then (some (!(rdOf false l1 a0_8))) else (none)) else (none)) else (some false))) = some r := h
  clear h
  by_cases c3 : a0_2 = 2
  · rw [if_pos c3] at H
    have c3b0 : (a0_2 == 2) = true := beq_iff_eq.mpr c3
    have c3b1 : (a0_2 != 2) = false := bne_eq_false_iff_eq.mpr c3
    clear c3
    by_cases c4 : 0 ≤ a0_3
    · rw [if_pos c4] at H
      have c4b0 : decide (0 ≤ a0_3) = true := decide_eq_true c4
      clear c4
      by_cases c5 : a0_3 < (l1.length : Int)
      · rw [if_pos c5] at H
        have c5b0 : decide (a0_3 < (l1.length : Int)) = true := decide_eq_true c5
        clear c5
        obtain ⟨bq6, hbq6⟩ : ∃ b_ : Bool, b_ = (rdOf false l1 a0_3) := ⟨_, rfl⟩
        replace H : (if bq6 = true then (if a0_7 = 2 then (if 0 ≤ a0_8 then (if a0_8 < (l1.length : Int) then (some (!(rdOf false l1 a0_8))) else (none)) else (none)) else (some false)) else (some true)) = some r := by rw [← hbq6] at H; exact H
        have Nbq6 := Aside0.mk hbq6
        clear hbq6
        by_cases c7 : bq6 = true
        · subst c7
          have H1 : (if a0_7 = 2 then (if 0 ≤ a0_8 then (if a0_8 < (l1.length : Int) then (some (!(rdOf false l1 a0_8))) else (none)) else (none)) else (some false)) = some r := by rw [if_pos rfl] at H; exact H
          clear H
          have H := H1
          clear H1
          by_cases c8 : a0_7 = 2
          · rw [if_pos c8] at H
            have c8b0 : (a0_7 == 2) = true := beq_iff_eq.mpr c8
            have c8b1 : (a0_7 != 2) = false := bne_eq_false_iff_eq.mpr c8
            clear c8
            by_cases c9 : 0 ≤ a0_8
            · rw [if_pos c9] at H
              have c9b0 : decide (0 ≤ a0_8) = true := decide_eq_true c9
              clear c9
              by_cases c10 : a0_8 < (l1.length : Int)
              · rw [if_pos c10] at H
                have c10b0 : decide (a0_8 < (l1.length : Int)) = true := decide_eq_true c10
                clear c10
                obtain rfl := Option.some.inj H
                go_enter Tryz.func71, Tryz.ntmps71
                go_wp2_with (first | ((with_reducible refine gate_dst (N := 2) rfl ?_); refine box_event ?hg (N := 2) ?hd (cs := #[.int .i64 a0_0, .int .i64 a0_1, .int .i64 a0_2, .int .i64 a0_3, .int .i64 a0_4, .int .i64 a0_5, .bool a0_6, .int .i64 a0_7, .int .i64 a0_8, .int .i64 a0_9, .int .i64 a0_10, .bool a0_11]) (t := 43) ?hr ?_; (case hd => rfl); (case hg => rfl); (case hr => first | (go_simp; done) | (go_simp; rfl)); intro gb337 hg w11 hbox hb; have n0_ := Aside0.mk (below_step (by repeat (first | (with_reducible first | exact HB.out | apply below_alloc | apply pw_below_drewN | apply below_drew1) | exact HB.out)) hb); have n1_ := Aside0.mk (hbox); have n2_ := Aside0.mk ((by rw [hg]; exact (below_size (by repeat (first | (with_reducible first | exact HB.out | apply below_alloc | apply pw_below_drewN | apply below_drew1) | exact HB.out))) : w.heap.size ≤ gb337)); have n3_ := Aside0.mk ((by rw [hg]; exact (below_size (by repeat (first | (with_reducible first | exact HB.out | apply below_alloc | apply pw_below_drewN | apply below_drew1) | exact HB.out))) : w.heap.size ≤ gb337)); clear HB; have HB := n0_; have BK337 := n1_; have GW337 := n2_; have GE337 := n3_; clear n0_ n1_ n2_ n3_; clear hb hbox hg; have hcz12_0 : w11.cell? ⟨gb337, 0, none⟩ = some (.int .i64 a0_0) := (blk_cell BK337.out 0).trans rfl; have hcz12_1 : w11.cell? ⟨gb337, 1, none⟩ = some (.int .i64 a0_1) := (blk_cell BK337.out 1).trans rfl; have hcz12_2 : w11.cell? ⟨gb337, 2, none⟩ = some (.int .i64 a0_2) := (blk_cell BK337.out 2).trans rfl; have hcz12_3 : w11.cell? ⟨gb337, 3, none⟩ = some (.int .i64 a0_3) := (blk_cell BK337.out 3).trans rfl; have hcz12_4 : w11.cell? ⟨gb337, 4, none⟩ = some (.int .i64 a0_4) := (blk_cell BK337.out 4).trans rfl; have hcz12_5 : w11.cell? ⟨gb337, 5, none⟩ = some (.int .i64 a0_5) := (blk_cell BK337.out 5).trans rfl; have hcz12_6 : w11.cell? ⟨gb337, 6, none⟩ = some (.bool a0_6) := (blk_cell BK337.out 6).trans rfl; have hcz12_7 : w11.cell? ⟨gb337, 7, none⟩ = some (.int .i64 a0_7) := (blk_cell BK337.out 7).trans rfl; have hcz12_8 : w11.cell? ⟨gb337, 8, none⟩ = some (.int .i64 a0_8) := (blk_cell BK337.out 8).trans rfl; have hcz12_9 : w11.cell? ⟨gb337, 9, none⟩ = some (.int .i64 a0_9) := (blk_cell BK337.out 9).trans rfl; have hcz12_10 : w11.cell? ⟨gb337, 10, none⟩ = some (.int .i64 a0_10) := (blk_cell BK337.out 10).trans rfl; have hcz12_11 : w11.cell? ⟨gb337, 11, none⟩ = some (.bool a0_11) := (blk_cell BK337.out 11).trans rfl; have hfz12_0 := blk_frozen BK337.out 0; have hfz12_1 := blk_frozen BK337.out 1; have hfz12_2 := blk_frozen BK337.out 2; have hfz12_3 := blk_frozen BK337.out 3; have hfz12_4 := blk_frozen BK337.out 4; have hfz12_5 := blk_frozen BK337.out 5; have hfz12_6 := blk_frozen BK337.out 6; have hfz12_7 := blk_frozen BK337.out 7; have hfz12_8 := blk_frozen BK337.out 8; have hfz12_9 := blk_frozen BK337.out 9; have hfz12_10 := blk_frozen BK337.out 10; have hfz12_11 := blk_frozen BK337.out 11; have p338 : 0 ≤ (a0_3 : Int) := of_decide_eq_true (by first | (with_reducible assumption) | assumption); have q338 : a0_3 < (l1.length : Int) := of_decide_eq_true (by first | (with_reducible assumption) | assumption); obtain ⟨ad338, e338, hx338_0⟩ := Kd.at_bool HR1.out a0_3 p338 q338; (try rw [← Nbq6.out] at hx338_0); cases e338; replace hx338_0 := (HB.out.cell (World.block_lt_of_cell? w _ hx338_0)).trans hx338_0; replace p338 := eq_true p338; replace q338 := eq_true q338; have p339 : 0 ≤ (a0_8 : Int) := of_decide_eq_true (by first | (with_reducible assumption) | assumption); have q339 : a0_8 < (l1.length : Int) := of_decide_eq_true (by first | (with_reducible assumption) | assumption); obtain ⟨ad339, e339, hx339_0⟩ := Kd.at_bool HR1.out a0_8 p339 q339; (try rw [← Nbq6.out] at hx339_0); obtain rfl : ad338 = ad339 := (by injection e339); replace hx339_0 := (HB.out.cell (World.block_lt_of_cell? w _ hx339_0)).trans hx339_0; replace p339 := eq_true p339; replace q339 := eq_true q339))
                go_ret
                exact ⟨by first | rfl | (simp [errW_none, errW_some] <;> rfl) | (simp [*, errW_none, errW_some] <;> rfl), by repeat (first | (with_reducible first | exact HB.out | apply below_alloc | apply pw_below_drewN | apply below_drew1 | refine below_set ?_ GE337.out) | exact HB.out)⟩
              · rw [if_neg c10] at H
                exact absurd H (by simp)
            · rw [if_neg c9] at H
              exact absurd H (by simp)
          · rw [if_neg c8] at H
            have c8b0 : (a0_7 == 2) = false := beq_eq_false_iff_ne.mpr c8
            have c8b1 : (a0_7 != 2) = true := bne_iff_ne.mpr c8
            obtain rfl := Option.some.inj H
            go_enter Tryz.func71, Tryz.ntmps71
            go_wp2_with (first | ((with_reducible refine gate_dst (N := 2) rfl ?_); refine box_event ?hg (N := 2) ?hd (cs := #[.int .i64 a0_0, .int .i64 a0_1, .int .i64 a0_2, .int .i64 a0_3, .int .i64 a0_4, .int .i64 a0_5, .bool a0_6, .int .i64 a0_7, .int .i64 a0_8, .int .i64 a0_9, .int .i64 a0_10, .bool a0_11]) (t := 43) ?hr ?_; (case hd => rfl); (case hg => rfl); (case hr => first | (go_simp; done) | (go_simp; rfl)); intro gb337 hg w13 hbox hb; have n0_ := Aside0.mk (below_step (by repeat (first | (with_reducible first | exact HB.out | apply below_alloc | apply pw_below_drewN | apply below_drew1) | exact HB.out)) hb); have n1_ := Aside0.mk (hbox); have n2_ := Aside0.mk ((by rw [hg]; exact (below_size (by repeat (first | (with_reducible first | exact HB.out | apply below_alloc | apply pw_below_drewN | apply below_drew1) | exact HB.out))) : w.heap.size ≤ gb337)); have n3_ := Aside0.mk ((by rw [hg]; exact (below_size (by repeat (first | (with_reducible first | exact HB.out | apply below_alloc | apply pw_below_drewN | apply below_drew1) | exact HB.out))) : w.heap.size ≤ gb337)); clear HB; have HB := n0_; have BK337 := n1_; have GW337 := n2_; have GE337 := n3_; clear n0_ n1_ n2_ n3_; clear hb hbox hg; have hcz14_0 : w13.cell? ⟨gb337, 0, none⟩ = some (.int .i64 a0_0) := (blk_cell BK337.out 0).trans rfl; have hcz14_1 : w13.cell? ⟨gb337, 1, none⟩ = some (.int .i64 a0_1) := (blk_cell BK337.out 1).trans rfl; have hcz14_2 : w13.cell? ⟨gb337, 2, none⟩ = some (.int .i64 a0_2) := (blk_cell BK337.out 2).trans rfl; have hcz14_3 : w13.cell? ⟨gb337, 3, none⟩ = some (.int .i64 a0_3) := (blk_cell BK337.out 3).trans rfl; have hcz14_4 : w13.cell? ⟨gb337, 4, none⟩ = some (.int .i64 a0_4) := (blk_cell BK337.out 4).trans rfl; have hcz14_5 : w13.cell? ⟨gb337, 5, none⟩ = some (.int .i64 a0_5) := (blk_cell BK337.out 5).trans rfl; have hcz14_6 : w13.cell? ⟨gb337, 6, none⟩ = some (.bool a0_6) := (blk_cell BK337.out 6).trans rfl; have hcz14_7 : w13.cell? ⟨gb337, 7, none⟩ = some (.int .i64 a0_7) := (blk_cell BK337.out 7).trans rfl; have hcz14_8 : w13.cell? ⟨gb337, 8, none⟩ = some (.int .i64 a0_8) := (blk_cell BK337.out 8).trans rfl; have hcz14_9 : w13.cell? ⟨gb337, 9, none⟩ = some (.int .i64 a0_9) := (blk_cell BK337.out 9).trans rfl; have hcz14_10 : w13.cell? ⟨gb337, 10, none⟩ = some (.int .i64 a0_10) := (blk_cell BK337.out 10).trans rfl; have hcz14_11 : w13.cell? ⟨gb337, 11, none⟩ = some (.bool a0_11) := (blk_cell BK337.out 11).trans rfl; have hfz14_0 := blk_frozen BK337.out 0; have hfz14_1 := blk_frozen BK337.out 1; have hfz14_2 := blk_frozen BK337.out 2; have hfz14_3 := blk_frozen BK337.out 3; have hfz14_4 := blk_frozen BK337.out 4; have hfz14_5 := blk_frozen BK337.out 5; have hfz14_6 := blk_frozen BK337.out 6; have hfz14_7 := blk_frozen BK337.out 7; have hfz14_8 := blk_frozen BK337.out 8; have hfz14_9 := blk_frozen BK337.out 9; have hfz14_10 := blk_frozen BK337.out 10; have hfz14_11 := blk_frozen BK337.out 11; have p338 : 0 ≤ (a0_3 : Int) := of_decide_eq_true (by first | (with_reducible assumption) | assumption); have q338 : a0_3 < (l1.length : Int) := of_decide_eq_true (by first | (with_reducible assumption) | assumption); obtain ⟨ad338, e338, hx338_0⟩ := Kd.at_bool HR1.out a0_3 p338 q338; (try rw [← Nbq6.out] at hx338_0); cases e338; replace hx338_0 := (HB.out.cell (World.block_lt_of_cell? w _ hx338_0)).trans hx338_0; replace p338 := eq_true p338; replace q338 := eq_true q338))
            go_ret
            exact ⟨by first | rfl | (simp [errW_none, errW_some] <;> rfl) | (simp [*, errW_none, errW_some] <;> rfl), by repeat (first | (with_reducible first | exact HB.out | apply below_alloc | apply pw_below_drewN | apply below_drew1 | refine below_set ?_ GE337.out) | exact HB.out)⟩
        · replace c7 := Bool.eq_false_iff.mpr c7
          subst c7
          have H1 : (some true) = some r := by rw [if_neg (show ¬ (false = true) by decide)] at H; exact H
          clear H
          have H := H1
          clear H1
          obtain rfl := Option.some.inj H
          go_enter Tryz.func71, Tryz.ntmps71
          go_wp2_with (first | ((with_reducible refine gate_dst (N := 2) rfl ?_); refine box_event ?hg (N := 2) ?hd (cs := #[.int .i64 a0_0, .int .i64 a0_1, .int .i64 a0_2, .int .i64 a0_3, .int .i64 a0_4, .int .i64 a0_5, .bool a0_6, .int .i64 a0_7, .int .i64 a0_8, .int .i64 a0_9, .int .i64 a0_10, .bool a0_11]) (t := 43) ?hr ?_; (case hd => rfl); (case hg => rfl); (case hr => first | (go_simp; done) | (go_simp; rfl)); intro gb337 hg w15 hbox hb; have n0_ := Aside0.mk (below_step (by repeat (first | (with_reducible first | exact HB.out | apply below_alloc | apply pw_below_drewN | apply below_drew1) | exact HB.out)) hb); have n1_ := Aside0.mk (hbox); have n2_ := Aside0.mk ((by rw [hg]; exact (below_size (by repeat (first | (with_reducible first | exact HB.out | apply below_alloc | apply pw_below_drewN | apply below_drew1) | exact HB.out))) : w.heap.size ≤ gb337)); have n3_ := Aside0.mk ((by rw [hg]; exact (below_size (by repeat (first | (with_reducible first | exact HB.out | apply below_alloc | apply pw_below_drewN | apply below_drew1) | exact HB.out))) : w.heap.size ≤ gb337)); clear HB; have HB := n0_; have BK337 := n1_; have GW337 := n2_; have GE337 := n3_; clear n0_ n1_ n2_ n3_; clear hb hbox hg; have hcz16_0 : w15.cell? ⟨gb337, 0, none⟩ = some (.int .i64 a0_0) := (blk_cell BK337.out 0).trans rfl; have hcz16_1 : w15.cell? ⟨gb337, 1, none⟩ = some (.int .i64 a0_1) := (blk_cell BK337.out 1).trans rfl; have hcz16_2 : w15.cell? ⟨gb337, 2, none⟩ = some (.int .i64 a0_2) := (blk_cell BK337.out 2).trans rfl; have hcz16_3 : w15.cell? ⟨gb337, 3, none⟩ = some (.int .i64 a0_3) := (blk_cell BK337.out 3).trans rfl; have hcz16_4 : w15.cell? ⟨gb337, 4, none⟩ = some (.int .i64 a0_4) := (blk_cell BK337.out 4).trans rfl; have hcz16_5 : w15.cell? ⟨gb337, 5, none⟩ = some (.int .i64 a0_5) := (blk_cell BK337.out 5).trans rfl; have hcz16_6 : w15.cell? ⟨gb337, 6, none⟩ = some (.bool a0_6) := (blk_cell BK337.out 6).trans rfl; have hcz16_7 : w15.cell? ⟨gb337, 7, none⟩ = some (.int .i64 a0_7) := (blk_cell BK337.out 7).trans rfl; have hcz16_8 : w15.cell? ⟨gb337, 8, none⟩ = some (.int .i64 a0_8) := (blk_cell BK337.out 8).trans rfl; have hcz16_9 : w15.cell? ⟨gb337, 9, none⟩ = some (.int .i64 a0_9) := (blk_cell BK337.out 9).trans rfl; have hcz16_10 : w15.cell? ⟨gb337, 10, none⟩ = some (.int .i64 a0_10) := (blk_cell BK337.out 10).trans rfl; have hcz16_11 : w15.cell? ⟨gb337, 11, none⟩ = some (.bool a0_11) := (blk_cell BK337.out 11).trans rfl; have hfz16_0 := blk_frozen BK337.out 0; have hfz16_1 := blk_frozen BK337.out 1; have hfz16_2 := blk_frozen BK337.out 2; have hfz16_3 := blk_frozen BK337.out 3; have hfz16_4 := blk_frozen BK337.out 4; have hfz16_5 := blk_frozen BK337.out 5; have hfz16_6 := blk_frozen BK337.out 6; have hfz16_7 := blk_frozen BK337.out 7; have hfz16_8 := blk_frozen BK337.out 8; have hfz16_9 := blk_frozen BK337.out 9; have hfz16_10 := blk_frozen BK337.out 10; have hfz16_11 := blk_frozen BK337.out 11; have p338 : 0 ≤ (a0_3 : Int) := of_decide_eq_true (by first | (with_reducible assumption) | assumption); have q338 : a0_3 < (l1.length : Int) := of_decide_eq_true (by first | (with_reducible assumption) | assumption); obtain ⟨ad338, e338, hx338_0⟩ := Kd.at_bool HR1.out a0_3 p338 q338; (try rw [← Nbq6.out] at hx338_0); cases e338; replace hx338_0 := (HB.out.cell (World.block_lt_of_cell? w _ hx338_0)).trans hx338_0; replace p338 := eq_true p338; replace q338 := eq_true q338))
          go_ret
          exact ⟨by first | rfl | (simp [errW_none, errW_some] <;> rfl) | (simp [*, errW_none, errW_some] <;> rfl), by repeat (first | (with_reducible first | exact HB.out | apply below_alloc | apply pw_below_drewN | apply below_drew1 | refine below_set ?_ GE337.out) | exact HB.out)⟩
      · rw [if_neg c5] at H
        exact absurd H (by simp)
    · rw [if_neg c4] at H
      exact absurd H (by simp)
  · rw [if_neg c3] at H
    have c3b0 : (a0_2 == 2) = false := beq_eq_false_iff_ne.mpr c3
    have c3b1 : (a0_2 != 2) = true := bne_iff_ne.mpr c3
    by_cases c17 : a0_7 = 2
    · rw [if_pos c17] at H
      have c17b0 : (a0_7 == 2) = true := beq_iff_eq.mpr c17
      have c17b1 : (a0_7 != 2) = false := bne_eq_false_iff_eq.mpr c17
      clear c17
      by_cases c18 : 0 ≤ a0_8
      · rw [if_pos c18] at H
        have c18b0 : decide (0 ≤ a0_8) = true := decide_eq_true c18
        clear c18
        by_cases c19 : a0_8 < (l1.length : Int)
        · rw [if_pos c19] at H
          have c19b0 : decide (a0_8 < (l1.length : Int)) = true := decide_eq_true c19
          clear c19
          obtain rfl := Option.some.inj H
          go_enter Tryz.func71, Tryz.ntmps71
          go_wp2_with (first | ((with_reducible refine gate_dst (N := 2) rfl ?_); refine box_event ?hg (N := 2) ?hd (cs := #[.int .i64 a0_0, .int .i64 a0_1, .int .i64 a0_2, .int .i64 a0_3, .int .i64 a0_4, .int .i64 a0_5, .bool a0_6, .int .i64 a0_7, .int .i64 a0_8, .int .i64 a0_9, .int .i64 a0_10, .bool a0_11]) (t := 43) ?hr ?_; (case hd => rfl); (case hg => rfl); (case hr => first | (go_simp; done) | (go_simp; rfl)); intro gb337 hg w20 hbox hb; have n0_ := Aside0.mk (below_step (by repeat (first | (with_reducible first | exact HB.out | apply below_alloc | apply pw_below_drewN | apply below_drew1) | exact HB.out)) hb); have n1_ := Aside0.mk (hbox); have n2_ := Aside0.mk ((by rw [hg]; exact (below_size (by repeat (first | (with_reducible first | exact HB.out | apply below_alloc | apply pw_below_drewN | apply below_drew1) | exact HB.out))) : w.heap.size ≤ gb337)); have n3_ := Aside0.mk ((by rw [hg]; exact (below_size (by repeat (first | (with_reducible first | exact HB.out | apply below_alloc | apply pw_below_drewN | apply below_drew1) | exact HB.out))) : w.heap.size ≤ gb337)); clear HB; have HB := n0_; have BK337 := n1_; have GW337 := n2_; have GE337 := n3_; clear n0_ n1_ n2_ n3_; clear hb hbox hg; have hcz21_0 : w20.cell? ⟨gb337, 0, none⟩ = some (.int .i64 a0_0) := (blk_cell BK337.out 0).trans rfl; have hcz21_1 : w20.cell? ⟨gb337, 1, none⟩ = some (.int .i64 a0_1) := (blk_cell BK337.out 1).trans rfl; have hcz21_2 : w20.cell? ⟨gb337, 2, none⟩ = some (.int .i64 a0_2) := (blk_cell BK337.out 2).trans rfl; have hcz21_3 : w20.cell? ⟨gb337, 3, none⟩ = some (.int .i64 a0_3) := (blk_cell BK337.out 3).trans rfl; have hcz21_4 : w20.cell? ⟨gb337, 4, none⟩ = some (.int .i64 a0_4) := (blk_cell BK337.out 4).trans rfl; have hcz21_5 : w20.cell? ⟨gb337, 5, none⟩ = some (.int .i64 a0_5) := (blk_cell BK337.out 5).trans rfl; have hcz21_6 : w20.cell? ⟨gb337, 6, none⟩ = some (.bool a0_6) := (blk_cell BK337.out 6).trans rfl; have hcz21_7 : w20.cell? ⟨gb337, 7, none⟩ = some (.int .i64 a0_7) := (blk_cell BK337.out 7).trans rfl; have hcz21_8 : w20.cell? ⟨gb337, 8, none⟩ = some (.int .i64 a0_8) := (blk_cell BK337.out 8).trans rfl; have hcz21_9 : w20.cell? ⟨gb337, 9, none⟩ = some (.int .i64 a0_9) := (blk_cell BK337.out 9).trans rfl; have hcz21_10 : w20.cell? ⟨gb337, 10, none⟩ = some (.int .i64 a0_10) := (blk_cell BK337.out 10).trans rfl; have hcz21_11 : w20.cell? ⟨gb337, 11, none⟩ = some (.bool a0_11) := (blk_cell BK337.out 11).trans rfl; have hfz21_0 := blk_frozen BK337.out 0; have hfz21_1 := blk_frozen BK337.out 1; have hfz21_2 := blk_frozen BK337.out 2; have hfz21_3 := blk_frozen BK337.out 3; have hfz21_4 := blk_frozen BK337.out 4; have hfz21_5 := blk_frozen BK337.out 5; have hfz21_6 := blk_frozen BK337.out 6; have hfz21_7 := blk_frozen BK337.out 7; have hfz21_8 := blk_frozen BK337.out 8; have hfz21_9 := blk_frozen BK337.out 9; have hfz21_10 := blk_frozen BK337.out 10; have hfz21_11 := blk_frozen BK337.out 11; have p340 : 0 ≤ (a0_8 : Int) := of_decide_eq_true (by first | (with_reducible assumption) | assumption); have q340 : a0_8 < (l1.length : Int) := of_decide_eq_true (by first | (with_reducible assumption) | assumption); obtain ⟨ad340, e340, hx340_0⟩ := Kd.at_bool HR1.out a0_8 p340 q340; cases e340; replace hx340_0 := (HB.out.cell (World.block_lt_of_cell? w _ hx340_0)).trans hx340_0; replace p340 := eq_true p340; replace q340 := eq_true q340))
          go_ret
          exact ⟨by first | rfl | (simp [errW_none, errW_some] <;> rfl) | (simp [*, errW_none, errW_some] <;> rfl), by repeat (first | (with_reducible first | exact HB.out | apply below_alloc | apply pw_below_drewN | apply below_drew1 | refine below_set ?_ GE337.out) | exact HB.out)⟩
        · rw [if_neg c19] at H
          exact absurd H (by simp)
      · rw [if_neg c18] at H
        exact absurd H (by simp)
    · rw [if_neg c17] at H
      have c17b0 : (a0_7 == 2) = false := beq_eq_false_iff_ne.mpr c17
      have c17b1 : (a0_7 != 2) = true := bne_iff_ne.mpr c17
      obtain rfl := Option.some.inj H
      go_enter Tryz.func71, Tryz.ntmps71
      go_wp2_with (first | ((with_reducible refine gate_dst (N := 2) rfl ?_); refine box_event ?hg (N := 2) ?hd (cs := #[.int .i64 a0_0, .int .i64 a0_1, .int .i64 a0_2, .int .i64 a0_3, .int .i64 a0_4, .int .i64 a0_5, .bool a0_6, .int .i64 a0_7, .int .i64 a0_8, .int .i64 a0_9, .int .i64 a0_10, .bool a0_11]) (t := 43) ?hr ?_; (case hd => rfl); (case hg => rfl); (case hr => first | (go_simp; done) | (go_simp; rfl)); intro gb337 hg w22 hbox hb; have n0_ := Aside0.mk (below_step (by repeat (first | (with_reducible first | exact HB.out | apply below_alloc | apply pw_below_drewN | apply below_drew1) | exact HB.out)) hb); have n1_ := Aside0.mk (hbox); have n2_ := Aside0.mk ((by rw [hg]; exact (below_size (by repeat (first | (with_reducible first | exact HB.out | apply below_alloc | apply pw_below_drewN | apply below_drew1) | exact HB.out))) : w.heap.size ≤ gb337)); have n3_ := Aside0.mk ((by rw [hg]; exact (below_size (by repeat (first | (with_reducible first | exact HB.out | apply below_alloc | apply pw_below_drewN | apply below_drew1) | exact HB.out))) : w.heap.size ≤ gb337)); clear HB; have HB := n0_; have BK337 := n1_; have GW337 := n2_; have GE337 := n3_; clear n0_ n1_ n2_ n3_; clear hb hbox hg; have hcz23_0 : w22.cell? ⟨gb337, 0, none⟩ = some (.int .i64 a0_0) := (blk_cell BK337.out 0).trans rfl; have hcz23_1 : w22.cell? ⟨gb337, 1, none⟩ = some (.int .i64 a0_1) := (blk_cell BK337.out 1).trans rfl; have hcz23_2 : w22.cell? ⟨gb337, 2, none⟩ = some (.int .i64 a0_2) := (blk_cell BK337.out 2).trans rfl; have hcz23_3 : w22.cell? ⟨gb337, 3, none⟩ = some (.int .i64 a0_3) := (blk_cell BK337.out 3).trans rfl; have hcz23_4 : w22.cell? ⟨gb337, 4, none⟩ = some (.int .i64 a0_4) := (blk_cell BK337.out 4).trans rfl; have hcz23_5 : w22.cell? ⟨gb337, 5, none⟩ = some (.int .i64 a0_5) := (blk_cell BK337.out 5).trans rfl; have hcz23_6 : w22.cell? ⟨gb337, 6, none⟩ = some (.bool a0_6) := (blk_cell BK337.out 6).trans rfl; have hcz23_7 : w22.cell? ⟨gb337, 7, none⟩ = some (.int .i64 a0_7) := (blk_cell BK337.out 7).trans rfl; have hcz23_8 : w22.cell? ⟨gb337, 8, none⟩ = some (.int .i64 a0_8) := (blk_cell BK337.out 8).trans rfl; have hcz23_9 : w22.cell? ⟨gb337, 9, none⟩ = some (.int .i64 a0_9) := (blk_cell BK337.out 9).trans rfl; have hcz23_10 : w22.cell? ⟨gb337, 10, none⟩ = some (.int .i64 a0_10) := (blk_cell BK337.out 10).trans rfl; have hcz23_11 : w22.cell? ⟨gb337, 11, none⟩ = some (.bool a0_11) := (blk_cell BK337.out 11).trans rfl; have hfz23_0 := blk_frozen BK337.out 0; have hfz23_1 := blk_frozen BK337.out 1; have hfz23_2 := blk_frozen BK337.out 2; have hfz23_3 := blk_frozen BK337.out 3; have hfz23_4 := blk_frozen BK337.out 4; have hfz23_5 := blk_frozen BK337.out 5; have hfz23_6 := blk_frozen BK337.out 6; have hfz23_7 := blk_frozen BK337.out 7; have hfz23_8 := blk_frozen BK337.out 8; have hfz23_9 := blk_frozen BK337.out 9; have hfz23_10 := blk_frozen BK337.out 10; have hfz23_11 := blk_frozen BK337.out 11))
      go_ret
      exact ⟨by first | rfl | (simp [errW_none, errW_some] <;> rfl) | (simp [*, errW_none, errW_some] <;> rfl), by repeat (first | (with_reducible first | exact HB.out | apply below_alloc | apply pw_below_drewN | apply below_drew1 | refine below_set ?_ GE337.out) | exact HB.out)⟩

end Go.Proofs.YtphblfmjdiigkaaGreatDoor.HFnNetBent
