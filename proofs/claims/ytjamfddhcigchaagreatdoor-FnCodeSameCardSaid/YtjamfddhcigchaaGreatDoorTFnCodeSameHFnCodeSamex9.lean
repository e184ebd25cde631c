-- Made by a program of this session (hp.py) over the kit's print: functions told by hand stand beside printed ones. Lean checks it.
import Derived.Test.YtjamfddhcigchaaGreatDoorTFnCodeSameHFnCodeSamex8
namespace Go.Proofs.YtjamfddhcigchaaGreatDoor.HFnCodeSame
open Go.RowKit Go.Proofs.YtjamfddhcigchaaGreatDoorW.PrintWords Go.Proofs.YtjamfddhcigchaaGreatDoorW.PrintLast Go.Proofs.YtjamfddhcigchaaGreatDoorW.PrintMore
attribute [local go_sem] max2_int min2_int max_two min_two max_three min_three max_four min_four
set_option linter.unusedVariables false
set_option linter.unusedSimpArgs false
mutual
def spec_l3Many.l0 : Nat → Int → Int → Int → Int → Int → Int → Int → List (S120) → Option (Int)
  | 0, _, _, _, _, _, _, _, _ => none
  | k + 1, x1, x5, x6, x273000, x273001, x273002, x273003, x273004 => if x6 < (x273004.length : Int) then (if x1 > 0 then (if 0 ≤ x6 then ((spec_l3Many.f k ((rd_T120 x273004 x6).f0) ((rd_T120 x273004 x6).f1) ((rd_T120 x273004 x6).f2.f0) ((rd_T120 x273004 x6).f2.f1) ((rd_T120 x273004 x6).f3) (wrap64 (x1 - 1))).bind fun t274 => (spec_l3Many.l0 k x1 (wrap64 (x5 + t274)) (wrap64 (x6 + 1)) x273000 x273001 x273002 x273003 x273004)) else (none)) else (some x5)) else (some x5)
def spec_l3Many.f : Nat → Int → Int → Int → Int → List (S120) → Int → Option (Int)
  | 0, _, _, _, _, _, _ => none
  | k + 1, a0_0, a0_1, a0_2, a0_3, l0_4, a1 => spec_l3Many.l0 k a1 1 0 a0_0 a0_1 a0_2 a0_3 l0_4
end
set_option maxHeartbeats 8000000 in
set_option maxRecDepth 100000 in
theorem spec_l3Many.calls (k : Nat) : ∀ (a0_0 : Int) (a0_1 : Int) (a0_2 : Int) (a0_3 : Int) (A0_4 : Option Addr) (c0_4 : Nat) (l0_4 : List (S120)) (a1 : Int) (r : Int) (w : World) (hr0_4 : Kd.C k120 w A0_4 l0_4.length l0_4) (hc0_4 : l0_4.length ≤ c0_4) (h : spec_l3Many.f k a0_0 a0_1 a0_2 a0_3 l0_4 a1 = some r),
    Calls Tryz.prog 137 #[.agg #[.int .i64 a0_0, .int .i64 a0_1, .int .i64 a0_2, .int .i64 a0_3, .slice A0_4 l0_4.length c0_4], .int .i64 a1] w fun e w' => e = .returned (.int .i64 r) ∧ Below w.heap.size w w' := by
 induction k using Nat.strongRecOn with
 | _ k ih =>
 intro a0_0 a0_1 a0_2 a0_3 A0_4 c0_4 l0_4 a1 r w hr0_4 hc0_4 h
 cases k with
 | zero => exact absurd h (by simp [spec_l3Many.f])
 | succ k =>
 simp only [spec_l3Many.f] at h
 have hu120 := Tryz.underlying120
 have HR0_4 := aM_ hr0_4
 have HC0_4 := aM_ hc0_4
 clear hr0_4 hc0_4
 have HB := aM_ (Below.refl w.heap.size w)
 have H : (spec_l3Many.l0 k a1 1 0 a0_0 a0_1 a0_2 a0_3 l0_4) = some r := h
 clear h
 have H' := aM_ H
 clear H
 go_enter Tryz.func137, Tryz.ntmps137
 go_wp2_with (first | ((with_reducible refine gate_dst (N := 2) rfl ?_); refine box_event ?hg (N := 2) ?hd (cs := #[.int .i64 a0_0, .int .i64 a0_1, .int .i64 a0_2, .int .i64 a0_3, .slice A0_4 l0_4.length c0_4]) (t := 120) ?hr ?_; (case hd => rfl); (case hg => rfl); (case hr => first | (go_simp; done) | (go_simp; rfl)); intro gb272 hg w3 hbox hb; have n0_ := aM_ (bT_ (qB HB) hb); have n1_ := aM_ (hbox); have n2_ := aM_ ((by rw [hg]; exact (bZ_ (qB HB)) : w.heap.size ≤ gb272)); have n3_ := aM_ ((by rw [hg]; exact (bZ_ (qB HB)) : w.heap.size ≤ gb272)); clear HB; have HB := n0_; have BK272 := n1_; have GW272 := n2_; have GE272 := n3_; clear n0_ n1_ n2_ n3_ hb hbox hg))
 go_loopg [5, 6] k (fun kq v5 v6 w' => ∃ (x5_1 : Int) (x6_1 : Int), v5 = .int .i64 x5_1 ∧ v6 = .int .i64 x6_1 ∧ Aside0 (spec_l3Many.l0 kq a1 x5_1 x6_1 a0_0 a0_1 a0_2 a0_3 l0_4 = some r) ∧ Aside0 (kq ≤ k) ∧ Aside0 (w'.heap[gb272]? = some (.cells #[.int .i64 a0_0, .int .i64 a0_1, .int .i64 a0_2, .int .i64 a0_3, (.slice A0_4 l0_4.length c0_4)] 120 (0, 0))) ∧ Aside0 (Below w.heap.size w w'))
 case atStart => exact ⟨(1), (0), qF, qF, H', ⟨Nat.le_refl _⟩, ⟨by (with_reducible repeat (first | refine kN_ ?_ _ | refine kD_ ?_ | refine kA_ ?_ _)); exact BK272.out⟩, ⟨qB HB⟩⟩
 case round =>
  clear H'
  try clear c1
  try clear p2
  obtain ⟨x5_1, x6_1, rfl, rfl, HA, HK1, BK272, HB⟩ := hrel
  cases gk with
  | zero => exact absurd HA.out (by simp [spec_l3Many.l0])
  | succ k1 =>
   have H := HA.out
   clear HA
   simp only [spec_l3Many.l0] at H
   by_cases c4 : x6_1 < (l0_4.length : Int)
   rotate_left
   · rw [if_neg c4] at H
     have c4b0 : decide (x6_1 < (l0_4.length : Int)) = false := dF_ c4
     clear c4
     obtain rfl := oI_ H
     (obtain ⟨hcz11_0, hcz11_1, hcz11_2, hcz11_3, hcz11_4⟩ := cells5 BK272.out)
     (obtain ⟨hfz11_0, hfz11_1, hfz11_2, hfz11_3, hfz11_4⟩ := frozen5 BK272.out)
     go_wp2
     go_ret
     exact ⟨qE, qB HB⟩
   rw [if_pos c4] at H
   have c4b0 : decide (x6_1 < (l0_4.length : Int)) = true := dT_ c4
   clear c4
   by_cases c5 : a1 > 0
   rotate_left
   · rw [if_neg c5] at H
     have c5b0 : decide (0 < a1) = false := dF_ c5
     clear c5
     obtain rfl := oI_ H
     (obtain ⟨hcz10_0, hcz10_1, hcz10_2, hcz10_3, hcz10_4⟩ := cells5 BK272.out)
     (obtain ⟨hfz10_0, hfz10_1, hfz10_2, hfz10_3, hfz10_4⟩ := frozen5 BK272.out)
     go_wp2
     go_ret
     exact ⟨qE, qB HB⟩
   rw [if_pos c5] at H
   have c5b0 : decide (0 < a1) = true := dT_ c5
   clear c5
   by_cases c6 : 0 ≤ x6_1
   rotate_left
   · rw [if_neg c6] at H
     exact absurd H (by simp)
   rw [if_pos c6] at H
   have c6b0 : decide (0 ≤ x6_1) = true := dT_ c6
   clear c6
   replace H := oB_ H
   obtain ⟨t274, A70, H⟩ := H
   have A7 := aM_ A70
   clear A70
   have H' := aM_ H
   clear H
   (obtain ⟨hcz8_0, hcz8_1, hcz8_2, hcz8_3, hcz8_4⟩ := cells5 BK272.out)
   (obtain ⟨hfz8_0, hfz8_1, hfz8_2, hfz8_3, hfz8_4⟩ := frozen5 BK272.out)
   have p273 : 0 ≤ (x6_1 : Int) := oD_ (by first | (with_reducible assumption) | assumption)
   have q273 : x6_1 < (l0_4.length : Int) := oD_ (by first | (with_reducible assumption) | assumption)
   obtain ⟨ad273, A273_4, c273_4, e273, hx273_0, hx273_1, hx273_2, hx273_3, hx273_4, hl273_4, hi273_4⟩ := at_T120 HR0_4.out x6_1 p273 q273
   cases e273
   replace hx273_0 := qc HB hx273_0
   replace hx273_1 := qc HB hx273_1
   replace hx273_2 := qc HB hx273_2
   replace hx273_3 := qc HB hx273_3
   replace hx273_4 := qc HB hx273_4
   have HR273_4 := aM_ hi273_4
   have HC273_4 := aM_ hl273_4
   clear hi273_4 hl273_4
   replace p273 := eq_true p273
   replace q273 := eq_true q273
   go_wp2_with (first | ((with_reducible refine gc_ 137 ?_); refine gL_ (some 26) Tryz.func137 #[.agg #[.int .i64 ((rd_T120 l0_4 x6_1).f0), .int .i64 ((rd_T120 l0_4 x6_1).f1), .int .i64 ((rd_T120 l0_4 x6_1).f2.f0), .int .i64 ((rd_T120 l0_4 x6_1).f2.f1), .slice A273_4 ((rd_T120 l0_4 x6_1).f3).length c273_4], .int .i64 (wrap64 (a1 - 1))] ?_; (with_reducible refine (ih k1 (by have := HK1.out; omega) ((rd_T120 l0_4 x6_1).f0) ((rd_T120 l0_4 x6_1).f1) ((rd_T120 l0_4 x6_1).f2.f0) ((rd_T120 l0_4 x6_1).f2.f1) _ _ ((rd_T120 l0_4 x6_1).f3) (wrap64 (a1 - 1)) t274 _ ?side1 ?side2 A7.out).mono ?_); (case side1 => exact qC (Kd.C_below HR273_4.out HB.out)); (case side2 => exact HC273_4.out); rintro e w9 ⟨rfl, hb⟩; refine ⟨_, rfl, ?_⟩; have n_ := aN2_ (blk_below (g := gb272) (o := .cells #[.int .i64 a0_0, .int .i64 a0_1, .int .i64 a0_2, .int .i64 a0_3, .slice (some ad273) l0_4.length c0_4] 120 (0, 0)) qk hb) (bT_ (qB HB) hb); clear BK272 HB; obtain ⟨BK272, HB⟩ := n_))
   go_roundg k1
   case measure => have := HK1.out; omega
   case rel => exact ⟨(wrap64 (x5_1 + t274)), (wrap64 (x6_1 + 1)), qF, qF, H', ⟨by have := HK1.out; omega⟩, ⟨by (with_reducible repeat (first | refine kN_ ?_ _ | refine kD_ ?_ | refine kA_ ?_ _)); exact BK272.out⟩, ⟨qB HB⟩⟩
def spec_ExprOk.f (k : Nat) (a0_0 : Int) (a0_1 : Int) (a0_2 : Int) (a0_3 : Int) (l0_4 : List (S120)) : Option (Bool) := (spec_l3Form.f k a0_0 a0_1 a0_2 a0_3 l0_4 6).bind fun t276 => (if t276 = true then ((spec_l3Many.f k a0_0 a0_1 a0_2 a0_3 l0_4 6).bind fun t277 => (some (decide (t277 ≤ 14)))) else (some false))
set_option maxHeartbeats 8000000 in
set_option maxRecDepth 100000 in
theorem spec_ExprOk.calls (k : Nat) (a0_0 : Int) (a0_1 : Int) (a0_2 : Int) (a0_3 : Int) (A0_4 : Option Addr) (c0_4 : Nat) (l0_4 : List (S120)) (r : Bool) (w : World) (hr0_4 : Kd.C k120 w A0_4 l0_4.length l0_4) (hc0_4 : l0_4.length ≤ c0_4) (h : spec_ExprOk.f k a0_0 a0_1 a0_2 a0_3 l0_4 = some r) :
    Calls Tryz.prog 134 #[.agg #[.int .i64 a0_0, .int .i64 a0_1, .int .i64 a0_2, .int .i64 a0_3, .slice A0_4 l0_4.length c0_4]] w fun e w' => e = .returned (.bool r) ∧ Below w.heap.size w w' := by
 have hu120 := Tryz.underlying120
 have HR0_4 := aM_ hr0_4
 have HC0_4 := aM_ hc0_4
 clear hr0_4 hc0_4
 have HB := aM_ (Below.refl w.heap.size w)
 have H : ((spec_l3Form.f k a0_0 a0_1 a0_2 a0_3 l0_4 6).bind fun t276 => (if t276 = true then ((spec_l3Many.f k a0_0 a0_1 a0_2 a0_3 l0_4 6).bind fun t277 => (some (decide (t277 ≤ 14)))) else (some false))) = some r := h
 clear h
 replace H := oB_ H
 obtain ⟨t276, A20, H⟩ := H
 have A2 := aM_ A20
 clear A20
 by_cases c3 : t276 = true
 rotate_left
 · replace c3 := Bool.eq_false_iff.mpr c3
   subst c3
   rw [if_neg (show ¬ (false = true) by decide)] at H
   obtain rfl := oI_ H
   go_enter Tryz.func134, Tryz.ntmps134
   go_wp2_with (first | ((with_reducible refine gate_dst (N := 1) rfl ?_); refine box_event ?hg (N := 1) ?hd (cs := #[.int .i64 a0_0, .int .i64 a0_1, .int .i64 a0_2, .int .i64 a0_3, .slice A0_4 l0_4.length c0_4]) (t := 120) ?hr ?_; (case hd => rfl); (case hg => rfl); (case hr => first | (go_simp; done) | (go_simp; rfl)); intro gb275 hg w10 hbox hb; have n0_ := aM_ (bT_ (qB HB) hb); have n1_ := aM_ (hbox); have n2_ := aM_ ((by rw [hg]; exact (bZ_ (qB HB)) : w.heap.size ≤ gb275)); have n3_ := aM_ ((by rw [hg]; exact (bZ_ (qB HB)) : w.heap.size ≤ gb275)); clear HB; have HB := n0_; have BK275 := n1_; have GW275 := n2_; have GE275 := n3_; clear n0_ n1_ n2_ n3_ hb hbox hg; (obtain ⟨hcz11_0, hcz11_1, hcz11_2, hcz11_3, hcz11_4⟩ := cells5 BK275.out); (obtain ⟨hfz11_0, hfz11_1, hfz11_2, hfz11_3, hfz11_4⟩ := frozen5 BK275.out)) | ((with_reducible refine gc_ 136 ?_); refine gL_ (some 4) Tryz.func136 #[.agg #[.int .i64 a0_0, .int .i64 a0_1, .int .i64 a0_2, .int .i64 a0_3, .slice A0_4 l0_4.length c0_4], .int .i64 6] ?_; (with_reducible refine (spec_l3Form.calls k a0_0 a0_1 a0_2 a0_3 _ _ l0_4 6 false _ ?side1 ?side2 A2.out).mono ?_); (case side1 => exact qC (Kd.C_below HR0_4.out HB.out)); (case side2 => exact HC0_4.out); rintro e w12 ⟨rfl, hb⟩; refine ⟨_, rfl, ?_⟩; have n_ := aN2_ (blk_below (g := gb275) (o := .cells #[.int .i64 a0_0, .int .i64 a0_1, .int .i64 a0_2, .int .i64 a0_3, .slice A0_4 l0_4.length c0_4] 120 (0, 0)) qk hb) (bT_ (qB HB) hb); clear BK275 HB; obtain ⟨BK275, HB⟩ := n_))
   go_ret
   exact ⟨qE, qB HB⟩
 subst c3
 rw [if_pos rfl] at H
 replace H := oB_ H
 obtain ⟨t277, A40, H⟩ := H
 have A4 := aM_ A40
 clear A40
 obtain rfl := oI_ H
 go_enter Tryz.func134, Tryz.ntmps134
 go_wp2_with (first | ((with_reducible refine gate_dst (N := 1) rfl ?_); refine box_event ?hg (N := 1) ?hd (cs := #[.int .i64 a0_0, .int .i64 a0_1, .int .i64 a0_2, .int .i64 a0_3, .slice A0_4 l0_4.length c0_4]) (t := 120) ?hr ?_; (case hd => rfl); (case hg => rfl); (case hr => first | (go_simp; done) | (go_simp; rfl)); intro gb275 hg w5 hbox hb; have n0_ := aM_ (bT_ (qB HB) hb); have n1_ := aM_ (hbox); have n2_ := aM_ ((by rw [hg]; exact (bZ_ (qB HB)) : w.heap.size ≤ gb275)); have n3_ := aM_ ((by rw [hg]; exact (bZ_ (qB HB)) : w.heap.size ≤ gb275)); clear HB; have HB := n0_; have BK275 := n1_; have GW275 := n2_; have GE275 := n3_; clear n0_ n1_ n2_ n3_ hb hbox hg; (obtain ⟨hcz6_0, hcz6_1, hcz6_2, hcz6_3, hcz6_4⟩ := cells5 BK275.out); (obtain ⟨hfz6_0, hfz6_1, hfz6_2, hfz6_3, hfz6_4⟩ := frozen5 BK275.out)) | ((with_reducible refine gc_ 136 ?_); refine gL_ (some 4) Tryz.func136 #[.agg #[.int .i64 a0_0, .int .i64 a0_1, .int .i64 a0_2, .int .i64 a0_3, .slice A0_4 l0_4.length c0_4], .int .i64 6] ?_; (with_reducible refine (spec_l3Form.calls k a0_0 a0_1 a0_2 a0_3 _ _ l0_4 6 true _ ?side1 ?side2 A2.out).mono ?_); (case side1 => exact qC (Kd.C_below HR0_4.out HB.out)); (case side2 => exact HC0_4.out); rintro e w7 ⟨rfl, hb⟩; refine ⟨_, rfl, ?_⟩; have n_ := aN2_ (blk_below (g := gb275) (o := .cells #[.int .i64 a0_0, .int .i64 a0_1, .int .i64 a0_2, .int .i64 a0_3, .slice A0_4 l0_4.length c0_4] 120 (0, 0)) qk hb) (bT_ (qB HB) hb); clear BK275 HB; obtain ⟨BK275, HB⟩ := n_; (obtain ⟨hcz8_0, hcz8_1, hcz8_2, hcz8_3, hcz8_4⟩ := cells5 BK275.out); (obtain ⟨hfz8_0, hfz8_1, hfz8_2, hfz8_3, hfz8_4⟩ := frozen5 BK275.out)) | (go_at_call 137; (with_reducible refine (spec_l3Many.calls k a0_0 a0_1 a0_2 a0_3 _ _ l0_4 6 t277 _ ?side1 ?side2 A4.out).mono ?_); (case side1 => exact qC (Kd.C_below HR0_4.out HB.out)); (case side2 => exact HC0_4.out); rintro e w9 ⟨rfl, hb⟩; have n_ := aN2_ (blk_below (g := gb275) (o := .cells #[.int .i64 a0_0, .int .i64 a0_1, .int .i64 a0_2, .int .i64 a0_3, .slice A0_4 l0_4.length c0_4] 120 (0, 0)) qk hb) (bT_ (qB HB) hb); clear BK275 HB; obtain ⟨BK275, HB⟩ := n_))
 go_ret
 exact ⟨qE, qB HB⟩
end Go.Proofs.YtjamfddhcigchaaGreatDoor.HFnCodeSame
