-- Made by a program of this session (hp.py) over the kit's print: functions told by hand stand beside printed ones. Lean checks it.
import Derived.Test.YtjamfddhcigchaaGreatDoorTFnCodeRunHFnCodeRunx18
namespace Go.Proofs.YtjamfddhcigchaaGreatDoor.HFnCodeRun
open Go.RowKit Go.Proofs.YtjamfddhcigchaaGreatDoorW.PrintWords Go.Proofs.YtjamfddhcigchaaGreatDoorW.PrintLast Go.Proofs.YtjamfddhcigchaaGreatDoorW.PrintMore
attribute [local go_sem] max2_int min2_int max_two min_two max_three min_three max_four min_four
set_option linter.unusedVariables false
set_option linter.unusedSimpArgs false
def spec_CodeDepth.l0 : Nat → List Int → Int → Int → Option (Int)
  | 0, _, _, _ => none
  | k + 1, x3, x4, x5 => if x5 < (x3.length : Int) then (if 0 ≤ x5 then ((spec_l1Max.f x4 (rd x3 x5)).bind fun t659 => (spec_CodeDepth.l0 k x3 t659 (wrap64 (x5 + 1)))) else (none)) else (some x4)
def spec_CodeDepth.f (k : Nat) (l0 : List (S30)) : Option (Int) := (spec_CodeOk.f k l0).bind fun t654 => (if t654 = true then ((spec_l5Depths.f k l0).bind fun t655 => (spec_CodeDepth.l0 k t655 0 0)) else (some (-1)))
set_option maxHeartbeats 8000000 in
set_option maxRecDepth 100000 in
theorem spec_CodeDepth.calls (k : Nat) (A0 : Option Addr) (c0 : Nat) (l0 : List (S30)) (r : Int) (w : World) (hr0 : Kd.C k30 w A0 l0.length l0) (hc0 : l0.length ≤ c0) (h : spec_CodeDepth.f k l0 = some r) :
    Calls Tryz.prog 29 #[.slice A0 l0.length c0] w fun e w' => e = .returned (.int .i64 r) ∧ Below w.heap.size w w' := by
 have HR0 := aM_ hr0
 have HC0 := aM_ hc0
 clear hr0 hc0
 have HB := aM_ (Below.refl w.heap.size w)
 have H : ((spec_CodeOk.f k l0).bind fun t654 => (if t654 = true then ((spec_l5Depths.f k l0).bind fun t655 => (spec_CodeDepth.l0 k t655 0 0)) else (some (-1)))) = some r := h
 clear h
 replace H := oB_ H
 obtain ⟨t654, A20, H⟩ := H
 have A2 := aM_ A20
 clear A20
 by_cases c3 : t654 = true
 rotate_left
 · replace c3 := Bool.eq_false_iff.mpr c3
   subst c3
   rw [if_neg (show ¬ (false = true) by decide)] at H
   obtain rfl := oI_ H
   go_enter Tryz.func29, Tryz.ntmps29
   go_wp2_with (first | ((with_reducible refine gc_ 16 ?_); refine gL_ (some 7) Tryz.func16 #[.slice A0 l0.length c0] ?_; (with_reducible refine (spec_CodeOk.calls k _ _ l0 false _ ?side1 ?side2 A2.out).mono ?_); (case side1 => exact qC (HR0.out)); (case side2 => exact HC0.out); rintro e w12 ⟨rfl, hb⟩; refine ⟨_, rfl, ?_⟩; have n0_ := aM_ (bT_ (qB HB) hb); clear HB; revert n0_; intro HB))
   go_ret
   exact ⟨qE, qB HB⟩
 subst c3
 rw [if_pos rfl] at H
 replace H := oB_ H
 obtain ⟨t655, A40, H⟩ := H
 have A4 := aM_ A40
 clear A40
 have H' := aM_ H
 clear H
 go_enter Tryz.func29, Tryz.ntmps29
 go_wp2_with (first | ((with_reducible refine gc_ 16 ?_); refine gL_ (some 7) Tryz.func16 #[.slice A0 l0.length c0] ?_; (with_reducible refine (spec_CodeOk.calls k _ _ l0 true _ ?side1 ?side2 A2.out).mono ?_); (case side1 => exact qC (HR0.out)); (case side2 => exact HC0.out); rintro e w5 ⟨rfl, hb⟩; refine ⟨_, rfl, ?_⟩; have n0_ := aM_ (bT_ (qB HB) hb); clear HB; revert n0_; intro HB) | ((with_reducible refine gc_ 42 ?_); refine gL_ (some 10) Tryz.func42 #[.slice A0 l0.length c0] ?_; (with_reducible refine (spec_l5Depths.calls k _ _ l0 t655 _ ?side1 ?side2 A4.out).mono ?_); (case side1 => exact qC (Kd.C_below HR0.out HB.out)); (case side2 => exact HC0.out); rintro e w6 ⟨v656, rfl, ho0, hb⟩; refine ⟨_, rfl, ?_⟩; have n_ := aN2_ (Kd.R_lower ho0 (bZ_ (qB HB))) (bT_ (qB HB) hb); clear HB; obtain ⟨HO657, HB⟩ := n_))
 go_loopg [4, 5] k (fun kq v4 v5 w' => ∃ (x4_1 : Int) (x5_1 : Int), v4 = .int .i64 x4_1 ∧ v5 = .int .i64 x5_1 ∧ Aside0 (spec_CodeDepth.l0 kq t655 x4_1 x5_1 = some r) ∧ Aside0 (kq ≤ k) ∧ Aside0 (Kd.R (Kd.int .i64) 3 w' w.heap.size (fun _ => True) v656 t655) ∧ Aside0 (Below w.heap.size w w'))
 case atStart => exact ⟨(0), (0), qF, qF, H', ⟨Nat.le_refl _⟩, ⟨qR HO657⟩, ⟨qB HB⟩⟩
 case round =>
  clear H'
  obtain ⟨x4_1, x5_1, rfl, rfl, HA, HK1, HO_3, HB⟩ := hrel
  cases gk with
  | zero => exact absurd HA.out (by simp [spec_CodeDepth.l0])
  | succ k1 =>
   have H := HA.out
   clear HA
   simp only [spec_CodeDepth.l0] at H
   by_cases c7 : x5_1 < (t655.length : Int)
   rotate_left
   · rw [if_neg c7] at H
     have c7b0 : decide (x5_1 < (t655.length : Int)) = false := dF_ c7
     clear c7
     obtain rfl := oI_ H
     obtain ⟨Ao11, co11, eo11⟩ := Kd.R_slice HO_3.out
     subst eo11
     go_wp2
     go_ret
     exact ⟨qE, qB HB⟩
   rw [if_pos c7] at H
   have c7b0 : decide (x5_1 < (t655.length : Int)) = true := dT_ c7
   clear c7
   obtain ⟨H, c8b0⟩ := nP_ H
   replace H := oB_ H
   obtain ⟨t659, A90, H⟩ := H
   have A9 := aM_ A90
   clear A90
   have H' := aM_ H
   clear H
   obtain ⟨Ao10, co10, eo10⟩ := Kd.R_slice HO_3.out
   subst eo10
   have p658 := pq_ x5_1 (t655.length : Int)
   obtain ⟨ad658, e658, hx658_0⟩ := Kd.at_int (Kd.R_reads' HO_3.out).2.2 x5_1 p658.1.1 p658.1.2
   cases e658
   obtain ⟨-, p658, q658⟩ := p658
   go_wp2_with (first | ((with_reducible refine gc_ 55 ?_); refine gL_ (some 22) Tryz.func55 #[.int .i64 x4_1, .int .i64 (rd t655 x5_1)] ?_; (with_reducible refine (spec_l1Max.calls x4_1 (rd t655 x5_1) t659 _ A9.out).mono ?_); rintro e w' ⟨rfl, ⟨nd, rfl⟩⟩; refine ⟨_, rfl, ?_⟩))
   go_roundg k1
   case measure => have := HK1.out; omega
   case rel => exact ⟨(t659), (wrap64 (x5_1 + 1)), qF, qF, H', ⟨by have := HK1.out; omega⟩, ⟨qR HO_3⟩, ⟨qB HB⟩⟩
end Go.Proofs.YtjamfddhcigchaaGreatDoor.HFnCodeRun
namespace Go.Proofs.YtjamfddhcigchaaGreatDoor.HFnCodeRun
open Go.RowKit Go.Proofs.YtjamfddhcigchaaGreatDoorW.PrintWords Go.Proofs.YtjamfddhcigchaaGreatDoorW.PrintLast Go.Proofs.YtjamfddhcigchaaGreatDoorW.PrintMore
attribute [local go_sem] max2_int min2_int max_two min_two max_three min_three max_four min_four
set_option linter.unusedVariables false
set_option linter.unusedSimpArgs false
def spec_l2Put.f (l0_0 : List Int) (l0_1 : List Int) (l0_2 : List Int) (a1_0 : Int) (a1_1 : Int) (a2 : Int) : Option (List Int × List Int × List Int) := if a1_0 = 2 then ((spec_NumCut.f a2).bind fun t539 => (if 0 ≤ a1_1 then (if a1_1 < (l0_1.length : Int) then (some (l0_0, (l0_1.set (a1_1 : Int).toNat t539), l0_2)) else (none)) else (none))) else (if a1_0 = 3 then ((spec_NumCut.f a2).bind fun t541 => (if 0 ≤ a1_1 then (if a1_1 < (l0_2.length : Int) then (some (l0_0, l0_1, (l0_2.set (a1_1 : Int).toNat t541))) else (none)) else (none))) else (some (l0_0, l0_1, l0_2)))
def impl_NumIs.f (a0 : Bool) : Option (Int) := if a0 = true then (some 1) else (some 0)
def impl_NumOn.f (a0 : Int) : Option (Bool) := some (a0 != 0)
def impl_NumCut.f (a0 : Int) : Option (Int) := some (mn (mx a0 (-1000000)) 1000000)
def impl_maker_of.f (a0 : Int) (a1 : Int) (a2 : Int) : Option (Int) := (impl_NumCut.f a1).bind fun t543 => ((impl_NumCut.f a2).bind fun t544 => (if a0 = 0 then ((impl_NumCut.f (wrap64 (t543 + t544))).bind fun t545 => (some t545)) else (if a0 = 1 then ((impl_NumCut.f (wrap64 (t543 - t544))).bind fun t546 => (some t546)) else ((impl_NumCut.f (wrap64 (t543 * t544))).bind fun t547 => (some t547)))))
def impl_NumAdd.f (a0 : Int) (a1 : Int) : Option (Int) := (impl_maker_of.f 0 a0 a1).bind fun t548 => (some t548)
def impl_NumSub.f (a0 : Int) (a1 : Int) : Option (Int) := (impl_maker_of.f 1 a0 a1).bind fun t549 => (some t549)
def impl_NumMul.f (a0 : Int) (a1 : Int) : Option (Int) := (impl_maker_of.f 2 a0 a1).bind fun t550 => (some t550)
def impl_two.f (a0 : Int) (a1 : Int) (a2 : Int) : Option (Int) := if a0 = 3 then ((impl_NumAdd.f a1 a2).bind fun t551 => (some t551)) else (if a0 = 4 then ((impl_NumSub.f a1 a2).bind fun t552 => (some t552)) else (if a0 = 5 then ((impl_NumMul.f a1 a2).bind fun t553 => (some t553)) else (if a0 = 6 then ((impl_NumIs.f (decide (a1 < a2))).bind fun t554 => (some t554)) else (if a0 = 7 then ((impl_NumIs.f (a1 == a2)).bind fun t555 => (some t555)) else (if a0 = 8 then ((impl_NumOn.f a1).bind fun t556 => (if t556 = true then ((impl_NumOn.f a2).bind fun t557 => ((impl_NumIs.f t557).bind fun t558 => (some t558))) else ((impl_NumIs.f false).bind fun t559 => (some t559)))) else ((impl_NumOn.f a1).bind fun t560 => (if t560 = true then ((impl_NumIs.f true).bind fun t561 => (some t561)) else ((impl_NumOn.f a2).bind fun t562 => ((impl_NumIs.f t562).bind fun t563 => (some t563))))))))))
def spec_NumIs.f (a0 : Bool) : Option (Int) := if a0 = true then (some 1) else (some 0)
set_option maxHeartbeats 8000000 in
set_option maxRecDepth 100000 in
theorem spec_NumIs.calls (a0 : Bool) (r : Int) (w : World) (h : spec_NumIs.f a0 = some r) :
    Calls Tryz.prog 117 #[.bool a0] w fun e w' => e = .returned (.int .i64 r) ∧ Drawn0 w w' := by
 have H : (if a0 = true then (some 1) else (some 0)) = some r := h
 clear h
 by_cases c2 : a0 = true
 · subst c2
   rw [if_pos rfl] at H
   obtain rfl := oI_ H
   go_enter Tryz.func117, Tryz.ntmps117
   go_wp2
   go_ret
   exact ⟨qF, by repeat (first | exact Drawn0.refl _ | apply Drawn0.step)⟩
 replace c2 := Bool.eq_false_iff.mpr c2
 subst c2
 rw [if_neg (show ¬ (false = true) by decide)] at H
 obtain rfl := oI_ H
 go_enter Tryz.func117, Tryz.ntmps117
 go_wp2
 go_ret
 exact ⟨qF, by repeat (first | exact Drawn0.refl _ | apply Drawn0.step)⟩
def spec_NumAdd.f (a0 : Int) (a1 : Int) : Option (Int) := (spec_NumCut.f a0).bind fun t564 => ((spec_NumCut.f a1).bind fun t565 => ((spec_NumCut.f (wrap64 (t564 + t565))).bind fun t566 => (some t566)))
set_option maxHeartbeats 8000000 in
set_option maxRecDepth 100000 in
theorem spec_NumAdd.calls (a0 : Int) (a1 : Int) (r : Int) (w : World) (h : spec_NumAdd.f a0 a1 = some r) :
    Calls Tryz.prog 130 #[.int .i64 a0, .int .i64 a1] w fun e w' => e = .returned (.int .i64 r) ∧ Drawn0 w w' := by
 have H : ((spec_NumCut.f a0).bind fun t564 => ((spec_NumCut.f a1).bind fun t565 => ((spec_NumCut.f (wrap64 (t564 + t565))).bind fun t566 => (some t566)))) = some r := h
 clear h
 replace H := oB_ H
 obtain ⟨t564, A30, H⟩ := H
 have A3 := aM_ A30
 clear A30
 replace H := oB_ H
 obtain ⟨t565, A40, H⟩ := H
 have A4 := aM_ A40
 clear A40
 replace H := oB_ H
 obtain ⟨t566, A50, H⟩ := H
 have A5 := aM_ A50
 clear A50
 obtain rfl := oI_ H
 go_enter Tryz.func130, Tryz.ntmps130
 go_wp2_with (first | ((with_reducible refine gc_ 73 ?_); refine gL_ (some 6) Tryz.func73 #[.int .i64 a0] ?_; (with_reducible refine (spec_NumCut.calls a0 t564 _ A3.out).mono ?_); rintro e w' ⟨rfl, ⟨nd, rfl⟩⟩; refine ⟨_, rfl, ?_⟩) | ((with_reducible refine gc_ 73 ?_); refine gL_ (some 8) Tryz.func73 #[.int .i64 a1] ?_; (with_reducible refine (spec_NumCut.calls a1 t565 _ A4.out).mono ?_); rintro e w' ⟨rfl, ⟨nd, rfl⟩⟩; refine ⟨_, rfl, ?_⟩) | ((with_reducible refine gc_ 73 ?_); refine gL_ (some 10) Tryz.func73 #[.int .i64 (wrap64 (t564 + t565))] ?_; (with_reducible refine (spec_NumCut.calls (wrap64 (t564 + t565)) t566 _ A5.out).mono ?_); rintro e w' ⟨rfl, ⟨nd, rfl⟩⟩; refine ⟨_, rfl, ?_⟩))
 go_ret
 exact ⟨qF, by repeat (first | exact Drawn0.refl _ | apply Drawn0.step)⟩
def spec_NumSub.f (a0 : Int) (a1 : Int) : Option (Int) := (spec_NumCut.f a0).bind fun t567 => ((spec_NumCut.f a1).bind fun t568 => ((spec_NumCut.f (wrap64 (t567 - t568))).bind fun t569 => (some t569)))
set_option maxHeartbeats 8000000 in
set_option maxRecDepth 100000 in
theorem spec_NumSub.calls (a0 : Int) (a1 : Int) (r : Int) (w : World) (h : spec_NumSub.f a0 a1 = some r) :
    Calls Tryz.prog 131 #[.int .i64 a0, .int .i64 a1] w fun e w' => e = .returned (.int .i64 r) ∧ Drawn0 w w' := by
 have H : ((spec_NumCut.f a0).bind fun t567 => ((spec_NumCut.f a1).bind fun t568 => ((spec_NumCut.f (wrap64 (t567 - t568))).bind fun t569 => (some t569)))) = some r := h
 clear h
 replace H := oB_ H
 obtain ⟨t567, A30, H⟩ := H
 have A3 := aM_ A30
 clear A30
 replace H := oB_ H
 obtain ⟨t568, A40, H⟩ := H
 have A4 := aM_ A40
 clear A40
 replace H := oB_ H
 obtain ⟨t569, A50, H⟩ := H
 have A5 := aM_ A50
 clear A50
 obtain rfl := oI_ H
 go_enter Tryz.func131, Tryz.ntmps131
 go_wp2_with (first | ((with_reducible refine gc_ 73 ?_); refine gL_ (some 6) Tryz.func73 #[.int .i64 a0] ?_; (with_reducible refine (spec_NumCut.calls a0 t567 _ A3.out).mono ?_); rintro e w' ⟨rfl, ⟨nd, rfl⟩⟩; refine ⟨_, rfl, ?_⟩) | ((with_reducible refine gc_ 73 ?_); refine gL_ (some 8) Tryz.func73 #[.int .i64 a1] ?_; (with_reducible refine (spec_NumCut.calls a1 t568 _ A4.out).mono ?_); rintro e w' ⟨rfl, ⟨nd, rfl⟩⟩; refine ⟨_, rfl, ?_⟩) | ((with_reducible refine gc_ 73 ?_); refine gL_ (some 10) Tryz.func73 #[.int .i64 (wrap64 (t567 - t568))] ?_; (with_reducible refine (spec_NumCut.calls (wrap64 (t567 - t568)) t569 _ A5.out).mono ?_); rintro e w' ⟨rfl, ⟨nd, rfl⟩⟩; refine ⟨_, rfl, ?_⟩))
 go_ret
 exact ⟨qF, by repeat (first | exact Drawn0.refl _ | apply Drawn0.step)⟩
end Go.Proofs.YtjamfddhcigchaaGreatDoor.HFnCodeRun
namespace Go.Proofs.YtjamfddhcigchaaGreatDoor.HFnCodeRun
open Go.RowKit Go.Proofs.YtjamfddhcigchaaGreatDoorW.PrintWords Go.Proofs.YtjamfddhcigchaaGreatDoorW.PrintLast Go.Proofs.YtjamfddhcigchaaGreatDoorW.PrintMore
attribute [local go_sem] max2_int min2_int max_two min_two max_three min_three max_four min_four
set_option linter.unusedVariables false
set_option linter.unusedSimpArgs false
def spec_NumMul.f (a0 : Int) (a1 : Int) : Option (Int) := (spec_NumCut.f a0).bind fun t570 => ((spec_NumCut.f a1).bind fun t571 => ((spec_NumCut.f (wrap64 (t570 * t571))).bind fun t572 => (some t572)))
set_option maxHeartbeats 8000000 in
set_option maxRecDepth 100000 in
theorem spec_NumMul.calls (a0 : Int) (a1 : Int) (r : Int) (w : World) (h : spec_NumMul.f a0 a1 = some r) :
    Calls Tryz.prog 132 #[.int .i64 a0, .int .i64 a1] w fun e w' => e = .returned (.int .i64 r) ∧ Drawn0 w w' := by
 have H : ((spec_NumCut.f a0).bind fun t570 => ((spec_NumCut.f a1).bind fun t571 => ((spec_NumCut.f (wrap64 (t570 * t571))).bind fun t572 => (some t572)))) = some r := h
 clear h
 replace H := oB_ H
 obtain ⟨t570, A30, H⟩ := H
 have A3 := aM_ A30
 clear A30
 replace H := oB_ H
 obtain ⟨t571, A40, H⟩ := H
 have A4 := aM_ A40
 clear A40
 replace H := oB_ H
 obtain ⟨t572, A50, H⟩ := H
 have A5 := aM_ A50
 clear A50
 obtain rfl := oI_ H
 go_enter Tryz.func132, Tryz.ntmps132
 go_wp2_with (first | ((with_reducible refine gc_ 73 ?_); refine gL_ (some 6) Tryz.func73 #[.int .i64 a0] ?_; (with_reducible refine (spec_NumCut.calls a0 t570 _ A3.out).mono ?_); rintro e w' ⟨rfl, ⟨nd, rfl⟩⟩; refine ⟨_, rfl, ?_⟩) | ((with_reducible refine gc_ 73 ?_); refine gL_ (some 8) Tryz.func73 #[.int .i64 a1] ?_; (with_reducible refine (spec_NumCut.calls a1 t571 _ A4.out).mono ?_); rintro e w' ⟨rfl, ⟨nd, rfl⟩⟩; refine ⟨_, rfl, ?_⟩) | ((with_reducible refine gc_ 73 ?_); refine gL_ (some 10) Tryz.func73 #[.int .i64 (wrap64 (t570 * t571))] ?_; (with_reducible refine (spec_NumCut.calls (wrap64 (t570 * t571)) t572 _ A5.out).mono ?_); rintro e w' ⟨rfl, ⟨nd, rfl⟩⟩; refine ⟨_, rfl, ?_⟩))
 go_ret
 exact ⟨qF, by repeat (first | exact Drawn0.refl _ | apply Drawn0.step)⟩
def spec_l3Two.f (a0 : Int) (a1 : Int) (a2 : Int) : Option (Int) := if a0 = 3 then ((spec_NumAdd.f a1 a2).bind fun t573 => (some t573)) else (if a0 = 4 then ((spec_NumSub.f a1 a2).bind fun t574 => (some t574)) else (if a0 = 5 then ((spec_NumMul.f a1 a2).bind fun t575 => (some t575)) else (if a0 = 6 then ((spec_NumIs.f (decide (a1 < a2))).bind fun t576 => (some t576)) else (if a0 = 7 then ((spec_NumIs.f (a1 == a2)).bind fun t577 => (some t577)) else (if a0 = 8 then ((spec_NumOn.f a1).bind fun t578 => (if t578 = true then ((spec_NumOn.f a2).bind fun t579 => ((spec_NumIs.f t579).bind fun t580 => (some t580))) else ((spec_NumIs.f false).bind fun t581 => (some t581)))) else ((spec_NumOn.f a1).bind fun t582 => (if t582 = true then ((spec_NumIs.f true).bind fun t583 => (some t583)) else ((spec_NumOn.f a2).bind fun t584 => ((spec_NumIs.f t584).bind fun t585 => (some t585))))))))))
set_option maxHeartbeats 8000000 in
set_option maxRecDepth 100000 in
theorem spec_l3Two.calls (a0 : Int) (a1 : Int) (a2 : Int) (r : Int) (w : World) (h : spec_l3Two.f a0 a1 a2 = some r) :
    Calls Tryz.prog 116 #[.int .i64 a0, .int .i64 a1, .int .i64 a2] w fun e w' => e = .returned (.int .i64 r) ∧ Drawn0 w w' := by
 have H : (if a0 = 3 then ((spec_NumAdd.f a1 a2).bind fun t573 => (some t573)) else (if a0 = 4 then ((spec_NumSub.f a1 a2).bind fun t574 => (some t574)) else (if a0 = 5 then ((spec_NumMul.f a1 a2).bind fun t575 => (some t575)) else (if a0 = 6 then ((spec_NumIs.f (decide (a1 < a2))).bind fun t576 => (some t576)) else (if a0 = 7 then ((spec_NumIs.f (a1 == a2)).bind fun t577 => (some t577)) else (if a0 = 8 then ((spec_NumOn.f a1).bind fun t578 => (if t578 = true then ((spec_NumOn.f a2).bind fun t579 => ((spec_NumIs.f t579).bind fun t580 => (some t580))) else ((spec_NumIs.f false).bind fun t581 => (some t581)))) else ((spec_NumOn.f a1).bind fun t582 => (if t582 = true then ((spec_NumIs.f true).bind fun t583 => (some t583)) else ((spec_NumOn.f a2).bind fun t584 => ((spec_NumIs.f t584).bind fun t585 => (some t585))))))))))) = some r := h
 clear h
 by_cases c4 : a0 = 3
 · rw [if_pos c4] at H
   have c4b0 : (a0 == 3) = true := beq_iff_eq.mpr c4
   have c4b1 : (a0 != 3) = false := bne_eq_false_iff_eq.mpr c4
   clear c4
   replace H := oB_ H
   obtain ⟨t573, A50, H⟩ := H
   have A5 := aM_ A50
   clear A50
   obtain rfl := oI_ H
   go_enter Tryz.func116, Tryz.ntmps116
   go_wp2_with (first | ((with_reducible refine gc_ 130 ?_); refine gL_ (some 12) Tryz.func130 #[.int .i64 a1, .int .i64 a2] ?_; (with_reducible refine (spec_NumAdd.calls a1 a2 t573 _ A5.out).mono ?_); rintro e w' ⟨rfl, ⟨nd, rfl⟩⟩; refine ⟨_, rfl, ?_⟩))
   go_ret
   exact ⟨qF, by repeat (first | exact Drawn0.refl _ | apply Drawn0.step)⟩
 rw [if_neg c4] at H
 have c4b0 : (a0 == 3) = false := beq_eq_false_iff_ne.mpr c4
 have c4b1 : (a0 != 3) = true := bne_iff_ne.mpr c4
 by_cases c6 : a0 = 4
 · rw [if_pos c6] at H
   have c6b0 : (a0 == 4) = true := beq_iff_eq.mpr c6
   have c6b1 : (a0 != 4) = false := bne_eq_false_iff_eq.mpr c6
   clear c6
   replace H := oB_ H
   obtain ⟨t574, A70, H⟩ := H
   have A7 := aM_ A70
   clear A70
   obtain rfl := oI_ H
   go_enter Tryz.func116, Tryz.ntmps116
   go_wp2_with (first | ((with_reducible refine gc_ 131 ?_); refine gL_ (some 17) Tryz.func131 #[.int .i64 a1, .int .i64 a2] ?_; (with_reducible refine (spec_NumSub.calls a1 a2 t574 _ A7.out).mono ?_); rintro e w' ⟨rfl, ⟨nd, rfl⟩⟩; refine ⟨_, rfl, ?_⟩))
   go_ret
   exact ⟨qF, by repeat (first | exact Drawn0.refl _ | apply Drawn0.step)⟩
 rw [if_neg c6] at H
 have c6b0 : (a0 == 4) = false := beq_eq_false_iff_ne.mpr c6
 have c6b1 : (a0 != 4) = true := bne_iff_ne.mpr c6
 by_cases c8 : a0 = 5
 · rw [if_pos c8] at H
   have c8b0 : (a0 == 5) = true := beq_iff_eq.mpr c8
   have c8b1 : (a0 != 5) = false := bne_eq_false_iff_eq.mpr c8
   clear c8
   replace H := oB_ H
   obtain ⟨t575, A90, H⟩ := H
   have A9 := aM_ A90
   clear A90
   obtain rfl := oI_ H
   go_enter Tryz.func116, Tryz.ntmps116
   go_wp2_with (first | ((with_reducible refine gc_ 132 ?_); refine gL_ (some 22) Tryz.func132 #[.int .i64 a1, .int .i64 a2] ?_; (with_reducible refine (spec_NumMul.calls a1 a2 t575 _ A9.out).mono ?_); rintro e w' ⟨rfl, ⟨nd, rfl⟩⟩; refine ⟨_, rfl, ?_⟩))
   go_ret
   exact ⟨qF, by repeat (first | exact Drawn0.refl _ | apply Drawn0.step)⟩
 rw [if_neg c8] at H
 have c8b0 : (a0 == 5) = false := beq_eq_false_iff_ne.mpr c8
 have c8b1 : (a0 != 5) = true := bne_iff_ne.mpr c8
 by_cases c10 : a0 = 6
 · rw [if_pos c10] at H
   have c10b0 : (a0 == 6) = true := beq_iff_eq.mpr c10
   have c10b1 : (a0 != 6) = false := bne_eq_false_iff_eq.mpr c10
   clear c10
   replace H := oB_ H
   obtain ⟨t576, A110, H⟩ := H
   have A11 := aM_ A110
   clear A110
   obtain rfl := oI_ H
   go_enter Tryz.func116, Tryz.ntmps116
   go_wp2_with (first | ((with_reducible refine gc_ 117 ?_); refine gL_ (some 28) Tryz.func117 #[.bool (decide (a1 < a2))] ?_; (with_reducible refine (spec_NumIs.calls (decide (a1 < a2)) t576 _ A11.out).mono ?_); rintro e w' ⟨rfl, ⟨nd, rfl⟩⟩; refine ⟨_, rfl, ?_⟩))
   go_ret
   exact ⟨qF, by repeat (first | exact Drawn0.refl _ | apply Drawn0.step)⟩
 rw [if_neg c10] at H
 have c10b0 : (a0 == 6) = false := beq_eq_false_iff_ne.mpr c10
 have c10b1 : (a0 != 6) = true := bne_iff_ne.mpr c10
 by_cases c12 : a0 = 7
 · rw [if_pos c12] at H
   have c12b0 : (a0 == 7) = true := beq_iff_eq.mpr c12
   have c12b1 : (a0 != 7) = false := bne_eq_false_iff_eq.mpr c12
   clear c12
   replace H := oB_ H
   obtain ⟨t577, A130, H⟩ := H
   have A13 := aM_ A130
   clear A130
   obtain rfl := oI_ H
   go_enter Tryz.func116, Tryz.ntmps116
   go_wp2_with (first | ((with_reducible refine gc_ 117 ?_); refine gL_ (some 34) Tryz.func117 #[.bool (a1 == a2)] ?_; (with_reducible refine (spec_NumIs.calls (a1 == a2) t577 _ A13.out).mono ?_); rintro e w' ⟨rfl, ⟨nd, rfl⟩⟩; refine ⟨_, rfl, ?_⟩))
   go_ret
   exact ⟨qF, by repeat (first | exact Drawn0.refl _ | apply Drawn0.step)⟩
 rw [if_neg c12] at H
 have c12b0 : (a0 == 7) = false := beq_eq_false_iff_ne.mpr c12
 have c12b1 : (a0 != 7) = true := bne_iff_ne.mpr c12
 by_cases c14 : a0 = 8
 rotate_left
 · rw [if_neg c14] at H
   have c14b0 : (a0 == 8) = false := beq_eq_false_iff_ne.mpr c14
   have c14b1 : (a0 != 8) = true := bne_iff_ne.mpr c14
   replace H := oB_ H
   obtain ⟨t582, A200, H⟩ := H
   have A20 := aM_ A200
   clear A200
   by_cases c21 : t582 = true
   · subst c21
     rw [if_pos rfl] at H
     replace H := oB_ H
     obtain ⟨t583, A220, H⟩ := H
     have A22 := aM_ A220
     clear A220
     obtain rfl := oI_ H
     go_enter Tryz.func116, Tryz.ntmps116
     go_wp2_with (first | ((with_reducible refine gc_ 79 ?_); refine gL_ (some 45) Tryz.func79 #[.int .i64 a1] ?_; (with_reducible refine (spec_NumOn.calls a1 true _ A20.out).mono ?_); rintro e w' ⟨rfl, ⟨nd, rfl⟩⟩; refine ⟨_, rfl, ?_⟩) | ((with_reducible refine gc_ 117 ?_); refine gL_ (some 50) Tryz.func117 #[.bool true] ?_; (with_reducible refine (spec_NumIs.calls true t583 _ A22.out).mono ?_); rintro e w' ⟨rfl, ⟨nd, rfl⟩⟩; refine ⟨_, rfl, ?_⟩))
     go_ret
     exact ⟨qF, by repeat (first | exact Drawn0.refl _ | apply Drawn0.step)⟩
   replace c21 := Bool.eq_false_iff.mpr c21
   subst c21
   rw [if_neg (show ¬ (false = true) by decide)] at H
   replace H := oB_ H
   obtain ⟨t584, A230, H⟩ := H
   have A23 := aM_ A230
   clear A230
   replace H := oB_ H
   obtain ⟨t585, A240, H⟩ := H
   have A24 := aM_ A240
   clear A240
   obtain rfl := oI_ H
   go_enter Tryz.func116, Tryz.ntmps116
   go_wp2_with (first | ((with_reducible refine gc_ 79 ?_); refine gL_ (some 45) Tryz.func79 #[.int .i64 a1] ?_; (with_reducible refine (spec_NumOn.calls a1 false _ A20.out).mono ?_); rintro e w' ⟨rfl, ⟨nd, rfl⟩⟩; refine ⟨_, rfl, ?_⟩) | (go_at_call 79; (with_reducible refine (spec_NumOn.calls a2 t584 _ A23.out).mono ?_); rintro e w' ⟨rfl, ⟨nd, rfl⟩⟩) | ((with_reducible refine gc_ 117 ?_); refine gL_ (some 50) Tryz.func117 #[.bool t584] ?_; (with_reducible refine (spec_NumIs.calls t584 t585 _ A24.out).mono ?_); rintro e w' ⟨rfl, ⟨nd, rfl⟩⟩; refine ⟨_, rfl, ?_⟩))
   go_ret
   exact ⟨qF, by repeat (first | exact Drawn0.refl _ | apply Drawn0.step)⟩
 rw [if_pos c14] at H
 have c14b0 : (a0 == 8) = true := beq_iff_eq.mpr c14
 have c14b1 : (a0 != 8) = false := bne_eq_false_iff_eq.mpr c14
 clear c14
 replace H := oB_ H
 obtain ⟨t578, A150, H⟩ := H
 have A15 := aM_ A150
 clear A150
 by_cases c16 : t578 = true
 rotate_left
 · replace c16 := Bool.eq_false_iff.mpr c16
   subst c16
   rw [if_neg (show ¬ (false = true) by decide)] at H
   replace H := oB_ H
   obtain ⟨t581, A190, H⟩ := H
   have A19 := aM_ A190
   clear A190
   obtain rfl := oI_ H
   go_enter Tryz.func116, Tryz.ntmps116
   go_wp2_with (first | ((with_reducible refine gc_ 79 ?_); refine gL_ (some 38) Tryz.func79 #[.int .i64 a1] ?_; (with_reducible refine (spec_NumOn.calls a1 false _ A15.out).mono ?_); rintro e w' ⟨rfl, ⟨nd, rfl⟩⟩; refine ⟨_, rfl, ?_⟩) | ((with_reducible refine gc_ 117 ?_); refine gL_ (some 43) Tryz.func117 #[.bool false] ?_; (with_reducible refine (spec_NumIs.calls false t581 _ A19.out).mono ?_); rintro e w' ⟨rfl, ⟨nd, rfl⟩⟩; refine ⟨_, rfl, ?_⟩))
   go_ret
   exact ⟨qF, by repeat (first | exact Drawn0.refl _ | apply Drawn0.step)⟩
 subst c16
 rw [if_pos rfl] at H
 replace H := oB_ H
 obtain ⟨t579, A170, H⟩ := H
 have A17 := aM_ A170
 clear A170
 replace H := oB_ H
 obtain ⟨t580, A180, H⟩ := H
 have A18 := aM_ A180
 clear A180
 obtain rfl := oI_ H
 go_enter Tryz.func116, Tryz.ntmps116
 go_wp2_with (first | ((with_reducible refine gc_ 79 ?_); refine gL_ (some 38) Tryz.func79 #[.int .i64 a1] ?_; (with_reducible refine (spec_NumOn.calls a1 true _ A15.out).mono ?_); rintro e w' ⟨rfl, ⟨nd, rfl⟩⟩; refine ⟨_, rfl, ?_⟩) | (go_at_call 79; (with_reducible refine (spec_NumOn.calls a2 t579 _ A17.out).mono ?_); rintro e w' ⟨rfl, ⟨nd, rfl⟩⟩) | ((with_reducible refine gc_ 117 ?_); refine gL_ (some 43) Tryz.func117 #[.bool t579] ?_; (with_reducible refine (spec_NumIs.calls t579 t580 _ A18.out).mono ?_); rintro e w' ⟨rfl, ⟨nd, rfl⟩⟩; refine ⟨_, rfl, ?_⟩))
 go_ret
 exact ⟨qF, by repeat (first | exact Drawn0.refl _ | apply Drawn0.step)⟩
end Go.Proofs.YtjamfddhcigchaaGreatDoor.HFnCodeRun
namespace Go.Proofs.YtjamfddhcigchaaGreatDoor.HFnCodeRun
open Go.RowKit Go.Proofs.YtjamfddhcigchaaGreatDoorW.PrintWords Go.Proofs.YtjamfddhcigchaaGreatDoorW.PrintLast Go.Proofs.YtjamfddhcigchaaGreatDoorW.PrintMore
attribute [local go_sem] max2_int min2_int max_two min_two max_three min_three max_four min_four
set_option linter.unusedVariables false
set_option linter.unusedSimpArgs false
def spec_l2Copy.f (l0_0 : List Int) (l0_1 : List Int) (l0_2 : List Int) : Option (List Int × List Int × List Int) := (some (([] : List Int) : List Int)).bind fun y623 => (if y623.length + l0_0.length < 17592186044416 then ((some (([] : List Int) : List Int)).bind fun y629 => (if y629.length + l0_1.length < 17592186044416 then ((some (([] : List Int) : List Int)).bind fun y635 => (if y635.length + l0_2.length < 17592186044416 then (some ((y623 ++ l0_0), (y629 ++ l0_1), (y635 ++ l0_2))) else (none))) else (none))) else (none))
end Go.Proofs.YtjamfddhcigchaaGreatDoor.HFnCodeRun
