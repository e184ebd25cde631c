/- The reckoning of two numbers (impl.two), printed. No condition. -/
import Derived.Test.YtjamfddhcigchaaGreatDoorTFnCodeRunHFnCodeRunx3
namespace Go.Proofs.YtjamfddhcigchaaGreatDoor.Gt
open Go.Proofs.YtjamfddhcigchaaGreatDoor.HFnCodeRun
open Go.RowKit Go.Proofs.YtjamfddhcigchaaGreatDoorW.PrintWords Go.Proofs.YtjamfddhcigchaaGreatDoorW.PrintLast Go.Proofs.YtjamfddhcigchaaGreatDoorW.PrintMore
attribute [local go_sem] max2_int min2_int max_two min_two max_three min_three max_four min_four
set_option linter.unusedVariables false
set_option linter.unusedSimpArgs false
def impl_NumIs.f (a0 : Bool) : Option (Int) := if a0 = true then (some 1) else (some 0)
set_option maxHeartbeats 8000000 in
set_option maxRecDepth 100000 in
theorem impl_NumIs.calls (a0 : Bool) (r : Int) (w : World) (h : impl_NumIs.f a0 = some r) :
    Calls Tryz.prog 102 #[.bool a0] w fun e w' => e = .returned (.int .i64 r) ∧ Drawn0 w w' := by
 have H : (if a0 = true then (some 1) else (some 0)) = some r := h
 clear h
 by_cases c2 : a0 = true
 · subst c2
   rw [if_pos rfl] at H
   obtain rfl := oI_ H
   go_enter Tryz.func102, Tryz.ntmps102
   go_wp2
   go_ret
   exact ⟨qF, by repeat (first | exact Drawn0.refl _ | apply Drawn0.step)⟩
 replace c2 := Bool.eq_false_iff.mpr c2
 subst c2
 rw [if_neg (show ¬ (false = true) by decide)] at H
 obtain rfl := oI_ H
 go_enter Tryz.func102, Tryz.ntmps102
 go_wp2
 go_ret
 exact ⟨qF, by repeat (first | exact Drawn0.refl _ | apply Drawn0.step)⟩
def impl_NumOn.f (a0 : Int) : Option (Bool) := some (a0 != 0)
set_option maxHeartbeats 8000000 in
set_option maxRecDepth 100000 in
theorem impl_NumOn.calls (a0 : Int) (r : Bool) (w : World) (h : impl_NumOn.f a0 = some r) :
    Calls Tryz.prog 103 #[.int .i64 a0] w fun e w' => e = .returned (.bool r) ∧ Drawn0 w w' := by
 have H : (some (a0 != 0)) = some r := h
 clear h
 obtain rfl := oI_ H
 go_enter Tryz.func103, Tryz.ntmps103
 go_wp2
 go_ret
 exact ⟨qF, by repeat (first | exact Drawn0.refl _ | apply Drawn0.step)⟩
def impl_NumCut.f (a0 : Int) : Option (Int) := some (mn (mx a0 (-1000000)) 1000000)
set_option maxHeartbeats 8000000 in
set_option maxRecDepth 100000 in
theorem impl_NumCut.calls (a0 : Int) (r : Int) (w : World) (h : impl_NumCut.f a0 = some r) :
    Calls Tryz.prog 124 #[.int .i64 a0] w fun e w' => e = .returned (.int .i64 r) ∧ Below w.heap.size w w' := by
 have HB := aM_ (Below.refl w.heap.size w)
 have H : (some (mn (mx a0 (-1000000)) 1000000)) = some r := h
 clear h
 obtain ⟨ji2, hji2⟩ : ∃ j_ : Int, (mx a0 (-1000000)) = j_ := ⟨_, rfl⟩
 replace H : (some (mn (ji2) 1000000)) = some r := by first | (rw [hji2] at H; exact H) | (simp only [hji2] at H ⊢; exact H)
 have hji2_ : (if a0 < (-1000000) then (-1000000) else a0) = ji2 := hji2
 obtain ⟨ji3, hji3⟩ : ∃ j_ : Int, (mn (ji2) 1000000) = j_ := ⟨_, rfl⟩
 replace H : (some ji3) = some r := by first | (rw [hji3] at H; exact H) | (simp only [hji3] at H ⊢; exact H)
 have hji3_ : (if 1000000 < (ji2) then 1000000 else (ji2)) = ji3 := hji3
 obtain rfl := oI_ H
 go_enter Tryz.func124, Tryz.ntmps124
 go_wp2
 go_ret
 exact ⟨by first | rfl | (simp [errW_none, errW_some] <;> rfl) | (simp only [← hji2, ← hji3]; first | rfl | (simp [errW_none, errW_some] <;> rfl)) | (simp [*, errW_none, errW_some] <;> rfl), qB HB⟩
def impl_maker_of.f (a0 : Int) (a1 : Int) (a2 : Int) : Option (Int) := (impl_NumCut.f a1).bind fun t543 => ((impl_NumCut.f a2).bind fun t544 => (if a0 = 0 then ((impl_NumCut.f (wrap64 (t543 + t544))).bind fun t545 => (some t545)) else (if a0 = 1 then ((impl_NumCut.f (wrap64 (t543 - t544))).bind fun t546 => (some t546)) else ((impl_NumCut.f (wrap64 (t543 * t544))).bind fun t547 => (some t547)))))
set_option maxHeartbeats 8000000 in
set_option maxRecDepth 100000 in
theorem impl_maker_of.calls (a0 : Int) (a1 : Int) (a2 : Int) (r : Int) (w : World) (h : impl_maker_of.f a0 a1 a2 = some r) :
    Calls Tryz.prog 135 #[.int .i64 a0, .int .i64 a1, .int .i64 a2] w fun e w' => e = .returned (.int .i64 r) ∧ Below w.heap.size w w' := by
 have HB := aM_ (Below.refl w.heap.size w)
 have H : ((impl_NumCut.f a1).bind fun t543 => ((impl_NumCut.f a2).bind fun t544 => (if a0 = 0 then ((impl_NumCut.f (wrap64 (t543 + t544))).bind fun t545 => (some t545)) else (if a0 = 1 then ((impl_NumCut.f (wrap64 (t543 - t544))).bind fun t546 => (some t546)) else ((impl_NumCut.f (wrap64 (t543 * t544))).bind fun t547 => (some t547)))))) = some r := h
 clear h
 replace H := oB_ H
 obtain ⟨t543, A40, H⟩ := H
 have A4 := aM_ A40
 clear A40
 replace H := oB_ H
 obtain ⟨t544, A50, H⟩ := H
 have A5 := aM_ A50
 clear A50
 by_cases c6 : a0 = 0
 · rw [if_pos c6] at H
   have c6b0 : (a0 == 0) = true := beq_iff_eq.mpr c6
   have c6b1 : (a0 != 0) = false := bne_eq_false_iff_eq.mpr c6
   clear c6
   replace H := oB_ H
   obtain ⟨t545, A70, H⟩ := H
   have A7 := aM_ A70
   clear A70
   obtain rfl := oI_ H
   go_enter Tryz.func135, Tryz.ntmps135
   go_wp2_with (first | ((with_reducible refine gc_ 124 ?_); refine gL_ (some 8) Tryz.func124 #[.int .i64 a1] ?_; (with_reducible refine (impl_NumCut.calls a1 t543 _ A4.out).mono ?_); rintro e w8 ⟨rfl, hb⟩; refine ⟨_, rfl, ?_⟩; have n0_ := aM_ (bT_ (qB HB) hb); clear HB; revert n0_; intro HB) | ((with_reducible refine gc_ 124 ?_); refine gL_ (some 10) Tryz.func124 #[.int .i64 a2] ?_; (with_reducible refine (impl_NumCut.calls a2 t544 _ A5.out).mono ?_); rintro e w9 ⟨rfl, hb⟩; refine ⟨_, rfl, ?_⟩; have n0_ := aM_ (bT_ (qB HB) hb); clear HB; revert n0_; intro HB) | ((with_reducible refine gc_ 124 ?_); refine gL_ (some 17) Tryz.func124 #[.int .i64 (wrap64 (t543 + t544))] ?_; (with_reducible refine (impl_NumCut.calls (wrap64 (t543 + t544)) t545 _ A7.out).mono ?_); rintro e w10 ⟨rfl, hb⟩; refine ⟨_, rfl, ?_⟩; have n0_ := aM_ (bT_ (qB HB) hb); clear HB; revert n0_; intro HB))
   go_ret
   exact ⟨qE, qB HB⟩
 rw [if_neg c6] at H
 have c6b0 : (a0 == 0) = false := beq_eq_false_iff_ne.mpr c6
 have c6b1 : (a0 != 0) = true := bne_iff_ne.mpr c6
 by_cases c11 : a0 = 1
 rotate_left
 · rw [if_neg c11] at H
   have c11b0 : (a0 == 1) = false := beq_eq_false_iff_ne.mpr c11
   have c11b1 : (a0 != 1) = true := bne_iff_ne.mpr c11
   replace H := oB_ H
   obtain ⟨t547, A160, H⟩ := H
   have A16 := aM_ A160
   clear A160
   obtain rfl := oI_ H
   go_enter Tryz.func135, Tryz.ntmps135
   go_wp2_with (first | ((with_reducible refine gc_ 124 ?_); refine gL_ (some 8) Tryz.func124 #[.int .i64 a1] ?_; (with_reducible refine (impl_NumCut.calls a1 t543 _ A4.out).mono ?_); rintro e w17 ⟨rfl, hb⟩; refine ⟨_, rfl, ?_⟩; have n0_ := aM_ (bT_ (qB HB) hb); clear HB; revert n0_; intro HB) | ((with_reducible refine gc_ 124 ?_); refine gL_ (some 10) Tryz.func124 #[.int .i64 a2] ?_; (with_reducible refine (impl_NumCut.calls a2 t544 _ A5.out).mono ?_); rintro e w18 ⟨rfl, hb⟩; refine ⟨_, rfl, ?_⟩; have n0_ := aM_ (bT_ (qB HB) hb); clear HB; revert n0_; intro HB) | ((with_reducible refine gc_ 124 ?_); refine gL_ (some 27) Tryz.func124 #[.int .i64 (wrap64 (t543 * t544))] ?_; (with_reducible refine (impl_NumCut.calls (wrap64 (t543 * t544)) t547 _ A16.out).mono ?_); rintro e w19 ⟨rfl, hb⟩; refine ⟨_, rfl, ?_⟩; have n0_ := aM_ (bT_ (qB HB) hb); clear HB; revert n0_; intro HB))
   go_ret
   exact ⟨qE, qB HB⟩
 rw [if_pos c11] at H
 have c11b0 : (a0 == 1) = true := beq_iff_eq.mpr c11
 have c11b1 : (a0 != 1) = false := bne_eq_false_iff_eq.mpr c11
 clear c11
 replace H := oB_ H
 obtain ⟨t546, A120, H⟩ := H
 have A12 := aM_ A120
 clear A120
 obtain rfl := oI_ H
 go_enter Tryz.func135, Tryz.ntmps135
 go_wp2_with (first | ((with_reducible refine gc_ 124 ?_); refine gL_ (some 8) Tryz.func124 #[.int .i64 a1] ?_; (with_reducible refine (impl_NumCut.calls a1 t543 _ A4.out).mono ?_); rintro e w13 ⟨rfl, hb⟩; refine ⟨_, rfl, ?_⟩; have n0_ := aM_ (bT_ (qB HB) hb); clear HB; revert n0_; intro HB) | ((with_reducible refine gc_ 124 ?_); refine gL_ (some 10) Tryz.func124 #[.int .i64 a2] ?_; (with_reducible refine (impl_NumCut.calls a2 t544 _ A5.out).mono ?_); rintro e w14 ⟨rfl, hb⟩; refine ⟨_, rfl, ?_⟩; have n0_ := aM_ (bT_ (qB HB) hb); clear HB; revert n0_; intro HB) | ((with_reducible refine gc_ 124 ?_); refine gL_ (some 23) Tryz.func124 #[.int .i64 (wrap64 (t543 - t544))] ?_; (with_reducible refine (impl_NumCut.calls (wrap64 (t543 - t544)) t546 _ A12.out).mono ?_); rintro e w15 ⟨rfl, hb⟩; refine ⟨_, rfl, ?_⟩; have n0_ := aM_ (bT_ (qB HB) hb); clear HB; revert n0_; intro HB))
 go_ret
 exact ⟨qE, qB HB⟩
def impl_NumAdd.f (a0 : Int) (a1 : Int) : Option (Int) := (impl_maker_of.f 0 a0 a1).bind fun t548 => (some t548)
set_option maxHeartbeats 8000000 in
set_option maxRecDepth 100000 in
theorem impl_NumAdd.calls (a0 : Int) (a1 : Int) (r : Int) (w : World) (h : impl_NumAdd.f a0 a1 = some r) :
    Calls Tryz.prog 125 #[.int .i64 a0, .int .i64 a1] w fun e w' => e = .returned (.int .i64 r) ∧ Below w.heap.size w w' := by
 have HB := aM_ (Below.refl w.heap.size w)
 have H : ((impl_maker_of.f 0 a0 a1).bind fun t548 => (some t548)) = some r := h
 clear h
 replace H := oB_ H
 obtain ⟨t548, A30, H⟩ := H
 have A3 := aM_ A30
 clear A30
 obtain rfl := oI_ H
 go_enter Tryz.func125, Tryz.ntmps125
 go_wp2_with (first | ((with_reducible refine gc_ 135 ?_); refine gL_ (some 7) Tryz.func135 #[.int .i64 0, .int .i64 a0, .int .i64 a1] ?_; (with_reducible refine (impl_maker_of.calls 0 a0 a1 t548 _ A3.out).mono ?_); rintro e w4 ⟨rfl, hb⟩; refine ⟨_, rfl, ?_⟩; have n0_ := aM_ (bT_ (qB HB) hb); clear HB; revert n0_; intro HB))
 go_ret
 exact ⟨qE, qB HB⟩
def impl_NumSub.f (a0 : Int) (a1 : Int) : Option (Int) := (impl_maker_of.f 1 a0 a1).bind fun t549 => (some t549)
set_option maxHeartbeats 8000000 in
set_option maxRecDepth 100000 in
theorem impl_NumSub.calls (a0 : Int) (a1 : Int) (r : Int) (w : World) (h : impl_NumSub.f a0 a1 = some r) :
    Calls Tryz.prog 126 #[.int .i64 a0, .int .i64 a1] w fun e w' => e = .returned (.int .i64 r) ∧ Below w.heap.size w w' := by
 have HB := aM_ (Below.refl w.heap.size w)
 have H : ((impl_maker_of.f 1 a0 a1).bind fun t549 => (some t549)) = some r := h
 clear h
 replace H := oB_ H
 obtain ⟨t549, A30, H⟩ := H
 have A3 := aM_ A30
 clear A30
 obtain rfl := oI_ H
 go_enter Tryz.func126, Tryz.ntmps126
 go_wp2_with (first | ((with_reducible refine gc_ 135 ?_); refine gL_ (some 7) Tryz.func135 #[.int .i64 1, .int .i64 a0, .int .i64 a1] ?_; (with_reducible refine (impl_maker_of.calls 1 a0 a1 t549 _ A3.out).mono ?_); rintro e w4 ⟨rfl, hb⟩; refine ⟨_, rfl, ?_⟩; have n0_ := aM_ (bT_ (qB HB) hb); clear HB; revert n0_; intro HB))
 go_ret
 exact ⟨qE, qB HB⟩
def impl_NumMul.f (a0 : Int) (a1 : Int) : Option (Int) := (impl_maker_of.f 2 a0 a1).bind fun t550 => (some t550)
set_option maxHeartbeats 8000000 in
set_option maxRecDepth 100000 in
theorem impl_NumMul.calls (a0 : Int) (a1 : Int) (r : Int) (w : World) (h : impl_NumMul.f a0 a1 = some r) :
    Calls Tryz.prog 127 #[.int .i64 a0, .int .i64 a1] w fun e w' => e = .returned (.int .i64 r) ∧ Below w.heap.size w w' := by
 have HB := aM_ (Below.refl w.heap.size w)
 have H : ((impl_maker_of.f 2 a0 a1).bind fun t550 => (some t550)) = some r := h
 clear h
 replace H := oB_ H
 obtain ⟨t550, A30, H⟩ := H
 have A3 := aM_ A30
 clear A30
 obtain rfl := oI_ H
 go_enter Tryz.func127, Tryz.ntmps127
 go_wp2_with (first | ((with_reducible refine gc_ 135 ?_); refine gL_ (some 7) Tryz.func135 #[.int .i64 2, .int .i64 a0, .int .i64 a1] ?_; (with_reducible refine (impl_maker_of.calls 2 a0 a1 t550 _ A3.out).mono ?_); rintro e w4 ⟨rfl, hb⟩; refine ⟨_, rfl, ?_⟩; have n0_ := aM_ (bT_ (qB HB) hb); clear HB; revert n0_; intro HB))
 go_ret
 exact ⟨qE, qB HB⟩
def impl_two.f (a0 : Int) (a1 : Int) (a2 : Int) : Option (Int) := if a0 = 3 then ((impl_NumAdd.f a1 a2).bind fun t551 => (some t551)) else (if a0 = 4 then ((impl_NumSub.f a1 a2).bind fun t552 => (some t552)) else (if a0 = 5 then ((impl_NumMul.f a1 a2).bind fun t553 => (some t553)) else (if a0 = 6 then ((impl_NumIs.f (decide (a1 < a2))).bind fun t554 => (some t554)) else (if a0 = 7 then ((impl_NumIs.f (a1 == a2)).bind fun t555 => (some t555)) else (if a0 = 8 then ((impl_NumOn.f a1).bind fun t556 => (if t556 = true then ((impl_NumOn.f a2).bind fun t557 => ((impl_NumIs.f t557).bind fun t558 => (some t558))) else ((impl_NumIs.f false).bind fun t559 => (some t559)))) else ((impl_NumOn.f a1).bind fun t560 => (if t560 = true then ((impl_NumIs.f true).bind fun t561 => (some t561)) else ((impl_NumOn.f a2).bind fun t562 => ((impl_NumIs.f t562).bind fun t563 => (some t563))))))))))
set_option maxHeartbeats 8000000 in
set_option maxRecDepth 100000 in
theorem impl_two.calls (a0 : Int) (a1 : Int) (a2 : Int) (r : Int) (w : World) (h : impl_two.f a0 a1 a2 = some r) :
    Calls Tryz.prog 100 #[.int .i64 a0, .int .i64 a1, .int .i64 a2] w fun e w' => e = .returned (.int .i64 r) ∧ Below w.heap.size w w' := by
 have HB := aM_ (Below.refl w.heap.size w)
 have H : (if a0 = 3 then ((impl_NumAdd.f a1 a2).bind fun t551 => (some t551)) else (if a0 = 4 then ((impl_NumSub.f a1 a2).bind fun t552 => (some t552)) else (if a0 = 5 then ((impl_NumMul.f a1 a2).bind fun t553 => (some t553)) else (if a0 = 6 then ((impl_NumIs.f (decide (a1 < a2))).bind fun t554 => (some t554)) else (if a0 = 7 then ((impl_NumIs.f (a1 == a2)).bind fun t555 => (some t555)) else (if a0 = 8 then ((impl_NumOn.f a1).bind fun t556 => (if t556 = true then ((impl_NumOn.f a2).bind fun t557 => ((impl_NumIs.f t557).bind fun t558 => (some t558))) else ((impl_NumIs.f false).bind fun t559 => (some t559)))) else ((impl_NumOn.f a1).bind fun t560 => (if t560 = true then ((impl_NumIs.f true).bind fun t561 => (some t561)) else ((impl_NumOn.f a2).bind fun t562 => ((impl_NumIs.f t562).bind fun t563 => (some t563))))))))))) = some r := h
 clear h
 by_cases c4 : a0 = 3
 · rw [if_pos c4] at H
   have c4b0 : (a0 == 3) = true := beq_iff_eq.mpr c4
   have c4b1 : (a0 != 3) = false := bne_eq_false_iff_eq.mpr c4
   clear c4
   replace H := oB_ H
   obtain ⟨t551, A50, H⟩ := H
   have A5 := aM_ A50
   clear A50
   obtain rfl := oI_ H
   go_enter Tryz.func100, Tryz.ntmps100
   go_wp2_with (first | ((with_reducible refine gc_ 125 ?_); refine gL_ (some 12) Tryz.func125 #[.int .i64 a1, .int .i64 a2] ?_; (with_reducible refine (impl_NumAdd.calls a1 a2 t551 _ A5.out).mono ?_); rintro e w6 ⟨rfl, hb⟩; refine ⟨_, rfl, ?_⟩; have n0_ := aM_ (bT_ (qB HB) hb); clear HB; revert n0_; intro HB))
   go_ret
   exact ⟨qE, qB HB⟩
 rw [if_neg c4] at H
 have c4b0 : (a0 == 3) = false := beq_eq_false_iff_ne.mpr c4
 have c4b1 : (a0 != 3) = true := bne_iff_ne.mpr c4
 by_cases c7 : a0 = 4
 · rw [if_pos c7] at H
   have c7b0 : (a0 == 4) = true := beq_iff_eq.mpr c7
   have c7b1 : (a0 != 4) = false := bne_eq_false_iff_eq.mpr c7
   clear c7
   replace H := oB_ H
   obtain ⟨t552, A80, H⟩ := H
   have A8 := aM_ A80
   clear A80
   obtain rfl := oI_ H
   go_enter Tryz.func100, Tryz.ntmps100
   go_wp2_with (first | ((with_reducible refine gc_ 126 ?_); refine gL_ (some 17) Tryz.func126 #[.int .i64 a1, .int .i64 a2] ?_; (with_reducible refine (impl_NumSub.calls a1 a2 t552 _ A8.out).mono ?_); rintro e w9 ⟨rfl, hb⟩; refine ⟨_, rfl, ?_⟩; have n0_ := aM_ (bT_ (qB HB) hb); clear HB; revert n0_; intro HB))
   go_ret
   exact ⟨qE, qB HB⟩
 rw [if_neg c7] at H
 have c7b0 : (a0 == 4) = false := beq_eq_false_iff_ne.mpr c7
 have c7b1 : (a0 != 4) = true := bne_iff_ne.mpr c7
 by_cases c10 : a0 = 5
 · rw [if_pos c10] at H
   have c10b0 : (a0 == 5) = true := beq_iff_eq.mpr c10
   have c10b1 : (a0 != 5) = false := bne_eq_false_iff_eq.mpr c10
   clear c10
   replace H := oB_ H
   obtain ⟨t553, A110, H⟩ := H
   have A11 := aM_ A110
   clear A110
   obtain rfl := oI_ H
   go_enter Tryz.func100, Tryz.ntmps100
   go_wp2_with (first | ((with_reducible refine gc_ 127 ?_); refine gL_ (some 22) Tryz.func127 #[.int .i64 a1, .int .i64 a2] ?_; (with_reducible refine (impl_NumMul.calls a1 a2 t553 _ A11.out).mono ?_); rintro e w12 ⟨rfl, hb⟩; refine ⟨_, rfl, ?_⟩; have n0_ := aM_ (bT_ (qB HB) hb); clear HB; revert n0_; intro HB))
   go_ret
   exact ⟨qE, qB HB⟩
 rw [if_neg c10] at H
 have c10b0 : (a0 == 5) = false := beq_eq_false_iff_ne.mpr c10
 have c10b1 : (a0 != 5) = true := bne_iff_ne.mpr c10
 by_cases c13 : a0 = 6
 · rw [if_pos c13] at H
   have c13b0 : (a0 == 6) = true := beq_iff_eq.mpr c13
   have c13b1 : (a0 != 6) = false := bne_eq_false_iff_eq.mpr c13
   clear c13
   replace H := oB_ H
   obtain ⟨t554, A140, H⟩ := H
   have A14 := aM_ A140
   clear A140
   obtain rfl := oI_ H
   go_enter Tryz.func100, Tryz.ntmps100
   go_wp2_with (first | ((with_reducible refine gc_ 102 ?_); refine gL_ (some 28) Tryz.func102 #[.bool (decide (a1 < a2))] ?_; (with_reducible refine (impl_NumIs.calls (decide (a1 < a2)) t554 _ A14.out).mono ?_); rintro e w' ⟨rfl, ⟨nd, rfl⟩⟩; refine ⟨_, rfl, ?_⟩))
   go_ret
   exact ⟨qE, qB HB⟩
 rw [if_neg c13] at H
 have c13b0 : (a0 == 6) = false := beq_eq_false_iff_ne.mpr c13
 have c13b1 : (a0 != 6) = true := bne_iff_ne.mpr c13
 by_cases c15 : a0 = 7
 · rw [if_pos c15] at H
   have c15b0 : (a0 == 7) = true := beq_iff_eq.mpr c15
   have c15b1 : (a0 != 7) = false := bne_eq_false_iff_eq.mpr c15
   clear c15
   replace H := oB_ H
   obtain ⟨t555, A160, H⟩ := H
   have A16 := aM_ A160
   clear A160
   obtain rfl := oI_ H
   go_enter Tryz.func100, Tryz.ntmps100
   go_wp2_with (first | ((with_reducible refine gc_ 102 ?_); refine gL_ (some 34) Tryz.func102 #[.bool (a1 == a2)] ?_; (with_reducible refine (impl_NumIs.calls (a1 == a2) t555 _ A16.out).mono ?_); rintro e w' ⟨rfl, ⟨nd, rfl⟩⟩; refine ⟨_, rfl, ?_⟩))
   go_ret
   exact ⟨qE, qB HB⟩
 rw [if_neg c15] at H
 have c15b0 : (a0 == 7) = false := beq_eq_false_iff_ne.mpr c15
 have c15b1 : (a0 != 7) = true := bne_iff_ne.mpr c15
 by_cases c17 : a0 = 8
 rotate_left
 · rw [if_neg c17] at H
   have c17b0 : (a0 == 8) = false := beq_eq_false_iff_ne.mpr c17
   have c17b1 : (a0 != 8) = true := bne_iff_ne.mpr c17
   replace H := oB_ H
   obtain ⟨t560, A230, H⟩ := H
   have A23 := aM_ A230
   clear A230
   by_cases c24 : t560 = true
   · subst c24
     rw [if_pos rfl] at H
     replace H := oB_ H
     obtain ⟨t561, A250, H⟩ := H
     have A25 := aM_ A250
     clear A250
     obtain rfl := oI_ H
     go_enter Tryz.func100, Tryz.ntmps100
     go_wp2_with (first | ((with_reducible refine gc_ 103 ?_); refine gL_ (some 45) Tryz.func103 #[.int .i64 a1] ?_; (with_reducible refine (impl_NumOn.calls a1 true _ A23.out).mono ?_); rintro e w' ⟨rfl, ⟨nd, rfl⟩⟩; refine ⟨_, rfl, ?_⟩) | ((with_reducible refine gc_ 102 ?_); refine gL_ (some 50) Tryz.func102 #[.bool true] ?_; (with_reducible refine (impl_NumIs.calls true t561 _ A25.out).mono ?_); rintro e w' ⟨rfl, ⟨nd, rfl⟩⟩; refine ⟨_, rfl, ?_⟩))
     go_ret
     exact ⟨qE, qB HB⟩
   replace c24 := Bool.eq_false_iff.mpr c24
   subst c24
   rw [if_neg (show ¬ (false = true) by decide)] at H
   replace H := oB_ H
   obtain ⟨t562, A260, H⟩ := H
   have A26 := aM_ A260
   clear A260
   replace H := oB_ H
   obtain ⟨t563, A270, H⟩ := H
   have A27 := aM_ A270
   clear A270
   obtain rfl := oI_ H
   go_enter Tryz.func100, Tryz.ntmps100
   go_wp2_with (first | ((with_reducible refine gc_ 103 ?_); refine gL_ (some 45) Tryz.func103 #[.int .i64 a1] ?_; (with_reducible refine (impl_NumOn.calls a1 false _ A23.out).mono ?_); rintro e w' ⟨rfl, ⟨nd, rfl⟩⟩; refine ⟨_, rfl, ?_⟩) | (go_at_call 103; (with_reducible refine (impl_NumOn.calls a2 t562 _ A26.out).mono ?_); rintro e w' ⟨rfl, ⟨nd, rfl⟩⟩) | ((with_reducible refine gc_ 102 ?_); refine gL_ (some 50) Tryz.func102 #[.bool t562] ?_; (with_reducible refine (impl_NumIs.calls t562 t563 _ A27.out).mono ?_); rintro e w' ⟨rfl, ⟨nd, rfl⟩⟩; refine ⟨_, rfl, ?_⟩))
   go_ret
   exact ⟨qE, qB HB⟩
 rw [if_pos c17] at H
 have c17b0 : (a0 == 8) = true := beq_iff_eq.mpr c17
 have c17b1 : (a0 != 8) = false := bne_eq_false_iff_eq.mpr c17
 clear c17
 replace H := oB_ H
 obtain ⟨t556, A180, H⟩ := H
 have A18 := aM_ A180
 clear A180
 by_cases c19 : t556 = true
 rotate_left
 · replace c19 := Bool.eq_false_iff.mpr c19
   subst c19
   rw [if_neg (show ¬ (false = true) by decide)] at H
   replace H := oB_ H
   obtain ⟨t559, A220, H⟩ := H
   have A22 := aM_ A220
   clear A220
   obtain rfl := oI_ H
   go_enter Tryz.func100, Tryz.ntmps100
   go_wp2_with (first | ((with_reducible refine gc_ 103 ?_); refine gL_ (some 38) Tryz.func103 #[.int .i64 a1] ?_; (with_reducible refine (impl_NumOn.calls a1 false _ A18.out).mono ?_); rintro e w' ⟨rfl, ⟨nd, rfl⟩⟩; refine ⟨_, rfl, ?_⟩) | ((with_reducible refine gc_ 102 ?_); refine gL_ (some 43) Tryz.func102 #[.bool false] ?_; (with_reducible refine (impl_NumIs.calls false t559 _ A22.out).mono ?_); rintro e w' ⟨rfl, ⟨nd, rfl⟩⟩; refine ⟨_, rfl, ?_⟩))
   go_ret
   exact ⟨qE, qB HB⟩
 subst c19
 rw [if_pos rfl] at H
 replace H := oB_ H
 obtain ⟨t557, A200, H⟩ := H
 have A20 := aM_ A200
 clear A200
 replace H := oB_ H
 obtain ⟨t558, A210, H⟩ := H
 have A21 := aM_ A210
 clear A210
 obtain rfl := oI_ H
 go_enter Tryz.func100, Tryz.ntmps100
 go_wp2_with (first | ((with_reducible refine gc_ 103 ?_); refine gL_ (some 38) Tryz.func103 #[.int .i64 a1] ?_; (with_reducible refine (impl_NumOn.calls a1 true _ A18.out).mono ?_); rintro e w' ⟨rfl, ⟨nd, rfl⟩⟩; refine ⟨_, rfl, ?_⟩) | (go_at_call 103; (with_reducible refine (impl_NumOn.calls a2 t557 _ A20.out).mono ?_); rintro e w' ⟨rfl, ⟨nd, rfl⟩⟩) | ((with_reducible refine gc_ 102 ?_); refine gL_ (some 43) Tryz.func102 #[.bool t557] ?_; (with_reducible refine (impl_NumIs.calls t557 t558 _ A21.out).mono ?_); rintro e w' ⟨rfl, ⟨nd, rfl⟩⟩; refine ⟨_, rfl, ?_⟩))
 go_ret
 exact ⟨qE, qB HB⟩
end Go.Proofs.YtjamfddhcigchaaGreatDoor.Gt
