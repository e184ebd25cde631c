-- Made by a program of this session (hp.py) over the kit's print: functions told by hand stand beside printed ones. Lean checks it.
import Derived.Test.YtjamfddhcigchaaGreatDoorTFnCodeRunHFnCodeRunx13
namespace Go.Proofs.YtjamfddhcigchaaGreatDoor.HFnCodeRun
open Go.RowKit Go.Proofs.YtjamfddhcigchaaGreatDoorW.PrintWords Go.Proofs.YtjamfddhcigchaaGreatDoorW.PrintLast Go.Proofs.YtjamfddhcigchaaGreatDoorW.PrintMore
attribute [local go_sem] max2_int min2_int max_two min_two max_three min_three max_four min_four
set_option linter.unusedVariables false
set_option linter.unusedSimpArgs false
attribute [local go_sem high] eqA28 eqA30
def spec_l2MemBent.f (k : Nat) (s0_0 : List Int) (s0_1 : Int) : Option (List Int × List Int × List Int × Int) := (spec_l2Mem.f k s0_0 s0_1).bind fun bt416 => ((spec_l12Rd_pick.f k s0_0 bt416.2.2.2 30).bind fun bt427 => (if bt427.1 = 0 then (if 2 ≤ (bt416.1.length : Int) then (some ((bt416.1.take (2 : Int).toNat), bt416.2.1, bt416.2.2.1, bt427.2)) else (none)) else (if bt427.1 = 1 then (if 0 < (bt416.2.2.1.length : Int) then (some (bt416.1, bt416.2.1, (bt416.2.2.1.set (0 : Int).toNat 1000001), bt427.2)) else (none)) else (if bt427.1 = 2 then (if bt416.2.1.length < 17592186044416 then (some (bt416.1, (bt416.2.1 ++ [0]), bt416.2.2.1, bt427.2)) else (none)) else (some (bt416.1, bt416.2.1, bt416.2.2.1, bt427.2))))))
def spec_DrawCodeRun.f (k : Nat) (l0 : List Int) : Option (List Int × List Int × List Int × (List (S30)) × Int) := (spec_l12Open.f l0).bind fun bt437 => ((spec_l5Code.f k bt437.1 bt437.2).bind fun bt440 => ((spec_l2MemBent.f k bt437.1 bt440.2).bind fun bt444 => ((spec_l12Rd_num.f k bt437.1 bt444.2.2.2 (([100, 100, 5, 0, 1, 101, (-1)] : List Int))).bind fun bt457 => (some (bt444.1, bt444.2.1, bt444.2.2.1, bt440.1, bt457.1)))))
def bits_Mul32.f (a0 : Int) (a1 : Int) : Option (Int × Int) := some (((IntKind.u64.wrap ((IntKind.u64.wrap (a0)) * (IntKind.u64.wrap (a1)))) / 4294967296) % 4294967296, (IntKind.u64.wrap ((IntKind.u64.wrap (a0)) * (IntKind.u64.wrap (a1)))) % 4294967296)
def bits_Mul64.f (a0 : Int) (a1 : Int) : Option (Int × Int) := some (IntKind.u64.wrap ((IntKind.u64.wrap ((IntKind.u64.wrap ((a0 / 4294967296) * (a1 / 4294967296))) + ((IntKind.u64.wrap ((IntKind.u64.wrap ((a0 / 4294967296) * (Go.bits .and .u64 a1 4294967295))) + ((IntKind.u64.wrap ((Go.bits .and .u64 a0 4294967295) * (Go.bits .and .u64 a1 4294967295))) / 4294967296))) / 4294967296))) + ((IntKind.u64.wrap ((Go.bits .and .u64 (IntKind.u64.wrap ((IntKind.u64.wrap ((a0 / 4294967296) * (Go.bits .and .u64 a1 4294967295))) + ((IntKind.u64.wrap ((Go.bits .and .u64 a0 4294967295) * (Go.bits .and .u64 a1 4294967295))) / 4294967296))) 4294967295) + (IntKind.u64.wrap ((Go.bits .and .u64 a0 4294967295) * (a1 / 4294967296))))) / 4294967296)), IntKind.u64.wrap (a0 * a1))
set_option maxHeartbeats 8000000 in
set_option maxRecDepth 100000 in
theorem bits_Mul64.calls (a0 : Int) (a1 : Int) (r1 : Int) (r2 : Int) (w : World) (h : bits_Mul64.f a0 a1 = some (r1, r2)) :
    Calls Tryz.prog 129 #[.int .u64 a0, .int .u64 a1] w fun e w' => e = .returned (.tuple #[.int .u64 r1, .int .u64 r2]) ∧ Drawn0 w w' := by
 have H : (some (IntKind.u64.wrap ((IntKind.u64.wrap ((IntKind.u64.wrap ((a0 / 4294967296) * (a1 / 4294967296))) + ((IntKind.u64.wrap ((IntKind.u64.wrap ((a0 / 4294967296) * (Go.bits .and .u64 a1 4294967295))) + ((IntKind.u64.wrap ((Go.bits .and .u64 a0 4294967295) * (Go.bits .and .u64 a1 4294967295))) / 4294967296))) / 4294967296))) + ((IntKind.u64.wrap ((Go.bits .and .u64 (IntKind.u64.wrap ((IntKind.u64.wrap ((a0 / 4294967296) * (Go.bits .and .u64 a1 4294967295))) + ((IntKind.u64.wrap ((Go.bits .and .u64 a0 4294967295) * (Go.bits .and .u64 a1 4294967295))) / 4294967296))) 4294967295) + (IntKind.u64.wrap ((Go.bits .and .u64 a0 4294967295) * (a1 / 4294967296))))) / 4294967296)), IntKind.u64.wrap (a0 * a1))) = some (r1, r2) := h
 clear h
 simp only [Option.some.injEq, Prod.mk.injEq] at H
 obtain ⟨rfl, rfl⟩ := H
 go_enter Tryz.func129, Tryz.ntmps129
 go_wp2
 go_ret2
 exact ⟨qF, by repeat (first | exact Drawn0.refl _ | apply Drawn0.step)⟩
def bits_Mul.f (a0 : Int) (a1 : Int) : Option (Int × Int) := (bits_Mul64.f a0 a1).bind fun bt459 => (some (bt459.1, bt459.2))
set_option maxHeartbeats 8000000 in
set_option maxRecDepth 100000 in
theorem bits_Mul.calls (a0 : Int) (a1 : Int) (r1 : Int) (r2 : Int) (w : World) (h : bits_Mul.f a0 a1 = some (r1, r2)) :
    Calls Tryz.prog 109 #[.int .u64 a0, .int .u64 a1] w fun e w' => e = .returned (.tuple #[.int .u64 r1, .int .u64 r2]) ∧ Drawn0 w w' := by
 have H : ((bits_Mul64.f a0 a1).bind fun bt459 => (some (bt459.1, bt459.2))) = some (r1, r2) := h
 clear h
 replace H := oB_ H
 obtain ⟨⟨t459, t460⟩, A30, H⟩ := H
 dsimp only at H
 have A3 := aM_ A30
 clear A30
 simp only [Option.some.injEq, Prod.mk.injEq] at H
 obtain ⟨rfl, rfl⟩ := H
 go_enter Tryz.func109, Tryz.ntmps109
 go_wp2_with (first | ((with_reducible refine gc_ 129 ?_); refine gL_ (some 25) Tryz.func129 #[.int .u64 a0, .int .u64 a1] ?_; (with_reducible refine (bits_Mul64.calls a0 a1 t459 t460 _ A3.out).mono ?_); rintro e w' ⟨rfl, ⟨nd, rfl⟩⟩; refine ⟨_, rfl, ?_⟩))
 go_ret2
 exact ⟨qF, by repeat (first | exact Drawn0.refl _ | apply Drawn0.step)⟩
def impl_isNum.f (a0 : Int) : Option (Bool) := if a0 ≥ (-1000000) then (some (decide (a0 ≤ 1000000))) else (some false)
set_option maxHeartbeats 8000000 in
set_option maxRecDepth 100000 in
theorem impl_isNum.calls (a0 : Int) (r : Bool) (w : World) (h : impl_isNum.f a0 = some r) :
    Calls Tryz.prog 63 #[.int .i64 a0] w fun e w' => e = .returned (.bool r) ∧ Drawn0 w w' := by
 have H : (if a0 ≥ (-1000000) then (some (decide (a0 ≤ 1000000))) else (some false)) = some r := h
 clear h
 by_cases c2 : a0 ≥ (-1000000)
 · rw [if_pos c2] at H
   have c2b0 : decide ((-1000000) ≤ a0) = true := dT_ c2
   clear c2
   obtain rfl := oI_ H
   go_enter Tryz.func63, Tryz.ntmps63
   go_wp2
   go_ret
   exact ⟨qF, by repeat (first | exact Drawn0.refl _ | apply Drawn0.step)⟩
 rw [if_neg c2] at H
 have c2b0 : decide ((-1000000) ≤ a0) = false := dF_ c2
 clear c2
 obtain rfl := oI_ H
 go_enter Tryz.func63, Tryz.ntmps63
 go_wp2
 go_ret
 exact ⟨qF, by repeat (first | exact Drawn0.refl _ | apply Drawn0.step)⟩
def impl_AddrOk.f (a0_0 : Int) (a0_1 : Int) : Option (Bool) := if a0_0 ≥ 1 then (if a0_0 ≤ 3 then (if a0_1 ≥ 0 then (some (decide (a0_1 < 6))) else (some false)) else (some false)) else (some false)
set_option maxHeartbeats 8000000 in
set_option maxRecDepth 100000 in
theorem impl_AddrOk.calls (a0_0 : Int) (a0_1 : Int) (r : Bool) (w : World) (h : impl_AddrOk.f a0_0 a0_1 = some r) :
    Calls Tryz.prog 110 #[.agg #[.int .i64 a0_0, .int .i64 a0_1]] w fun e w' => e = .returned (.bool r) ∧ Below w.heap.size w w' := by
 have hu28 := Tryz.underlying28
 have HB := aM_ (Below.refl w.heap.size w)
 have H : (if a0_0 ≥ 1 then (if a0_0 ≤ 3 then (if a0_1 ≥ 0 then (some (decide (a0_1 < 6))) else (some false)) else (some false)) else (some false)) = some r := h
 clear h
 by_cases c2 : a0_0 ≥ 1
 rotate_left
 · rw [if_neg c2] at H
   have c2b0 : decide (1 ≤ a0_0) = false := dF_ c2
   clear c2
   obtain rfl := oI_ H
   go_enter Tryz.func110, Tryz.ntmps110
   go_wp2_with (first | ((with_reducible refine gD_ 1 ?_); refine bxB 1 28 #[.int .i64 a0_0, .int .i64 a0_1] (qB HB) ?_; clear HB; intro gb461 w11 HB BK461 GW461; have GE461 := GW461; have hC12 := cf2 BK461.out))
   go_ret
   exact ⟨qE, qB HB⟩
 rw [if_pos c2] at H
 have c2b0 : decide (1 ≤ a0_0) = true := dT_ c2
 clear c2
 by_cases c3 : a0_0 ≤ 3
 rotate_left
 · rw [if_neg c3] at H
   have c3b0 : decide (a0_0 ≤ 3) = false := dF_ c3
   clear c3
   obtain rfl := oI_ H
   go_enter Tryz.func110, Tryz.ntmps110
   go_wp2_with (first | ((with_reducible refine gD_ 1 ?_); refine bxB 1 28 #[.int .i64 a0_0, .int .i64 a0_1] (qB HB) ?_; clear HB; intro gb461 w9 HB BK461 GW461; have GE461 := GW461; have hC10 := cf2 BK461.out))
   go_ret
   exact ⟨qE, qB HB⟩
 rw [if_pos c3] at H
 have c3b0 : decide (a0_0 ≤ 3) = true := dT_ c3
 clear c3
 by_cases c4 : a0_1 ≥ 0
 · rw [if_pos c4] at H
   have c4b0 : decide (0 ≤ a0_1) = true := dT_ c4
   clear c4
   obtain rfl := oI_ H
   go_enter Tryz.func110, Tryz.ntmps110
   go_wp2_with (first | ((with_reducible refine gD_ 1 ?_); refine bxB 1 28 #[.int .i64 a0_0, .int .i64 a0_1] (qB HB) ?_; clear HB; intro gb461 w5 HB BK461 GW461; have GE461 := GW461; have hC6 := cf2 BK461.out))
   go_ret
   exact ⟨qE, qB HB⟩
 rw [if_neg c4] at H
 have c4b0 : decide (0 ≤ a0_1) = false := dF_ c4
 clear c4
 obtain rfl := oI_ H
 go_enter Tryz.func110, Tryz.ntmps110
 go_wp2_with (first | ((with_reducible refine gD_ 1 ?_); refine bxB 1 28 #[.int .i64 a0_0, .int .i64 a0_1] (qB HB) ?_; clear HB; intro gb461 w7 HB BK461 GW461; have GE461 := GW461; have hC8 := cf2 BK461.out))
 go_ret
 exact ⟨qE, qB HB⟩
def impl_puts.f (a0_0 : Int) (a0_1 : Int) : Option (Bool) := (impl_AddrOk.f a0_0 a0_1).bind fun t463 => (if t463 = true then (some (a0_0 != 1)) else (some false))
set_option maxHeartbeats 8000000 in
set_option maxRecDepth 100000 in
theorem impl_puts.calls (a0_0 : Int) (a0_1 : Int) (r : Bool) (w : World) (h : impl_puts.f a0_0 a0_1 = some r) :
    Calls Tryz.prog 111 #[.agg #[.int .i64 a0_0, .int .i64 a0_1]] w fun e w' => e = .returned (.bool r) ∧ Below w.heap.size w w' := by
 have hu28 := Tryz.underlying28
 have HB := aM_ (Below.refl w.heap.size w)
 have H : ((impl_AddrOk.f a0_0 a0_1).bind fun t463 => (if t463 = true then (some (a0_0 != 1)) else (some false))) = some r := h
 clear h
 replace H := oB_ H
 obtain ⟨t463, A20, H⟩ := H
 have A2 := aM_ A20
 clear A20
 by_cases c3 : t463 = true
 rotate_left
 · replace c3 := Bool.eq_false_iff.mpr c3
   subst c3
   rw [if_neg (show ¬ (false = true) by decide)] at H
   obtain rfl := oI_ H
   go_enter Tryz.func111, Tryz.ntmps111
   go_wp2_with (first | ((with_reducible refine gD_ 1 ?_); refine bxB 1 28 #[.int .i64 a0_0, .int .i64 a0_1] (qB HB) ?_; clear HB; intro gb462 w8 HB BK462 GW462; have GE462 := GW462; have hC9 := cf2 BK462.out) | ((with_reducible refine gc_ 110 ?_); refine gL_ (some 4) Tryz.func110 #[.agg #[.int .i64 a0_0, .int .i64 a0_1]] ?_; (with_reducible refine (impl_AddrOk.calls a0_0 a0_1 false _ A2.out).mono ?_); rintro e w10 ⟨rfl, hb⟩; refine ⟨_, rfl, ?_⟩; have n_ := aN2_ (blk_below (qg BK462) hb) (bT_ (qB HB) hb); clear BK462 HB; obtain ⟨BK462, HB⟩ := n_))
   go_ret
   exact ⟨qE, qB HB⟩
 subst c3
 rw [if_pos rfl] at H
 obtain rfl := oI_ H
 go_enter Tryz.func111, Tryz.ntmps111
 go_wp2_with (first | ((with_reducible refine gD_ 1 ?_); refine bxB 1 28 #[.int .i64 a0_0, .int .i64 a0_1] (qB HB) ?_; clear HB; intro gb462 w4 HB BK462 GW462; have GE462 := GW462; have hC5 := cf2 BK462.out) | ((with_reducible refine gc_ 110 ?_); refine gL_ (some 4) Tryz.func110 #[.agg #[.int .i64 a0_0, .int .i64 a0_1]] ?_; (with_reducible refine (impl_AddrOk.calls a0_0 a0_1 true _ A2.out).mono ?_); rintro e w6 ⟨rfl, hb⟩; refine ⟨_, rfl, ?_⟩; have n_ := aN2_ (blk_below (qg BK462) hb) (bT_ (qB HB) hb); clear BK462 HB; obtain ⟨BK462, HB⟩ := n_; have hC7 := cf2 BK462.out))
 go_ret
 exact ⟨qE, qB HB⟩
def impl_isTwo.f (a0 : Int) : Option (Bool) := if a0 ≥ 3 then (some (decide (a0 ≤ 9))) else (some false)
set_option maxHeartbeats 8000000 in
set_option maxRecDepth 100000 in
theorem impl_isTwo.calls (a0 : Int) (r : Bool) (w : World) (h : impl_isTwo.f a0 = some r) :
    Calls Tryz.prog 112 #[.int .i64 a0] w fun e w' => e = .returned (.bool r) ∧ Drawn0 w w' := by
 have H : (if a0 ≥ 3 then (some (decide (a0 ≤ 9))) else (some false)) = some r := h
 clear h
 by_cases c2 : a0 ≥ 3
 · rw [if_pos c2] at H
   have c2b0 : decide (3 ≤ a0) = true := dT_ c2
   clear c2
   obtain rfl := oI_ H
   go_enter Tryz.func112, Tryz.ntmps112
   go_wp2
   go_ret
   exact ⟨qF, by repeat (first | exact Drawn0.refl _ | apply Drawn0.step)⟩
 rw [if_neg c2] at H
 have c2b0 : decide (3 ≤ a0) = false := dF_ c2
 clear c2
 obtain rfl := oI_ H
 go_enter Tryz.func112, Tryz.ntmps112
 go_wp2
 go_ret
 exact ⟨qF, by repeat (first | exact Drawn0.refl _ | apply Drawn0.step)⟩
def impl_Ins_ok.j0 : Nat → Int → Int → Int → Bool → Int → Int → Int → Int → Option (Bool)
  | 0, _, _, _, _, _, _, _, _ => none
  | k + 1, x1, x2, x8, x56, x465000, x465001, x465002, x465003 => if x56 = true then (if x465001 > x1 then (if x465001 ≤ x2 then (some (x465002 == 0 && (x465003 == 0))) else (some false)) else (some false)) else (if x8 = 8 then (if x465001 ≥ 0 then (if x465001 < x1 then (some (x465002 == 0 && (x465003 == 0))) else (some false)) else (some false)) else (some false))
def impl_Ins_ok.f (k : Nat) (a0_0 : Int) (a0_1 : Int) (a0_2 : Int) (a0_3 : Int) (a1 : Int) (a2 : Int) : Option (Bool) := if a0_0 = 1 then ((impl_isNum.f a0_1).bind fun t465 => (if t465 = true then (some (a0_2 == 0 && (a0_3 == 0))) else (some false))) else (if a0_0 = 2 then (if a0_1 = 0 then ((impl_AddrOk.f a0_2 a0_3).bind fun t466 => (some t466)) else (some false)) else (if a0_0 = 3 then (if a0_1 = 0 then ((impl_puts.f a0_2 a0_3).bind fun t467 => (some t467)) else (some false)) else (if a0_0 = 4 then ((impl_isTwo.f a0_1).bind fun t468 => (if t468 = true then (some (a0_2 == 0 && (a0_3 == 0))) else (some false))) else (if a0_0 = 5 then (some (a0_0 == 5 && (a0_1 == 0 && ((a0_2 == 0 && (a0_3 == 0)))))) else (if a0_0 = 6 then (impl_Ins_ok.j0 k a1 a2 a0_0 (a0_0 == 6) a0_0 a0_1 a0_2 a0_3) else (impl_Ins_ok.j0 k a1 a2 a0_0 (a0_0 == 7) a0_0 a0_1 a0_2 a0_3))))))
set_option maxHeartbeats 8000000 in
set_option maxRecDepth 100000 in
theorem impl_Ins_ok.calls (k : Nat) (a0_0 : Int) (a0_1 : Int) (a0_2 : Int) (a0_3 : Int) (a1 : Int) (a2 : Int) (r : Bool) (w : World) (h : impl_Ins_ok.f k a0_0 a0_1 a0_2 a0_3 a1 a2 = some r) :
    Calls Tryz.prog 68 #[.agg #[.int .i64 a0_0, .int .i64 a0_1, .int .i64 a0_2, .int .i64 a0_3], .int .i64 a1, .int .i64 a2] w fun e w' => e = .returned (.bool r) ∧ Below w.heap.size w w' := by
 have hu30 := Tryz.underlying30
 have hu28 := Tryz.underlying28
 have HB := aM_ (Below.refl w.heap.size w)
 have H : (if a0_0 = 1 then ((impl_isNum.f a0_1).bind fun t465 => (if t465 = true then (some (a0_2 == 0 && (a0_3 == 0))) else (some false))) else (if a0_0 = 2 then (if a0_1 = 0 then ((impl_AddrOk.f a0_2 a0_3).bind fun t466 => (some t466)) else (some false)) else (if a0_0 = 3 then (if a0_1 = 0 then ((impl_puts.f a0_2 a0_3).bind fun t467 => (some t467)) else (some false)) else (if a0_0 = 4 then ((impl_isTwo.f a0_1).bind fun t468 => (if t468 = true then (some (a0_2 == 0 && (a0_3 == 0))) else (some false))) else (if a0_0 = 5 then (some (a0_0 == 5 && (a0_1 == 0 && ((a0_2 == 0 && (a0_3 == 0)))))) else (if a0_0 = 6 then (impl_Ins_ok.j0 k a1 a2 a0_0 (a0_0 == 6) a0_0 a0_1 a0_2 a0_3) else (impl_Ins_ok.j0 k a1 a2 a0_0 (a0_0 == 7) a0_0 a0_1 a0_2 a0_3))))))) = some r := h
 clear h
 by_cases c4 : a0_0 = 1
 · rw [if_pos c4] at H
   have c4b0 : (a0_0 == 1) = true := beq_iff_eq.mpr c4
   have c4b1 : (a0_0 != 1) = false := bne_eq_false_iff_eq.mpr c4
   clear c4
   replace H := oB_ H
   obtain ⟨t465, A50, H⟩ := H
   have A5 := aM_ A50
   clear A50
   by_cases c6 : t465 = true
   · subst c6
     rw [if_pos rfl] at H
     obtain rfl := oI_ H
     go_enter Tryz.func68, Tryz.ntmps68
     go_wp2_with (first | ((with_reducible refine gD_ 3 ?_); refine bxB 3 30 #[.int .i64 a0_0, .int .i64 a0_1, .int .i64 a0_2, .int .i64 a0_3] (qB HB) ?_; clear HB; intro gb464 w7 HB BK464 GW464; have GE464 := GW464; have hC8 := cf4 BK464.out) | ((with_reducible refine gc_ 63 ?_); refine gL_ (some 13) Tryz.func63 #[.int .i64 a0_1] ?_; (with_reducible refine (impl_isNum.calls a0_1 true _ A5.out).mono ?_); rintro e w' ⟨rfl, ⟨nd, rfl⟩⟩; refine ⟨_, rfl, ?_⟩))
     go_ret
     exact ⟨qE, qB HB⟩
   replace c6 := Bool.eq_false_iff.mpr c6
   subst c6
   rw [if_neg (show ¬ (false = true) by decide)] at H
   obtain rfl := oI_ H
   go_enter Tryz.func68, Tryz.ntmps68
   go_wp2_with (first | ((with_reducible refine gD_ 3 ?_); refine bxB 3 30 #[.int .i64 a0_0, .int .i64 a0_1, .int .i64 a0_2, .int .i64 a0_3] (qB HB) ?_; clear HB; intro gb464 w9 HB BK464 GW464; have GE464 := GW464; have hC10 := cf4 BK464.out) | ((with_reducible refine gc_ 63 ?_); refine gL_ (some 13) Tryz.func63 #[.int .i64 a0_1] ?_; (with_reducible refine (impl_isNum.calls a0_1 false _ A5.out).mono ?_); rintro e w' ⟨rfl, ⟨nd, rfl⟩⟩; refine ⟨_, rfl, ?_⟩))
   go_ret
   exact ⟨qE, qB HB⟩
 rw [if_neg c4] at H
 have c4b0 : (a0_0 == 1) = false := beq_eq_false_iff_ne.mpr c4
 have c4b1 : (a0_0 != 1) = true := bne_iff_ne.mpr c4
 by_cases c11 : a0_0 = 2
 · rw [if_pos c11] at H
   have c11b0 : (a0_0 == 2) = true := beq_iff_eq.mpr c11
   have c11b1 : (a0_0 != 2) = false := bne_eq_false_iff_eq.mpr c11
   clear c11
   by_cases c12 : a0_1 = 0
   rotate_left
   · rw [if_neg c12] at H
     have c12b0 : (a0_1 == 0) = false := beq_eq_false_iff_ne.mpr c12
     have c12b1 : (a0_1 != 0) = true := bne_iff_ne.mpr c12
     obtain rfl := oI_ H
     go_enter Tryz.func68, Tryz.ntmps68
     go_wp2_with (first | ((with_reducible refine gD_ 3 ?_); refine bxB 3 30 #[.int .i64 a0_0, .int .i64 a0_1, .int .i64 a0_2, .int .i64 a0_3] (qB HB) ?_; clear HB; intro gb464 w17 HB BK464 GW464; have GE464 := GW464; have hC18 := cf4 BK464.out))
     go_ret
     exact ⟨qE, qB HB⟩
   rw [if_pos c12] at H
   have c12b0 : (a0_1 == 0) = true := beq_iff_eq.mpr c12
   have c12b1 : (a0_1 != 0) = false := bne_eq_false_iff_eq.mpr c12
   clear c12
   replace H := oB_ H
   obtain ⟨t466, A130, H⟩ := H
   have A13 := aM_ A130
   clear A130
   obtain rfl := oI_ H
   go_enter Tryz.func68, Tryz.ntmps68
   go_wp2_with (first | ((with_reducible refine gD_ 3 ?_); refine bxB 3 30 #[.int .i64 a0_0, .int .i64 a0_1, .int .i64 a0_2, .int .i64 a0_3] (qB HB) ?_; clear HB; intro gb464 w14 HB BK464 GW464; have GE464 := GW464; have hC15 := cf4 BK464.out) | (go_at_call 110; (with_reducible refine (impl_AddrOk.calls a0_2 a0_3 t466 _ A13.out).mono ?_); rintro e w16 ⟨rfl, hb⟩; have n_ := aN2_ (blk_below (qg BK464) hb) (bT_ (qB HB) hb); clear BK464 HB; obtain ⟨BK464, HB⟩ := n_))
   go_ret
   exact ⟨qE, qB HB⟩
 rw [if_neg c11] at H
 have c11b0 : (a0_0 == 2) = false := beq_eq_false_iff_ne.mpr c11
 have c11b1 : (a0_0 != 2) = true := bne_iff_ne.mpr c11
 by_cases c19 : a0_0 = 3
 · rw [if_pos c19] at H
   have c19b0 : (a0_0 == 3) = true := beq_iff_eq.mpr c19
   have c19b1 : (a0_0 != 3) = false := bne_eq_false_iff_eq.mpr c19
   clear c19
   by_cases c20 : a0_1 = 0
   rotate_left
   · rw [if_neg c20] at H
     have c20b0 : (a0_1 == 0) = false := beq_eq_false_iff_ne.mpr c20
     have c20b1 : (a0_1 != 0) = true := bne_iff_ne.mpr c20
     obtain rfl := oI_ H
     go_enter Tryz.func68, Tryz.ntmps68
     go_wp2_with (first | ((with_reducible refine gD_ 3 ?_); refine bxB 3 30 #[.int .i64 a0_0, .int .i64 a0_1, .int .i64 a0_2, .int .i64 a0_3] (qB HB) ?_; clear HB; intro gb464 w25 HB BK464 GW464; have GE464 := GW464; have hC26 := cf4 BK464.out))
     go_ret
     exact ⟨qE, qB HB⟩
   rw [if_pos c20] at H
   have c20b0 : (a0_1 == 0) = true := beq_iff_eq.mpr c20
   have c20b1 : (a0_1 != 0) = false := bne_eq_false_iff_eq.mpr c20
   clear c20
   replace H := oB_ H
   obtain ⟨t467, A210, H⟩ := H
   have A21 := aM_ A210
   clear A210
   obtain rfl := oI_ H
   go_enter Tryz.func68, Tryz.ntmps68
   go_wp2_with (first | ((with_reducible refine gD_ 3 ?_); refine bxB 3 30 #[.int .i64 a0_0, .int .i64 a0_1, .int .i64 a0_2, .int .i64 a0_3] (qB HB) ?_; clear HB; intro gb464 w22 HB BK464 GW464; have GE464 := GW464; have hC23 := cf4 BK464.out) | (go_at_call 111; (with_reducible refine (impl_puts.calls a0_2 a0_3 t467 _ A21.out).mono ?_); rintro e w24 ⟨rfl, hb⟩; have n_ := aN2_ (blk_below (qg BK464) hb) (bT_ (qB HB) hb); clear BK464 HB; obtain ⟨BK464, HB⟩ := n_))
   go_ret
   exact ⟨qE, qB HB⟩
 rw [if_neg c19] at H
 have c19b0 : (a0_0 == 3) = false := beq_eq_false_iff_ne.mpr c19
 have c19b1 : (a0_0 != 3) = true := bne_iff_ne.mpr c19
 by_cases c27 : a0_0 = 4
 · rw [if_pos c27] at H
   have c27b0 : (a0_0 == 4) = true := beq_iff_eq.mpr c27
   have c27b1 : (a0_0 != 4) = false := bne_eq_false_iff_eq.mpr c27
   clear c27
   replace H := oB_ H
   obtain ⟨t468, A280, H⟩ := H
   have A28 := aM_ A280
   clear A280
   by_cases c29 : t468 = true
   · subst c29
     rw [if_pos rfl] at H
     obtain rfl := oI_ H
     go_enter Tryz.func68, Tryz.ntmps68
     go_wp2_with (first | ((with_reducible refine gD_ 3 ?_); refine bxB 3 30 #[.int .i64 a0_0, .int .i64 a0_1, .int .i64 a0_2, .int .i64 a0_3] (qB HB) ?_; clear HB; intro gb464 w30 HB BK464 GW464; have GE464 := GW464; have hC31 := cf4 BK464.out) | ((with_reducible refine gc_ 112 ?_); refine gL_ (some 44) Tryz.func112 #[.int .i64 a0_1] ?_; (with_reducible refine (impl_isTwo.calls a0_1 true _ A28.out).mono ?_); rintro e w' ⟨rfl, ⟨nd, rfl⟩⟩; refine ⟨_, rfl, ?_⟩))
     go_ret
     exact ⟨qE, qB HB⟩
   replace c29 := Bool.eq_false_iff.mpr c29
   subst c29
   rw [if_neg (show ¬ (false = true) by decide)] at H
   obtain rfl := oI_ H
   go_enter Tryz.func68, Tryz.ntmps68
   go_wp2_with (first | ((with_reducible refine gD_ 3 ?_); refine bxB 3 30 #[.int .i64 a0_0, .int .i64 a0_1, .int .i64 a0_2, .int .i64 a0_3] (qB HB) ?_; clear HB; intro gb464 w32 HB BK464 GW464; have GE464 := GW464; have hC33 := cf4 BK464.out) | ((with_reducible refine gc_ 112 ?_); refine gL_ (some 44) Tryz.func112 #[.int .i64 a0_1] ?_; (with_reducible refine (impl_isTwo.calls a0_1 false _ A28.out).mono ?_); rintro e w' ⟨rfl, ⟨nd, rfl⟩⟩; refine ⟨_, rfl, ?_⟩))
   go_ret
   exact ⟨qE, qB HB⟩
 rw [if_neg c27] at H
 have c27b0 : (a0_0 == 4) = false := beq_eq_false_iff_ne.mpr c27
 have c27b1 : (a0_0 != 4) = true := bne_iff_ne.mpr c27
 by_cases c34 : a0_0 = 5
 · rw [if_pos c34] at H
   have c34b0 : (a0_0 == 5) = true := beq_iff_eq.mpr c34
   have c34b1 : (a0_0 != 5) = false := bne_eq_false_iff_eq.mpr c34
   clear c34
   obtain rfl := oI_ H
   go_enter Tryz.func68, Tryz.ntmps68
   go_wp2_with (first | ((with_reducible refine gD_ 3 ?_); refine bxB 3 30 #[.int .i64 a0_0, .int .i64 a0_1, .int .i64 a0_2, .int .i64 a0_3] (qB HB) ?_; clear HB; intro gb464 w35 HB BK464 GW464; have GE464 := GW464; have hC36 := cf4 BK464.out))
   go_ret
   exact ⟨qE, qB HB⟩
 rw [if_neg c34] at H
 have c34b0 : (a0_0 == 5) = false := beq_eq_false_iff_ne.mpr c34
 have c34b1 : (a0_0 != 5) = true := bne_iff_ne.mpr c34
 have HC37 := aM_ H
 clear H
 go_enter Tryz.func68, Tryz.ntmps68
 go_upto_if 56 with (first | ((with_reducible refine gD_ 3 ?_); refine bxB 3 30 #[.int .i64 a0_0, .int .i64 a0_1, .int .i64 a0_2, .int .i64 a0_3] (qB HB) ?_; clear HB; intro gb464 w38 HB BK464 GW464; have GE464 := GW464; have hC39 := cf4 BK464.out))
 (try simp only [Act.put, sA_, sB_, sC_])
 go_cut [56] (fun v56 wc => ∃ (kq : Nat) (x56_36 : Bool), v56 = .bool x56_36 ∧ Aside0 (impl_Ins_ok.j0 kq a1 a2 a0_0 x56_36 a0_0 a0_1 a0_2 a0_3 = some r) ∧ Aside0 (kq ≤ k) ∧ Aside0 (wc.heap[gb464]? = some (.cells #[.int .i64 a0_0, .int .i64 a0_1, .int .i64 a0_2, .int .i64 a0_3] 30 (0, 0))) ∧ Aside0 (Below w.heap.size w wc))
 case first =>
  have H := HC37.out
  clear HC37
  by_cases c40 : a0_0 = 6
  rotate_left
  · rw [if_neg c40] at H
    have c40b0 : (a0_0 == 6) = false := beq_eq_false_iff_ne.mpr c40
    have c40b1 : (a0_0 != 6) = true := bne_iff_ne.mpr c40
    (first | rw [c40b0] | (simp only [i64_w, i32_w]; rw [c40b0]) | skip)
    have H' := aM_ H
    clear H
    go_wp2
    go_meet
    case rel => exact ⟨_, ((a0_0 == 7)), qF, H', ⟨by first | omega | exact Nat.le_refl _⟩, ⟨qg BK464⟩, ⟨qB HB⟩⟩
  rw [if_pos c40] at H
  have c40b0 : (a0_0 == 6) = true := beq_iff_eq.mpr c40
  have c40b1 : (a0_0 != 6) = false := bne_eq_false_iff_eq.mpr c40
  clear c40
  (first | rw [c40b0] | (simp only [i64_w, i32_w]; rw [c40b0]) | skip)
  have H' := aM_ H
  clear H
  go_wp2
  go_meet
  case rel => exact ⟨_, ((a0_0 == 6)), qF, H', ⟨by first | omega | exact Nat.le_refl _⟩, ⟨qg BK464⟩, ⟨qB HB⟩⟩
 case rest =>
  clear HC37
  obtain ⟨kq, x56_36, rfl, HA, HJ36, BK464, HB⟩ := hcut
  cases kq with
  | zero => exact absurd HA.out (by simp [impl_Ins_ok.j0])
  | succ kj36 =>
   have H := HA.out
   clear HA
   simp only [impl_Ins_ok.j0] at H
   by_cases c41 : x56_36 = true
   · subst c41
     rw [if_pos rfl] at H
     by_cases c42 : a0_1 > a1
     rotate_left
     · rw [if_neg c42] at H
       have c42b0 : decide (a1 < a0_1) = false := dF_ c42
       clear c42
       obtain rfl := oI_ H
       have hC46 := cf4 BK464.out
       go_wp2
       go_ret
       exact ⟨qE, qB HB⟩
     rw [if_pos c42] at H
     have c42b0 : decide (a1 < a0_1) = true := dT_ c42
     clear c42
     by_cases c43 : a0_1 ≤ a2
     · rw [if_pos c43] at H
       have c43b0 : decide (a0_1 ≤ a2) = true := dT_ c43
       clear c43
       obtain rfl := oI_ H
       have hC44 := cf4 BK464.out
       go_wp2
       go_ret
       exact ⟨qE, qB HB⟩
     rw [if_neg c43] at H
     have c43b0 : decide (a0_1 ≤ a2) = false := dF_ c43
     clear c43
     obtain rfl := oI_ H
     have hC45 := cf4 BK464.out
     go_wp2
     go_ret
     exact ⟨qE, qB HB⟩
   replace c41 := Bool.eq_false_iff.mpr c41
   subst c41
   rw [if_neg (show ¬ (false = true) by decide)] at H
   by_cases c47 : a0_0 = 8
   rotate_left
   · rw [if_neg c47] at H
     have c47b0 : (a0_0 == 8) = false := beq_eq_false_iff_ne.mpr c47
     have c47b1 : (a0_0 != 8) = true := bne_iff_ne.mpr c47
     obtain rfl := oI_ H
     go_wp2
     go_ret
     exact ⟨qE, qB HB⟩
   rw [if_pos c47] at H
   have c47b0 : (a0_0 == 8) = true := beq_iff_eq.mpr c47
   have c47b1 : (a0_0 != 8) = false := bne_eq_false_iff_eq.mpr c47
   clear c47
   by_cases c48 : a0_1 ≥ 0
   rotate_left
   · rw [if_neg c48] at H
     have c48b0 : decide (0 ≤ a0_1) = false := dF_ c48
     clear c48
     obtain rfl := oI_ H
     have hC52 := cf4 BK464.out
     go_wp2
     go_ret
     exact ⟨qE, qB HB⟩
   rw [if_pos c48] at H
   have c48b0 : decide (0 ≤ a0_1) = true := dT_ c48
   clear c48
   by_cases c49 : a0_1 < a1
   · rw [if_pos c49] at H
     have c49b0 : decide (a0_1 < a1) = true := dT_ c49
     clear c49
     obtain rfl := oI_ H
     have hC50 := cf4 BK464.out
     go_wp2
     go_ret
     exact ⟨qE, qB HB⟩
   rw [if_neg c49] at H
   have c49b0 : decide (a0_1 < a1) = false := dF_ c49
   clear c49
   obtain rfl := oI_ H
   have hC51 := cf4 BK464.out
   go_wp2
   go_ret
   exact ⟨qE, qB HB⟩
end Go.Proofs.YtjamfddhcigchaaGreatDoor.HFnCodeRun
namespace Go.Proofs.YtjamfddhcigchaaGreatDoor.HFnCodeRun
open Go.RowKit Go.Proofs.YtjamfddhcigchaaGreatDoorW.PrintWords Go.Proofs.YtjamfddhcigchaaGreatDoorW.PrintLast Go.Proofs.YtjamfddhcigchaaGreatDoorW.PrintMore
attribute [local go_sem] max2_int min2_int max_two min_two max_three min_three max_four min_four
set_option linter.unusedVariables false
set_option linter.unusedSimpArgs false
def impl_Ins_takes.j0 : Nat → Int → Bool → Option (Int)
  | 0, _, _ => none
  | k + 1, x4, x5 => if x5 = true then (some 1) else (if x4 = 4 then (some 2) else (some 0))
def impl_Ins_takes.f (k : Nat) (a0_0 : Int) (a0_1 : Int) (a0_2 : Int) (a0_3 : Int) : Option (Int) := if a0_0 = 3 then (impl_Ins_takes.j0 k a0_0 (a0_0 == 3)) else (if a0_0 = 5 then (impl_Ins_takes.j0 k a0_0 (a0_0 == 5)) else (impl_Ins_takes.j0 k a0_0 (a0_0 == 6)))
set_option maxHeartbeats 8000000 in
set_option maxRecDepth 100000 in
theorem impl_Ins_takes.calls (k : Nat) (a0_0 : Int) (a0_1 : Int) (a0_2 : Int) (a0_3 : Int) (r : Int) (w : World) (h : impl_Ins_takes.f k a0_0 a0_1 a0_2 a0_3 = some r) :
    Calls Tryz.prog 69 #[.agg #[.int .i64 a0_0, .int .i64 a0_1, .int .i64 a0_2, .int .i64 a0_3]] w fun e w' => e = .returned (.int .i64 r) ∧ Below w.heap.size w w' := by
 have hu30 := Tryz.underlying30
 have HB := aM_ (Below.refl w.heap.size w)
 have H : (if a0_0 = 3 then (impl_Ins_takes.j0 k a0_0 (a0_0 == 3)) else (if a0_0 = 5 then (impl_Ins_takes.j0 k a0_0 (a0_0 == 5)) else (impl_Ins_takes.j0 k a0_0 (a0_0 == 6)))) = some r := h
 clear h
 have HC2 := aM_ H
 clear H
 go_enter Tryz.func69, Tryz.ntmps69
 go_upto_if 5 with (first | ((with_reducible refine gD_ 1 ?_); refine bxB 1 30 #[.int .i64 a0_0, .int .i64 a0_1, .int .i64 a0_2, .int .i64 a0_3] (qB HB) ?_; clear HB; intro gb469 w3 HB BK469 GW469; have GE469 := GW469; have hC4 := cf4 BK469.out))
 (try simp only [Act.put, sA_, sB_, sC_])
 go_cut [5] (fun v5 wc => ∃ (kq : Nat) (x5_1 : Bool), v5 = .bool x5_1 ∧ Aside0 (impl_Ins_takes.j0 kq a0_0 x5_1 = some r) ∧ Aside0 (kq ≤ k) ∧ Aside0 (wc.heap[gb469]? = some (.cells #[.int .i64 a0_0, .int .i64 a0_1, .int .i64 a0_2, .int .i64 a0_3] 30 (0, 0))) ∧ Aside0 (Below w.heap.size w wc))
 case first =>
  have H := HC2.out
  clear HC2
  by_cases c5 : a0_0 = 3
  · rw [if_pos c5] at H
    have c5b0 : (a0_0 == 3) = true := beq_iff_eq.mpr c5
    have c5b1 : (a0_0 != 3) = false := bne_eq_false_iff_eq.mpr c5
    clear c5
    (first | rw [c5b0] | (simp only [i64_w, i32_w]; rw [c5b0]) | skip)
    have H' := aM_ H
    clear H
    go_wp2
    go_meet
    case rel => exact ⟨_, ((a0_0 == 3)), qF, H', ⟨by first | omega | exact Nat.le_refl _⟩, ⟨qg BK469⟩, ⟨qB HB⟩⟩
  rw [if_neg c5] at H
  have c5b0 : (a0_0 == 3) = false := beq_eq_false_iff_ne.mpr c5
  have c5b1 : (a0_0 != 3) = true := bne_iff_ne.mpr c5
  (first | rw [c5b0] | (simp only [i64_w, i32_w]; rw [c5b0]) | skip)
  by_cases c6 : a0_0 = 5
  rotate_left
  · rw [if_neg c6] at H
    have c6b0 : (a0_0 == 5) = false := beq_eq_false_iff_ne.mpr c6
    have c6b1 : (a0_0 != 5) = true := bne_iff_ne.mpr c6
    have H' := aM_ H
    clear H
    go_wp2
    go_meet
    case rel => exact ⟨_, ((a0_0 == 6)), qF, H', ⟨by first | omega | exact Nat.le_refl _⟩, ⟨qg BK469⟩, ⟨qB HB⟩⟩
  rw [if_pos c6] at H
  have c6b0 : (a0_0 == 5) = true := beq_iff_eq.mpr c6
  have c6b1 : (a0_0 != 5) = false := bne_eq_false_iff_eq.mpr c6
  clear c6
  have H' := aM_ H
  clear H
  go_wp2
  go_meet
  case rel => exact ⟨_, ((a0_0 == 5)), qF, H', ⟨by first | omega | exact Nat.le_refl _⟩, ⟨qg BK469⟩, ⟨qB HB⟩⟩
 case rest =>
  clear HC2
  obtain ⟨kq, x5_1, rfl, HA, HJ1, BK469, HB⟩ := hcut
  cases kq with
  | zero => exact absurd HA.out (by simp [impl_Ins_takes.j0])
  | succ kj1 =>
   have H := HA.out
   clear HA
   simp only [impl_Ins_takes.j0] at H
   by_cases c7 : x5_1 = true
   · subst c7
     rw [if_pos rfl] at H
     obtain rfl := oI_ H
     go_wp2
     go_ret
     exact ⟨qE, qB HB⟩
   replace c7 := Bool.eq_false_iff.mpr c7
   subst c7
   rw [if_neg (show ¬ (false = true) by decide)] at H
   by_cases c8 : a0_0 = 4
   rotate_left
   · rw [if_neg c8] at H
     have c8b0 : (a0_0 == 4) = false := beq_eq_false_iff_ne.mpr c8
     have c8b1 : (a0_0 != 4) = true := bne_iff_ne.mpr c8
     obtain rfl := oI_ H
     go_wp2
     go_ret
     exact ⟨qE, qB HB⟩
   rw [if_pos c8] at H
   have c8b0 : (a0_0 == 4) = true := beq_iff_eq.mpr c8
   have c8b1 : (a0_0 != 4) = false := bne_eq_false_iff_eq.mpr c8
   clear c8
   obtain rfl := oI_ H
   go_wp2
   go_ret
   exact ⟨qE, qB HB⟩
def impl_Ins_gives.f (a0_0 : Int) (a0_1 : Int) (a0_2 : Int) (a0_3 : Int) : Option (Int) := if a0_0 = 1 then (some 1) else (if a0_0 = 2 then (some 1) else (if a0_0 = 4 then (some 1) else (if a0_0 = 5 then (some 1) else (some 0))))
set_option maxHeartbeats 8000000 in
set_option maxRecDepth 100000 in
theorem impl_Ins_gives.calls (a0_0 : Int) (a0_1 : Int) (a0_2 : Int) (a0_3 : Int) (r : Int) (w : World) (h : impl_Ins_gives.f a0_0 a0_1 a0_2 a0_3 = some r) :
    Calls Tryz.prog 70 #[.agg #[.int .i64 a0_0, .int .i64 a0_1, .int .i64 a0_2, .int .i64 a0_3]] w fun e w' => e = .returned (.int .i64 r) ∧ Below w.heap.size w w' := by
 have hu30 := Tryz.underlying30
 have HB := aM_ (Below.refl w.heap.size w)
 have H : (if a0_0 = 1 then (some 1) else (if a0_0 = 2 then (some 1) else (if a0_0 = 4 then (some 1) else (if a0_0 = 5 then (some 1) else (some 0))))) = some r := h
 clear h
 by_cases c2 : a0_0 = 1
 · rw [if_pos c2] at H
   have c2b0 : (a0_0 == 1) = true := beq_iff_eq.mpr c2
   have c2b1 : (a0_0 != 1) = false := bne_eq_false_iff_eq.mpr c2
   clear c2
   obtain rfl := oI_ H
   go_enter Tryz.func70, Tryz.ntmps70
   go_wp2_with (first | ((with_reducible refine gD_ 1 ?_); refine bxB 1 30 #[.int .i64 a0_0, .int .i64 a0_1, .int .i64 a0_2, .int .i64 a0_3] (qB HB) ?_; clear HB; intro gb470 w3 HB BK470 GW470; have GE470 := GW470; have hC4 := cf4 BK470.out))
   go_ret
   exact ⟨qE, qB HB⟩
 rw [if_neg c2] at H
 have c2b0 : (a0_0 == 1) = false := beq_eq_false_iff_ne.mpr c2
 have c2b1 : (a0_0 != 1) = true := bne_iff_ne.mpr c2
 by_cases c5 : a0_0 = 2
 · rw [if_pos c5] at H
   have c5b0 : (a0_0 == 2) = true := beq_iff_eq.mpr c5
   have c5b1 : (a0_0 != 2) = false := bne_eq_false_iff_eq.mpr c5
   clear c5
   obtain rfl := oI_ H
   go_enter Tryz.func70, Tryz.ntmps70
   go_wp2_with (first | ((with_reducible refine gD_ 1 ?_); refine bxB 1 30 #[.int .i64 a0_0, .int .i64 a0_1, .int .i64 a0_2, .int .i64 a0_3] (qB HB) ?_; clear HB; intro gb470 w6 HB BK470 GW470; have GE470 := GW470; have hC7 := cf4 BK470.out))
   go_ret
   exact ⟨qE, qB HB⟩
 rw [if_neg c5] at H
 have c5b0 : (a0_0 == 2) = false := beq_eq_false_iff_ne.mpr c5
 have c5b1 : (a0_0 != 2) = true := bne_iff_ne.mpr c5
 by_cases c8 : a0_0 = 4
 · rw [if_pos c8] at H
   have c8b0 : (a0_0 == 4) = true := beq_iff_eq.mpr c8
   have c8b1 : (a0_0 != 4) = false := bne_eq_false_iff_eq.mpr c8
   clear c8
   obtain rfl := oI_ H
   go_enter Tryz.func70, Tryz.ntmps70
   go_wp2_with (first | ((with_reducible refine gD_ 1 ?_); refine bxB 1 30 #[.int .i64 a0_0, .int .i64 a0_1, .int .i64 a0_2, .int .i64 a0_3] (qB HB) ?_; clear HB; intro gb470 w9 HB BK470 GW470; have GE470 := GW470; have hC10 := cf4 BK470.out))
   go_ret
   exact ⟨qE, qB HB⟩
 rw [if_neg c8] at H
 have c8b0 : (a0_0 == 4) = false := beq_eq_false_iff_ne.mpr c8
 have c8b1 : (a0_0 != 4) = true := bne_iff_ne.mpr c8
 by_cases c11 : a0_0 = 5
 rotate_left
 · rw [if_neg c11] at H
   have c11b0 : (a0_0 == 5) = false := beq_eq_false_iff_ne.mpr c11
   have c11b1 : (a0_0 != 5) = true := bne_iff_ne.mpr c11
   obtain rfl := oI_ H
   go_enter Tryz.func70, Tryz.ntmps70
   go_wp2_with (first | ((with_reducible refine gD_ 1 ?_); refine bxB 1 30 #[.int .i64 a0_0, .int .i64 a0_1, .int .i64 a0_2, .int .i64 a0_3] (qB HB) ?_; clear HB; intro gb470 w14 HB BK470 GW470; have GE470 := GW470; have hC15 := cf4 BK470.out))
   go_ret
   exact ⟨qE, qB HB⟩
 rw [if_pos c11] at H
 have c11b0 : (a0_0 == 5) = true := beq_iff_eq.mpr c11
 have c11b1 : (a0_0 != 5) = false := bne_eq_false_iff_eq.mpr c11
 clear c11
 obtain rfl := oI_ H
 go_enter Tryz.func70, Tryz.ntmps70
 go_wp2_with (first | ((with_reducible refine gD_ 1 ?_); refine bxB 1 30 #[.int .i64 a0_0, .int .i64 a0_1, .int .i64 a0_2, .int .i64 a0_3] (qB HB) ?_; clear HB; intro gb470 w12 HB BK470 GW470; have GE470 := GW470; have hC13 := cf4 BK470.out))
 go_ret
 exact ⟨qE, qB HB⟩
def impl_Ins_goes.f (a0_0 : Int) (a0_1 : Int) (a0_2 : Int) (a0_3 : Int) : Option (Bool) := if a0_0 = 6 then (some true) else (if a0_0 = 7 then (some true) else (some (a0_0 == 8)))
set_option maxHeartbeats 8000000 in
set_option maxRecDepth 100000 in
theorem impl_Ins_goes.calls (a0_0 : Int) (a0_1 : Int) (a0_2 : Int) (a0_3 : Int) (r : Bool) (w : World) (h : impl_Ins_goes.f a0_0 a0_1 a0_2 a0_3 = some r) :
    Calls Tryz.prog 71 #[.agg #[.int .i64 a0_0, .int .i64 a0_1, .int .i64 a0_2, .int .i64 a0_3]] w fun e w' => e = .returned (.bool r) ∧ Below w.heap.size w w' := by
 have hu30 := Tryz.underlying30
 have HB := aM_ (Below.refl w.heap.size w)
 have H : (if a0_0 = 6 then (some true) else (if a0_0 = 7 then (some true) else (some (a0_0 == 8)))) = some r := h
 clear h
 by_cases c2 : a0_0 = 6
 · rw [if_pos c2] at H
   have c2b0 : (a0_0 == 6) = true := beq_iff_eq.mpr c2
   have c2b1 : (a0_0 != 6) = false := bne_eq_false_iff_eq.mpr c2
   clear c2
   obtain rfl := oI_ H
   go_enter Tryz.func71, Tryz.ntmps71
   go_wp2_with (first | ((with_reducible refine gD_ 1 ?_); refine bxB 1 30 #[.int .i64 a0_0, .int .i64 a0_1, .int .i64 a0_2, .int .i64 a0_3] (qB HB) ?_; clear HB; intro gb471 w3 HB BK471 GW471; have GE471 := GW471; have hC4 := cf4 BK471.out))
   go_ret
   exact ⟨qE, qB HB⟩
 rw [if_neg c2] at H
 have c2b0 : (a0_0 == 6) = false := beq_eq_false_iff_ne.mpr c2
 have c2b1 : (a0_0 != 6) = true := bne_iff_ne.mpr c2
 by_cases c5 : a0_0 = 7
 rotate_left
 · rw [if_neg c5] at H
   have c5b0 : (a0_0 == 7) = false := beq_eq_false_iff_ne.mpr c5
   have c5b1 : (a0_0 != 7) = true := bne_iff_ne.mpr c5
   obtain rfl := oI_ H
   go_enter Tryz.func71, Tryz.ntmps71
   go_wp2_with (first | ((with_reducible refine gD_ 1 ?_); refine bxB 1 30 #[.int .i64 a0_0, .int .i64 a0_1, .int .i64 a0_2, .int .i64 a0_3] (qB HB) ?_; clear HB; intro gb471 w8 HB BK471 GW471; have GE471 := GW471; have hC9 := cf4 BK471.out))
   go_ret
   exact ⟨qE, qB HB⟩
 rw [if_pos c5] at H
 have c5b0 : (a0_0 == 7) = true := beq_iff_eq.mpr c5
 have c5b1 : (a0_0 != 7) = false := bne_eq_false_iff_eq.mpr c5
 clear c5
 obtain rfl := oI_ H
 go_enter Tryz.func71, Tryz.ntmps71
 go_wp2_with (first | ((with_reducible refine gD_ 1 ?_); refine bxB 1 30 #[.int .i64 a0_0, .int .i64 a0_1, .int .i64 a0_2, .int .i64 a0_3] (qB HB) ?_; clear HB; intro gb471 w6 HB BK471 GW471; have GE471 := GW471; have hC7 := cf4 BK471.out))
 go_ret
 exact ⟨qE, qB HB⟩
def impl_Ins_follows.f (a0_0 : Int) (a0_1 : Int) (a0_2 : Int) (a0_3 : Int) : Option (Bool) := if a0_0 = 7 then (some false) else (some (a0_0 != 8))
set_option maxHeartbeats 8000000 in
set_option maxRecDepth 100000 in
theorem impl_Ins_follows.calls (a0_0 : Int) (a0_1 : Int) (a0_2 : Int) (a0_3 : Int) (r : Bool) (w : World) (h : impl_Ins_follows.f a0_0 a0_1 a0_2 a0_3 = some r) :
    Calls Tryz.prog 72 #[.agg #[.int .i64 a0_0, .int .i64 a0_1, .int .i64 a0_2, .int .i64 a0_3]] w fun e w' => e = .returned (.bool r) ∧ Below w.heap.size w w' := by
 have hu30 := Tryz.underlying30
 have HB := aM_ (Below.refl w.heap.size w)
 have H : (if a0_0 = 7 then (some false) else (some (a0_0 != 8))) = some r := h
 clear h
 by_cases c2 : a0_0 = 7
 rotate_left
 · rw [if_neg c2] at H
   have c2b0 : (a0_0 == 7) = false := beq_eq_false_iff_ne.mpr c2
   have c2b1 : (a0_0 != 7) = true := bne_iff_ne.mpr c2
   obtain rfl := oI_ H
   go_enter Tryz.func72, Tryz.ntmps72
   go_wp2_with (first | ((with_reducible refine gD_ 1 ?_); refine bxB 1 30 #[.int .i64 a0_0, .int .i64 a0_1, .int .i64 a0_2, .int .i64 a0_3] (qB HB) ?_; clear HB; intro gb472 w5 HB BK472 GW472; have GE472 := GW472; have hC6 := cf4 BK472.out))
   go_ret
   exact ⟨qE, qB HB⟩
 rw [if_pos c2] at H
 have c2b0 : (a0_0 == 7) = true := beq_iff_eq.mpr c2
 have c2b1 : (a0_0 != 7) = false := bne_eq_false_iff_eq.mpr c2
 clear c2
 obtain rfl := oI_ H
 go_enter Tryz.func72, Tryz.ntmps72
 go_wp2_with (first | ((with_reducible refine gD_ 1 ?_); refine bxB 1 30 #[.int .i64 a0_0, .int .i64 a0_1, .int .i64 a0_2, .int .i64 a0_3] (qB HB) ?_; clear HB; intro gb472 w3 HB BK472 GW472; have GE472 := GW472; have hC4 := cf4 BK472.out))
 go_ret
 exact ⟨qE, qB HB⟩
def slices_Equal_int_int.l0 : Nat → List Int → List Int → Int → Int → Option (Bool)
  | 0, _, _, _, _ => none
  | k + 1, x0, x1, x12, x13 => if x13 < x12 then (if 0 ≤ x13 then (if x13 < (x0.length : Int) then (if x13 < (x1.length : Int) then (if (rd x0 x13) = (rd x1 x13) then (slices_Equal_int_int.l0 k x0 x1 x12 (wrap64 (x13 + 1))) else (some false)) else (none)) else (none)) else (none)) else (some true)
def slices_Equal_int_int.f (k : Nat) (l0 : List Int) (l1 : List Int) : Option (Bool) := if (l0.length : Int) = (l1.length : Int) then (slices_Equal_int_int.l0 k l0 l1 (l0.length : Int) 0) else (some false)
set_option maxHeartbeats 8000000 in
set_option maxRecDepth 100000 in
theorem slices_Equal_int_int.calls (k : Nat) (A0 : Option Addr) (c0 : Nat) (l0 : List Int) (A1 : Option Addr) (c1 : Nat) (l1 : List Int) (r : Bool) (w : World) (hr0 : Kd.C (Kd.int .i64) w A0 l0.length l0) (hc0 : l0.length ≤ c0) (hr1 : Kd.C (Kd.int .i64) w A1 l1.length l1) (hc1 : l1.length ≤ c1) (h : slices_Equal_int_int.f k l0 l1 = some r) :
    Calls Tryz.prog 39 #[.slice A0 l0.length c0, .slice A1 l1.length c1] w fun e w' => e = .returned (.bool r) ∧ Drawn0 w w' := by
 have HR0 := aM_ hr0
 have HC0 := aM_ hc0
 clear hr0 hc0
 have HR1 := aM_ hr1
 have HC1 := aM_ hc1
 clear hr1 hc1
 have H : (if (l0.length : Int) = (l1.length : Int) then (slices_Equal_int_int.l0 k l0 l1 (l0.length : Int) 0) else (some false)) = some r := h
 clear h
 by_cases c3 : (l0.length : Int) = (l1.length : Int)
 rotate_left
 · rw [if_neg c3] at H
   have c3b0 : ((l0.length : Int) == (l1.length : Int)) = false := beq_eq_false_iff_ne.mpr c3
   have c3b1 : ((l0.length : Int) != (l1.length : Int)) = true := bne_iff_ne.mpr c3
   have c3b2 : (l0.length == l1.length) = false := by first | simpa using c3 | (simp at c3 ⊢; omega)
   obtain rfl := oI_ H
   go_enter Tryz.func39, Tryz.ntmps39
   go_wp2
   repeat (go_quiet (fail); try go_wp2)
   go_ret
   exact ⟨qF, by repeat (first | exact Drawn0.refl _ | apply Drawn0.step)⟩
 rw [if_pos c3] at H
 have c3b0 : ((l0.length : Int) == (l1.length : Int)) = true := beq_iff_eq.mpr c3
 have c3b1 : ((l0.length : Int) != (l1.length : Int)) = false := bne_eq_false_iff_eq.mpr c3
 have c3b2 : (l0.length == l1.length) = true := by first | simpa using c3 | (simp at c3 ⊢; omega)
 clear c3
 have H' := aM_ H
 clear H
 go_enter Tryz.func39, Tryz.ntmps39
 go_wp2
 repeat (go_quiet (fail); try go_wp2)
 go_loopg [13] k (fun kq v13 w' => ∃ (x13_1 : Int), v13 = .int .i64 x13_1 ∧ Aside0 (slices_Equal_int_int.l0 kq l0 l1 (l0.length : Int) x13_1 = some r) ∧ Aside0 (kq ≤ k) ∧ Drawn0 w w')
 case atStart => exact ⟨(0), qF, H', ⟨Nat.le_refl _⟩, by repeat (first | exact Drawn0.refl _ | apply Drawn0.step)⟩
 case round =>
  clear H'
  obtain ⟨x13_1, rfl, HA, HK1, ⟨m1, rfl⟩⟩ := hrel
  cases gk with
  | zero => exact absurd HA.out (by simp [slices_Equal_int_int.l0])
  | succ k1 =>
   have H := HA.out
   clear HA
   simp only [slices_Equal_int_int.l0] at H
   by_cases c4 : x13_1 < (l0.length : Int)
   rotate_left
   · rw [if_neg c4] at H
     have c4b0 : decide (x13_1 < (l0.length : Int)) = false := dF_ c4
     clear c4
     obtain rfl := oI_ H
     go_wp2
     repeat (go_quiet (fail); try go_wp2)
     go_ret
     exact ⟨qF, by repeat (first | exact Drawn0.refl _ | apply Drawn0.step)⟩
   rw [if_pos c4] at H
   have c4b0 : decide (x13_1 < (l0.length : Int)) = true := dT_ c4
   clear c4
   obtain ⟨H, c5b0⟩ := nP_ H
   obtain ⟨H, c6b0⟩ := nP_ H
   obtain ⟨H, c7b0⟩ := nP_ H
   by_cases c8 : (rd l0 x13_1) = (rd l1 x13_1)
   rotate_left
   · rw [if_neg c8] at H
     have c8b0 : ((rd l0 x13_1) == (rd l1 x13_1)) = false := beq_eq_false_iff_ne.mpr c8
     have c8b1 : ((rd l0 x13_1) != (rd l1 x13_1)) = true := bne_iff_ne.mpr c8
     obtain rfl := oI_ H
     have p480 := pq_ x13_1 (l0.length : Int)
     obtain ⟨ad480, e480, hx480_0⟩ := Kd.at_int HR0.out x13_1 p480.1.1 p480.1.2
     cases e480
     obtain ⟨-, p480, q480⟩ := p480
     have p481 := pq_ x13_1 (l1.length : Int)
     obtain ⟨ad481, e481, hx481_0⟩ := Kd.at_int HR1.out x13_1 p481.1.1 p481.1.2
     cases e481
     obtain ⟨-, p481, q481⟩ := p481
     go_wp2
     repeat (go_quiet (fail); try go_wp2)
     go_ret
     exact ⟨qF, by repeat (first | exact Drawn0.refl _ | apply Drawn0.step)⟩
   rw [if_pos c8] at H
   have c8b0 : ((rd l0 x13_1) == (rd l1 x13_1)) = true := beq_iff_eq.mpr c8
   have c8b1 : ((rd l0 x13_1) != (rd l1 x13_1)) = false := bne_eq_false_iff_eq.mpr c8
   clear c8
   have H' := aM_ H
   clear H
   have p480 := pq_ x13_1 (l0.length : Int)
   obtain ⟨ad480, e480, hx480_0⟩ := Kd.at_int HR0.out x13_1 p480.1.1 p480.1.2
   cases e480
   obtain ⟨-, p480, q480⟩ := p480
   have p481 := pq_ x13_1 (l1.length : Int)
   obtain ⟨ad481, e481, hx481_0⟩ := Kd.at_int HR1.out x13_1 p481.1.1 p481.1.2
   cases e481
   obtain ⟨-, p481, q481⟩ := p481
   go_wp2
   repeat (go_quiet (fail); try go_wp2)
   go_roundg k1
   case measure => have := HK1.out; omega
   case rel => exact ⟨(wrap64 (x13_1 + 1)), qF, H', ⟨by have := HK1.out; omega⟩, by repeat (first | exact Drawn0.refl _ | apply Drawn0.step)⟩
def impl_MemSame.f (k : Nat) (l0_0 : List Int) (l0_1 : List Int) (l0_2 : List Int) (l1_0 : List Int) (l1_1 : List Int) (l1_2 : List Int) : Option (Bool) := (slices_Equal_int_int.f k l0_0 l1_0).bind fun t484 => (if t484 = true then ((slices_Equal_int_int.f k l0_1 l1_1).bind fun t485 => (if t485 = true then ((slices_Equal_int_int.f k l0_2 l1_2).bind fun t486 => (some t486)) else (some false))) else (some false))
set_option maxHeartbeats 8000000 in
set_option maxRecDepth 100000 in
theorem impl_MemSame.calls (k : Nat) (A0_0 : Option Addr) (c0_0 : Nat) (l0_0 : List Int) (A0_1 : Option Addr) (c0_1 : Nat) (l0_1 : List Int) (A0_2 : Option Addr) (c0_2 : Nat) (l0_2 : List Int) (A1_0 : Option Addr) (c1_0 : Nat) (l1_0 : List Int) (A1_1 : Option Addr) (c1_1 : Nat) (l1_1 : List Int) (A1_2 : Option Addr) (c1_2 : Nat) (l1_2 : List Int) (r : Bool) (w : World) (hr0_0 : Kd.C (Kd.int .i64) w A0_0 l0_0.length l0_0) (hc0_0 : l0_0.length ≤ c0_0) (hr0_1 : Kd.C (Kd.int .i64) w A0_1 l0_1.length l0_1) (hc0_1 : l0_1.length ≤ c0_1) (hr0_2 : Kd.C (Kd.int .i64) w A0_2 l0_2.length l0_2) (hc0_2 : l0_2.length ≤ c0_2) (hr1_0 : Kd.C (Kd.int .i64) w A1_0 l1_0.length l1_0) (hc1_0 : l1_0.length ≤ c1_0) (hr1_1 : Kd.C (Kd.int .i64) w A1_1 l1_1.length l1_1) (hc1_1 : l1_1.length ≤ c1_1) (hr1_2 : Kd.C (Kd.int .i64) w A1_2 l1_2.length l1_2) (hc1_2 : l1_2.length ≤ c1_2) (h : impl_MemSame.f k l0_0 l0_1 l0_2 l1_0 l1_1 l1_2 = some r) :
    Calls Tryz.prog 13 #[.agg #[.slice A0_0 l0_0.length c0_0, .slice A0_1 l0_1.length c0_1, .slice A0_2 l0_2.length c0_2], .agg #[.slice A1_0 l1_0.length c1_0, .slice A1_1 l1_1.length c1_1, .slice A1_2 l1_2.length c1_2]] w fun e w' => e = .returned (.bool r) ∧ Below w.heap.size w w' := by
  have hu33 := Tryz.underlying33
  have HR0_0 := Aside0.mk hr0_0
  have HC0_0 := Aside0.mk hc0_0
  clear hr0_0 hc0_0
  have HR0_1 := Aside0.mk hr0_1
  have HC0_1 := Aside0.mk hc0_1
  clear hr0_1 hc0_1
  have HR0_2 := Aside0.mk hr0_2
  have HC0_2 := Aside0.mk hc0_2
  clear hr0_2 hc0_2
  have HR1_0 := Aside0.mk hr1_0
  have HC1_0 := Aside0.mk hc1_0
  clear hr1_0 hc1_0
  have HR1_1 := Aside0.mk hr1_1
  have HC1_1 := Aside0.mk hc1_1
  clear hr1_1 hc1_1
  have HR1_2 := Aside0.mk hr1_2
  have HC1_2 := Aside0.mk hc1_2
  clear hr1_2 hc1_2
  have HB := Aside0.mk (Below.refl w.heap.size w)
  have H : ((slices_Equal_int_int.f k l0_0 l1_0).bind fun t484 => (if t484 = true then ((slices_Equal_int_int.f k l0_1 l1_1).bind fun t485 => (if t485 = true then ((slices_Equal_int_int.f k l0_2 l1_2).bind fun t486 => (some t486)) else (some false))) else (some false))) = some r := h
  clear h
  replace H := Option.bind_eq_some_iff.mp H
  obtain ⟨t484, A30, H⟩ := H
  replace H : (if t484 = true then ((slices_Equal_int_int.f k l0_1 l1_1).bind fun t485 => (if t485 = true then ((slices_Equal_int_int.f k l0_2 l1_2).bind fun t486 => (some t486)) else (some false))) else (some false)) = some r := H
  have A3 := Aside0.mk A30
  clear A30
  by_cases c4 : t484 = true
  · subst c4
    have H1 : ((slices_Equal_int_int.f k l0_1 l1_1).bind fun t485 => (if t485 = true then ((slices_Equal_int_int.f k l0_2 l1_2).bind fun t486 => (some t486)) else (some false))) = some r := by rw [if_pos rfl] at H; exact H
    clear H
    have H := H1
    clear H1
    replace H := Option.bind_eq_some_iff.mp H
    obtain ⟨t485, A50, H⟩ := H
    replace H : (if t485 = true then ((slices_Equal_int_int.f k l0_2 l1_2).bind fun t486 => (some t486)) else (some false)) = some r := H
    have A5 := Aside0.mk A50
    clear A50
    by_cases c6 : t485 = true
    · subst c6
      have H1 : ((slices_Equal_int_int.f k l0_2 l1_2).bind fun t486 => (some t486)) = some r := by rw [if_pos rfl] at H; exact H
      clear H
      have H := H1
      clear H1
      replace H := Option.bind_eq_some_iff.mp H
      obtain ⟨t486, A70, H⟩ := H
      replace H : (some t486) = some r := H
      have A7 := Aside0.mk A70
      clear A70
      obtain rfl := Option.some.inj H
      go_enter Tryz.func13, Tryz.ntmps13
      go_wp2_with (first | ((with_reducible refine gD_ 2 ?_); refine bx_ 2 33 #[.slice A0_0 l0_0.length c0_0, .slice A0_1 l0_1.length c0_1, .slice A0_2 l0_2.length c0_2] ?_; intro gb482 hg w8 hbox hb; have n0_ := Aside0.mk (below_step (by repeat (first | (with_reducible first | exact HB.out | apply below_alloc | apply pw_below_drewN | apply below_drew1) | exact HB.out)) hb); have n1_ := Aside0.mk (hbox); have n2_ := Aside0.mk ((by rw [hg]; exact (below_size (by repeat (first | (with_reducible first | exact HB.out | apply below_alloc | apply pw_below_drewN | apply below_drew1) | exact HB.out))) : w.heap.size ≤ gb482)); have n3_ := Aside0.mk ((by rw [hg]; exact (below_size (by repeat (first | (with_reducible first | exact HB.out | apply below_alloc | apply pw_below_drewN | apply below_drew1) | exact HB.out))) : w.heap.size ≤ gb482)); clear HB; have HB := n0_; have BK482 := n1_; have GW482 := n2_; have GE482 := n3_; clear n0_ n1_ n2_ n3_; clear hb hbox hg) | ((with_reducible refine gD_ 3 ?_); refine bx_ 3 33 #[.slice A1_0 l1_0.length c1_0, .slice A1_1 l1_1.length c1_1, .slice A1_2 l1_2.length c1_2] ?_; intro gb483 hg w9 hbox hb; have n0_ := Aside0.mk (blk_below (g := gb482) (o := .cells #[.slice A0_0 l0_0.length c0_0, .slice A0_1 l0_1.length c0_1, .slice A0_2 l0_2.length c0_2] 33 (0, 0)) (by (with_reducible repeat (first | refine blk_drewN ?_ _ | refine blk_drew ?_ | refine blk_alloc ?_ _)); exact BK482.out) hb); have n1_ := Aside0.mk (below_step (by repeat (first | (with_reducible first | exact HB.out | apply below_alloc | apply pw_below_drewN | apply below_drew1 | refine below_set ?_ GE482.out) | exact HB.out)) hb); have n2_ := Aside0.mk (hbox); have n3_ := Aside0.mk ((by rw [hg]; exact (below_size (by repeat (first | (with_reducible first | exact HB.out | apply below_alloc | apply pw_below_drewN | apply below_drew1 | refine below_set ?_ GE482.out) | exact HB.out))) : w.heap.size ≤ gb483)); have n4_ := Aside0.mk ((by rw [hg]; exact (below_size (by repeat (first | (with_reducible first | exact HB.out | apply below_alloc | apply pw_below_drewN | apply below_drew1 | refine below_set ?_ GE482.out) | exact HB.out))) : w.heap.size ≤ gb483)); have n5_ := Aside0.mk ((by rw [hg]; exact Nat.ne_of_lt (blk_lt (g := gb482) (o := .cells #[.slice A0_0 l0_0.length c0_0, .slice A0_1 l0_1.length c0_1, .slice A0_2 l0_2.length c0_2] 33 (0, 0)) (by (with_reducible repeat (first | refine blk_drewN ?_ _ | refine blk_drew ?_ | refine blk_alloc ?_ _)); exact BK482.out)) : gb482 ≠ gb483)); have n6_ := Aside0.mk ((by rw [hg]; exact Nat.ne_of_gt (blk_lt (g := gb482) (o := .cells #[.slice A0_0 l0_0.length c0_0, .slice A0_1 l0_1.length c0_1, .slice A0_2 l0_2.length c0_2] 33 (0, 0)) (by (with_reducible repeat (first | refine blk_drewN ?_ _ | refine blk_drew ?_ | refine blk_alloc ?_ _)); exact BK482.out)) : gb483 ≠ gb482)); clear BK482; clear HB; have BK482 := n0_; have HB := n1_; have BK483 := n2_; have GW483 := n3_; have GE483 := n4_; have NB482_483 := n5_; have NB483_482 := n6_; clear n0_ n1_ n2_ n3_ n4_ n5_ n6_; clear hb hbox hg; have hnb10 := NB482_483.out; have hnc10 := NB483_482.out; have hcz11_0 : w9.cell? ⟨gb482, 0, none⟩ = some (.slice A0_0 l0_0.length c0_0) := (blk_cell BK482.out 0).trans rfl; have hcz11_1 : w9.cell? ⟨gb482, 1, none⟩ = some (.slice A0_1 l0_1.length c0_1) := (blk_cell BK482.out 1).trans rfl; have hcz11_2 : w9.cell? ⟨gb482, 2, none⟩ = some (.slice A0_2 l0_2.length c0_2) := (blk_cell BK482.out 2).trans rfl; have hfz11_0 := blk_frozen BK482.out 0; have hfz11_1 := blk_frozen BK482.out 1; have hfz11_2 := blk_frozen BK482.out 2; have hcz12_0 : w9.cell? ⟨gb483, 0, none⟩ = some (.slice A1_0 l1_0.length c1_0) := (blk_cell BK483.out 0).trans rfl; have hcz12_1 : w9.cell? ⟨gb483, 1, none⟩ = some (.slice A1_1 l1_1.length c1_1) := (blk_cell BK483.out 1).trans rfl; have hcz12_2 : w9.cell? ⟨gb483, 2, none⟩ = some (.slice A1_2 l1_2.length c1_2) := (blk_cell BK483.out 2).trans rfl; have hfz12_0 := blk_frozen BK483.out 0; have hfz12_1 := blk_frozen BK483.out 1; have hfz12_2 := blk_frozen BK483.out 2) | ((with_reducible refine gate_callee (f := 39) rfl ?_); refine goesL_ (some 9) rfl rfl Tryz.func39 (by kernel_rfl) rfl #[.slice A0_0 l0_0.length c0_0, .slice A1_0 l1_0.length c1_0] rfl (by (try simp only [List.map_toArray, List.map_cons, List.map_nil]); first | done | rfl | (simp only [List.length_drop, List.length_take]; rfl)) ?_; (with_reducible refine (slices_Equal_int_int.calls k _ _ l0_0 _ _ l1_0 true _ ?side1 ?side2 ?side3 ?side4 A3.out).mono ?_); (case side1 => repeat (first | exact (Kd.C_below HR0_0.out HB.out) | (with_reducible refine Kd.C_alloc ?_ _) | (with_reducible refine Kd.C_drewN ?_ _) | (with_reducible refine Kd.C_drew ?_))); (case side2 => exact HC0_0.out); (case side3 => repeat (first | exact (Kd.C_below HR1_0.out HB.out) | (with_reducible refine Kd.C_alloc ?_ _) | (with_reducible refine Kd.C_drewN ?_ _) | (with_reducible refine Kd.C_drew ?_))); (case side4 => exact HC1_0.out); rintro e w' ⟨rfl, ⟨nd, rfl⟩⟩; refine ⟨_, rfl, ?_⟩) | (go_at_call 39; (with_reducible refine (slices_Equal_int_int.calls k _ _ l0_1 _ _ l1_1 true _ ?side1 ?side2 ?side3 ?side4 A5.out).mono ?_); (case side1 => repeat (first | exact (Kd.C_below HR0_1.out (by repeat (first | (with_reducible first | exact HB.out | apply below_alloc | apply pw_below_drewN | apply below_drew1 | refine below_set ?_ GE482.out | refine below_set ?_ GE483.out) | exact HB.out))) | (with_reducible refine Kd.C_alloc ?_ _) | (with_reducible refine Kd.C_drewN ?_ _) | (with_reducible refine Kd.C_drew ?_))); (case side2 => exact HC0_1.out); (case side3 => repeat (first | exact (Kd.C_below HR1_1.out (by repeat (first | (with_reducible first | exact HB.out | apply below_alloc | apply pw_below_drewN | apply below_drew1 | refine below_set ?_ GE482.out | refine below_set ?_ GE483.out) | exact HB.out))) | (with_reducible refine Kd.C_alloc ?_ _) | (with_reducible refine Kd.C_drewN ?_ _) | (with_reducible refine Kd.C_drew ?_))); (case side4 => exact HC1_1.out); rintro e w' ⟨rfl, ⟨nd, rfl⟩⟩) | (go_at_call 39; (with_reducible refine (slices_Equal_int_int.calls k _ _ l0_2 _ _ l1_2 t486 _ ?side1 ?side2 ?side3 ?side4 A7.out).mono ?_); (case side1 => repeat (first | exact (Kd.C_below HR0_2.out (by repeat (first | (with_reducible first | exact HB.out | apply below_alloc | apply pw_below_drewN | apply below_drew1 | refine below_set ?_ GE482.out | refine below_set ?_ GE483.out) | exact HB.out))) | (with_reducible refine Kd.C_alloc ?_ _) | (with_reducible refine Kd.C_drewN ?_ _) | (with_reducible refine Kd.C_drew ?_))); (case side2 => exact HC0_2.out); (case side3 => repeat (first | exact (Kd.C_below HR1_2.out (by repeat (first | (with_reducible first | exact HB.out | apply below_alloc | apply pw_below_drewN | apply below_drew1 | refine below_set ?_ GE482.out | refine below_set ?_ GE483.out) | exact HB.out))) | (with_reducible refine Kd.C_alloc ?_ _) | (with_reducible refine Kd.C_drewN ?_ _) | (with_reducible refine Kd.C_drew ?_))); (case side4 => exact HC1_2.out); rintro e w' ⟨rfl, ⟨nd, rfl⟩⟩))
      go_ret
      exact ⟨by first | rfl | (simp [errW_none, errW_some] <;> rfl) | (simp [*, errW_none, errW_some] <;> rfl), by repeat (first | (with_reducible first | exact HB.out | apply below_alloc | apply pw_below_drewN | apply below_drew1 | refine below_set ?_ GE482.out | refine below_set ?_ GE483.out) | exact HB.out)⟩
    · replace c6 := Bool.eq_false_iff.mpr c6
      subst c6
      have H1 : (some false) = some r := by rw [if_neg (show ¬ (false = true) by decide)] at H; exact H
      clear H
      have H := H1
      clear H1
      obtain rfl := Option.some.inj H
      go_enter Tryz.func13, Tryz.ntmps13
      go_wp2_with (first | ((with_reducible refine gD_ 2 ?_); refine bx_ 2 33 #[.slice A0_0 l0_0.length c0_0, .slice A0_1 l0_1.length c0_1, .slice A0_2 l0_2.length c0_2] ?_; intro gb482 hg w13 hbox hb; have n0_ := Aside0.mk (below_step (by repeat (first | (with_reducible first | exact HB.out | apply below_alloc | apply pw_below_drewN | apply below_drew1) | exact HB.out)) hb); have n1_ := Aside0.mk (hbox); have n2_ := Aside0.mk ((by rw [hg]; exact (below_size (by repeat (first | (with_reducible first | exact HB.out | apply below_alloc | apply pw_below_drewN | apply below_drew1) | exact HB.out))) : w.heap.size ≤ gb482)); have n3_ := Aside0.mk ((by rw [hg]; exact (below_size (by repeat (first | (with_reducible first | exact HB.out | apply below_alloc | apply pw_below_drewN | apply below_drew1) | exact HB.out))) : w.heap.size ≤ gb482)); clear HB; have HB := n0_; have BK482 := n1_; have GW482 := n2_; have GE482 := n3_; clear n0_ n1_ n2_ n3_; clear hb hbox hg) | ((with_reducible refine gD_ 3 ?_); refine bx_ 3 33 #[.slice A1_0 l1_0.length c1_0, .slice A1_1 l1_1.length c1_1, .slice A1_2 l1_2.length c1_2] ?_; intro gb483 hg w14 hbox hb; have n0_ := Aside0.mk (blk_below (g := gb482) (o := .cells #[.slice A0_0 l0_0.length c0_0, .slice A0_1 l0_1.length c0_1, .slice A0_2 l0_2.length c0_2] 33 (0, 0)) (by (with_reducible repeat (first | refine blk_drewN ?_ _ | refine blk_drew ?_ | refine blk_alloc ?_ _)); exact BK482.out) hb); have n1_ := Aside0.mk (below_step (by repeat (first | (with_reducible first | exact HB.out | apply below_alloc | apply pw_below_drewN | apply below_drew1 | refine below_set ?_ GE482.out) | exact HB.out)) hb); have n2_ := Aside0.mk (hbox); have n3_ := Aside0.mk ((by rw [hg]; exact (below_size (by repeat (first | (with_reducible first | exact HB.out | apply below_alloc | apply pw_below_drewN | apply below_drew1 | refine below_set ?_ GE482.out) | exact HB.out))) : w.heap.size ≤ gb483)); have n4_ := Aside0.mk ((by rw [hg]; exact (below_size (by repeat (first | (with_reducible first | exact HB.out | apply below_alloc | apply pw_below_drewN | apply below_drew1 | refine below_set ?_ GE482.out) | exact HB.out))) : w.heap.size ≤ gb483)); have n5_ := Aside0.mk ((by rw [hg]; exact Nat.ne_of_lt (blk_lt (g := gb482) (o := .cells #[.slice A0_0 l0_0.length c0_0, .slice A0_1 l0_1.length c0_1, .slice A0_2 l0_2.length c0_2] 33 (0, 0)) (by (with_reducible repeat (first | refine blk_drewN ?_ _ | refine blk_drew ?_ | refine blk_alloc ?_ _)); exact BK482.out)) : gb482 ≠ gb483)); have n6_ := Aside0.mk ((by rw [hg]; exact Nat.ne_of_gt (blk_lt (g := gb482) (o := .cells #[.slice A0_0 l0_0.length c0_0, .slice A0_1 l0_1.length c0_1, .slice A0_2 l0_2.length c0_2] 33 (0, 0)) (by (with_reducible repeat (first | refine blk_drewN ?_ _ | refine blk_drew ?_ | refine blk_alloc ?_ _)); exact BK482.out)) : gb483 ≠ gb482)); clear BK482; clear HB; have BK482 := n0_; have HB := n1_; have BK483 := n2_; have GW483 := n3_; have GE483 := n4_; have NB482_483 := n5_; have NB483_482 := n6_; clear n0_ n1_ n2_ n3_ n4_ n5_ n6_; clear hb hbox hg; have hnb15 := NB482_483.out; have hnc15 := NB483_482.out; have hcz16_0 : w14.cell? ⟨gb482, 0, none⟩ = some (.slice A0_0 l0_0.length c0_0) := (blk_cell BK482.out 0).trans rfl; have hcz16_1 : w14.cell? ⟨gb482, 1, none⟩ = some (.slice A0_1 l0_1.length c0_1) := (blk_cell BK482.out 1).trans rfl; have hcz16_2 : w14.cell? ⟨gb482, 2, none⟩ = some (.slice A0_2 l0_2.length c0_2) := (blk_cell BK482.out 2).trans rfl; have hfz16_0 := blk_frozen BK482.out 0; have hfz16_1 := blk_frozen BK482.out 1; have hfz16_2 := blk_frozen BK482.out 2; have hcz17_0 : w14.cell? ⟨gb483, 0, none⟩ = some (.slice A1_0 l1_0.length c1_0) := (blk_cell BK483.out 0).trans rfl; have hcz17_1 : w14.cell? ⟨gb483, 1, none⟩ = some (.slice A1_1 l1_1.length c1_1) := (blk_cell BK483.out 1).trans rfl; have hcz17_2 : w14.cell? ⟨gb483, 2, none⟩ = some (.slice A1_2 l1_2.length c1_2) := (blk_cell BK483.out 2).trans rfl; have hfz17_0 := blk_frozen BK483.out 0; have hfz17_1 := blk_frozen BK483.out 1; have hfz17_2 := blk_frozen BK483.out 2) | ((with_reducible refine gate_callee (f := 39) rfl ?_); refine goesL_ (some 9) rfl rfl Tryz.func39 (by kernel_rfl) rfl #[.slice A0_0 l0_0.length c0_0, .slice A1_0 l1_0.length c1_0] rfl (by (try simp only [List.map_toArray, List.map_cons, List.map_nil]); first | done | rfl | (simp only [List.length_drop, List.length_take]; rfl)) ?_; (with_reducible refine (slices_Equal_int_int.calls k _ _ l0_0 _ _ l1_0 true _ ?side1 ?side2 ?side3 ?side4 A3.out).mono ?_); (case side1 => repeat (first | exact (Kd.C_below HR0_0.out HB.out) | (with_reducible refine Kd.C_alloc ?_ _) | (with_reducible refine Kd.C_drewN ?_ _) | (with_reducible refine Kd.C_drew ?_))); (case side2 => exact HC0_0.out); (case side3 => repeat (first | exact (Kd.C_below HR1_0.out HB.out) | (with_reducible refine Kd.C_alloc ?_ _) | (with_reducible refine Kd.C_drewN ?_ _) | (with_reducible refine Kd.C_drew ?_))); (case side4 => exact HC1_0.out); rintro e w' ⟨rfl, ⟨nd, rfl⟩⟩; refine ⟨_, rfl, ?_⟩) | (go_at_call 39; (with_reducible refine (slices_Equal_int_int.calls k _ _ l0_1 _ _ l1_1 false _ ?side1 ?side2 ?side3 ?side4 A5.out).mono ?_); (case side1 => repeat (first | exact (Kd.C_below HR0_1.out (by repeat (first | (with_reducible first | exact HB.out | apply below_alloc | apply pw_below_drewN | apply below_drew1 | refine below_set ?_ GE482.out | refine below_set ?_ GE483.out) | exact HB.out))) | (with_reducible refine Kd.C_alloc ?_ _) | (with_reducible refine Kd.C_drewN ?_ _) | (with_reducible refine Kd.C_drew ?_))); (case side2 => exact HC0_1.out); (case side3 => repeat (first | exact (Kd.C_below HR1_1.out (by repeat (first | (with_reducible first | exact HB.out | apply below_alloc | apply pw_below_drewN | apply below_drew1 | refine below_set ?_ GE482.out | refine below_set ?_ GE483.out) | exact HB.out))) | (with_reducible refine Kd.C_alloc ?_ _) | (with_reducible refine Kd.C_drewN ?_ _) | (with_reducible refine Kd.C_drew ?_))); (case side4 => exact HC1_1.out); rintro e w' ⟨rfl, ⟨nd, rfl⟩⟩))
      go_ret
      exact ⟨by first | rfl | (simp [errW_none, errW_some] <;> rfl) | (simp [*, errW_none, errW_some] <;> rfl), by repeat (first | (with_reducible first | exact HB.out | apply below_alloc | apply pw_below_drewN | apply below_drew1 | refine below_set ?_ GE482.out | refine below_set ?_ GE483.out) | exact HB.out)⟩
  · replace c4 := Bool.eq_false_iff.mpr c4
    subst c4
    have H1 : (some false) = some r := by rw [if_neg (show ¬ (false = true) by decide)] at H; exact H
    clear H
    have H := H1
    clear H1
    obtain rfl := Option.some.inj H
    go_enter Tryz.func13, Tryz.ntmps13
    go_wp2_with (first | ((with_reducible refine gD_ 2 ?_); refine bx_ 2 33 #[.slice A0_0 l0_0.length c0_0, .slice A0_1 l0_1.length c0_1, .slice A0_2 l0_2.length c0_2] ?_; intro gb482 hg w18 hbox hb; have n0_ := Aside0.mk (below_step (by repeat (first | (with_reducible first | exact HB.out | apply below_alloc | apply pw_below_drewN | apply below_drew1) | exact HB.out)) hb); have n1_ := Aside0.mk (hbox); have n2_ := Aside0.mk ((by rw [hg]; exact (below_size (by repeat (first | (with_reducible first | exact HB.out | apply below_alloc | apply pw_below_drewN | apply below_drew1) | exact HB.out))) : w.heap.size ≤ gb482)); have n3_ := Aside0.mk ((by rw [hg]; exact (below_size (by repeat (first | (with_reducible first | exact HB.out | apply below_alloc | apply pw_below_drewN | apply below_drew1) | exact HB.out))) : w.heap.size ≤ gb482)); clear HB; have HB := n0_; have BK482 := n1_; have GW482 := n2_; have GE482 := n3_; clear n0_ n1_ n2_ n3_; clear hb hbox hg) | ((with_reducible refine gD_ 3 ?_); refine bx_ 3 33 #[.slice A1_0 l1_0.length c1_0, .slice A1_1 l1_1.length c1_1, .slice A1_2 l1_2.length c1_2] ?_; intro gb483 hg w19 hbox hb; have n0_ := Aside0.mk (blk_below (g := gb482) (o := .cells #[.slice A0_0 l0_0.length c0_0, .slice A0_1 l0_1.length c0_1, .slice A0_2 l0_2.length c0_2] 33 (0, 0)) (by (with_reducible repeat (first | refine blk_drewN ?_ _ | refine blk_drew ?_ | refine blk_alloc ?_ _)); exact BK482.out) hb); have n1_ := Aside0.mk (below_step (by repeat (first | (with_reducible first | exact HB.out | apply below_alloc | apply pw_below_drewN | apply below_drew1 | refine below_set ?_ GE482.out) | exact HB.out)) hb); have n2_ := Aside0.mk (hbox); have n3_ := Aside0.mk ((by rw [hg]; exact (below_size (by repeat (first | (with_reducible first | exact HB.out | apply below_alloc | apply pw_below_drewN | apply below_drew1 | refine below_set ?_ GE482.out) | exact HB.out))) : w.heap.size ≤ gb483)); have n4_ := Aside0.mk ((by rw [hg]; exact (below_size (by repeat (first | (with_reducible first | exact HB.out | apply below_alloc | apply pw_below_drewN | apply below_drew1 | refine below_set ?_ GE482.out) | exact HB.out))) : w.heap.size ≤ gb483)); have n5_ := Aside0.mk ((by rw [hg]; exact Nat.ne_of_lt (blk_lt (g := gb482) (o := .cells #[.slice A0_0 l0_0.length c0_0, .slice A0_1 l0_1.length c0_1, .slice A0_2 l0_2.length c0_2] 33 (0, 0)) (by (with_reducible repeat (first | refine blk_drewN ?_ _ | refine blk_drew ?_ | refine blk_alloc ?_ _)); exact BK482.out)) : gb482 ≠ gb483)); have n6_ := Aside0.mk ((by rw [hg]; exact Nat.ne_of_gt (blk_lt (g := gb482) (o := .cells #[.slice A0_0 l0_0.length c0_0, .slice A0_1 l0_1.length c0_1, .slice A0_2 l0_2.length c0_2] 33 (0, 0)) (by (with_reducible repeat (first | refine blk_drewN ?_ _ | refine blk_drew ?_ | refine blk_alloc ?_ _)); exact BK482.out)) : gb483 ≠ gb482)); clear BK482; clear HB; have BK482 := n0_; have HB := n1_; have BK483 := n2_; have GW483 := n3_; have GE483 := n4_; have NB482_483 := n5_; have NB483_482 := n6_; clear n0_ n1_ n2_ n3_ n4_ n5_ n6_; clear hb hbox hg; have hnb20 := NB482_483.out; have hnc20 := NB483_482.out; have hcz21_0 : w19.cell? ⟨gb482, 0, none⟩ = some (.slice A0_0 l0_0.length c0_0) := (blk_cell BK482.out 0).trans rfl; have hcz21_1 : w19.cell? ⟨gb482, 1, none⟩ = some (.slice A0_1 l0_1.length c0_1) := (blk_cell BK482.out 1).trans rfl; have hcz21_2 : w19.cell? ⟨gb482, 2, none⟩ = some (.slice A0_2 l0_2.length c0_2) := (blk_cell BK482.out 2).trans rfl; have hfz21_0 := blk_frozen BK482.out 0; have hfz21_1 := blk_frozen BK482.out 1; have hfz21_2 := blk_frozen BK482.out 2; have hcz22_0 : w19.cell? ⟨gb483, 0, none⟩ = some (.slice A1_0 l1_0.length c1_0) := (blk_cell BK483.out 0).trans rfl; have hcz22_1 : w19.cell? ⟨gb483, 1, none⟩ = some (.slice A1_1 l1_1.length c1_1) := (blk_cell BK483.out 1).trans rfl; have hcz22_2 : w19.cell? ⟨gb483, 2, none⟩ = some (.slice A1_2 l1_2.length c1_2) := (blk_cell BK483.out 2).trans rfl; have hfz22_0 := blk_frozen BK483.out 0; have hfz22_1 := blk_frozen BK483.out 1; have hfz22_2 := blk_frozen BK483.out 2) | ((with_reducible refine gate_callee (f := 39) rfl ?_); refine goesL_ (some 9) rfl rfl Tryz.func39 (by kernel_rfl) rfl #[.slice A0_0 l0_0.length c0_0, .slice A1_0 l1_0.length c1_0] rfl (by (try simp only [List.map_toArray, List.map_cons, List.map_nil]); first | done | rfl | (simp only [List.length_drop, List.length_take]; rfl)) ?_; (with_reducible refine (slices_Equal_int_int.calls k _ _ l0_0 _ _ l1_0 false _ ?side1 ?side2 ?side3 ?side4 A3.out).mono ?_); (case side1 => repeat (first | exact (Kd.C_below HR0_0.out HB.out) | (with_reducible refine Kd.C_alloc ?_ _) | (with_reducible refine Kd.C_drewN ?_ _) | (with_reducible refine Kd.C_drew ?_))); (case side2 => exact HC0_0.out); (case side3 => repeat (first | exact (Kd.C_below HR1_0.out HB.out) | (with_reducible refine Kd.C_alloc ?_ _) | (with_reducible refine Kd.C_drewN ?_ _) | (with_reducible refine Kd.C_drew ?_))); (case side4 => exact HC1_0.out); rintro e w' ⟨rfl, ⟨nd, rfl⟩⟩; refine ⟨_, rfl, ?_⟩))
    go_ret
    exact ⟨by first | rfl | (simp [errW_none, errW_some] <;> rfl) | (simp [*, errW_none, errW_some] <;> rfl), by repeat (first | (with_reducible first | exact HB.out | apply below_alloc | apply pw_below_drewN | apply below_drew1 | refine below_set ?_ GE482.out | refine below_set ?_ GE483.out) | exact HB.out)⟩
end Go.Proofs.YtjamfddhcigchaaGreatDoor.HFnCodeRun
