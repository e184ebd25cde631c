-- Made by a program of this session (hp.py) over the kit's print: functions told by hand stand beside printed ones. Lean checks it.
import Derived.Test.YtjamfddhcigchaaGreatDoorTFnCodeSameHFnCodeSamex13
namespace Go.Proofs.YtjamfddhcigchaaGreatDoor.HFnCodeSame
open Go.RowKit Go.Proofs.YtjamfddhcigchaaGreatDoorW.PrintWords Go.Proofs.YtjamfddhcigchaaGreatDoorW.PrintLast Go.Proofs.YtjamfddhcigchaaGreatDoorW.PrintMore
attribute [local go_sem] max2_int min2_int max_two min_two max_three min_three max_four min_four
set_option linter.unusedVariables false
set_option linter.unusedSimpArgs false
attribute [local go_sem high] eqA28 eqA30
def spec_l2MemBent.f (k : Nat) (s0_0 : List Int) (s0_1 : Int) : Option (List Int × List Int × List Int × Int) := (spec_l2Mem.f k s0_0 s0_1).bind fun bt439 => ((spec_l12Rd_pick.f k s0_0 bt439.2.2.2 30).bind fun bt450 => (if bt450.1 = 0 then (if 2 ≤ (bt439.1.length : Int) then (some ((bt439.1.take (2 : Int).toNat), bt439.2.1, bt439.2.2.1, bt450.2)) else (none)) else (if bt450.1 = 1 then (if 0 < (bt439.2.2.1.length : Int) then (some (bt439.1, bt439.2.1, (bt439.2.2.1.set (0 : Int).toNat 1000001), bt450.2)) else (none)) else (if bt450.1 = 2 then (if bt439.2.1.length < 17592186044416 then (some (bt439.1, (bt439.2.1 ++ [0]), bt439.2.2.1, bt450.2)) else (none)) else (some (bt439.1, bt439.2.1, bt439.2.2.1, bt450.2))))))
def spec_DrawCodeRun.f (k : Nat) (l0 : List Int) : Option (List Int × List Int × List Int × (List (S30)) × Int) := (spec_l12Open.f l0).bind fun bt460 => ((spec_l5Code.f k bt460.1 bt460.2).bind fun bt463 => ((spec_l2MemBent.f k bt460.1 bt463.2).bind fun bt467 => ((spec_l12Rd_num.f k bt460.1 bt467.2.2.2 (([100, 100, 5, 0, 1, 101, (-1)] : List Int))).bind fun bt480 => (some (bt467.1, bt467.2.1, bt467.2.2.1, bt463.1, bt480.1)))))
def bits_Mul32.f (a0 : Int) (a1 : Int) : Option (Int × Int) := some (((IntKind.u64.wrap ((IntKind.u64.wrap (a0)) * (IntKind.u64.wrap (a1)))) / 4294967296) % 4294967296, (IntKind.u64.wrap ((IntKind.u64.wrap (a0)) * (IntKind.u64.wrap (a1)))) % 4294967296)
def bits_Mul64.f (a0 : Int) (a1 : Int) : Option (Int × Int) := some (IntKind.u64.wrap ((IntKind.u64.wrap ((IntKind.u64.wrap ((a0 / 4294967296) * (a1 / 4294967296))) + ((IntKind.u64.wrap ((IntKind.u64.wrap ((a0 / 4294967296) * (Go.bits .and .u64 a1 4294967295))) + ((IntKind.u64.wrap ((Go.bits .and .u64 a0 4294967295) * (Go.bits .and .u64 a1 4294967295))) / 4294967296))) / 4294967296))) + ((IntKind.u64.wrap ((Go.bits .and .u64 (IntKind.u64.wrap ((IntKind.u64.wrap ((a0 / 4294967296) * (Go.bits .and .u64 a1 4294967295))) + ((IntKind.u64.wrap ((Go.bits .and .u64 a0 4294967295) * (Go.bits .and .u64 a1 4294967295))) / 4294967296))) 4294967295) + (IntKind.u64.wrap ((Go.bits .and .u64 a0 4294967295) * (a1 / 4294967296))))) / 4294967296)), IntKind.u64.wrap (a0 * a1))
set_option maxHeartbeats 8000000 in
set_option maxRecDepth 100000 in
theorem bits_Mul64.calls (a0 : Int) (a1 : Int) (r1 : Int) (r2 : Int) (w : World) (h : bits_Mul64.f a0 a1 = some (r1, r2)) :
    Calls Tryz.prog 129 #[.int .u64 a0, .int .u64 a1] w fun e w' => e = .returned (.tuple #[.int .u64 r1, .int .u64 r2]) ∧ Drawn0 w w' := by
 have H : (some (IntKind.u64.wrap ((IntKind.u64.wrap ((IntKind.u64.wrap ((a0 / 4294967296) * (a1 / 4294967296))) + ((IntKind.u64.wrap ((IntKind.u64.wrap ((a0 / 4294967296) * (Go.bits .and .u64 a1 4294967295))) + ((IntKind.u64.wrap ((Go.bits .and .u64 a0 4294967295) * (Go.bits .and .u64 a1 4294967295))) / 4294967296))) / 4294967296))) + ((IntKind.u64.wrap ((Go.bits .and .u64 (IntKind.u64.wrap ((IntKind.u64.wrap ((a0 / 4294967296) * (Go.bits .and .u64 a1 4294967295))) + ((IntKind.u64.wrap ((Go.bits .and .u64 a0 4294967295) * (Go.bits .and .u64 a1 4294967295))) / 4294967296))) 4294967295) + (IntKind.u64.wrap ((Go.bits .and .u64 a0 4294967295) * (a1 / 4294967296))))) / 4294967296)), IntKind.u64.wrap (a0 * a1))) = some (r1, r2) := h
 clear h
 simp only [Option.some.injEq, Prod.mk.injEq] at H
 obtain ⟨rfl, rfl⟩ := H
 go_enter Tryz.func129, Tryz.ntmps129
 go_wp2
 go_ret2
 exact ⟨qF, by repeat (first | exact Drawn0.refl _ | apply Drawn0.step)⟩
def bits_Mul.f (a0 : Int) (a1 : Int) : Option (Int × Int) := (bits_Mul64.f a0 a1).bind fun bt482 => (some (bt482.1, bt482.2))
set_option maxHeartbeats 8000000 in
set_option maxRecDepth 100000 in
theorem bits_Mul.calls (a0 : Int) (a1 : Int) (r1 : Int) (r2 : Int) (w : World) (h : bits_Mul.f a0 a1 = some (r1, r2)) :
    Calls Tryz.prog 109 #[.int .u64 a0, .int .u64 a1] w fun e w' => e = .returned (.tuple #[.int .u64 r1, .int .u64 r2]) ∧ Drawn0 w w' := by
 have H : ((bits_Mul64.f a0 a1).bind fun bt482 => (some (bt482.1, bt482.2))) = some (r1, r2) := h
 clear h
 replace H := oB_ H
 obtain ⟨⟨t482, t483⟩, A30, H⟩ := H
 dsimp only at H
 have A3 := aM_ A30
 clear A30
 simp only [Option.some.injEq, Prod.mk.injEq] at H
 obtain ⟨rfl, rfl⟩ := H
 go_enter Tryz.func109, Tryz.ntmps109
 go_wp2_with (first | ((with_reducible refine gc_ 129 ?_); refine gL_ (some 25) Tryz.func129 #[.int .u64 a0, .int .u64 a1] ?_; (with_reducible refine (bits_Mul64.calls a0 a1 t482 t483 _ A3.out).mono ?_); rintro e w' ⟨rfl, ⟨nd, rfl⟩⟩; refine ⟨_, rfl, ?_⟩))
 go_ret2
 exact ⟨qF, by repeat (first | exact Drawn0.refl _ | apply Drawn0.step)⟩
def impl_isNum.f (a0 : Int) : Option (Bool) := if a0 ≥ (-1000000) then (some (decide (a0 ≤ 1000000))) else (some false)
set_option maxHeartbeats 8000000 in
set_option maxRecDepth 100000 in
theorem impl_isNum.calls (a0 : Int) (r : Bool) (w : World) (h : impl_isNum.f a0 = some r) :
    Calls Tryz.prog 63 #[.int .i64 a0] w fun e w' => e = .returned (.bool r) ∧ Drawn0 w w' := by
 have H : (if a0 ≥ (-1000000) then (some (decide (a0 ≤ 1000000))) else (some false)) = some r := h
 clear h
 by_cases c2 : a0 ≥ (-1000000)
 · rw [if_pos c2] at H
   have c2b0 : decide ((-1000000) ≤ a0) = true := dT_ c2
   clear c2
   obtain rfl := oI_ H
   go_enter Tryz.func63, Tryz.ntmps63
   go_wp2
   go_ret
   exact ⟨qF, by repeat (first | exact Drawn0.refl _ | apply Drawn0.step)⟩
 rw [if_neg c2] at H
 have c2b0 : decide ((-1000000) ≤ a0) = false := dF_ c2
 clear c2
 obtain rfl := oI_ H
 go_enter Tryz.func63, Tryz.ntmps63
 go_wp2
 go_ret
 exact ⟨qF, by repeat (first | exact Drawn0.refl _ | apply Drawn0.step)⟩
def impl_AddrOk.f (a0_0 : Int) (a0_1 : Int) : Option (Bool) := if a0_0 ≥ 1 then (if a0_0 ≤ 3 then (if a0_1 ≥ 0 then (some (decide (a0_1 < 6))) else (some false)) else (some false)) else (some false)
set_option maxHeartbeats 8000000 in
set_option maxRecDepth 100000 in
theorem impl_AddrOk.calls (a0_0 : Int) (a0_1 : Int) (r : Bool) (w : World) (h : impl_AddrOk.f a0_0 a0_1 = some r) :
    Calls Tryz.prog 110 #[.agg #[.int .i64 a0_0, .int .i64 a0_1]] w fun e w' => e = .returned (.bool r) ∧ Below w.heap.size w w' := by
 have hu28 := Tryz.underlying28
 have HB := aM_ (Below.refl w.heap.size w)
 have H : (if a0_0 ≥ 1 then (if a0_0 ≤ 3 then (if a0_1 ≥ 0 then (some (decide (a0_1 < 6))) else (some false)) else (some false)) else (some false)) = some r := h
 clear h
 by_cases c2 : a0_0 ≥ 1
 rotate_left
 · rw [if_neg c2] at H
   have c2b0 : decide (1 ≤ a0_0) = false := dF_ c2
   clear c2
   obtain rfl := oI_ H
   go_enter Tryz.func110, Tryz.ntmps110
   go_wp2_with (first | ((with_reducible refine gate_dst (N := 1) rfl ?_); refine box_event ?hg (N := 1) ?hd (cs := #[.int .i64 a0_0, .int .i64 a0_1]) (t := 28) ?hr ?_; (case hd => rfl); (case hg => rfl); (case hr => first | (go_simp; done) | (go_simp; rfl)); intro gb484 hg w11 hbox hb; have n0_ := aM_ (bT_ (qB HB) hb); have n1_ := aM_ (hbox); have n2_ := aM_ ((by rw [hg]; exact (bZ_ (qB HB)) : w.heap.size ≤ gb484)); have n3_ := aM_ ((by rw [hg]; exact (bZ_ (qB HB)) : w.heap.size ≤ gb484)); clear HB; have HB := n0_; have BK484 := n1_; have GW484 := n2_; have GE484 := n3_; clear n0_ n1_ n2_ n3_ hb hbox hg; (obtain ⟨hcz12_0, hcz12_1⟩ := cells2 BK484.out); (obtain ⟨hfz12_0, hfz12_1⟩ := frozen2 BK484.out)))
   go_ret
   exact ⟨qE, qB HB⟩
 rw [if_pos c2] at H
 have c2b0 : decide (1 ≤ a0_0) = true := dT_ c2
 clear c2
 by_cases c3 : a0_0 ≤ 3
 rotate_left
 · rw [if_neg c3] at H
   have c3b0 : decide (a0_0 ≤ 3) = false := dF_ c3
   clear c3
   obtain rfl := oI_ H
   go_enter Tryz.func110, Tryz.ntmps110
   go_wp2_with (first | ((with_reducible refine gate_dst (N := 1) rfl ?_); refine box_event ?hg (N := 1) ?hd (cs := #[.int .i64 a0_0, .int .i64 a0_1]) (t := 28) ?hr ?_; (case hd => rfl); (case hg => rfl); (case hr => first | (go_simp; done) | (go_simp; rfl)); intro gb484 hg w9 hbox hb; have n0_ := aM_ (bT_ (qB HB) hb); have n1_ := aM_ (hbox); have n2_ := aM_ ((by rw [hg]; exact (bZ_ (qB HB)) : w.heap.size ≤ gb484)); have n3_ := aM_ ((by rw [hg]; exact (bZ_ (qB HB)) : w.heap.size ≤ gb484)); clear HB; have HB := n0_; have BK484 := n1_; have GW484 := n2_; have GE484 := n3_; clear n0_ n1_ n2_ n3_ hb hbox hg; (obtain ⟨hcz10_0, hcz10_1⟩ := cells2 BK484.out); (obtain ⟨hfz10_0, hfz10_1⟩ := frozen2 BK484.out)))
   go_ret
   exact ⟨qE, qB HB⟩
 rw [if_pos c3] at H
 have c3b0 : decide (a0_0 ≤ 3) = true := dT_ c3
 clear c3
 by_cases c4 : a0_1 ≥ 0
 · rw [if_pos c4] at H
   have c4b0 : decide (0 ≤ a0_1) = true := dT_ c4
   clear c4
   obtain rfl := oI_ H
   go_enter Tryz.func110, Tryz.ntmps110
   go_wp2_with (first | ((with_reducible refine gate_dst (N := 1) rfl ?_); refine box_event ?hg (N := 1) ?hd (cs := #[.int .i64 a0_0, .int .i64 a0_1]) (t := 28) ?hr ?_; (case hd => rfl); (case hg => rfl); (case hr => first | (go_simp; done) | (go_simp; rfl)); intro gb484 hg w5 hbox hb; have n0_ := aM_ (bT_ (qB HB) hb); have n1_ := aM_ (hbox); have n2_ := aM_ ((by rw [hg]; exact (bZ_ (qB HB)) : w.heap.size ≤ gb484)); have n3_ := aM_ ((by rw [hg]; exact (bZ_ (qB HB)) : w.heap.size ≤ gb484)); clear HB; have HB := n0_; have BK484 := n1_; have GW484 := n2_; have GE484 := n3_; clear n0_ n1_ n2_ n3_ hb hbox hg; (obtain ⟨hcz6_0, hcz6_1⟩ := cells2 BK484.out); (obtain ⟨hfz6_0, hfz6_1⟩ := frozen2 BK484.out)))
   go_ret
   exact ⟨qE, qB HB⟩
 rw [if_neg c4] at H
 have c4b0 : decide (0 ≤ a0_1) = false := dF_ c4
 clear c4
 obtain rfl := oI_ H
 go_enter Tryz.func110, Tryz.ntmps110
 go_wp2_with (first | ((with_reducible refine gate_dst (N := 1) rfl ?_); refine box_event ?hg (N := 1) ?hd (cs := #[.int .i64 a0_0, .int .i64 a0_1]) (t := 28) ?hr ?_; (case hd => rfl); (case hg => rfl); (case hr => first | (go_simp; done) | (go_simp; rfl)); intro gb484 hg w7 hbox hb; have n0_ := aM_ (bT_ (qB HB) hb); have n1_ := aM_ (hbox); have n2_ := aM_ ((by rw [hg]; exact (bZ_ (qB HB)) : w.heap.size ≤ gb484)); have n3_ := aM_ ((by rw [hg]; exact (bZ_ (qB HB)) : w.heap.size ≤ gb484)); clear HB; have HB := n0_; have BK484 := n1_; have GW484 := n2_; have GE484 := n3_; clear n0_ n1_ n2_ n3_ hb hbox hg; (obtain ⟨hcz8_0, hcz8_1⟩ := cells2 BK484.out); (obtain ⟨hfz8_0, hfz8_1⟩ := frozen2 BK484.out)))
 go_ret
 exact ⟨qE, qB HB⟩
def impl_puts.f (a0_0 : Int) (a0_1 : Int) : Option (Bool) := (impl_AddrOk.f a0_0 a0_1).bind fun t486 => (if t486 = true then (some (a0_0 != 1)) else (some false))
set_option maxHeartbeats 8000000 in
set_option maxRecDepth 100000 in
theorem impl_puts.calls (a0_0 : Int) (a0_1 : Int) (r : Bool) (w : World) (h : impl_puts.f a0_0 a0_1 = some r) :
    Calls Tryz.prog 111 #[.agg #[.int .i64 a0_0, .int .i64 a0_1]] w fun e w' => e = .returned (.bool r) ∧ Below w.heap.size w w' := by
 have hu28 := Tryz.underlying28
 have HB := aM_ (Below.refl w.heap.size w)
 have H : ((impl_AddrOk.f a0_0 a0_1).bind fun t486 => (if t486 = true then (some (a0_0 != 1)) else (some false))) = some r := h
 clear h
 replace H := oB_ H
 obtain ⟨t486, A20, H⟩ := H
 have A2 := aM_ A20
 clear A20
 by_cases c3 : t486 = true
 rotate_left
 · replace c3 := Bool.eq_false_iff.mpr c3
   subst c3
   rw [if_neg (show ¬ (false = true) by decide)] at H
   obtain rfl := oI_ H
   go_enter Tryz.func111, Tryz.ntmps111
   go_wp2_with (first | ((with_reducible refine gate_dst (N := 1) rfl ?_); refine box_event ?hg (N := 1) ?hd (cs := #[.int .i64 a0_0, .int .i64 a0_1]) (t := 28) ?hr ?_; (case hd => rfl); (case hg => rfl); (case hr => first | (go_simp; done) | (go_simp; rfl)); intro gb485 hg w8 hbox hb; have n0_ := aM_ (bT_ (qB HB) hb); have n1_ := aM_ (hbox); have n2_ := aM_ ((by rw [hg]; exact (bZ_ (qB HB)) : w.heap.size ≤ gb485)); have n3_ := aM_ ((by rw [hg]; exact (bZ_ (qB HB)) : w.heap.size ≤ gb485)); clear HB; have HB := n0_; have BK485 := n1_; have GW485 := n2_; have GE485 := n3_; clear n0_ n1_ n2_ n3_ hb hbox hg; (obtain ⟨hcz9_0, hcz9_1⟩ := cells2 BK485.out); (obtain ⟨hfz9_0, hfz9_1⟩ := frozen2 BK485.out)) | ((with_reducible refine gc_ 110 ?_); refine gL_ (some 4) Tryz.func110 #[.agg #[.int .i64 a0_0, .int .i64 a0_1]] ?_; (with_reducible refine (impl_AddrOk.calls a0_0 a0_1 false _ A2.out).mono ?_); rintro e w10 ⟨rfl, hb⟩; refine ⟨_, rfl, ?_⟩; have n_ := aN2_ (blk_below (g := gb485) (o := .cells #[.int .i64 a0_0, .int .i64 a0_1] 28 (0, 0)) qk hb) (bT_ (qB HB) hb); clear BK485 HB; obtain ⟨BK485, HB⟩ := n_))
   go_ret
   exact ⟨qE, qB HB⟩
 subst c3
 rw [if_pos rfl] at H
 obtain rfl := oI_ H
 go_enter Tryz.func111, Tryz.ntmps111
 go_wp2_with (first | ((with_reducible refine gate_dst (N := 1) rfl ?_); refine box_event ?hg (N := 1) ?hd (cs := #[.int .i64 a0_0, .int .i64 a0_1]) (t := 28) ?hr ?_; (case hd => rfl); (case hg => rfl); (case hr => first | (go_simp; done) | (go_simp; rfl)); intro gb485 hg w4 hbox hb; have n0_ := aM_ (bT_ (qB HB) hb); have n1_ := aM_ (hbox); have n2_ := aM_ ((by rw [hg]; exact (bZ_ (qB HB)) : w.heap.size ≤ gb485)); have n3_ := aM_ ((by rw [hg]; exact (bZ_ (qB HB)) : w.heap.size ≤ gb485)); clear HB; have HB := n0_; have BK485 := n1_; have GW485 := n2_; have GE485 := n3_; clear n0_ n1_ n2_ n3_ hb hbox hg; (obtain ⟨hcz5_0, hcz5_1⟩ := cells2 BK485.out); (obtain ⟨hfz5_0, hfz5_1⟩ := frozen2 BK485.out)) | ((with_reducible refine gc_ 110 ?_); refine gL_ (some 4) Tryz.func110 #[.agg #[.int .i64 a0_0, .int .i64 a0_1]] ?_; (with_reducible refine (impl_AddrOk.calls a0_0 a0_1 true _ A2.out).mono ?_); rintro e w6 ⟨rfl, hb⟩; refine ⟨_, rfl, ?_⟩; have n_ := aN2_ (blk_below (g := gb485) (o := .cells #[.int .i64 a0_0, .int .i64 a0_1] 28 (0, 0)) qk hb) (bT_ (qB HB) hb); clear BK485 HB; obtain ⟨BK485, HB⟩ := n_; (obtain ⟨hcz7_0, hcz7_1⟩ := cells2 BK485.out); (obtain ⟨hfz7_0, hfz7_1⟩ := frozen2 BK485.out)))
 go_ret
 exact ⟨qE, qB HB⟩
def impl_isTwo.f (a0 : Int) : Option (Bool) := if a0 ≥ 3 then (some (decide (a0 ≤ 9))) else (some false)
set_option maxHeartbeats 8000000 in
set_option maxRecDepth 100000 in
theorem impl_isTwo.calls (a0 : Int) (r : Bool) (w : World) (h : impl_isTwo.f a0 = some r) :
    Calls Tryz.prog 112 #[.int .i64 a0] w fun e w' => e = .returned (.bool r) ∧ Drawn0 w w' := by
 have H : (if a0 ≥ 3 then (some (decide (a0 ≤ 9))) else (some false)) = some r := h
 clear h
 by_cases c2 : a0 ≥ 3
 · rw [if_pos c2] at H
   have c2b0 : decide (3 ≤ a0) = true := dT_ c2
   clear c2
   obtain rfl := oI_ H
   go_enter Tryz.func112, Tryz.ntmps112
   go_wp2
   go_ret
   exact ⟨qF, by repeat (first | exact Drawn0.refl _ | apply Drawn0.step)⟩
 rw [if_neg c2] at H
 have c2b0 : decide (3 ≤ a0) = false := dF_ c2
 clear c2
 obtain rfl := oI_ H
 go_enter Tryz.func112, Tryz.ntmps112
 go_wp2
 go_ret
 exact ⟨qF, by repeat (first | exact Drawn0.refl _ | apply Drawn0.step)⟩
def impl_Ins_ok.j0 : Nat → Int → Int → Int → Bool → Int → Int → Int → Int → Option (Bool)
  | 0, _, _, _, _, _, _, _, _ => none
  | k + 1, x1, x2, x8, x56, x488000, x488001, x488002, x488003 => if x56 = true then (if x488001 > x1 then (if x488001 ≤ x2 then (some (x488002 == 0 && (x488003 == 0))) else (some false)) else (some false)) else (if x8 = 8 then (if x488001 ≥ 0 then (if x488001 < x1 then (some (x488002 == 0 && (x488003 == 0))) else (some false)) else (some false)) else (some false))
def impl_Ins_ok.f (k : Nat) (a0_0 : Int) (a0_1 : Int) (a0_2 : Int) (a0_3 : Int) (a1 : Int) (a2 : Int) : Option (Bool) := if a0_0 = 1 then ((impl_isNum.f a0_1).bind fun t488 => (if t488 = true then (some (a0_2 == 0 && (a0_3 == 0))) else (some false))) else (if a0_0 = 2 then (if a0_1 = 0 then ((impl_AddrOk.f a0_2 a0_3).bind fun t489 => (some t489)) else (some false)) else (if a0_0 = 3 then (if a0_1 = 0 then ((impl_puts.f a0_2 a0_3).bind fun t490 => (some t490)) else (some false)) else (if a0_0 = 4 then ((impl_isTwo.f a0_1).bind fun t491 => (if t491 = true then (some (a0_2 == 0 && (a0_3 == 0))) else (some false))) else (if a0_0 = 5 then (some (a0_0 == 5 && (a0_1 == 0 && ((a0_2 == 0 && (a0_3 == 0)))))) else (if a0_0 = 6 then (impl_Ins_ok.j0 k a1 a2 a0_0 (a0_0 == 6) a0_0 a0_1 a0_2 a0_3) else (impl_Ins_ok.j0 k a1 a2 a0_0 (a0_0 == 7) a0_0 a0_1 a0_2 a0_3))))))
set_option maxHeartbeats 8000000 in
set_option maxRecDepth 100000 in
theorem impl_Ins_ok.calls (k : Nat) (a0_0 : Int) (a0_1 : Int) (a0_2 : Int) (a0_3 : Int) (a1 : Int) (a2 : Int) (r : Bool) (w : World) (h : impl_Ins_ok.f k a0_0 a0_1 a0_2 a0_3 a1 a2 = some r) :
    Calls Tryz.prog 68 #[.agg #[.int .i64 a0_0, .int .i64 a0_1, .int .i64 a0_2, .int .i64 a0_3], .int .i64 a1, .int .i64 a2] w fun e w' => e = .returned (.bool r) ∧ Below w.heap.size w w' := by
 have hu30 := Tryz.underlying30
 have hu28 := Tryz.underlying28
 have HB := aM_ (Below.refl w.heap.size w)
 have H : (if a0_0 = 1 then ((impl_isNum.f a0_1).bind fun t488 => (if t488 = true then (some (a0_2 == 0 && (a0_3 == 0))) else (some false))) else (if a0_0 = 2 then (if a0_1 = 0 then ((impl_AddrOk.f a0_2 a0_3).bind fun t489 => (some t489)) else (some false)) else (if a0_0 = 3 then (if a0_1 = 0 then ((impl_puts.f a0_2 a0_3).bind fun t490 => (some t490)) else (some false)) else (if a0_0 = 4 then ((impl_isTwo.f a0_1).bind fun t491 => (if t491 = true then (some (a0_2 == 0 && (a0_3 == 0))) else (some false))) else (if a0_0 = 5 then (some (a0_0 == 5 && (a0_1 == 0 && ((a0_2 == 0 && (a0_3 == 0)))))) else (if a0_0 = 6 then (impl_Ins_ok.j0 k a1 a2 a0_0 (a0_0 == 6) a0_0 a0_1 a0_2 a0_3) else (impl_Ins_ok.j0 k a1 a2 a0_0 (a0_0 == 7) a0_0 a0_1 a0_2 a0_3))))))) = some r := h
 clear h
 by_cases c4 : a0_0 = 1
 · rw [if_pos c4] at H
   have c4b0 : (a0_0 == 1) = true := beq_iff_eq.mpr c4
   have c4b1 : (a0_0 != 1) = false := bne_eq_false_iff_eq.mpr c4
   clear c4
   replace H := oB_ H
   obtain ⟨t488, A50, H⟩ := H
   have A5 := aM_ A50
   clear A50
   by_cases c6 : t488 = true
   · subst c6
     rw [if_pos rfl] at H
     obtain rfl := oI_ H
     go_enter Tryz.func68, Tryz.ntmps68
     go_wp2_with (first | ((with_reducible refine gate_dst (N := 3) rfl ?_); refine box_event ?hg (N := 3) ?hd (cs := #[.int .i64 a0_0, .int .i64 a0_1, .int .i64 a0_2, .int .i64 a0_3]) (t := 30) ?hr ?_; (case hd => rfl); (case hg => rfl); (case hr => first | (go_simp; done) | (go_simp; rfl)); intro gb487 hg w7 hbox hb; have n0_ := aM_ (bT_ (qB HB) hb); have n1_ := aM_ (hbox); have n2_ := aM_ ((by rw [hg]; exact (bZ_ (qB HB)) : w.heap.size ≤ gb487)); have n3_ := aM_ ((by rw [hg]; exact (bZ_ (qB HB)) : w.heap.size ≤ gb487)); clear HB; have HB := n0_; have BK487 := n1_; have GW487 := n2_; have GE487 := n3_; clear n0_ n1_ n2_ n3_ hb hbox hg; (obtain ⟨hcz8_0, hcz8_1, hcz8_2, hcz8_3⟩ := cells4 BK487.out); (obtain ⟨hfz8_0, hfz8_1, hfz8_2, hfz8_3⟩ := frozen4 BK487.out)) | ((with_reducible refine gc_ 63 ?_); refine gL_ (some 13) Tryz.func63 #[.int .i64 a0_1] ?_; (with_reducible refine (impl_isNum.calls a0_1 true _ A5.out).mono ?_); rintro e w' ⟨rfl, ⟨nd, rfl⟩⟩; refine ⟨_, rfl, ?_⟩))
     go_ret
     exact ⟨qE, qB HB⟩
   replace c6 := Bool.eq_false_iff.mpr c6
   subst c6
   rw [if_neg (show ¬ (false = true) by decide)] at H
   obtain rfl := oI_ H
   go_enter Tryz.func68, Tryz.ntmps68
   go_wp2_with (first | ((with_reducible refine gate_dst (N := 3) rfl ?_); refine box_event ?hg (N := 3) ?hd (cs := #[.int .i64 a0_0, .int .i64 a0_1, .int .i64 a0_2, .int .i64 a0_3]) (t := 30) ?hr ?_; (case hd => rfl); (case hg => rfl); (case hr => first | (go_simp; done) | (go_simp; rfl)); intro gb487 hg w9 hbox hb; have n0_ := aM_ (bT_ (qB HB) hb); have n1_ := aM_ (hbox); have n2_ := aM_ ((by rw [hg]; exact (bZ_ (qB HB)) : w.heap.size ≤ gb487)); have n3_ := aM_ ((by rw [hg]; exact (bZ_ (qB HB)) : w.heap.size ≤ gb487)); clear HB; have HB := n0_; have BK487 := n1_; have GW487 := n2_; have GE487 := n3_; clear n0_ n1_ n2_ n3_ hb hbox hg; (obtain ⟨hcz10_0, hcz10_1, hcz10_2, hcz10_3⟩ := cells4 BK487.out); (obtain ⟨hfz10_0, hfz10_1, hfz10_2, hfz10_3⟩ := frozen4 BK487.out)) | ((with_reducible refine gc_ 63 ?_); refine gL_ (some 13) Tryz.func63 #[.int .i64 a0_1] ?_; (with_reducible refine (impl_isNum.calls a0_1 false _ A5.out).mono ?_); rintro e w' ⟨rfl, ⟨nd, rfl⟩⟩; refine ⟨_, rfl, ?_⟩))
   go_ret
   exact ⟨qE, qB HB⟩
 rw [if_neg c4] at H
 have c4b0 : (a0_0 == 1) = false := beq_eq_false_iff_ne.mpr c4
 have c4b1 : (a0_0 != 1) = true := bne_iff_ne.mpr c4
 by_cases c11 : a0_0 = 2
 · rw [if_pos c11] at H
   have c11b0 : (a0_0 == 2) = true := beq_iff_eq.mpr c11
   have c11b1 : (a0_0 != 2) = false := bne_eq_false_iff_eq.mpr c11
   clear c11
   by_cases c12 : a0_1 = 0
   rotate_left
   · rw [if_neg c12] at H
     have c12b0 : (a0_1 == 0) = false := beq_eq_false_iff_ne.mpr c12
     have c12b1 : (a0_1 != 0) = true := bne_iff_ne.mpr c12
     obtain rfl := oI_ H
     go_enter Tryz.func68, Tryz.ntmps68
     go_wp2_with (first | ((with_reducible refine gate_dst (N := 3) rfl ?_); refine box_event ?hg (N := 3) ?hd (cs := #[.int .i64 a0_0, .int .i64 a0_1, .int .i64 a0_2, .int .i64 a0_3]) (t := 30) ?hr ?_; (case hd => rfl); (case hg => rfl); (case hr => first | (go_simp; done) | (go_simp; rfl)); intro gb487 hg w17 hbox hb; have n0_ := aM_ (bT_ (qB HB) hb); have n1_ := aM_ (hbox); have n2_ := aM_ ((by rw [hg]; exact (bZ_ (qB HB)) : w.heap.size ≤ gb487)); have n3_ := aM_ ((by rw [hg]; exact (bZ_ (qB HB)) : w.heap.size ≤ gb487)); clear HB; have HB := n0_; have BK487 := n1_; have GW487 := n2_; have GE487 := n3_; clear n0_ n1_ n2_ n3_ hb hbox hg; (obtain ⟨hcz18_0, hcz18_1, hcz18_2, hcz18_3⟩ := cells4 BK487.out); (obtain ⟨hfz18_0, hfz18_1, hfz18_2, hfz18_3⟩ := frozen4 BK487.out)))
     go_ret
     exact ⟨qE, qB HB⟩
   rw [if_pos c12] at H
   have c12b0 : (a0_1 == 0) = true := beq_iff_eq.mpr c12
   have c12b1 : (a0_1 != 0) = false := bne_eq_false_iff_eq.mpr c12
   clear c12
   replace H := oB_ H
   obtain ⟨t489, A130, H⟩ := H
   have A13 := aM_ A130
   clear A130
   obtain rfl := oI_ H
   go_enter Tryz.func68, Tryz.ntmps68
   go_wp2_with (first | ((with_reducible refine gate_dst (N := 3) rfl ?_); refine box_event ?hg (N := 3) ?hd (cs := #[.int .i64 a0_0, .int .i64 a0_1, .int .i64 a0_2, .int .i64 a0_3]) (t := 30) ?hr ?_; (case hd => rfl); (case hg => rfl); (case hr => first | (go_simp; done) | (go_simp; rfl)); intro gb487 hg w14 hbox hb; have n0_ := aM_ (bT_ (qB HB) hb); have n1_ := aM_ (hbox); have n2_ := aM_ ((by rw [hg]; exact (bZ_ (qB HB)) : w.heap.size ≤ gb487)); have n3_ := aM_ ((by rw [hg]; exact (bZ_ (qB HB)) : w.heap.size ≤ gb487)); clear HB; have HB := n0_; have BK487 := n1_; have GW487 := n2_; have GE487 := n3_; clear n0_ n1_ n2_ n3_ hb hbox hg; (obtain ⟨hcz15_0, hcz15_1, hcz15_2, hcz15_3⟩ := cells4 BK487.out); (obtain ⟨hfz15_0, hfz15_1, hfz15_2, hfz15_3⟩ := frozen4 BK487.out)) | (go_at_call 110; (with_reducible refine (impl_AddrOk.calls a0_2 a0_3 t489 _ A13.out).mono ?_); rintro e w16 ⟨rfl, hb⟩; have n_ := aN2_ (blk_below (g := gb487) (o := .cells #[.int .i64 a0_0, .int .i64 a0_1, .int .i64 a0_2, .int .i64 a0_3] 30 (0, 0)) qk hb) (bT_ (qB HB) hb); clear BK487 HB; obtain ⟨BK487, HB⟩ := n_))
   go_ret
   exact ⟨qE, qB HB⟩
 rw [if_neg c11] at H
 have c11b0 : (a0_0 == 2) = false := beq_eq_false_iff_ne.mpr c11
 have c11b1 : (a0_0 != 2) = true := bne_iff_ne.mpr c11
 by_cases c19 : a0_0 = 3
 · rw [if_pos c19] at H
   have c19b0 : (a0_0 == 3) = true := beq_iff_eq.mpr c19
   have c19b1 : (a0_0 != 3) = false := bne_eq_false_iff_eq.mpr c19
   clear c19
   by_cases c20 : a0_1 = 0
   rotate_left
   · rw [if_neg c20] at H
     have c20b0 : (a0_1 == 0) = false := beq_eq_false_iff_ne.mpr c20
     have c20b1 : (a0_1 != 0) = true := bne_iff_ne.mpr c20
     obtain rfl := oI_ H
     go_enter Tryz.func68, Tryz.ntmps68
     go_wp2_with (first | ((with_reducible refine gate_dst (N := 3) rfl ?_); refine box_event ?hg (N := 3) ?hd (cs := #[.int .i64 a0_0, .int .i64 a0_1, .int .i64 a0_2, .int .i64 a0_3]) (t := 30) ?hr ?_; (case hd => rfl); (case hg => rfl); (case hr => first | (go_simp; done) | (go_simp; rfl)); intro gb487 hg w25 hbox hb; have n0_ := aM_ (bT_ (qB HB) hb); have n1_ := aM_ (hbox); have n2_ := aM_ ((by rw [hg]; exact (bZ_ (qB HB)) : w.heap.size ≤ gb487)); have n3_ := aM_ ((by rw [hg]; exact (bZ_ (qB HB)) : w.heap.size ≤ gb487)); clear HB; have HB := n0_; have BK487 := n1_; have GW487 := n2_; have GE487 := n3_; clear n0_ n1_ n2_ n3_ hb hbox hg; (obtain ⟨hcz26_0, hcz26_1, hcz26_2, hcz26_3⟩ := cells4 BK487.out); (obtain ⟨hfz26_0, hfz26_1, hfz26_2, hfz26_3⟩ := frozen4 BK487.out)))
     go_ret
     exact ⟨qE, qB HB⟩
   rw [if_pos c20] at H
   have c20b0 : (a0_1 == 0) = true := beq_iff_eq.mpr c20
   have c20b1 : (a0_1 != 0) = false := bne_eq_false_iff_eq.mpr c20
   clear c20
   replace H := oB_ H
   obtain ⟨t490, A210, H⟩ := H
   have A21 := aM_ A210
   clear A210
   obtain rfl := oI_ H
   go_enter Tryz.func68, Tryz.ntmps68
   go_wp2_with (first | ((with_reducible refine gate_dst (N := 3) rfl ?_); refine box_event ?hg (N := 3) ?hd (cs := #[.int .i64 a0_0, .int .i64 a0_1, .int .i64 a0_2, .int .i64 a0_3]) (t := 30) ?hr ?_; (case hd => rfl); (case hg => rfl); (case hr => first | (go_simp; done) | (go_simp; rfl)); intro gb487 hg w22 hbox hb; have n0_ := aM_ (bT_ (qB HB) hb); have n1_ := aM_ (hbox); have n2_ := aM_ ((by rw [hg]; exact (bZ_ (qB HB)) : w.heap.size ≤ gb487)); have n3_ := aM_ ((by rw [hg]; exact (bZ_ (qB HB)) : w.heap.size ≤ gb487)); clear HB; have HB := n0_; have BK487 := n1_; have GW487 := n2_; have GE487 := n3_; clear n0_ n1_ n2_ n3_ hb hbox hg; (obtain ⟨hcz23_0, hcz23_1, hcz23_2, hcz23_3⟩ := cells4 BK487.out); (obtain ⟨hfz23_0, hfz23_1, hfz23_2, hfz23_3⟩ := frozen4 BK487.out)) | (go_at_call 111; (with_reducible refine (impl_puts.calls a0_2 a0_3 t490 _ A21.out).mono ?_); rintro e w24 ⟨rfl, hb⟩; have n_ := aN2_ (blk_below (g := gb487) (o := .cells #[.int .i64 a0_0, .int .i64 a0_1, .int .i64 a0_2, .int .i64 a0_3] 30 (0, 0)) qk hb) (bT_ (qB HB) hb); clear BK487 HB; obtain ⟨BK487, HB⟩ := n_))
   go_ret
   exact ⟨qE, qB HB⟩
 rw [if_neg c19] at H
 have c19b0 : (a0_0 == 3) = false := beq_eq_false_iff_ne.mpr c19
 have c19b1 : (a0_0 != 3) = true := bne_iff_ne.mpr c19
 by_cases c27 : a0_0 = 4
 · rw [if_pos c27] at H
   have c27b0 : (a0_0 == 4) = true := beq_iff_eq.mpr c27
   have c27b1 : (a0_0 != 4) = false := bne_eq_false_iff_eq.mpr c27
   clear c27
   replace H := oB_ H
   obtain ⟨t491, A280, H⟩ := H
   have A28 := aM_ A280
   clear A280
   by_cases c29 : t491 = true
   · subst c29
     rw [if_pos rfl] at H
     obtain rfl := oI_ H
     go_enter Tryz.func68, Tryz.ntmps68
     go_wp2_with (first | ((with_reducible refine gate_dst (N := 3) rfl ?_); refine box_event ?hg (N := 3) ?hd (cs := #[.int .i64 a0_0, .int .i64 a0_1, .int .i64 a0_2, .int .i64 a0_3]) (t := 30) ?hr ?_; (case hd => rfl); (case hg => rfl); (case hr => first | (go_simp; done) | (go_simp; rfl)); intro gb487 hg w30 hbox hb; have n0_ := aM_ (bT_ (qB HB) hb); have n1_ := aM_ (hbox); have n2_ := aM_ ((by rw [hg]; exact (bZ_ (qB HB)) : w.heap.size ≤ gb487)); have n3_ := aM_ ((by rw [hg]; exact (bZ_ (qB HB)) : w.heap.size ≤ gb487)); clear HB; have HB := n0_; have BK487 := n1_; have GW487 := n2_; have GE487 := n3_; clear n0_ n1_ n2_ n3_ hb hbox hg; (obtain ⟨hcz31_0, hcz31_1, hcz31_2, hcz31_3⟩ := cells4 BK487.out); (obtain ⟨hfz31_0, hfz31_1, hfz31_2, hfz31_3⟩ := frozen4 BK487.out)) | ((with_reducible refine gc_ 112 ?_); refine gL_ (some 44) Tryz.func112 #[.int .i64 a0_1] ?_; (with_reducible refine (impl_isTwo.calls a0_1 true _ A28.out).mono ?_); rintro e w' ⟨rfl, ⟨nd, rfl⟩⟩; refine ⟨_, rfl, ?_⟩))
     go_ret
     exact ⟨qE, qB HB⟩
   replace c29 := Bool.eq_false_iff.mpr c29
   subst c29
   rw [if_neg (show ¬ (false = true) by decide)] at H
   obtain rfl := oI_ H
   go_enter Tryz.func68, Tryz.ntmps68
   go_wp2_with (first | ((with_reducible refine gate_dst (N := 3) rfl ?_); refine box_event ?hg (N := 3) ?hd (cs := #[.int .i64 a0_0, .int .i64 a0_1, .int .i64 a0_2, .int .i64 a0_3]) (t := 30) ?hr ?_; (case hd => rfl); (case hg => rfl); (case hr => first | (go_simp; done) | (go_simp; rfl)); intro gb487 hg w32 hbox hb; have n0_ := aM_ (bT_ (qB HB) hb); have n1_ := aM_ (hbox); have n2_ := aM_ ((by rw [hg]; exact (bZ_ (qB HB)) : w.heap.size ≤ gb487)); have n3_ := aM_ ((by rw [hg]; exact (bZ_ (qB HB)) : w.heap.size ≤ gb487)); clear HB; have HB := n0_; have BK487 := n1_; have GW487 := n2_; have GE487 := n3_; clear n0_ n1_ n2_ n3_ hb hbox hg; (obtain ⟨hcz33_0, hcz33_1, hcz33_2, hcz33_3⟩ := cells4 BK487.out); (obtain ⟨hfz33_0, hfz33_1, hfz33_2, hfz33_3⟩ := frozen4 BK487.out)) | ((with_reducible refine gc_ 112 ?_); refine gL_ (some 44) Tryz.func112 #[.int .i64 a0_1] ?_; (with_reducible refine (impl_isTwo.calls a0_1 false _ A28.out).mono ?_); rintro e w' ⟨rfl, ⟨nd, rfl⟩⟩; refine ⟨_, rfl, ?_⟩))
   go_ret
   exact ⟨qE, qB HB⟩
 rw [if_neg c27] at H
 have c27b0 : (a0_0 == 4) = false := beq_eq_false_iff_ne.mpr c27
 have c27b1 : (a0_0 != 4) = true := bne_iff_ne.mpr c27
 by_cases c34 : a0_0 = 5
 · rw [if_pos c34] at H
   have c34b0 : (a0_0 == 5) = true := beq_iff_eq.mpr c34
   have c34b1 : (a0_0 != 5) = false := bne_eq_false_iff_eq.mpr c34
   clear c34
   obtain rfl := oI_ H
   go_enter Tryz.func68, Tryz.ntmps68
   go_wp2_with (first | ((with_reducible refine gate_dst (N := 3) rfl ?_); refine box_event ?hg (N := 3) ?hd (cs := #[.int .i64 a0_0, .int .i64 a0_1, .int .i64 a0_2, .int .i64 a0_3]) (t := 30) ?hr ?_; (case hd => rfl); (case hg => rfl); (case hr => first | (go_simp; done) | (go_simp; rfl)); intro gb487 hg w35 hbox hb; have n0_ := aM_ (bT_ (qB HB) hb); have n1_ := aM_ (hbox); have n2_ := aM_ ((by rw [hg]; exact (bZ_ (qB HB)) : w.heap.size ≤ gb487)); have n3_ := aM_ ((by rw [hg]; exact (bZ_ (qB HB)) : w.heap.size ≤ gb487)); clear HB; have HB := n0_; have BK487 := n1_; have GW487 := n2_; have GE487 := n3_; clear n0_ n1_ n2_ n3_ hb hbox hg; (obtain ⟨hcz36_0, hcz36_1, hcz36_2, hcz36_3⟩ := cells4 BK487.out); (obtain ⟨hfz36_0, hfz36_1, hfz36_2, hfz36_3⟩ := frozen4 BK487.out)))
   go_ret
   exact ⟨qE, qB HB⟩
 rw [if_neg c34] at H
 have c34b0 : (a0_0 == 5) = false := beq_eq_false_iff_ne.mpr c34
 have c34b1 : (a0_0 != 5) = true := bne_iff_ne.mpr c34
 have HC37 := aM_ H
 clear H
 go_enter Tryz.func68, Tryz.ntmps68
 go_upto_if 56 with (first | ((with_reducible refine gate_dst (N := 3) rfl ?_); refine box_event ?hg (N := 3) ?hd (cs := #[.int .i64 a0_0, .int .i64 a0_1, .int .i64 a0_2, .int .i64 a0_3]) (t := 30) ?hr ?_; (case hd => rfl); (case hg => rfl); (case hr => first | (go_simp; done) | (go_simp; rfl)); intro gb487 hg w38 hbox hb; have n0_ := aM_ (bT_ (qB HB) hb); have n1_ := aM_ (hbox); have n2_ := aM_ ((by rw [hg]; exact (bZ_ (qB HB)) : w.heap.size ≤ gb487)); have n3_ := aM_ ((by rw [hg]; exact (bZ_ (qB HB)) : w.heap.size ≤ gb487)); clear HB; have HB := n0_; have BK487 := n1_; have GW487 := n2_; have GE487 := n3_; clear n0_ n1_ n2_ n3_ hb hbox hg; (obtain ⟨hcz39_0, hcz39_1, hcz39_2, hcz39_3⟩ := cells4 BK487.out); (obtain ⟨hfz39_0, hfz39_1, hfz39_2, hfz39_3⟩ := frozen4 BK487.out)))
 (try simp only [Act.put, sA_, sB_, sC_])
 go_cut [56] (fun v56 wc => ∃ (kq : Nat) (x56_36 : Bool), v56 = .bool x56_36 ∧ Aside0 (impl_Ins_ok.j0 kq a1 a2 a0_0 x56_36 a0_0 a0_1 a0_2 a0_3 = some r) ∧ Aside0 (kq ≤ k) ∧ Aside0 (wc.heap[gb487]? = some (.cells #[.int .i64 a0_0, .int .i64 a0_1, .int .i64 a0_2, .int .i64 a0_3] 30 (0, 0))) ∧ Aside0 (Below w.heap.size w wc))
 case first =>
  have H := HC37.out
  clear HC37
  by_cases c40 : a0_0 = 6
  rotate_left
  · rw [if_neg c40] at H
    have c40b0 : (a0_0 == 6) = false := beq_eq_false_iff_ne.mpr c40
    have c40b1 : (a0_0 != 6) = true := bne_iff_ne.mpr c40
    (first | rw [c40b0] | (simp only [i64_w, i32_w]; rw [c40b0]) | skip)
    have H' := aM_ H
    clear H
    go_wp2
    go_meet
    case rel => exact ⟨_, ((a0_0 == 7)), qF, H', ⟨by first | omega | exact Nat.le_refl _⟩, ⟨by (with_reducible repeat (first | refine kN_ ?_ _ | refine kD_ ?_ | refine kA_ ?_ _)); exact BK487.out⟩, ⟨qB HB⟩⟩
  rw [if_pos c40] at H
  have c40b0 : (a0_0 == 6) = true := beq_iff_eq.mpr c40
  have c40b1 : (a0_0 != 6) = false := bne_eq_false_iff_eq.mpr c40
  clear c40
  (first | rw [c40b0] | (simp only [i64_w, i32_w]; rw [c40b0]) | skip)
  have H' := aM_ H
  clear H
  go_wp2
  go_meet
  case rel => exact ⟨_, ((a0_0 == 6)), qF, H', ⟨by first | omega | exact Nat.le_refl _⟩, ⟨by (with_reducible repeat (first | refine kN_ ?_ _ | refine kD_ ?_ | refine kA_ ?_ _)); exact BK487.out⟩, ⟨qB HB⟩⟩
 case rest =>
  clear HC37
  try clear c1
  try clear c2
  try clear p2
  try clear c3
  try clear c4
  try clear c4b0
  try clear c4b1
  try clear c6
  try clear c11
  try clear c11b0
  try clear c11b1
  try clear c12
  try clear c12b0
  try clear c12b1
  try clear c19
  try clear c19b0
  try clear c19b1
  try clear c20
  try clear c20b0
  try clear c20b1
  try clear c27
  try clear c27b0
  try clear c27b1
  try clear c29
  try clear c34
  try clear c34b0
  try clear c34b1
  try clear c40
  try clear c40b0
  try clear c40b1
  try clear hcz10_0
  try clear hcz10_1
  try clear hcz10_2
  try clear hcz10_3
  try clear hcz15_0
  try clear hcz15_1
  try clear hcz15_2
  try clear hcz15_3
  try clear hcz18_0
  try clear hcz18_1
  try clear hcz18_2
  try clear hcz18_3
  try clear hcz23_0
  try clear hcz23_1
  try clear hcz23_2
  try clear hcz23_3
  try clear hcz26_0
  try clear hcz26_1
  try clear hcz26_2
  try clear hcz26_3
  try clear hcz31_0
  try clear hcz31_1
  try clear hcz31_2
  try clear hcz31_3
  try clear hcz33_0
  try clear hcz33_1
  try clear hcz33_2
  try clear hcz33_3
  try clear hcz36_0
  try clear hcz36_1
  try clear hcz36_2
  try clear hcz36_3
  try clear hcz39_0
  try clear hcz39_1
  try clear hcz39_2
  try clear hcz39_3
  try clear hcz8_0
  try clear hcz8_1
  try clear hcz8_2
  try clear hcz8_3
  try clear hfz10_0
  try clear hfz10_1
  try clear hfz10_2
  try clear hfz10_3
  try clear hfz15_0
  try clear hfz15_1
  try clear hfz15_2
  try clear hfz15_3
  try clear hfz18_0
  try clear hfz18_1
  try clear hfz18_2
  try clear hfz18_3
  try clear hfz23_0
  try clear hfz23_1
  try clear hfz23_2
  try clear hfz23_3
  try clear hfz26_0
  try clear hfz26_1
  try clear hfz26_2
  try clear hfz26_3
  try clear hfz31_0
  try clear hfz31_1
  try clear hfz31_2
  try clear hfz31_3
  try clear hfz33_0
  try clear hfz33_1
  try clear hfz33_2
  try clear hfz33_3
  try clear hfz36_0
  try clear hfz36_1
  try clear hfz36_2
  try clear hfz36_3
  try clear hfz39_0
  try clear hfz39_1
  try clear hfz39_2
  try clear hfz39_3
  try clear hfz8_0
  try clear hfz8_1
  try clear hfz8_2
  try clear hfz8_3
  obtain ⟨kq, x56_36, rfl, HA, HJ36, BK487, HB⟩ := hcut
  cases kq with
  | zero => exact absurd HA.out (by simp [impl_Ins_ok.j0])
  | succ kj36 =>
   have H := HA.out
   clear HA
   simp only [impl_Ins_ok.j0] at H
   by_cases c41 : x56_36 = true
   · subst c41
     rw [if_pos rfl] at H
     by_cases c42 : a0_1 > a1
     rotate_left
     · rw [if_neg c42] at H
       have c42b0 : decide (a1 < a0_1) = false := dF_ c42
       clear c42
       obtain rfl := oI_ H
       (obtain ⟨hcz46_0, hcz46_1, hcz46_2, hcz46_3⟩ := cells4 BK487.out)
       (obtain ⟨hfz46_0, hfz46_1, hfz46_2, hfz46_3⟩ := frozen4 BK487.out)
       go_wp2
       go_ret
       exact ⟨qE, qB HB⟩
     rw [if_pos c42] at H
     have c42b0 : decide (a1 < a0_1) = true := dT_ c42
     clear c42
     by_cases c43 : a0_1 ≤ a2
     · rw [if_pos c43] at H
       have c43b0 : decide (a0_1 ≤ a2) = true := dT_ c43
       clear c43
       obtain rfl := oI_ H
       (obtain ⟨hcz44_0, hcz44_1, hcz44_2, hcz44_3⟩ := cells4 BK487.out)
       (obtain ⟨hfz44_0, hfz44_1, hfz44_2, hfz44_3⟩ := frozen4 BK487.out)
       go_wp2
       go_ret
       exact ⟨qE, qB HB⟩
     rw [if_neg c43] at H
     have c43b0 : decide (a0_1 ≤ a2) = false := dF_ c43
     clear c43
     obtain rfl := oI_ H
     (obtain ⟨hcz45_0, hcz45_1, hcz45_2, hcz45_3⟩ := cells4 BK487.out)
     (obtain ⟨hfz45_0, hfz45_1, hfz45_2, hfz45_3⟩ := frozen4 BK487.out)
     go_wp2
     go_ret
     exact ⟨qE, qB HB⟩
   replace c41 := Bool.eq_false_iff.mpr c41
   subst c41
   rw [if_neg (show ¬ (false = true) by decide)] at H
   by_cases c47 : a0_0 = 8
   rotate_left
   · rw [if_neg c47] at H
     have c47b0 : (a0_0 == 8) = false := beq_eq_false_iff_ne.mpr c47
     have c47b1 : (a0_0 != 8) = true := bne_iff_ne.mpr c47
     obtain rfl := oI_ H
     go_wp2
     go_ret
     exact ⟨qE, qB HB⟩
   rw [if_pos c47] at H
   have c47b0 : (a0_0 == 8) = true := beq_iff_eq.mpr c47
   have c47b1 : (a0_0 != 8) = false := bne_eq_false_iff_eq.mpr c47
   clear c47
   by_cases c48 : a0_1 ≥ 0
   rotate_left
   · rw [if_neg c48] at H
     have c48b0 : decide (0 ≤ a0_1) = false := dF_ c48
     clear c48
     obtain rfl := oI_ H
     (obtain ⟨hcz52_0, hcz52_1, hcz52_2, hcz52_3⟩ := cells4 BK487.out)
     (obtain ⟨hfz52_0, hfz52_1, hfz52_2, hfz52_3⟩ := frozen4 BK487.out)
     go_wp2
     go_ret
     exact ⟨qE, qB HB⟩
   rw [if_pos c48] at H
   have c48b0 : decide (0 ≤ a0_1) = true := dT_ c48
   clear c48
   by_cases c49 : a0_1 < a1
   · rw [if_pos c49] at H
     have c49b0 : decide (a0_1 < a1) = true := dT_ c49
     clear c49
     obtain rfl := oI_ H
     (obtain ⟨hcz50_0, hcz50_1, hcz50_2, hcz50_3⟩ := cells4 BK487.out)
     (obtain ⟨hfz50_0, hfz50_1, hfz50_2, hfz50_3⟩ := frozen4 BK487.out)
     go_wp2
     go_ret
     exact ⟨qE, qB HB⟩
   rw [if_neg c49] at H
   have c49b0 : decide (a0_1 < a1) = false := dF_ c49
   clear c49
   obtain rfl := oI_ H
   (obtain ⟨hcz51_0, hcz51_1, hcz51_2, hcz51_3⟩ := cells4 BK487.out)
   (obtain ⟨hfz51_0, hfz51_1, hfz51_2, hfz51_3⟩ := frozen4 BK487.out)
   go_wp2
   go_ret
   exact ⟨qE, qB HB⟩
end Go.Proofs.YtjamfddhcigchaaGreatDoor.HFnCodeSame
