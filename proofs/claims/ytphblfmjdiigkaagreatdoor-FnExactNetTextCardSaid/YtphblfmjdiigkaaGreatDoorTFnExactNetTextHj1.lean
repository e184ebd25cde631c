/- impl.readingOf, the methods of the three readings and impl.Src.ok: what each answers, for every argument. No condition. -/
import Derived.Test.YtphblfmjdiigkaaGreatDoorTFnExactNetTextHFnExactNetTextx6
import Derived.Test.YtphblfmjdiigkaaGreatDoorTFnExactNetTextHFnExactNetTextx11
import Derived.Test.YtphblfmjdiigkaaGreatDoorTFnExactNetTextHb
import Derived.WalkLawsBesides
import Derived.WalkSpells
import Derived.Deep.RegionHeld
import Derived.Deep.DeepCutAuto
import Derived.Deep.CutBlock
namespace Go.Proofs.YtphblfmjdiigkaaGreatDoor.Hj1
open Go.RowKit Go.Proofs.YtphblfmjdiigkaaGreatDoor.Hb Go.Proofs.YtphblfmjdiigkaaGreatDoor.HFnExactNetText Go.Proofs.YtphblfmjdiigkaaGreatDoorW.PrintWords Go.Proofs.YtphblfmjdiigkaaGreatDoorW.PrintLast Go.Proofs.YtphblfmjdiigkaaGreatDoorW.PrintMore
set_option linter.unusedVariables false
set_option linter.unusedSimpArgs false
attribute [local go_sem] max2_int min2_int max_two min_two
attribute [local go_sem high] eqA39
attribute [local go_sem high] eqA41
def aOk (k i : Int) : Bool := decide (1 ≤ k) && (decide (k ≤ 3) && (decide (0 ≤ i) && decide (i < 6)))
theorem aOk_some (k i : Int) : impl_AddrOk.f k i = some (aOk k i) := by
  unfold impl_AddrOk.f aOk
  by_cases h1 : k ≥ 1
  · rw [if_pos h1]
    by_cases h2 : k ≤ 3
    · rw [if_pos h2]
      by_cases h3 : i ≥ 0
      · rw [if_pos h3]; simp [h2, (by omega : 1 ≤ k), (by omega : 0 ≤ i)]
      · rw [if_neg h3]; simp [(by omega : ¬ 0 ≤ i)]
    · rw [if_neg h2]; simp [h2]
  · rw [if_neg h1]; simp [(by omega : ¬ 1 ≤ k)]
theorem aOkC (k i : Int) (W : World) : Calls Tryz.prog 59 #[.agg #[.int .i64 k, .int .i64 i]] W fun e w' => e = .returned (.bool (aOk k i)) ∧ Below W.heap.size W w' := impl_AddrOk.calls k i _ W (aOk_some k i)
theorem al (w : World) (o : Obj) : Below w.heap.size w (w.alloc o) := (Below.refl _ _).alloc (Nat.le_refl _) _
theorem al2 (w : World) (o o2 : Obj) : Below w.heap.size w ((w.alloc o).alloc o2) := (al w o).trans ((al _ o2).mono (al w o).size)
set_option maxRecDepth 100000 in
theorem reading1 (t c d : Int) (b : Bool) (w : World) : Calls Tryz.prog 55 #[.agg #[.int .i64 1, .int .i64 t, .int .i64 c, .int .i64 d, .bool b]] w fun e w' => e = .returned (.iface 132 (.agg #[.int .i64 c, .int .i64 d])) ∧ Below w.heap.size w w' := by
  have hu46 := Tryz.underlying41
  have hu44 := Tryz.underlying39
  go_enter Tryz.func55, Tryz.ntmps55
  go_wp2
  go_ret
  exact ⟨rfl, al w _⟩
set_option maxRecDepth 100000 in
theorem reading2 (t c d : Int) (b : Bool) (w : World) : Calls Tryz.prog 55 #[.agg #[.int .i64 2, .int .i64 t, .int .i64 c, .int .i64 d, .bool b]] w fun e w' => e = .returned (.iface 134 (.agg #[.int .i64 t])) ∧ Below w.heap.size w w' := by
  have hu46 := Tryz.underlying41
  have hu44 := Tryz.underlying39
  go_enter Tryz.func55, Tryz.ntmps55
  go_wp2
  go_ret
  exact ⟨rfl, al w _⟩
set_option maxRecDepth 100000 in
theorem reading3 (t c d : Int) (b : Bool) (w : World) : Calls Tryz.prog 55 #[.agg #[.int .i64 3, .int .i64 t, .int .i64 c, .int .i64 d, .bool b]] w fun e w' => e = .returned (.iface 135 (.agg #[.int .i64 t])) ∧ Below w.heap.size w w' := by
  have hu46 := Tryz.underlying41
  have hu44 := Tryz.underlying39
  go_enter Tryz.func55, Tryz.ntmps55
  go_wp2
  go_ret
  exact ⟨rfl, al w _⟩
set_option maxRecDepth 100000 in
theorem reading0 (a t c d : Int) (b : Bool) (w : World) (h1 : (a == 1) = false) (h2 : (a == 2) = false) (h3 : (a == 3) = false) : Calls Tryz.prog 55 #[.agg #[.int .i64 a, .int .i64 t, .int .i64 c, .int .i64 d, .bool b]] w fun e w' => e = .returned .nilIface ∧ Below w.heap.size w w' := by
  have hu46 := Tryz.underlying41
  have hu44 := Tryz.underlying39
  go_enter Tryz.func55, Tryz.ntmps55
  go_wp2
  go_ret
  exact ⟨rfl, al w _⟩
set_option maxRecDepth 100000 in
theorem src1 (c d : Int) (w : World) : Calls Tryz.prog 142 #[.agg #[.int .i64 c, .int .i64 d]] w fun e w' => e = .returned (.agg #[.int .i64 1, .int .i64 0, .int .i64 c, .int .i64 d, .bool false]) ∧ Below w.heap.size w w' := by
  have hu46 := Tryz.underlying41
  have hu44 := Tryz.underlying39
  have hu124 := Tryz.underlying132
  go_enter Tryz.func142, Tryz.ntmps142
  go_wp2
  refine bodyPost_ret (v := .agg #[.int .i64 1, .int .i64 0, .int .i64 c, .int .i64 d, .bool false]) (by simp [results, Tryz.results142, go_sem] <;> rfl) rfl ⟨rfl, ?_⟩
  repeat (first | exact al2 w _ _ | refine below_set ?_ (Nat.le_succ _))
set_option maxRecDepth 100000 in
theorem src2 (t : Int) (w : World) : Calls Tryz.prog 146 #[.agg #[.int .i64 t]] w fun e w' => e = .returned (.agg #[.int .i64 2, .int .i64 t, .int .i64 0, .int .i64 0, .bool false]) ∧ Below w.heap.size w w' := by
  have hu46 := Tryz.underlying41
  have hu44 := Tryz.underlying39
  have hu126 := Tryz.underlying134
  go_enter Tryz.func146, Tryz.ntmps146
  go_wp2
  refine bodyPost_ret (v := .agg #[.int .i64 2, .int .i64 t, .int .i64 0, .int .i64 0, .bool false]) (by simp [results, Tryz.results146, go_sem] <;> rfl) rfl ⟨rfl, ?_⟩
  repeat (first | exact al2 w _ _ | refine below_set ?_ (Nat.le_succ _))
set_option maxRecDepth 100000 in
theorem src3 (t : Int) (w : World) : Calls Tryz.prog 150 #[.agg #[.int .i64 t]] w fun e w' => e = .returned (.agg #[.int .i64 3, .int .i64 t, .int .i64 0, .int .i64 0, .bool false]) ∧ Below w.heap.size w w' := by
  have hu46 := Tryz.underlying41
  have hu44 := Tryz.underlying39
  have hu127 := Tryz.underlying135
  go_enter Tryz.func150, Tryz.ntmps150
  go_wp2
  refine bodyPost_ret (v := .agg #[.int .i64 3, .int .i64 t, .int .i64 0, .int .i64 0, .bool false]) (by simp [results, Tryz.results150, go_sem] <;> rfl) rfl ⟨rfl, ?_⟩
  repeat (first | exact al2 w _ _ | refine below_set ?_ (Nat.le_succ _))
set_option maxRecDepth 100000 in
theorem ok1 (c d n : Int) (w : World) : Calls Tryz.prog 140 #[.agg #[.int .i64 c, .int .i64 d], .int .i64 n] w fun e w' => e = .returned (.bool (aOk c d)) ∧ Below w.heap.size w w' := by
  have hu44 := Tryz.underlying39
  have hu124 := Tryz.underlying132
  have h := aOkC c d
  generalize aOk c d = r at h ⊢
  go_enter Tryz.func140, Tryz.ntmps140
  go_wp2_with fail
  refine (h _).mono ?_
  rintro e w2 ⟨rfl, hb⟩
  clear h
  go_wp2
  go_ret
  exact ⟨rfl, (al w (.cells #[.int .i64 c, .int .i64 d] 132)).trans (hb.mono (al w _).size)⟩
def inB (t n : Int) : Bool := decide (0 ≤ t) && decide (t < n)
set_option maxRecDepth 100000 in
theorem ok2 (t n : Int) (w : World) : Calls Tryz.prog 144 #[.agg #[.int .i64 t], .int .i64 n] w fun e w' => e = .returned (.bool (inB t n)) ∧ Below w.heap.size w w' := by
  have hu126 := Tryz.underlying134
  by_cases h : 0 ≤ t
  · have e : inB t n = decide (t < n) := by unfold inB; rw [decide_eq_true h, Bool.true_and]
    rw [e]
    have d1 : decide (t ≥ 0) = true := decide_eq_true h
    have d2 : decide (0 ≤ t) = true := decide_eq_true h
    clear e h
    go_enter Tryz.func144, Tryz.ntmps144
    go_wp2
    go_ret
    exact ⟨rfl, al w _⟩
  · have e : inB t n = false := by unfold inB; rw [decide_eq_false h, Bool.false_and]
    rw [e]
    have d1 : decide (t ≥ 0) = false := decide_eq_false h
    have d2 : decide (0 ≤ t) = false := decide_eq_false h
    clear e h
    go_enter Tryz.func144, Tryz.ntmps144
    go_wp2
    go_ret
    exact ⟨rfl, al w _⟩
set_option maxRecDepth 100000 in
theorem ok3 (t n : Int) (w : World) : Calls Tryz.prog 148 #[.agg #[.int .i64 t], .int .i64 n] w fun e w' => e = .returned (.bool (inB t n)) ∧ Below w.heap.size w w' := by
  have hu127 := Tryz.underlying135
  by_cases h : 0 ≤ t
  · have e : inB t n = decide (t < n) := by unfold inB; rw [decide_eq_true h, Bool.true_and]
    rw [e]
    have d1 : decide (t ≥ 0) = true := decide_eq_true h
    have d2 : decide (0 ≤ t) = true := decide_eq_true h
    clear e h
    go_enter Tryz.func148, Tryz.ntmps148
    go_wp2
    go_ret
    exact ⟨rfl, al w _⟩
  · have e : inB t n = false := by unfold inB; rw [decide_eq_false h, Bool.false_and]
    rw [e]
    have d1 : decide (t ≥ 0) = false := decide_eq_false h
    have d2 : decide (0 ≤ t) = false := decide_eq_false h
    clear e h
    go_enter Tryz.func148, Tryz.ntmps148
    go_wp2
    go_ret
    exact ⟨rfl, al w _⟩
end Go.Proofs.YtphblfmjdiigkaaGreatDoor.Hj1
