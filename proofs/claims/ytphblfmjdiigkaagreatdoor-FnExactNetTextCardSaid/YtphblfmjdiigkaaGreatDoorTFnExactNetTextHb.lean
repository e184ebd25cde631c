/- The walks of impl.workings, sized, isTime, BlockOk and BlockStep: what each answers, for every argument. No condition. -/
import Derived.Test.YtphblfmjdiigkaaGreatDoorProg
import Derived.Test.YtphblfmjdiigkaaGreatDoorTFnExactNetTextWWords
import Derived.Test.YtphblfmjdiigkaaGreatDoorTFnExactNetTextWLast
import Derived.Test.YtphblfmjdiigkaaGreatDoorTFnExactNetTextWMore
import Derived.WalkKit
import Derived.KernelRfl
import Derived.WalkLawsBesides
import Derived.WalkSpells
import Derived.Below
import Derived.Lib.Hide
import Derived.MapKept
import Derived.ChangeMaps4
namespace Go.Proofs.YtphblfmjdiigkaaGreatDoor.Hb
open Go.RowKit Go.Proofs.YtphblfmjdiigkaaGreatDoorW.PrintWords Go.Proofs.YtphblfmjdiigkaaGreatDoorW.PrintLast Go.Proofs.YtphblfmjdiigkaaGreatDoorW.PrintMore
attribute [local go_sem] max2_int min2_int
set_option linter.unusedVariables false
set_option linter.unusedSimpArgs false
theorem push_set {α : Type} (a : Array α) (x y : α) : (a.push x).setIfInBounds a.size y = a.push y := by
  apply Array.ext_getElem?
  intro i
  simp [Array.getElem?_setIfInBounds, Array.getElem?_push]
  by_cases h : i = a.size
  · subst h; simp
  · simp [h, Ne.symm h]
theorem ins_new {P : Program} (w : World) {t k e : TypeId} {kk : IntKind} (ht : P.underlying t = some (.map k e)) (hk : P.underlying k = some (.int kk)) (es : Array MapEntry) (clock : Nat) (n : Int) (v : Value)
    (hf : Instr.findNow (.int kk) (.int kk n) es.toList 0 = some none) :
    (Instr.mapUpdate t (.map (some w.heap.size)) (.int kk n) v).run P (w.alloc (.map es clock)) = .ok () (w.alloc (.map (es.push ⟨.int kk n, v, clock⟩) (clock + 1))) := by
  have hb : (w.alloc (.map es clock)).heap[w.heap.size]? = some (.map es clock) := by show (w.heap.push _)[w.heap.size]? = _; simp
  have hc := MapKept.run_checkKey (w := w.alloc (.map es clock)) (k := .int kk n) hk (by simp [MapKept.IsKey]) false 9999
  simp [Instr.mapUpdate, run_underlying ht, MapKept.run_getObj_map hb, hc, Instr.findKey, run_underlying hk, hf, MapKept.run_setObj_map _ hb, Result.andThen]
  show ({ w with heap := (w.heap.push (Obj.map es clock)).setIfInBounds w.heap.size _ } : World) = { w with heap := w.heap.push _ }
  rw [push_set]
theorem look_hit {P : Program} (w : World) {t k e : TypeId} {kk : IntKind} (ht : P.underlying t = some (.map k e)) (hk : P.underlying k = some (.int kk)) {b : Nat} {es : Array MapEntry} {clock : Nat} (hb : w.heap[b]? = some (.map es clock)) (n : Int) {i : Nat} {v : Value} (c : Bool)
    (hf : Instr.findNow (.int kk) (.int kk n) es.toList 0 = some (some (i, v))) :
    (Instr.lookup t (.map (some b)) (.int kk n) c).run P w = .ok (if c then .tuple #[v, .bool true] else v) w := by
  have hc := MapKept.run_checkKey (w := w) (k := .int kk n) hk (by simp [MapKept.IsKey]) es.isEmpty 9999
  simp [Instr.lookup, run_underlying ht, MapKept.run_getObj_map hb, hc, Instr.findKey, run_underlying hk, hf, Result.andThen]
theorem look_miss {P : Program} (w : World) {t k e : TypeId} {kk : IntKind} (ht : P.underlying t = some (.map k e)) (hk : P.underlying k = some (.int kk)) {b : Nat} {es : Array MapEntry} {clock : Nat} (hb : w.heap[b]? = some (.map es clock)) (n : Int) {z : Value} (hz : (zeroValue e).run P w = .ok z w)
    (hf : Instr.findNow (.int kk) (.int kk n) es.toList 0 = some none) :
    (Instr.lookup t (.map (some b)) (.int kk n) true).run P w = .ok (.tuple #[z, .bool false]) w := by
  have hc := MapKept.run_checkKey (w := w) (k := .int kk n) hk (by simp [MapKept.IsKey]) es.isEmpty 9999
  simp [Instr.lookup, run_underlying ht, MapKept.run_getObj_map hb, hc, Instr.findKey, run_underlying hk, hf, hz, Result.andThen]
theorem heap_alloc_at (w : World) (o : Obj) : (w.alloc o).heap[w.heap.size]? = some o := by show (w.heap.push _)[w.heap.size]? = _; simp
def wks : Array MapEntry := #[⟨.int .i64 1, .iface 94 (.agg #[]), 0⟩, ⟨.int .i64 2, .iface 95 (.agg #[]), 1⟩, ⟨.int .i64 3, .iface 96 (.agg #[]), 2⟩, ⟨.int .i64 4, .iface 97 (.agg #[]), 3⟩, ⟨.int .i64 5, .iface 98 (.agg #[]), 4⟩]
theorem w_workings (w : World) : Calls Tryz.prog 26 #[] w fun e w' => e = .returned (.map (some w.heap.size)) ∧ w.alloc (.map wks 5) = w' := by
  have hmm : (Instr.makeMap 58 none).run Tryz.prog w = .ok (.map (some w.heap.size)) (w.alloc (.map #[] 0)) := rfl
  have h1 := ins_new w Tryz.underlying58 Tryz.underlying3 #[] 0 1 (.iface 94 (.agg #[])) rfl
  have h2 := ins_new w Tryz.underlying58 Tryz.underlying3 #[⟨.int .i64 1, .iface 94 (.agg #[]), 0⟩] 1 2 (.iface 95 (.agg #[])) rfl
  have h3 := ins_new w Tryz.underlying58 Tryz.underlying3 #[⟨.int .i64 1, .iface 94 (.agg #[]), 0⟩, ⟨.int .i64 2, .iface 95 (.agg #[]), 1⟩] 2 3 (.iface 96 (.agg #[])) rfl
  have h4 := ins_new w Tryz.underlying58 Tryz.underlying3 #[⟨.int .i64 1, .iface 94 (.agg #[]), 0⟩, ⟨.int .i64 2, .iface 95 (.agg #[]), 1⟩, ⟨.int .i64 3, .iface 96 (.agg #[]), 2⟩] 3 4 (.iface 97 (.agg #[])) rfl
  have h5 := ins_new w Tryz.underlying58 Tryz.underlying3 #[⟨.int .i64 1, .iface 94 (.agg #[]), 0⟩, ⟨.int .i64 2, .iface 95 (.agg #[]), 1⟩, ⟨.int .i64 3, .iface 96 (.agg #[]), 2⟩, ⟨.int .i64 4, .iface 97 (.agg #[]), 3⟩] 4 5 (.iface 98 (.agg #[])) rfl
  simp at h1 h2 h3 h4 h5
  go_enter Tryz.func26, Tryz.ntmps26
  go_wp2
  go_ret
  exact ⟨rfl, rfl⟩
def sizedB (k n : Int) : Bool := (decide (1 ≤ k) && decide (k ≤ 3) && decide (0 ≤ n) && decide (n ≤ 1000)) || (decide (4 ≤ k) && decide (k ≤ 5) && decide (n = 0))
theorem look_wk (k : Int) (i : Nat) (T : TypeId) (c : Bool) (hf : Instr.findNow (.int .i64) (.int .i64 k) wks.toList 0 = some (some (i, .iface T (.agg #[])))) (w : World) :
    (Instr.lookup 58 (.map (some w.heap.size)) (.int .i64 k) c).run Tryz.prog (w.alloc (.map wks 5)) = .ok (if c then .tuple #[.iface T (.agg #[]), .bool true] else .iface T (.agg #[])) (w.alloc (.map wks 5)) :=
  look_hit _ Tryz.underlying58 Tryz.underlying3 (heap_alloc_at w _) k c hf
theorem m_counts1 (w : World) : (method 297 94 (.agg #[]) "loop.example/stopgate/impl.counts").run Tryz.prog w = .ok (124, .agg #[]) w := by kernel_rfl
theorem m_counts2 (w : World) : (method 297 95 (.agg #[]) "loop.example/stopgate/impl.counts").run Tryz.prog w = .ok (127, .agg #[]) w := by kernel_rfl
theorem m_counts3 (w : World) : (method 297 96 (.agg #[]) "loop.example/stopgate/impl.counts").run Tryz.prog w = .ok (130, .agg #[]) w := by kernel_rfl
theorem m_counts4 (w : World) : (method 297 97 (.agg #[]) "loop.example/stopgate/impl.counts").run Tryz.prog w = .ok (133, .agg #[]) w := by kernel_rfl
theorem m_counts5 (w : World) : (method 297 98 (.agg #[]) "loop.example/stopgate/impl.counts").run Tryz.prog w = .ok (136, .agg #[]) w := by kernel_rfl
set_option maxRecDepth 100000 in
theorem sized1_n0 (n : Int) (w : World) (hn : (n == 0) = true)  : Calls Tryz.prog 78 #[.int .i64 1, .int .i64 n] w fun e w' => e = .returned (.bool true) ∧ Below w.heap.size w w' := by
  have hl := look_wk 1 0 94 true rfl w
  simp only [if_true] at hl
  have hm := m_counts1
  go_enter Tryz.func78, Tryz.ntmps78
  go_wp2_with fail
  refine (w_workings _).mono ?_
  rintro e w' ⟨rfl, rfl⟩
  go_wp2
  go_ret
  exact ⟨rfl, by first | exact (Below.refl _ _).alloc (Nat.le_refl _) _ | exact ((Below.refl _ _).alloc (Nat.le_refl _) _).alloc (by simp) _⟩
set_option maxRecDepth 100000 in
theorem sized1_in (n : Int) (w : World) (h1 : 0 ≤ n) (h2 : n ≤ 1000) (hn : (n == 0) = false) : Calls Tryz.prog 78 #[.int .i64 1, .int .i64 n] w fun e w' => e = .returned (.bool true) ∧ Below w.heap.size w w' := by
  have hl := look_wk 1 0 94 true rfl w
  simp only [if_true] at hl
  have hm := m_counts1
  go_enter Tryz.func78, Tryz.ntmps78
  go_wp2_with fail
  refine (w_workings _).mono ?_
  rintro e w' ⟨rfl, rfl⟩
  go_wp2
  go_ret
  exact ⟨rfl, by first | exact (Below.refl _ _).alloc (Nat.le_refl _) _ | exact ((Below.refl _ _).alloc (Nat.le_refl _) _).alloc (by simp) _⟩
set_option maxRecDepth 100000 in
theorem sized1_lo (n : Int) (w : World) (h1 : n < 0) (hn : (n == 0) = false) : Calls Tryz.prog 78 #[.int .i64 1, .int .i64 n] w fun e w' => e = .returned (.bool false) ∧ Below w.heap.size w w' := by
  have hl := look_wk 1 0 94 true rfl w
  simp only [if_true] at hl
  have hm := m_counts1
  go_enter Tryz.func78, Tryz.ntmps78
  go_wp2_with fail
  refine (w_workings _).mono ?_
  rintro e w' ⟨rfl, rfl⟩
  go_wp2
  go_ret
  exact ⟨rfl, by first | exact (Below.refl _ _).alloc (Nat.le_refl _) _ | exact ((Below.refl _ _).alloc (Nat.le_refl _) _).alloc (by simp) _⟩
set_option maxRecDepth 100000 in
theorem sized1_hi (n : Int) (w : World) (h1 : 1000 < n) (hn : (n == 0) = false) : Calls Tryz.prog 78 #[.int .i64 1, .int .i64 n] w fun e w' => e = .returned (.bool false) ∧ Below w.heap.size w w' := by
  have hd : decide (n ≤ 1000) = false := by simp; omega
  have hl := look_wk 1 0 94 true rfl w
  simp only [if_true] at hl
  have hm := m_counts1
  go_enter Tryz.func78, Tryz.ntmps78
  go_wp2_with fail
  refine (w_workings _).mono ?_
  rintro e w' ⟨rfl, rfl⟩
  go_wp2
  go_ret
  exact ⟨rfl, by first | exact (Below.refl _ _).alloc (Nat.le_refl _) _ | exact ((Below.refl _ _).alloc (Nat.le_refl _) _).alloc (by simp) _⟩
set_option maxRecDepth 100000 in
theorem sized2_n0 (n : Int) (w : World) (hn : (n == 0) = true)  : Calls Tryz.prog 78 #[.int .i64 2, .int .i64 n] w fun e w' => e = .returned (.bool true) ∧ Below w.heap.size w w' := by
  have hl := look_wk 2 1 95 true rfl w
  simp only [if_true] at hl
  have hm := m_counts2
  go_enter Tryz.func78, Tryz.ntmps78
  go_wp2_with fail
  refine (w_workings _).mono ?_
  rintro e w' ⟨rfl, rfl⟩
  go_wp2
  go_ret
  exact ⟨rfl, by first | exact (Below.refl _ _).alloc (Nat.le_refl _) _ | exact ((Below.refl _ _).alloc (Nat.le_refl _) _).alloc (by simp) _⟩
set_option maxRecDepth 100000 in
theorem sized2_in (n : Int) (w : World) (h1 : 0 ≤ n) (h2 : n ≤ 1000) (hn : (n == 0) = false) : Calls Tryz.prog 78 #[.int .i64 2, .int .i64 n] w fun e w' => e = .returned (.bool true) ∧ Below w.heap.size w w' := by
  have hl := look_wk 2 1 95 true rfl w
  simp only [if_true] at hl
  have hm := m_counts2
  go_enter Tryz.func78, Tryz.ntmps78
  go_wp2_with fail
  refine (w_workings _).mono ?_
  rintro e w' ⟨rfl, rfl⟩
  go_wp2
  go_ret
  exact ⟨rfl, by first | exact (Below.refl _ _).alloc (Nat.le_refl _) _ | exact ((Below.refl _ _).alloc (Nat.le_refl _) _).alloc (by simp) _⟩
set_option maxRecDepth 100000 in
theorem sized2_lo (n : Int) (w : World) (h1 : n < 0) (hn : (n == 0) = false) : Calls Tryz.prog 78 #[.int .i64 2, .int .i64 n] w fun e w' => e = .returned (.bool false) ∧ Below w.heap.size w w' := by
  have hl := look_wk 2 1 95 true rfl w
  simp only [if_true] at hl
  have hm := m_counts2
  go_enter Tryz.func78, Tryz.ntmps78
  go_wp2_with fail
  refine (w_workings _).mono ?_
  rintro e w' ⟨rfl, rfl⟩
  go_wp2
  go_ret
  exact ⟨rfl, by first | exact (Below.refl _ _).alloc (Nat.le_refl _) _ | exact ((Below.refl _ _).alloc (Nat.le_refl _) _).alloc (by simp) _⟩
set_option maxRecDepth 100000 in
theorem sized2_hi (n : Int) (w : World) (h1 : 1000 < n) (hn : (n == 0) = false) : Calls Tryz.prog 78 #[.int .i64 2, .int .i64 n] w fun e w' => e = .returned (.bool false) ∧ Below w.heap.size w w' := by
  have hd : decide (n ≤ 1000) = false := by simp; omega
  have hl := look_wk 2 1 95 true rfl w
  simp only [if_true] at hl
  have hm := m_counts2
  go_enter Tryz.func78, Tryz.ntmps78
  go_wp2_with fail
  refine (w_workings _).mono ?_
  rintro e w' ⟨rfl, rfl⟩
  go_wp2
  go_ret
  exact ⟨rfl, by first | exact (Below.refl _ _).alloc (Nat.le_refl _) _ | exact ((Below.refl _ _).alloc (Nat.le_refl _) _).alloc (by simp) _⟩
set_option maxRecDepth 100000 in
theorem sized3_n0 (n : Int) (w : World) (hn : (n == 0) = true)  : Calls Tryz.prog 78 #[.int .i64 3, .int .i64 n] w fun e w' => e = .returned (.bool true) ∧ Below w.heap.size w w' := by
  have hl := look_wk 3 2 96 true rfl w
  simp only [if_true] at hl
  have hm := m_counts3
  go_enter Tryz.func78, Tryz.ntmps78
  go_wp2_with fail
  refine (w_workings _).mono ?_
  rintro e w' ⟨rfl, rfl⟩
  go_wp2
  go_ret
  exact ⟨rfl, by first | exact (Below.refl _ _).alloc (Nat.le_refl _) _ | exact ((Below.refl _ _).alloc (Nat.le_refl _) _).alloc (by simp) _⟩
set_option maxRecDepth 100000 in
theorem sized3_in (n : Int) (w : World) (h1 : 0 ≤ n) (h2 : n ≤ 1000) (hn : (n == 0) = false) : Calls Tryz.prog 78 #[.int .i64 3, .int .i64 n] w fun e w' => e = .returned (.bool true) ∧ Below w.heap.size w w' := by
  have hl := look_wk 3 2 96 true rfl w
  simp only [if_true] at hl
  have hm := m_counts3
  go_enter Tryz.func78, Tryz.ntmps78
  go_wp2_with fail
  refine (w_workings _).mono ?_
  rintro e w' ⟨rfl, rfl⟩
  go_wp2
  go_ret
  exact ⟨rfl, by first | exact (Below.refl _ _).alloc (Nat.le_refl _) _ | exact ((Below.refl _ _).alloc (Nat.le_refl _) _).alloc (by simp) _⟩
set_option maxRecDepth 100000 in
theorem sized3_lo (n : Int) (w : World) (h1 : n < 0) (hn : (n == 0) = false) : Calls Tryz.prog 78 #[.int .i64 3, .int .i64 n] w fun e w' => e = .returned (.bool false) ∧ Below w.heap.size w w' := by
  have hl := look_wk 3 2 96 true rfl w
  simp only [if_true] at hl
  have hm := m_counts3
  go_enter Tryz.func78, Tryz.ntmps78
  go_wp2_with fail
  refine (w_workings _).mono ?_
  rintro e w' ⟨rfl, rfl⟩
  go_wp2
  go_ret
  exact ⟨rfl, by first | exact (Below.refl _ _).alloc (Nat.le_refl _) _ | exact ((Below.refl _ _).alloc (Nat.le_refl _) _).alloc (by simp) _⟩
set_option maxRecDepth 100000 in
theorem sized3_hi (n : Int) (w : World) (h1 : 1000 < n) (hn : (n == 0) = false) : Calls Tryz.prog 78 #[.int .i64 3, .int .i64 n] w fun e w' => e = .returned (.bool false) ∧ Below w.heap.size w w' := by
  have hd : decide (n ≤ 1000) = false := by simp; omega
  have hl := look_wk 3 2 96 true rfl w
  simp only [if_true] at hl
  have hm := m_counts3
  go_enter Tryz.func78, Tryz.ntmps78
  go_wp2_with fail
  refine (w_workings _).mono ?_
  rintro e w' ⟨rfl, rfl⟩
  go_wp2
  go_ret
  exact ⟨rfl, by first | exact (Below.refl _ _).alloc (Nat.le_refl _) _ | exact ((Below.refl _ _).alloc (Nat.le_refl _) _).alloc (by simp) _⟩
set_option maxRecDepth 100000 in
theorem sized4_n0 (n : Int) (w : World) (hn : (n == 0) = true)  : Calls Tryz.prog 78 #[.int .i64 4, .int .i64 n] w fun e w' => e = .returned (.bool true) ∧ Below w.heap.size w w' := by
  have hl := look_wk 4 3 97 true rfl w
  simp only [if_true] at hl
  have hm := m_counts4
  go_enter Tryz.func78, Tryz.ntmps78
  go_wp2_with fail
  refine (w_workings _).mono ?_
  rintro e w' ⟨rfl, rfl⟩
  go_wp2
  go_ret
  exact ⟨rfl, by first | exact (Below.refl _ _).alloc (Nat.le_refl _) _ | exact ((Below.refl _ _).alloc (Nat.le_refl _) _).alloc (by simp) _⟩
set_option maxRecDepth 100000 in
theorem sized4_no (n : Int) (w : World) (hn : (n == 0) = false)  : Calls Tryz.prog 78 #[.int .i64 4, .int .i64 n] w fun e w' => e = .returned (.bool false) ∧ Below w.heap.size w w' := by
  have hl := look_wk 4 3 97 true rfl w
  simp only [if_true] at hl
  have hm := m_counts4
  go_enter Tryz.func78, Tryz.ntmps78
  go_wp2_with fail
  refine (w_workings _).mono ?_
  rintro e w' ⟨rfl, rfl⟩
  go_wp2
  go_ret
  exact ⟨rfl, by first | exact (Below.refl _ _).alloc (Nat.le_refl _) _ | exact ((Below.refl _ _).alloc (Nat.le_refl _) _).alloc (by simp) _⟩
set_option maxRecDepth 100000 in
theorem sized5_n0 (n : Int) (w : World) (hn : (n == 0) = true)  : Calls Tryz.prog 78 #[.int .i64 5, .int .i64 n] w fun e w' => e = .returned (.bool true) ∧ Below w.heap.size w w' := by
  have hl := look_wk 5 4 98 true rfl w
  simp only [if_true] at hl
  have hm := m_counts5
  go_enter Tryz.func78, Tryz.ntmps78
  go_wp2_with fail
  refine (w_workings _).mono ?_
  rintro e w' ⟨rfl, rfl⟩
  go_wp2
  go_ret
  exact ⟨rfl, by first | exact (Below.refl _ _).alloc (Nat.le_refl _) _ | exact ((Below.refl _ _).alloc (Nat.le_refl _) _).alloc (by simp) _⟩
set_option maxRecDepth 100000 in
theorem sized5_no (n : Int) (w : World) (hn : (n == 0) = false)  : Calls Tryz.prog 78 #[.int .i64 5, .int .i64 n] w fun e w' => e = .returned (.bool false) ∧ Below w.heap.size w w' := by
  have hl := look_wk 5 4 98 true rfl w
  simp only [if_true] at hl
  have hm := m_counts5
  go_enter Tryz.func78, Tryz.ntmps78
  go_wp2_with fail
  refine (w_workings _).mono ?_
  rintro e w' ⟨rfl, rfl⟩
  go_wp2
  go_ret
  exact ⟨rfl, by first | exact (Below.refl _ _).alloc (Nat.le_refl _) _ | exact ((Below.refl _ _).alloc (Nat.le_refl _) _).alloc (by simp) _⟩
set_option maxRecDepth 100000 in
theorem sized_no (k n : Int) (w : World) (h : k < 1 ∨ 5 < k) : Calls Tryz.prog 78 #[.int .i64 k, .int .i64 n] w fun e w' => e = .returned (.bool false) ∧ Below w.heap.size w w' := by
  have hz : (zeroValue 57).run Tryz.prog (w.alloc (.map wks 5)) = .ok .nilIface (w.alloc (.map wks 5)) := by kernel_rfl
  have hl := look_miss (w.alloc (.map wks 5)) Tryz.underlying58 Tryz.underlying3 (b := w.heap.size) (es := wks) (clock := 5) (heap_alloc_at w _) k hz
    (by have b1 : (k == 1) = false := by simp; omega
        have b2 : (k == 2) = false := by simp; omega
        have b3 : (k == 3) = false := by simp; omega
        have b4 : (k == 4) = false := by simp; omega
        have b5 : (k == 5) = false := by simp; omega
        simp [wks, Instr.findNow, Instr.sameNow, b1, b2, b3, b4, b5])
  clear h hz
  go_enter Tryz.func78, Tryz.ntmps78
  go_wp2_with fail
  refine (w_workings _).mono ?_
  rintro e w' ⟨rfl, rfl⟩
  go_wp2
  go_ret
  exact ⟨rfl, by first | exact (Below.refl _ _).alloc (Nat.le_refl _) _ | exact ((Below.refl _ _).alloc (Nat.le_refl _) _).alloc (by simp) _⟩
theorem sized_any (k n : Int) (w : World) : Calls Tryz.prog 78 #[.int .i64 k, .int .i64 n] w fun e w' => e = .returned (.bool (sizedB k n)) ∧ Below w.heap.size w w' := by
  by_cases h : k < 1 ∨ 5 < k
  · have e : sizedB k n = false := by simp [sizedB]; omega
    rw [e]; exact sized_no k n w h
  by_cases hn : n = 0
  · have hb : (n == 0) = true := by simpa using hn
    have e : sizedB k n = true := by simp [sizedB]; omega
    rw [e]
    rcases (by omega : k = 1 ∨ k = 2 ∨ k = 3 ∨ k = 4 ∨ k = 5) with rfl | rfl | rfl | rfl | rfl
    · exact sized1_n0 n w hb
    · exact sized2_n0 n w hb
    · exact sized3_n0 n w hb
    · exact sized4_n0 n w hb
    · exact sized5_n0 n w hb
  have hb : (n == 0) = false := by simpa using hn
  by_cases h1 : n < 0
  · have e : sizedB k n = false := by simp [sizedB]; omega
    rw [e]
    rcases (by omega : k = 1 ∨ k = 2 ∨ k = 3 ∨ k = 4 ∨ k = 5) with rfl | rfl | rfl | rfl | rfl
    · exact sized1_lo n w h1 hb
    · exact sized2_lo n w h1 hb
    · exact sized3_lo n w h1 hb
    · exact sized4_no n w hb
    · exact sized5_no n w hb
  by_cases h2 : 1000 < n
  · have e : sizedB k n = false := by simp [sizedB]; omega
    rw [e]
    rcases (by omega : k = 1 ∨ k = 2 ∨ k = 3 ∨ k = 4 ∨ k = 5) with rfl | rfl | rfl | rfl | rfl
    · exact sized1_hi n w h2 hb
    · exact sized2_hi n w h2 hb
    · exact sized3_hi n w h2 hb
    · exact sized4_no n w hb
    · exact sized5_no n w hb
  rcases (by omega : k = 1 ∨ k = 2 ∨ k = 3 ∨ k = 4 ∨ k = 5) with rfl | rfl | rfl | rfl | rfl
  · have e : sizedB 1 n = true := by simp [sizedB]; omega
    rw [e]; exact sized1_in n w (by omega) (by omega) hb
  · have e : sizedB 2 n = true := by simp [sizedB]; omega
    rw [e]; exact sized2_in n w (by omega) (by omega) hb
  · have e : sizedB 3 n = true := by simp [sizedB]; omega
    rw [e]; exact sized3_in n w (by omega) (by omega) hb
  · have e : sizedB 4 n = false := by simp [sizedB]; omega
    rw [e]; exact sized4_no n w hb
  · have e : sizedB 5 n = false := by simp [sizedB]; omega
    rw [e]; exact sized5_no n w hb
def Held (w : World) (T : TypeId) (c0 c1 c2 c3 c4 : Value) (W : World) : Prop := W.heap[w.heap.size]? = some (.cells #[c0, c1, c2, c3, c4] T (0, 0)) ∧ Below w.heap.size w W
theorem Held.c0 {w W : World} {T : TypeId} {c0 c1 c2 c3 c4 : Value} (h : Held w T c0 c1 c2 c3 c4 W) : W.cell? ⟨w.heap.size, 0, none⟩ = some c0 := (blk_cell h.1 0).trans rfl
theorem Held.c1 {w W : World} {T : TypeId} {c0 c1 c2 c3 c4 : Value} (h : Held w T c0 c1 c2 c3 c4 W) : W.cell? ⟨w.heap.size, 1, none⟩ = some c1 := (blk_cell h.1 1).trans rfl
theorem Held.c2 {w W : World} {T : TypeId} {c0 c1 c2 c3 c4 : Value} (h : Held w T c0 c1 c2 c3 c4 W) : W.cell? ⟨w.heap.size, 2, none⟩ = some c2 := (blk_cell h.1 2).trans rfl
theorem Held.c3 {w W : World} {T : TypeId} {c0 c1 c2 c3 c4 : Value} (h : Held w T c0 c1 c2 c3 c4 W) : W.cell? ⟨w.heap.size, 3, none⟩ = some c3 := (blk_cell h.1 3).trans rfl
theorem Held.c4 {w W : World} {T : TypeId} {c0 c1 c2 c3 c4 : Value} (h : Held w T c0 c1 c2 c3 c4 W) : W.cell? ⟨w.heap.size, 4, none⟩ = some c4 := (blk_cell h.1 4).trans rfl
end Go.Proofs.YtphblfmjdiigkaaGreatDoor.Hb
