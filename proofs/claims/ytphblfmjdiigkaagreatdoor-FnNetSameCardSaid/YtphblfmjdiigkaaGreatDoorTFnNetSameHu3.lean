/- The walks of impl.workings, sized, isTime, BlockOk and BlockStep: what each answers, for every argument. No condition. -/
import Derived.WalkLawsBesides
import Derived.WalkSpells
import Derived.Lib.Hide
import Derived.MapKept
import Derived.ChangeMaps4
import Derived.Test.YtphblfmjdiigkaaGreatDoorTFnNetSameHFnNetSamex6
import Derived.Test.YtphblfmjdiigkaaGreatDoorTFnNetSameHFnNetSamex10
import Derived.Deep.RegionHeld
namespace Go.Proofs.YtphblfmjdiigkaaGreatDoor.Hb
open Go.RowKit Go.Proofs.YtphblfmjdiigkaaGreatDoorW.PrintWords Go.Proofs.YtphblfmjdiigkaaGreatDoorW.PrintLast Go.Proofs.YtphblfmjdiigkaaGreatDoorW.PrintMore
attribute [local go_sem] max2_int min2_int
set_option linter.unusedVariables false
set_option linter.unusedSimpArgs false
theorem push_set {α : Type} (a : Array α) (x y : α) : (a.push x).setIfInBounds a.size y = a.push y := by
  apply Array.ext_getElem?
  intro i
  simp [Array.getElem?_setIfInBounds, Array.getElem?_push]
  by_cases h : i = a.size
  · subst h; simp
  · simp [h, Ne.symm h]
theorem ins_new {P : Program} (w : World) {t k e : TypeId} {kk : IntKind} (ht : P.underlying t = some (.map k e)) (hk : P.underlying k = some (.int kk)) (es : Array MapEntry) (clock : Nat) (n : Int) (v : Value)
    (hf : Instr.findNow (.int kk) (.int kk n) es.toList 0 = some none) :
    (Instr.mapUpdate t (.map (some w.heap.size)) (.int kk n) v).run P (w.alloc (.map es clock)) = .ok () (w.alloc (.map (es.push ⟨.int kk n, v, clock⟩) (clock + 1))) := by
  have hb : (w.alloc (.map es clock)).heap[w.heap.size]? = some (.map es clock) := by show (w.heap.push _)[w.heap.size]? = _; simp
  have hc := MapKept.run_checkKey (w := w.alloc (.map es clock)) (k := .int kk n) hk (by simp [MapKept.IsKey]) false 9999
  simp [Instr.mapUpdate, run_underlying ht, MapKept.run_getObj_map hb, hc, Instr.findKey, run_underlying hk, hf, MapKept.run_setObj_map _ hb, Result.andThen]
  show ({ w with heap := (w.heap.push (Obj.map es clock)).setIfInBounds w.heap.size _ } : World) = { w with heap := w.heap.push _ }
  rw [push_set]
theorem look_hit {P : Program} (w : World) {t k e : TypeId} {kk : IntKind} (ht : P.underlying t = some (.map k e)) (hk : P.underlying k = some (.int kk)) {b : Nat} {es : Array MapEntry} {clock : Nat} (hb : w.heap[b]? = some (.map es clock)) (n : Int) {i : Nat} {v : Value} (c : Bool)
    (hf : Instr.findNow (.int kk) (.int kk n) es.toList 0 = some (some (i, v))) :
    (Instr.lookup t (.map (some b)) (.int kk n) c).run P w = .ok (if c then .tuple #[v, .bool true] else v) w := by
  have hc := MapKept.run_checkKey (w := w) (k := .int kk n) hk (by simp [MapKept.IsKey]) es.isEmpty 9999
  simp [Instr.lookup, run_underlying ht, MapKept.run_getObj_map hb, hc, Instr.findKey, run_underlying hk, hf, Result.andThen]
theorem look_miss {P : Program} (w : World) {t k e : TypeId} {kk : IntKind} (ht : P.underlying t = some (.map k e)) (hk : P.underlying k = some (.int kk)) {b : Nat} {es : Array MapEntry} {clock : Nat} (hb : w.heap[b]? = some (.map es clock)) (n : Int) {z : Value} (hz : (zeroValue e).run P w = .ok z w)
    (hf : Instr.findNow (.int kk) (.int kk n) es.toList 0 = some none) :
    (Instr.lookup t (.map (some b)) (.int kk n) true).run P w = .ok (.tuple #[z, .bool false]) w := by
  have hc := MapKept.run_checkKey (w := w) (k := .int kk n) hk (by simp [MapKept.IsKey]) es.isEmpty 9999
  simp [Instr.lookup, run_underlying ht, MapKept.run_getObj_map hb, hc, Instr.findKey, run_underlying hk, hf, hz, Result.andThen]
theorem heap_alloc_at (w : World) (o : Obj) : (w.alloc o).heap[w.heap.size]? = some o := by show (w.heap.push _)[w.heap.size]? = _; simp
def wks : Array MapEntry := #[⟨.int .i64 1, .iface 94 (.agg #[]), 0⟩, ⟨.int .i64 2, .iface 95 (.agg #[]), 1⟩, ⟨.int .i64 3, .iface 96 (.agg #[]), 2⟩, ⟨.int .i64 4, .iface 97 (.agg #[]), 3⟩, ⟨.int .i64 5, .iface 98 (.agg #[]), 4⟩]
theorem w_workings (w : World) : Calls Tryz.prog 26 #[] w fun e w' => e = .returned (.map (some w.heap.size)) ∧ w.alloc (.map wks 5) = w' := by
  have hmm : (Instr.makeMap 58 none).run Tryz.prog w = .ok (.map (some w.heap.size)) (w.alloc (.map #[] 0)) := rfl
  have h1 := ins_new w Tryz.underlying58 Tryz.underlying3 #[] 0 1 (.iface 94 (.agg #[])) rfl
  have h2 := ins_new w Tryz.underlying58 Tryz.underlying3 #[⟨.int .i64 1, .iface 94 (.agg #[]), 0⟩] 1 2 (.iface 95 (.agg #[])) rfl
  have h3 := ins_new w Tryz.underlying58 Tryz.underlying3 #[⟨.int .i64 1, .iface 94 (.agg #[]), 0⟩, ⟨.int .i64 2, .iface 95 (.agg #[]), 1⟩] 2 3 (.iface 96 (.agg #[])) rfl
  have h4 := ins_new w Tryz.underlying58 Tryz.underlying3 #[⟨.int .i64 1, .iface 94 (.agg #[]), 0⟩, ⟨.int .i64 2, .iface 95 (.agg #[]), 1⟩, ⟨.int .i64 3, .iface 96 (.agg #[]), 2⟩] 3 4 (.iface 97 (.agg #[])) rfl
  have h5 := ins_new w Tryz.underlying58 Tryz.underlying3 #[⟨.int .i64 1, .iface 94 (.agg #[]), 0⟩, ⟨.int .i64 2, .iface 95 (.agg #[]), 1⟩, ⟨.int .i64 3, .iface 96 (.agg #[]), 2⟩, ⟨.int .i64 4, .iface 97 (.agg #[]), 3⟩] 4 5 (.iface 98 (.agg #[])) rfl
  simp at h1 h2 h3 h4 h5
  go_enter Tryz.func26, Tryz.ntmps26
  go_wp2
  go_ret
  exact ⟨rfl, rfl⟩
def sizedB (k n : Int) : Bool := (decide (1 ≤ k) && decide (k ≤ 3) && decide (0 ≤ n) && decide (n ≤ 1000)) || (decide (4 ≤ k) && decide (k ≤ 5) && decide (n = 0))
theorem look_wk (k : Int) (i : Nat) (T : TypeId) (c : Bool) (hf : Instr.findNow (.int .i64) (.int .i64 k) wks.toList 0 = some (some (i, .iface T (.agg #[])))) (w : World) :
    (Instr.lookup 58 (.map (some w.heap.size)) (.int .i64 k) c).run Tryz.prog (w.alloc (.map wks 5)) = .ok (if c then .tuple #[.iface T (.agg #[]), .bool true] else .iface T (.agg #[])) (w.alloc (.map wks 5)) :=
  look_hit _ Tryz.underlying58 Tryz.underlying3 (heap_alloc_at w _) k c hf
theorem m_counts1 (w : World) : (method 297 94 (.agg #[]) "loop.example/stopgate/impl.counts").run Tryz.prog w = .ok (124, .agg #[]) w := by kernel_rfl
theorem m_counts2 (w : World) : (method 297 95 (.agg #[]) "loop.example/stopgate/impl.counts").run Tryz.prog w = .ok (127, .agg #[]) w := by kernel_rfl
theorem m_counts3 (w : World) : (method 297 96 (.agg #[]) "loop.example/stopgate/impl.counts").run Tryz.prog w = .ok (130, .agg #[]) w := by kernel_rfl
theorem m_counts4 (w : World) : (method 297 97 (.agg #[]) "loop.example/stopgate/impl.counts").run Tryz.prog w = .ok (133, .agg #[]) w := by kernel_rfl
theorem m_counts5 (w : World) : (method 297 98 (.agg #[]) "loop.example/stopgate/impl.counts").run Tryz.prog w = .ok (136, .agg #[]) w := by kernel_rfl
set_option maxRecDepth 100000 in
theorem sized1_n0 (n : Int) (w : World) (hn : (n == 0) = true)  : Calls Tryz.prog 78 #[.int .i64 1, .int .i64 n] w fun e w' => e = .returned (.bool true) ∧ Below w.heap.size w w' := by
  have hl := look_wk 1 0 94 true rfl w
  simp only [if_true] at hl
  have hm := m_counts1
  go_enter Tryz.func78, Tryz.ntmps78
  go_wp2_with fail
  refine (w_workings _).mono ?_
  rintro e w' ⟨rfl, rfl⟩
  go_wp2
  go_ret
  exact ⟨rfl, by first | exact (Below.refl _ _).alloc (Nat.le_refl _) _ | exact ((Below.refl _ _).alloc (Nat.le_refl _) _).alloc (by simp) _⟩
set_option maxRecDepth 100000 in
theorem sized1_in (n : Int) (w : World) (h1 : 0 ≤ n) (h2 : n ≤ 1000) (hn : (n == 0) = false) : Calls Tryz.prog 78 #[.int .i64 1, .int .i64 n] w fun e w' => e = .returned (.bool true) ∧ Below w.heap.size w w' := by
  have hl := look_wk 1 0 94 true rfl w
  simp only [if_true] at hl
  have hm := m_counts1
  go_enter Tryz.func78, Tryz.ntmps78
  go_wp2_with fail
  refine (w_workings _).mono ?_
  rintro e w' ⟨rfl, rfl⟩
  go_wp2
  go_ret
  exact ⟨rfl, by first | exact (Below.refl _ _).alloc (Nat.le_refl _) _ | exact ((Below.refl _ _).alloc (Nat.le_refl _) _).alloc (by simp) _⟩
set_option maxRecDepth 100000 in
theorem sized1_lo (n : Int) (w : World) (h1 : n < 0) (hn : (n == 0) = false) : Calls Tryz.prog 78 #[.int .i64 1, .int .i64 n] w fun e w' => e = .returned (.bool false) ∧ Below w.heap.size w w' := by
  have hl := look_wk 1 0 94 true rfl w
  simp only [if_true] at hl
  have hm := m_counts1
  go_enter Tryz.func78, Tryz.ntmps78
  go_wp2_with fail
  refine (w_workings _).mono ?_
  rintro e w' ⟨rfl, rfl⟩
  go_wp2
  go_ret
  exact ⟨rfl, by first | exact (Below.refl _ _).alloc (Nat.le_refl _) _ | exact ((Below.refl _ _).alloc (Nat.le_refl _) _).alloc (by simp) _⟩
set_option maxRecDepth 100000 in
theorem sized1_hi (n : Int) (w : World) (h1 : 1000 < n) (hn : (n == 0) = false) : Calls Tryz.prog 78 #[.int .i64 1, .int .i64 n] w fun e w' => e = .returned (.bool false) ∧ Below w.heap.size w w' := by
  have hd : decide (n ≤ 1000) = false := by simp; omega
  have hl := look_wk 1 0 94 true rfl w
  simp only [if_true] at hl
  have hm := m_counts1
  go_enter Tryz.func78, Tryz.ntmps78
  go_wp2_with fail
  refine (w_workings _).mono ?_
  rintro e w' ⟨rfl, rfl⟩
  go_wp2
  go_ret
  exact ⟨rfl, by first | exact (Below.refl _ _).alloc (Nat.le_refl _) _ | exact ((Below.refl _ _).alloc (Nat.le_refl _) _).alloc (by simp) _⟩
set_option maxRecDepth 100000 in
theorem sized2_n0 (n : Int) (w : World) (hn : (n == 0) = true)  : Calls Tryz.prog 78 #[.int .i64 2, .int .i64 n] w fun e w' => e = .returned (.bool true) ∧ Below w.heap.size w w' := by
  have hl := look_wk 2 1 95 true rfl w
  simp only [if_true] at hl
  have hm := m_counts2
  go_enter Tryz.func78, Tryz.ntmps78
  go_wp2_with fail
  refine (w_workings _).mono ?_
  rintro e w' ⟨rfl, rfl⟩
  go_wp2
  go_ret
  exact ⟨rfl, by first | exact (Below.refl _ _).alloc (Nat.le_refl _) _ | exact ((Below.refl _ _).alloc (Nat.le_refl _) _).alloc (by simp) _⟩
set_option maxRecDepth 100000 in
theorem sized2_in (n : Int) (w : World) (h1 : 0 ≤ n) (h2 : n ≤ 1000) (hn : (n == 0) = false) : Calls Tryz.prog 78 #[.int .i64 2, .int .i64 n] w fun e w' => e = .returned (.bool true) ∧ Below w.heap.size w w' := by
  have hl := look_wk 2 1 95 true rfl w
  simp only [if_true] at hl
  have hm := m_counts2
  go_enter Tryz.func78, Tryz.ntmps78
  go_wp2_with fail
  refine (w_workings _).mono ?_
  rintro e w' ⟨rfl, rfl⟩
  go_wp2
  go_ret
  exact ⟨rfl, by first | exact (Below.refl _ _).alloc (Nat.le_refl _) _ | exact ((Below.refl _ _).alloc (Nat.le_refl _) _).alloc (by simp) _⟩
set_option maxRecDepth 100000 in
theorem sized2_lo (n : Int) (w : World) (h1 : n < 0) (hn : (n == 0) = false) : Calls Tryz.prog 78 #[.int .i64 2, .int .i64 n] w fun e w' => e = .returned (.bool false) ∧ Below w.heap.size w w' := by
  have hl := look_wk 2 1 95 true rfl w
  simp only [if_true] at hl
  have hm := m_counts2
  go_enter Tryz.func78, Tryz.ntmps78
  go_wp2_with fail
  refine (w_workings _).mono ?_
  rintro e w' ⟨rfl, rfl⟩
  go_wp2
  go_ret
  exact ⟨rfl, by first | exact (Below.refl _ _).alloc (Nat.le_refl _) _ | exact ((Below.refl _ _).alloc (Nat.le_refl _) _).alloc (by simp) _⟩
set_option maxRecDepth 100000 in
theorem sized2_hi (n : Int) (w : World) (h1 : 1000 < n) (hn : (n == 0) = false) : Calls Tryz.prog 78 #[.int .i64 2, .int .i64 n] w fun e w' => e = .returned (.bool false) ∧ Below w.heap.size w w' := by
  have hd : decide (n ≤ 1000) = false := by simp; omega
  have hl := look_wk 2 1 95 true rfl w
  simp only [if_true] at hl
  have hm := m_counts2
  go_enter Tryz.func78, Tryz.ntmps78
  go_wp2_with fail
  refine (w_workings _).mono ?_
  rintro e w' ⟨rfl, rfl⟩
  go_wp2
  go_ret
  exact ⟨rfl, by first | exact (Below.refl _ _).alloc (Nat.le_refl _) _ | exact ((Below.refl _ _).alloc (Nat.le_refl _) _).alloc (by simp) _⟩
set_option maxRecDepth 100000 in
theorem sized3_n0 (n : Int) (w : World) (hn : (n == 0) = true)  : Calls Tryz.prog 78 #[.int .i64 3, .int .i64 n] w fun e w' => e = .returned (.bool true) ∧ Below w.heap.size w w' := by
  have hl := look_wk 3 2 96 true rfl w
  simp only [if_true] at hl
  have hm := m_counts3
  go_enter Tryz.func78, Tryz.ntmps78
  go_wp2_with fail
  refine (w_workings _).mono ?_
  rintro e w' ⟨rfl, rfl⟩
  go_wp2
  go_ret
  exact ⟨rfl, by first | exact (Below.refl _ _).alloc (Nat.le_refl _) _ | exact ((Below.refl _ _).alloc (Nat.le_refl _) _).alloc (by simp) _⟩
set_option maxRecDepth 100000 in
theorem sized3_in (n : Int) (w : World) (h1 : 0 ≤ n) (h2 : n ≤ 1000) (hn : (n == 0) = false) : Calls Tryz.prog 78 #[.int .i64 3, .int .i64 n] w fun e w' => e = .returned (.bool true) ∧ Below w.heap.size w w' := by
  have hl := look_wk 3 2 96 true rfl w
  simp only [if_true] at hl
  have hm := m_counts3
  go_enter Tryz.func78, Tryz.ntmps78
  go_wp2_with fail
  refine (w_workings _).mono ?_
  rintro e w' ⟨rfl, rfl⟩
  go_wp2
  go_ret
  exact ⟨rfl, by first | exact (Below.refl _ _).alloc (Nat.le_refl _) _ | exact ((Below.refl _ _).alloc (Nat.le_refl _) _).alloc (by simp) _⟩
set_option maxRecDepth 100000 in
theorem sized3_lo (n : Int) (w : World) (h1 : n < 0) (hn : (n == 0) = false) : Calls Tryz.prog 78 #[.int .i64 3, .int .i64 n] w fun e w' => e = .returned (.bool false) ∧ Below w.heap.size w w' := by
  have hl := look_wk 3 2 96 true rfl w
  simp only [if_true] at hl
  have hm := m_counts3
  go_enter Tryz.func78, Tryz.ntmps78
  go_wp2_with fail
  refine (w_workings _).mono ?_
  rintro e w' ⟨rfl, rfl⟩
  go_wp2
  go_ret
  exact ⟨rfl, by first | exact (Below.refl _ _).alloc (Nat.le_refl _) _ | exact ((Below.refl _ _).alloc (Nat.le_refl _) _).alloc (by simp) _⟩
set_option maxRecDepth 100000 in
theorem sized3_hi (n : Int) (w : World) (h1 : 1000 < n) (hn : (n == 0) = false) : Calls Tryz.prog 78 #[.int .i64 3, .int .i64 n] w fun e w' => e = .returned (.bool false) ∧ Below w.heap.size w w' := by
  have hd : decide (n ≤ 1000) = false := by simp; omega
  have hl := look_wk 3 2 96 true rfl w
  simp only [if_true] at hl
  have hm := m_counts3
  go_enter Tryz.func78, Tryz.ntmps78
  go_wp2_with fail
  refine (w_workings _).mono ?_
  rintro e w' ⟨rfl, rfl⟩
  go_wp2
  go_ret
  exact ⟨rfl, by first | exact (Below.refl _ _).alloc (Nat.le_refl _) _ | exact ((Below.refl _ _).alloc (Nat.le_refl _) _).alloc (by simp) _⟩
set_option maxRecDepth 100000 in
theorem sized4_n0 (n : Int) (w : World) (hn : (n == 0) = true)  : Calls Tryz.prog 78 #[.int .i64 4, .int .i64 n] w fun e w' => e = .returned (.bool true) ∧ Below w.heap.size w w' := by
  have hl := look_wk 4 3 97 true rfl w
  simp only [if_true] at hl
  have hm := m_counts4
  go_enter Tryz.func78, Tryz.ntmps78
  go_wp2_with fail
  refine (w_workings _).mono ?_
  rintro e w' ⟨rfl, rfl⟩
  go_wp2
  go_ret
  exact ⟨rfl, by first | exact (Below.refl _ _).alloc (Nat.le_refl _) _ | exact ((Below.refl _ _).alloc (Nat.le_refl _) _).alloc (by simp) _⟩
set_option maxRecDepth 100000 in
theorem sized4_no (n : Int) (w : World) (hn : (n == 0) = false)  : Calls Tryz.prog 78 #[.int .i64 4, .int .i64 n] w fun e w' => e = .returned (.bool false) ∧ Below w.heap.size w w' := by
  have hl := look_wk 4 3 97 true rfl w
  simp only [if_true] at hl
  have hm := m_counts4
  go_enter Tryz.func78, Tryz.ntmps78
  go_wp2_with fail
  refine (w_workings _).mono ?_
  rintro e w' ⟨rfl, rfl⟩
  go_wp2
  go_ret
  exact ⟨rfl, by first | exact (Below.refl _ _).alloc (Nat.le_refl _) _ | exact ((Below.refl _ _).alloc (Nat.le_refl _) _).alloc (by simp) _⟩
set_option maxRecDepth 100000 in
theorem sized5_n0 (n : Int) (w : World) (hn : (n == 0) = true)  : Calls Tryz.prog 78 #[.int .i64 5, .int .i64 n] w fun e w' => e = .returned (.bool true) ∧ Below w.heap.size w w' := by
  have hl := look_wk 5 4 98 true rfl w
  simp only [if_true] at hl
  have hm := m_counts5
  go_enter Tryz.func78, Tryz.ntmps78
  go_wp2_with fail
  refine (w_workings _).mono ?_
  rintro e w' ⟨rfl, rfl⟩
  go_wp2
  go_ret
  exact ⟨rfl, by first | exact (Below.refl _ _).alloc (Nat.le_refl _) _ | exact ((Below.refl _ _).alloc (Nat.le_refl _) _).alloc (by simp) _⟩
set_option maxRecDepth 100000 in
theorem sized5_no (n : Int) (w : World) (hn : (n == 0) = false)  : Calls Tryz.prog 78 #[.int .i64 5, .int .i64 n] w fun e w' => e = .returned (.bool false) ∧ Below w.heap.size w w' := by
  have hl := look_wk 5 4 98 true rfl w
  simp only [if_true] at hl
  have hm := m_counts5
  go_enter Tryz.func78, Tryz.ntmps78
  go_wp2_with fail
  refine (w_workings _).mono ?_
  rintro e w' ⟨rfl, rfl⟩
  go_wp2
  go_ret
  exact ⟨rfl, by first | exact (Below.refl _ _).alloc (Nat.le_refl _) _ | exact ((Below.refl _ _).alloc (Nat.le_refl _) _).alloc (by simp) _⟩
set_option maxRecDepth 100000 in
theorem sized_no (k n : Int) (w : World) (h : k < 1 ∨ 5 < k) : Calls Tryz.prog 78 #[.int .i64 k, .int .i64 n] w fun e w' => e = .returned (.bool false) ∧ Below w.heap.size w w' := by
  have hz : (zeroValue 57).run Tryz.prog (w.alloc (.map wks 5)) = .ok .nilIface (w.alloc (.map wks 5)) := by kernel_rfl
  have hl := look_miss (w.alloc (.map wks 5)) Tryz.underlying58 Tryz.underlying3 (b := w.heap.size) (es := wks) (clock := 5) (heap_alloc_at w _) k hz
    (by have b1 : (k == 1) = false := by simp; omega
        have b2 : (k == 2) = false := by simp; omega
        have b3 : (k == 3) = false := by simp; omega
        have b4 : (k == 4) = false := by simp; omega
        have b5 : (k == 5) = false := by simp; omega
        simp [wks, Instr.findNow, Instr.sameNow, b1, b2, b3, b4, b5])
  clear h hz
  go_enter Tryz.func78, Tryz.ntmps78
  go_wp2_with fail
  refine (w_workings _).mono ?_
  rintro e w' ⟨rfl, rfl⟩
  go_wp2
  go_ret
  exact ⟨rfl, by first | exact (Below.refl _ _).alloc (Nat.le_refl _) _ | exact ((Below.refl _ _).alloc (Nat.le_refl _) _).alloc (by simp) _⟩
theorem sized_any (k n : Int) (w : World) : Calls Tryz.prog 78 #[.int .i64 k, .int .i64 n] w fun e w' => e = .returned (.bool (sizedB k n)) ∧ Below w.heap.size w w' := by
  by_cases h : k < 1 ∨ 5 < k
  · have e : sizedB k n = false := by simp [sizedB]; omega
    rw [e]; exact sized_no k n w h
  by_cases hn : n = 0
  · have hb : (n == 0) = true := by simpa using hn
    have e : sizedB k n = true := by simp [sizedB]; omega
    rw [e]
    rcases (by omega : k = 1 ∨ k = 2 ∨ k = 3 ∨ k = 4 ∨ k = 5) with rfl | rfl | rfl | rfl | rfl
    · exact sized1_n0 n w hb
    · exact sized2_n0 n w hb
    · exact sized3_n0 n w hb
    · exact sized4_n0 n w hb
    · exact sized5_n0 n w hb
  have hb : (n == 0) = false := by simpa using hn
  by_cases h1 : n < 0
  · have e : sizedB k n = false := by simp [sizedB]; omega
    rw [e]
    rcases (by omega : k = 1 ∨ k = 2 ∨ k = 3 ∨ k = 4 ∨ k = 5) with rfl | rfl | rfl | rfl | rfl
    · exact sized1_lo n w h1 hb
    · exact sized2_lo n w h1 hb
    · exact sized3_lo n w h1 hb
    · exact sized4_no n w hb
    · exact sized5_no n w hb
  by_cases h2 : 1000 < n
  · have e : sizedB k n = false := by simp [sizedB]; omega
    rw [e]
    rcases (by omega : k = 1 ∨ k = 2 ∨ k = 3 ∨ k = 4 ∨ k = 5) with rfl | rfl | rfl | rfl | rfl
    · exact sized1_hi n w h2 hb
    · exact sized2_hi n w h2 hb
    · exact sized3_hi n w h2 hb
    · exact sized4_no n w hb
    · exact sized5_no n w hb
  rcases (by omega : k = 1 ∨ k = 2 ∨ k = 3 ∨ k = 4 ∨ k = 5) with rfl | rfl | rfl | rfl | rfl
  · have e : sizedB 1 n = true := by simp [sizedB]; omega
    rw [e]; exact sized1_in n w (by omega) (by omega) hb
  · have e : sizedB 2 n = true := by simp [sizedB]; omega
    rw [e]; exact sized2_in n w (by omega) (by omega) hb
  · have e : sizedB 3 n = true := by simp [sizedB]; omega
    rw [e]; exact sized3_in n w (by omega) (by omega) hb
  · have e : sizedB 4 n = false := by simp [sizedB]; omega
    rw [e]; exact sized4_no n w hb
  · have e : sizedB 5 n = false := by simp [sizedB]; omega
    rw [e]; exact sized5_no n w hb
def Held (w : World) (T : TypeId) (c0 c1 c2 c3 c4 : Value) (W : World) : Prop := W.heap[w.heap.size]? = some (.cells #[c0, c1, c2, c3, c4] T (0, 0)) ∧ Below w.heap.size w W
theorem Held.c1 {w W : World} {T : TypeId} {c0 c1 c2 c3 c4 : Value} (h : Held w T c0 c1 c2 c3 c4 W) : W.cell? ⟨w.heap.size, 1, none⟩ = some c1 := (blk_cell h.1 1).trans rfl
theorem Held.c2 {w W : World} {T : TypeId} {c0 c1 c2 c3 c4 : Value} (h : Held w T c0 c1 c2 c3 c4 W) : W.cell? ⟨w.heap.size, 2, none⟩ = some c2 := (blk_cell h.1 2).trans rfl
theorem Held.c3 {w W : World} {T : TypeId} {c0 c1 c2 c3 c4 : Value} (h : Held w T c0 c1 c2 c3 c4 W) : W.cell? ⟨w.heap.size, 3, none⟩ = some c3 := (blk_cell h.1 3).trans rfl
theorem Held.c4 {w W : World} {T : TypeId} {c0 c1 c2 c3 c4 : Value} (h : Held w T c0 c1 c2 c3 c4 W) : W.cell? ⟨w.heap.size, 4, none⟩ = some c4 := (blk_cell h.1 4).trans rfl
end Go.Proofs.YtphblfmjdiigkaaGreatDoor.Hb
namespace Go.Proofs.YtphblfmjdiigkaaGreatDoor.Hu1
open Go.RowKit Go.Proofs.YtphblfmjdiigkaaGreatDoor.Hb Go.Proofs.YtphblfmjdiigkaaGreatDoor.HFnNetSame Go.Proofs.YtphblfmjdiigkaaGreatDoorW.PrintWords Go.Proofs.YtphblfmjdiigkaaGreatDoorW.PrintLast Go.Proofs.YtphblfmjdiigkaaGreatDoorW.PrintMore
set_option linter.unusedVariables false
set_option linter.unusedSimpArgs false
attribute [local go_sem] max2_int min2_int max_two min_two
attribute [local go_sem high] eqA39
attribute [local go_sem high] eqA41
def aOk (k i : Int) : Bool := decide (1 ≤ k) && (decide (k ≤ 3) && (decide (0 ≤ i) && decide (i < 6)))
theorem aOk_some (k i : Int) : impl_AddrOk.f k i = some (aOk k i) := by
  unfold impl_AddrOk.f aOk
  by_cases h1 : k ≥ 1
  · rw [if_pos h1]
    by_cases h2 : k ≤ 3
    · rw [if_pos h2]
      by_cases h3 : i ≥ 0
      · rw [if_pos h3]; simp [h2, (by omega : 1 ≤ k), (by omega : 0 ≤ i)]
      · rw [if_neg h3]; simp [(by omega : ¬ 0 ≤ i)]
    · rw [if_neg h2]; simp [h2]
  · rw [if_neg h1]; simp [(by omega : ¬ 1 ≤ k)]
theorem aOkC (k i : Int) (W : World) : Calls Tryz.prog 59 #[.agg #[.int .i64 k, .int .i64 i]] W fun e w' => e = .returned (.bool (aOk k i)) ∧ Below W.heap.size W w' := impl_AddrOk.calls k i _ W (aOk_some k i)
theorem al (w : World) (o : Obj) : Below w.heap.size w (w.alloc o) := (Below.refl _ _).alloc (Nat.le_refl _) _
theorem al2 (w : World) (o o2 : Obj) : Below w.heap.size w ((w.alloc o).alloc o2) := (al w o).trans ((al _ o2).mono (al w o).size)
set_option maxRecDepth 100000 in
theorem reading1 (t c d : Int) (b : Bool) (w : World) : Calls Tryz.prog 55 #[.agg #[.int .i64 1, .int .i64 t, .int .i64 c, .int .i64 d, .bool b]] w fun e w' => e = .returned (.iface 132 (.agg #[.int .i64 c, .int .i64 d])) ∧ Below w.heap.size w w' := by
  have hu46 := Tryz.underlying41
  have hu44 := Tryz.underlying39
  go_enter Tryz.func55, Tryz.ntmps55
  go_wp2
  go_ret
  exact ⟨rfl, al w _⟩
set_option maxRecDepth 100000 in
theorem reading2 (t c d : Int) (b : Bool) (w : World) : Calls Tryz.prog 55 #[.agg #[.int .i64 2, .int .i64 t, .int .i64 c, .int .i64 d, .bool b]] w fun e w' => e = .returned (.iface 134 (.agg #[.int .i64 t])) ∧ Below w.heap.size w w' := by
  have hu46 := Tryz.underlying41
  have hu44 := Tryz.underlying39
  go_enter Tryz.func55, Tryz.ntmps55
  go_wp2
  go_ret
  exact ⟨rfl, al w _⟩
set_option maxRecDepth 100000 in
theorem reading3 (t c d : Int) (b : Bool) (w : World) : Calls Tryz.prog 55 #[.agg #[.int .i64 3, .int .i64 t, .int .i64 c, .int .i64 d, .bool b]] w fun e w' => e = .returned (.iface 135 (.agg #[.int .i64 t])) ∧ Below w.heap.size w w' := by
  have hu46 := Tryz.underlying41
  have hu44 := Tryz.underlying39
  go_enter Tryz.func55, Tryz.ntmps55
  go_wp2
  go_ret
  exact ⟨rfl, al w _⟩
set_option maxRecDepth 100000 in
theorem reading0 (a t c d : Int) (b : Bool) (w : World) (h1 : (a == 1) = false) (h2 : (a == 2) = false) (h3 : (a == 3) = false) : Calls Tryz.prog 55 #[.agg #[.int .i64 a, .int .i64 t, .int .i64 c, .int .i64 d, .bool b]] w fun e w' => e = .returned .nilIface ∧ Below w.heap.size w w' := by
  have hu46 := Tryz.underlying41
  have hu44 := Tryz.underlying39
  go_enter Tryz.func55, Tryz.ntmps55
  go_wp2
  go_ret
  exact ⟨rfl, al w _⟩
set_option maxRecDepth 100000 in
theorem src1 (c d : Int) (w : World) : Calls Tryz.prog 142 #[.agg #[.int .i64 c, .int .i64 d]] w fun e w' => e = .returned (.agg #[.int .i64 1, .int .i64 0, .int .i64 c, .int .i64 d, .bool false]) ∧ Below w.heap.size w w' := by
  have hu46 := Tryz.underlying41
  have hu44 := Tryz.underlying39
  have hu124 := Tryz.underlying132
  go_enter Tryz.func142, Tryz.ntmps142
  go_wp2
  refine bodyPost_ret (v := .agg #[.int .i64 1, .int .i64 0, .int .i64 c, .int .i64 d, .bool false]) (by simp [results, Tryz.results142, go_sem] <;> rfl) rfl ⟨rfl, ?_⟩
  repeat (first | exact al2 w _ _ | refine bS_ ?_ (Nat.le_succ _))
set_option maxRecDepth 100000 in
theorem src2 (t : Int) (w : World) : Calls Tryz.prog 146 #[.agg #[.int .i64 t]] w fun e w' => e = .returned (.agg #[.int .i64 2, .int .i64 t, .int .i64 0, .int .i64 0, .bool false]) ∧ Below w.heap.size w w' := by
  have hu46 := Tryz.underlying41
  have hu44 := Tryz.underlying39
  have hu126 := Tryz.underlying134
  go_enter Tryz.func146, Tryz.ntmps146
  go_wp2
  refine bodyPost_ret (v := .agg #[.int .i64 2, .int .i64 t, .int .i64 0, .int .i64 0, .bool false]) (by simp [results, Tryz.results146, go_sem] <;> rfl) rfl ⟨rfl, ?_⟩
  repeat (first | exact al2 w _ _ | refine bS_ ?_ (Nat.le_succ _))
set_option maxRecDepth 100000 in
theorem src3 (t : Int) (w : World) : Calls Tryz.prog 150 #[.agg #[.int .i64 t]] w fun e w' => e = .returned (.agg #[.int .i64 3, .int .i64 t, .int .i64 0, .int .i64 0, .bool false]) ∧ Below w.heap.size w w' := by
  have hu46 := Tryz.underlying41
  have hu44 := Tryz.underlying39
  have hu127 := Tryz.underlying135
  go_enter Tryz.func150, Tryz.ntmps150
  go_wp2
  refine bodyPost_ret (v := .agg #[.int .i64 3, .int .i64 t, .int .i64 0, .int .i64 0, .bool false]) (by simp [results, Tryz.results150, go_sem] <;> rfl) rfl ⟨rfl, ?_⟩
  repeat (first | exact al2 w _ _ | refine bS_ ?_ (Nat.le_succ _))
set_option maxRecDepth 100000 in
theorem ok1 (c d n : Int) (w : World) : Calls Tryz.prog 140 #[.agg #[.int .i64 c, .int .i64 d], .int .i64 n] w fun e w' => e = .returned (.bool (aOk c d)) ∧ Below w.heap.size w w' := by
  have hu44 := Tryz.underlying39
  have hu124 := Tryz.underlying132
  have h := aOkC c d
  generalize aOk c d = r at h ⊢
  go_enter Tryz.func140, Tryz.ntmps140
  go_wp2_with fail
  refine (h _).mono ?_
  rintro e w2 ⟨rfl, hb⟩
  clear h
  go_wp2
  go_ret
  exact ⟨rfl, (al w (.cells #[.int .i64 c, .int .i64 d] 132)).trans (hb.mono (al w _).size)⟩
def inB (t n : Int) : Bool := decide (0 ≤ t) && decide (t < n)
set_option maxRecDepth 100000 in
theorem ok2 (t n : Int) (w : World) : Calls Tryz.prog 144 #[.agg #[.int .i64 t], .int .i64 n] w fun e w' => e = .returned (.bool (inB t n)) ∧ Below w.heap.size w w' := by
  have hu126 := Tryz.underlying134
  by_cases h : 0 ≤ t
  · have e : inB t n = decide (t < n) := by unfold inB; rw [dT_ h, Bool.true_and]
    rw [e]
    have d1 : decide (t ≥ 0) = true := dT_ h
    have d2 : decide (0 ≤ t) = true := dT_ h
    clear e h
    go_enter Tryz.func144, Tryz.ntmps144
    go_wp2
    go_ret
    exact ⟨rfl, al w _⟩
  · have e : inB t n = false := by unfold inB; rw [dF_ h, Bool.false_and]
    rw [e]
    have d1 : decide (t ≥ 0) = false := dF_ h
    have d2 : decide (0 ≤ t) = false := dF_ h
    clear e h
    go_enter Tryz.func144, Tryz.ntmps144
    go_wp2
    go_ret
    exact ⟨rfl, al w _⟩
set_option maxRecDepth 100000 in
theorem ok3 (t n : Int) (w : World) : Calls Tryz.prog 148 #[.agg #[.int .i64 t], .int .i64 n] w fun e w' => e = .returned (.bool (inB t n)) ∧ Below w.heap.size w w' := by
  have hu127 := Tryz.underlying135
  by_cases h : 0 ≤ t
  · have e : inB t n = decide (t < n) := by unfold inB; rw [dT_ h, Bool.true_and]
    rw [e]
    have d1 : decide (t ≥ 0) = true := dT_ h
    have d2 : decide (0 ≤ t) = true := dT_ h
    clear e h
    go_enter Tryz.func148, Tryz.ntmps148
    go_wp2
    go_ret
    exact ⟨rfl, al w _⟩
  · have e : inB t n = false := by unfold inB; rw [dF_ h, Bool.false_and]
    rw [e]
    have d1 : decide (t ≥ 0) = false := dF_ h
    have d2 : decide (0 ≤ t) = false := dF_ h
    clear e h
    go_enter Tryz.func148, Tryz.ntmps148
    go_wp2
    go_ret
    exact ⟨rfl, al w _⟩
end Go.Proofs.YtphblfmjdiigkaaGreatDoor.Hu1
namespace Go.Proofs.YtphblfmjdiigkaaGreatDoor.Hu2
open Go.RowKit Go.Proofs.YtphblfmjdiigkaaGreatDoor.Hb Go.Proofs.YtphblfmjdiigkaaGreatDoor.Hu1 Go.Proofs.YtphblfmjdiigkaaGreatDoor.HFnNetSame Go.Proofs.YtphblfmjdiigkaaGreatDoorW.PrintWords Go.Proofs.YtphblfmjdiigkaaGreatDoorW.PrintLast Go.Proofs.YtphblfmjdiigkaaGreatDoorW.PrintMore
set_option linter.unusedVariables false
set_option linter.unusedSimpArgs false
attribute [local go_sem] max2_int min2_int max_two min_two
attribute [local go_sem high] eqA39
attribute [local go_sem high] eqA41
def sOk (a t c d n : Int) : Bool := if a = 1 then t == 0 && aOk c d else if a = 2 ∨ a = 3 then (c == 0 && d == 0) && inB t n else false
structure Tp (w : World) (g : Nat) (Y : Array Value) (W : World) : Prop where
  h1 : W.heap[g]? = some (.cells Y 41 (0, 0))
  bel : Below w.heap.size w W
theorem Tp.below {w W W' : World} {g : Nat} {Y : Array Value} (h : Tp w g Y W) (k : Below W.heap.size W W') : Tp w g Y W' := ⟨blk_below h.h1 k, h.bel.trans (k.mono h.bel.size)⟩
theorem m_src1 (v : Value) (w : World) : (method 297 132 v "loop.example/stopgate/impl.src").run Tryz.prog w = .ok (142, v) w := by kernel_rfl
theorem m_ok1 (v : Value) (w : World) : (method 297 132 v "loop.example/stopgate/impl.ok").run Tryz.prog w = .ok (140, v) w := by kernel_rfl
theorem m_src2 (v : Value) (w : World) : (method 297 134 v "loop.example/stopgate/impl.src").run Tryz.prog w = .ok (146, v) w := by kernel_rfl
theorem m_ok2 (v : Value) (w : World) : (method 297 134 v "loop.example/stopgate/impl.ok").run Tryz.prog w = .ok (144, v) w := by kernel_rfl
theorem m_src3 (v : Value) (w : World) : (method 297 135 v "loop.example/stopgate/impl.src").run Tryz.prog w = .ok (150, v) w := by kernel_rfl
theorem m_ok3 (v : Value) (w : World) : (method 297 135 v "loop.example/stopgate/impl.ok").run Tryz.prog w = .ok (148, v) w := by kernel_rfl
set_option maxRecDepth 100000 in
set_option maxHeartbeats 3200000 in
theorem src_ok1_true (t c d n : Int) (b : Bool) (w : World) (hq : ((0 : Int) == t) = true) : Calls Tryz.prog 81 #[.agg #[.int .i64 1, .int .i64 t, .int .i64 c, .int .i64 d, .bool b], .int .i64 n] w fun e w' => e = .returned (.bool (aOk c d)) ∧ Below w.heap.size w w' := by
  have hu46 := Tryz.underlying41
  have hu44 := Tryz.underlying39
  have hrd := fun W => reading1 t c d b W
  have hms := m_src1
  have hmo := m_ok1
  have hok := fun W => ok1 c d n W
  generalize aOk c d = rr at hok ⊢
  have q1 := heap_alloc_new w (.cells #[.int .i64 1, .int .i64 t, .int .i64 c, .int .i64 d, .bool b] 41)
  have hB := al w (.cells #[.int .i64 1, .int .i64 t, .int .i64 c, .int .i64 d, .bool b] 41)
  go_enter Tryz.func81, Tryz.ntmps81
  go_wp2_with fail
  refine (hrd _).mono ?_
  rintro e w2 ⟨rfl, hb⟩
  replace q1 := blk_below q1 hb
  replace hB := hB.trans (hb.mono hB.size)
  clear hrd hb
  obtain ⟨g1, hg1⟩ : ∃ g, w.heap.size = g := ⟨_, rfl⟩
  rw [hg1] at q1
  try rw [hg1]
  clear hg1
  (obtain ⟨i0, i1, i2, i3, i4⟩ := cells5 q1)
  go_upto_region 5 with (fail)
  have hT : Tp w w2.heap.size #[.int .i64 1, .int .i64 t, .int .i64 c, .int .i64 d, .bool b] (w2.alloc (.cells #[.int .i64 1, .int .i64 t, .int .i64 c, .int .i64 d, .bool b] 41)) := ⟨heap_alloc_new _ _, hB.trans ((al w2 _).mono hB.size)⟩
  clear q1 i0 i1 i2 i3 i4
  have hsz := hB.size
  generalize w2.alloc (Obj.cells _ 41) = w3 at hT ⊢
  obtain ⟨g6, hg6⟩ : ∃ g, w2.heap.size = g := ⟨_, rfl⟩
  rw [hg6] at hT hsz ⊢
  clear hg6 hB
  have i4 : w3.cell? ⟨g6, 4, none⟩ = some (.bool b) := (kC_ hT.h1 4).trans rfl
  have f4 : w3.frozen? ⟨g6, 4, none⟩ = false := blk_frozen hT.h1 4
  go_upto_region 6 with (fail)
  have hT2 : Tp w g6 #[.int .i64 1, .int .i64 t, .int .i64 c, .int .i64 d, .bool false] (w3.setCell ⟨g6, 4, none⟩ (.bool false)).drew := Tp.below ⟨blk_put hT.h1 4 _ rfl, bS_ hT.bel hsz⟩ (b1_ (Below.refl _ _))
  clear hT i4 f4
  have hT := hT2
  clear hT2
  refine start_ (n := 10) (S := fun w' => w'.cell? ⟨g6, 0, none⟩ = some (.int .i64 1) ∧ w'.cell? ⟨g6, 1, none⟩ = some (.int .i64 t) ∧ w'.cell? ⟨g6, 2, none⟩ = some (.int .i64 c) ∧ w'.cell? ⟨g6, 3, none⟩ = some (.int .i64 d) ∧ w'.cell? ⟨g6, 4, none⟩ = some (.bool false) ∧ Tp w g6 #[.int .i64 1, .int .i64 t, .int .i64 c, .int .i64 d, .bool false] w') (ds := []) #[F_, F_, F_, F_, F_, F_, F_, F_, F_, F_] (by kernel_rfl) rfl rfl ⟨(kC_ hT.h1 0).trans rfl, (kC_ hT.h1 1).trans rfl, (kC_ hT.h1 2).trans rfl, (kC_ hT.h1 3).trans rfl, (kC_ hT.h1 4).trans rfl, hT⟩ (fun hHeld => ?_)
  refine pure_ (i := 0) (N := some 13) (v := ?_) (a' := ?_) #[T_, F_, F_, F_, F_, F_, F_, F_, F_, F_] rfl rfl (by kernel_rfl) (fun _ _ _ h => h) (Or.inl ⟨by rfl, ?_⟩) ?_ ?_
  rotate_left
  · intro w'
    go_simp
    with_reducible rfl
  rotate_left
  · simp only [Act.put, sA_, sB_, sC_, i64_w, i32_w]
    rfl
  refine take_ (i := 2) (N := some 15) (v := ?_) (a' := ?_) #[T_, F_, T_, F_, F_, F_, F_, F_, F_, F_] rfl rfl (by kernel_rfl) (fun _ _ _ h => h) (Or.inl ⟨by rfl, ?_⟩) hHeld ?_ ?_
  rotate_left
  · rintro w' ⟨s0, s1, s2, s3, s4, s5⟩
    go_simp
    with_reducible rfl
  rotate_left
  · simp only [Act.put, sA_, sB_, sC_, i64_w, i32_w]
    rfl
  refine one_ (i := 1) (N := some 14) #[T_, T_, T_, F_, F_, F_, F_, F_, F_, F_] rfl rfl (by kernel_rfl) (by decide) (fun K hK => ?_)
  refine call_ (N := some 14) 142 #[.agg #[.int .i64 c, .int .i64 d]] (by rfl) rfl ?_ ?_
  · first | (go_simp; done) | (go_simp; rfl)
  refine (src1 c d _).mono ?_
  rintro e w3 ⟨rfl, hb⟩
  refine ⟨_, rfl, ?_⟩
  have hb1 := Tp.below hHeld.2.2.2.2.2 hb
  refine hK.out _ _ ⟨(kC_ hb1.h1 0).trans rfl, (kC_ hb1.h1 1).trans rfl, (kC_ hb1.h1 2).trans rfl, (kC_ hb1.h1 3).trans rfl, (kC_ hb1.h1 4).trans rfl, hb1⟩ (fun hHeld => ?_)
  clear hK K
  refine norm_ (a' := ?_) ?_ ?_
  rotate_left
  · show Act.put _ (some 14) _ = _
    simp only [Act.put, sA_, sB_, sC_, i64_w, i32_w]
    rfl
  refine pure_ (i := 3) (N := some 16) (v := ?_) (a' := ?_) #[T_, T_, T_, T_, F_, F_, F_, F_, F_, F_] rfl rfl (by kernel_rfl) (fun _ _ _ h => h) (Or.inl ⟨by rfl, ?_⟩) ?_ ?_
  rotate_left
  · intro w'
    go_simp
    with_reducible rfl
  rotate_left
  · simp only [Act.put, sA_, sB_, sC_, i64_w, i32_w]
    rfl
  refine pure_ (i := 4) (N := some 17) (v := ?_) (a' := ?_) #[T_, T_, T_, T_, T_, F_, F_, F_, F_, F_] rfl rfl (by kernel_rfl) (fun _ _ _ h => h) (Or.inl ⟨by rfl, ?_⟩) ?_ ?_
  rotate_left
  · intro w'
    go_simp
    with_reducible rfl
  rotate_left
  · simp only [Act.put, sA_, sB_, sC_, i64_w, i32_w]
    rfl
  refine pure_ (i := 5) (N := some 18) (v := ?_) (a' := ?_) #[T_, T_, T_, T_, T_, T_, F_, F_, F_, F_] rfl rfl (by kernel_rfl) (fun _ _ _ h => h) (Or.inl ⟨by rfl, ?_⟩) ?_ ?_
  rotate_left
  · intro w'
    go_simp
    with_reducible rfl
  rotate_left
  · simp only [Act.put, sA_, sB_, sC_, i64_w, i32_w]
    rfl
  refine pure_ (i := 6) (N := some 19) (v := ?_) (a' := ?_) #[T_, T_, T_, T_, T_, T_, T_, F_, F_, F_] rfl rfl (by kernel_rfl) (fun _ _ _ h => h) (Or.inl ⟨by rfl, ?_⟩) ?_ ?_
  rotate_left
  · intro w'
    go_simp
    with_reducible rfl
  rotate_left
  · simp only [Act.put, sA_, sB_, sC_, i64_w, i32_w]
    rfl
  refine one_ (i := 7) (N := some 20) #[T_, T_, T_, T_, T_, T_, T_, T_, F_, F_] rfl rfl (by kernel_rfl) (by decide) (fun K hK => ?_)
  refine call_ (N := some 20) 140 #[.agg #[.int .i64 c, .int .i64 d], .int .i64 n] (by rfl) rfl ?_ ?_
  · first | (go_simp; done) | (go_simp; rfl)
  refine (hok _).mono ?_
  rintro e w4 ⟨rfl, hb⟩
  refine ⟨_, rfl, ?_⟩
  have hb2 := Tp.below hHeld.2.2.2.2.2 hb
  refine hK.out _ _ ⟨(kC_ hb2.h1 0).trans rfl, (kC_ hb2.h1 1).trans rfl, (kC_ hb2.h1 2).trans rfl, (kC_ hb2.h1 3).trans rfl, (kC_ hb2.h1 4).trans rfl, hb2⟩ (fun hHeld => ?_)
  clear hK K
  refine norm_ (a' := ?_) ?_ ?_
  rotate_left
  · show Act.put _ (some 20) _ = _
    simp only [Act.put, sA_, sB_, sC_, i64_w, i32_w]
    rfl
  refine pure_ (i := 8) (N := some 21) (v := ?_) (a' := ?_) #[T_, T_, T_, T_, T_, T_, T_, T_, T_, F_] rfl rfl (by kernel_rfl) (fun _ _ _ h => h) (Or.inl ⟨by rfl, ?_⟩) ?_ ?_
  rotate_left
  · intro w'
    go_simp
    with_reducible rfl
  rotate_left
  · simp only [Act.put, sA_, sB_, sC_, i64_w, i32_w]
    rfl
  refine pure_ (i := 9) (N := some 4) (v := ?_) (a' := ?_) #[T_, T_, T_, T_, T_, T_, T_, T_, T_, T_] rfl rfl (by kernel_rfl) (fun _ _ _ h => h) (Or.inl ⟨by rfl, ?_⟩) ?_ ?_
  rotate_left
  · intro w'
    go_simp
    with_reducible rfl
  rotate_left
  · simp only [Act.put, sA_, sB_, sC_, i64_w, i32_w]
    rfl
  refine done_ (by kernel_rfl) ?_
  have hB := Tp.bel hHeld.2.2.2.2.2
  clear hHeld
  go_wp2
  go_ret
  exact ⟨rfl, hB⟩
set_option maxRecDepth 100000 in
set_option maxHeartbeats 3200000 in
theorem src_ok1_false (t c d n : Int) (b : Bool) (w : World) (hq : ((0 : Int) == t) = false) : Calls Tryz.prog 81 #[.agg #[.int .i64 1, .int .i64 t, .int .i64 c, .int .i64 d, .bool b], .int .i64 n] w fun e w' => e = .returned (.bool (false)) ∧ Below w.heap.size w w' := by
  have hu46 := Tryz.underlying41
  have hu44 := Tryz.underlying39
  have hrd := fun W => reading1 t c d b W
  have hms := m_src1
  have hmo := m_ok1
  have hx : True := trivial
  have q1 := heap_alloc_new w (.cells #[.int .i64 1, .int .i64 t, .int .i64 c, .int .i64 d, .bool b] 41)
  have hB := al w (.cells #[.int .i64 1, .int .i64 t, .int .i64 c, .int .i64 d, .bool b] 41)
  go_enter Tryz.func81, Tryz.ntmps81
  go_wp2_with fail
  refine (hrd _).mono ?_
  rintro e w2 ⟨rfl, hb⟩
  replace q1 := blk_below q1 hb
  replace hB := hB.trans (hb.mono hB.size)
  clear hrd hb
  obtain ⟨g1, hg1⟩ : ∃ g, w.heap.size = g := ⟨_, rfl⟩
  rw [hg1] at q1
  try rw [hg1]
  clear hg1
  (obtain ⟨i0, i1, i2, i3, i4⟩ := cells5 q1)
  go_upto_region 5 with (fail)
  have hT : Tp w w2.heap.size #[.int .i64 1, .int .i64 t, .int .i64 c, .int .i64 d, .bool b] (w2.alloc (.cells #[.int .i64 1, .int .i64 t, .int .i64 c, .int .i64 d, .bool b] 41)) := ⟨heap_alloc_new _ _, hB.trans ((al w2 _).mono hB.size)⟩
  clear q1 i0 i1 i2 i3 i4
  have hsz := hB.size
  generalize w2.alloc (Obj.cells _ 41) = w3 at hT ⊢
  obtain ⟨g6, hg6⟩ : ∃ g, w2.heap.size = g := ⟨_, rfl⟩
  rw [hg6] at hT hsz ⊢
  clear hg6 hB
  have i4 : w3.cell? ⟨g6, 4, none⟩ = some (.bool b) := (kC_ hT.h1 4).trans rfl
  have f4 : w3.frozen? ⟨g6, 4, none⟩ = false := blk_frozen hT.h1 4
  go_upto_region 6 with (fail)
  have hT2 : Tp w g6 #[.int .i64 1, .int .i64 t, .int .i64 c, .int .i64 d, .bool false] (w3.setCell ⟨g6, 4, none⟩ (.bool false)).drew := Tp.below ⟨blk_put hT.h1 4 _ rfl, bS_ hT.bel hsz⟩ (b1_ (Below.refl _ _))
  clear hT i4 f4
  have hT := hT2
  clear hT2
  refine start_ (n := 10) (S := fun w' => w'.cell? ⟨g6, 0, none⟩ = some (.int .i64 1) ∧ w'.cell? ⟨g6, 1, none⟩ = some (.int .i64 t) ∧ w'.cell? ⟨g6, 2, none⟩ = some (.int .i64 c) ∧ w'.cell? ⟨g6, 3, none⟩ = some (.int .i64 d) ∧ w'.cell? ⟨g6, 4, none⟩ = some (.bool false) ∧ Tp w g6 #[.int .i64 1, .int .i64 t, .int .i64 c, .int .i64 d, .bool false] w') (ds := []) #[F_, F_, F_, F_, F_, F_, F_, F_, F_, F_] (by kernel_rfl) rfl rfl ⟨(kC_ hT.h1 0).trans rfl, (kC_ hT.h1 1).trans rfl, (kC_ hT.h1 2).trans rfl, (kC_ hT.h1 3).trans rfl, (kC_ hT.h1 4).trans rfl, hT⟩ (fun hHeld => ?_)
  refine pure_ (i := 0) (N := some 13) (v := ?_) (a' := ?_) #[T_, F_, F_, F_, F_, F_, F_, F_, F_, F_] rfl rfl (by kernel_rfl) (fun _ _ _ h => h) (Or.inl ⟨by rfl, ?_⟩) ?_ ?_
  rotate_left
  · intro w'
    go_simp
    with_reducible rfl
  rotate_left
  · simp only [Act.put, sA_, sB_, sC_, i64_w, i32_w]
    rfl
  refine take_ (i := 2) (N := some 15) (v := ?_) (a' := ?_) #[T_, F_, T_, F_, F_, F_, F_, F_, F_, F_] rfl rfl (by kernel_rfl) (fun _ _ _ h => h) (Or.inl ⟨by rfl, ?_⟩) hHeld ?_ ?_
  rotate_left
  · rintro w' ⟨s0, s1, s2, s3, s4, s5⟩
    go_simp
    with_reducible rfl
  rotate_left
  · simp only [Act.put, sA_, sB_, sC_, i64_w, i32_w]
    rfl
  refine one_ (i := 1) (N := some 14) #[T_, T_, T_, F_, F_, F_, F_, F_, F_, F_] rfl rfl (by kernel_rfl) (by decide) (fun K hK => ?_)
  refine call_ (N := some 14) 142 #[.agg #[.int .i64 c, .int .i64 d]] (by rfl) rfl ?_ ?_
  · first | (go_simp; done) | (go_simp; rfl)
  refine (src1 c d _).mono ?_
  rintro e w3 ⟨rfl, hb⟩
  refine ⟨_, rfl, ?_⟩
  have hb1 := Tp.below hHeld.2.2.2.2.2 hb
  refine hK.out _ _ ⟨(kC_ hb1.h1 0).trans rfl, (kC_ hb1.h1 1).trans rfl, (kC_ hb1.h1 2).trans rfl, (kC_ hb1.h1 3).trans rfl, (kC_ hb1.h1 4).trans rfl, hb1⟩ (fun hHeld => ?_)
  clear hK K
  refine norm_ (a' := ?_) ?_ ?_
  rotate_left
  · show Act.put _ (some 14) _ = _
    simp only [Act.put, sA_, sB_, sC_, i64_w, i32_w]
    rfl
  refine pure_ (i := 3) (N := some 16) (v := ?_) (a' := ?_) #[T_, T_, T_, T_, F_, F_, F_, F_, F_, F_] rfl rfl (by kernel_rfl) (fun _ _ _ h => h) (Or.inl ⟨by rfl, ?_⟩) ?_ ?_
  rotate_left
  · intro w'
    go_simp
    with_reducible rfl
  rotate_left
  · simp only [Act.put, sA_, sB_, sC_, i64_w, i32_w]
    rfl
  refine pure_ (i := 4) (N := some 17) (v := ?_) (a' := ?_) #[T_, T_, T_, T_, T_, F_, F_, F_, F_, F_] rfl rfl (by kernel_rfl) (fun _ _ _ h => h) (Or.inl ⟨by rfl, ?_⟩) ?_ ?_
  rotate_left
  · intro w'
    go_simp
    with_reducible rfl
  rotate_left
  · simp only [Act.put, sA_, sB_, sC_, i64_w, i32_w]
    rfl
  refine pure_ (i := 5) (N := some 18) (v := undef) (a' := ?_) #[T_, T_, T_, T_, T_, T_, F_, F_, F_, F_] rfl rfl (by kernel_rfl) (fun _ _ _ h => h) (Or.inr ⟨by rfl, rfl⟩) ?_ ?_
  rotate_left
  · simp only [Act.put, sA_, sB_, sC_, i64_w, i32_w]
    rfl
  refine pure_ (i := 6) (N := some 19) (v := undef) (a' := ?_) #[T_, T_, T_, T_, T_, T_, T_, F_, F_, F_] rfl rfl (by kernel_rfl) (fun _ _ _ h => h) (Or.inr ⟨by rfl, rfl⟩) ?_ ?_
  rotate_left
  · simp only [Act.put, sA_, sB_, sC_, i64_w, i32_w]
    rfl
  refine pure_ (i := 7) (N := some 20) (v := undef) (a' := ?_) #[T_, T_, T_, T_, T_, T_, T_, T_, F_, F_] rfl rfl (by kernel_rfl) (fun _ _ _ h => h) (Or.inr ⟨by rfl, rfl⟩) ?_ ?_
  rotate_left
  · simp only [Act.put, sA_, sB_, sC_, i64_w, i32_w]
    rfl
  refine pure_ (i := 8) (N := some 21) (v := ?_) (a' := ?_) #[T_, T_, T_, T_, T_, T_, T_, T_, T_, F_] rfl rfl (by kernel_rfl) (fun _ _ _ h => h) (Or.inl ⟨by rfl, ?_⟩) ?_ ?_
  rotate_left
  · intro w'
    go_simp
    with_reducible rfl
  rotate_left
  · simp only [Act.put, sA_, sB_, sC_, i64_w, i32_w]
    rfl
  refine pure_ (i := 9) (N := some 4) (v := ?_) (a' := ?_) #[T_, T_, T_, T_, T_, T_, T_, T_, T_, T_] rfl rfl (by kernel_rfl) (fun _ _ _ h => h) (Or.inl ⟨by rfl, ?_⟩) ?_ ?_
  rotate_left
  · intro w'
    go_simp
    with_reducible rfl
  rotate_left
  · simp only [Act.put, sA_, sB_, sC_, i64_w, i32_w]
    rfl
  refine done_ (by kernel_rfl) ?_
  have hB := Tp.bel hHeld.2.2.2.2.2
  clear hHeld
  go_wp2
  go_ret
  exact ⟨rfl, hB⟩
set_option maxRecDepth 100000 in
set_option maxHeartbeats 3200000 in
theorem src_ok2_true (t c d n : Int) (b : Bool) (w : World) (hq : ((0 : Int) == c && (0 : Int) == d) = true) : Calls Tryz.prog 81 #[.agg #[.int .i64 2, .int .i64 t, .int .i64 c, .int .i64 d, .bool b], .int .i64 n] w fun e w' => e = .returned (.bool (inB t n)) ∧ Below w.heap.size w w' := by
  have hu46 := Tryz.underlying41
  have hu44 := Tryz.underlying39
  have hrd := fun W => reading2 t c d b W
  have hms := m_src2
  have hmo := m_ok2
  have hok := fun W => ok2 t n W
  generalize inB t n = rr at hok ⊢
  have q1 := heap_alloc_new w (.cells #[.int .i64 2, .int .i64 t, .int .i64 c, .int .i64 d, .bool b] 41)
  have hB := al w (.cells #[.int .i64 2, .int .i64 t, .int .i64 c, .int .i64 d, .bool b] 41)
  go_enter Tryz.func81, Tryz.ntmps81
  go_wp2_with fail
  refine (hrd _).mono ?_
  rintro e w2 ⟨rfl, hb⟩
  replace q1 := blk_below q1 hb
  replace hB := hB.trans (hb.mono hB.size)
  clear hrd hb
  obtain ⟨g1, hg1⟩ : ∃ g, w.heap.size = g := ⟨_, rfl⟩
  rw [hg1] at q1
  try rw [hg1]
  clear hg1
  (obtain ⟨i0, i1, i2, i3, i4⟩ := cells5 q1)
  go_upto_region 5 with (fail)
  have hT : Tp w w2.heap.size #[.int .i64 2, .int .i64 t, .int .i64 c, .int .i64 d, .bool b] (w2.alloc (.cells #[.int .i64 2, .int .i64 t, .int .i64 c, .int .i64 d, .bool b] 41)) := ⟨heap_alloc_new _ _, hB.trans ((al w2 _).mono hB.size)⟩
  clear q1 i0 i1 i2 i3 i4
  have hsz := hB.size
  generalize w2.alloc (Obj.cells _ 41) = w3 at hT ⊢
  obtain ⟨g6, hg6⟩ : ∃ g, w2.heap.size = g := ⟨_, rfl⟩
  rw [hg6] at hT hsz ⊢
  clear hg6 hB
  have i4 : w3.cell? ⟨g6, 4, none⟩ = some (.bool b) := (kC_ hT.h1 4).trans rfl
  have f4 : w3.frozen? ⟨g6, 4, none⟩ = false := blk_frozen hT.h1 4
  go_upto_region 6 with (fail)
  have hT2 : Tp w g6 #[.int .i64 2, .int .i64 t, .int .i64 c, .int .i64 d, .bool false] (w3.setCell ⟨g6, 4, none⟩ (.bool false)).drew := Tp.below ⟨blk_put hT.h1 4 _ rfl, bS_ hT.bel hsz⟩ (b1_ (Below.refl _ _))
  clear hT i4 f4
  have hT := hT2
  clear hT2
  refine start_ (n := 10) (S := fun w' => w'.cell? ⟨g6, 0, none⟩ = some (.int .i64 2) ∧ w'.cell? ⟨g6, 1, none⟩ = some (.int .i64 t) ∧ w'.cell? ⟨g6, 2, none⟩ = some (.int .i64 c) ∧ w'.cell? ⟨g6, 3, none⟩ = some (.int .i64 d) ∧ w'.cell? ⟨g6, 4, none⟩ = some (.bool false) ∧ Tp w g6 #[.int .i64 2, .int .i64 t, .int .i64 c, .int .i64 d, .bool false] w') (ds := []) #[F_, F_, F_, F_, F_, F_, F_, F_, F_, F_] (by kernel_rfl) rfl rfl ⟨(kC_ hT.h1 0).trans rfl, (kC_ hT.h1 1).trans rfl, (kC_ hT.h1 2).trans rfl, (kC_ hT.h1 3).trans rfl, (kC_ hT.h1 4).trans rfl, hT⟩ (fun hHeld => ?_)
  refine pure_ (i := 0) (N := some 13) (v := ?_) (a' := ?_) #[T_, F_, F_, F_, F_, F_, F_, F_, F_, F_] rfl rfl (by kernel_rfl) (fun _ _ _ h => h) (Or.inl ⟨by rfl, ?_⟩) ?_ ?_
  rotate_left
  · intro w'
    go_simp
    with_reducible rfl
  rotate_left
  · simp only [Act.put, sA_, sB_, sC_, i64_w, i32_w]
    rfl
  refine take_ (i := 2) (N := some 15) (v := ?_) (a' := ?_) #[T_, F_, T_, F_, F_, F_, F_, F_, F_, F_] rfl rfl (by kernel_rfl) (fun _ _ _ h => h) (Or.inl ⟨by rfl, ?_⟩) hHeld ?_ ?_
  rotate_left
  · rintro w' ⟨s0, s1, s2, s3, s4, s5⟩
    go_simp
    with_reducible rfl
  rotate_left
  · simp only [Act.put, sA_, sB_, sC_, i64_w, i32_w]
    rfl
  refine one_ (i := 1) (N := some 14) #[T_, T_, T_, F_, F_, F_, F_, F_, F_, F_] rfl rfl (by kernel_rfl) (by decide) (fun K hK => ?_)
  refine call_ (N := some 14) 146 #[.agg #[.int .i64 t]] (by rfl) rfl ?_ ?_
  · first | (go_simp; done) | (go_simp; rfl)
  refine (src2 t _).mono ?_
  rintro e w3 ⟨rfl, hb⟩
  refine ⟨_, rfl, ?_⟩
  have hb1 := Tp.below hHeld.2.2.2.2.2 hb
  refine hK.out _ _ ⟨(kC_ hb1.h1 0).trans rfl, (kC_ hb1.h1 1).trans rfl, (kC_ hb1.h1 2).trans rfl, (kC_ hb1.h1 3).trans rfl, (kC_ hb1.h1 4).trans rfl, hb1⟩ (fun hHeld => ?_)
  clear hK K
  refine norm_ (a' := ?_) ?_ ?_
  rotate_left
  · show Act.put _ (some 14) _ = _
    simp only [Act.put, sA_, sB_, sC_, i64_w, i32_w]
    rfl
  refine pure_ (i := 3) (N := some 16) (v := ?_) (a' := ?_) #[T_, T_, T_, T_, F_, F_, F_, F_, F_, F_] rfl rfl (by kernel_rfl) (fun _ _ _ h => h) (Or.inl ⟨by rfl, ?_⟩) ?_ ?_
  rotate_left
  · intro w'
    go_simp
    with_reducible rfl
  rotate_left
  · simp only [Act.put, sA_, sB_, sC_, i64_w, i32_w]
    rfl
  refine pure_ (i := 4) (N := some 17) (v := ?_) (a' := ?_) #[T_, T_, T_, T_, T_, F_, F_, F_, F_, F_] rfl rfl (by kernel_rfl) (fun _ _ _ h => h) (Or.inl ⟨by rfl, ?_⟩) ?_ ?_
  rotate_left
  · intro w'
    go_simp
    with_reducible rfl
  rotate_left
  · simp only [Act.put, sA_, sB_, sC_, i64_w, i32_w]
    rfl
  refine pure_ (i := 5) (N := some 18) (v := ?_) (a' := ?_) #[T_, T_, T_, T_, T_, T_, F_, F_, F_, F_] rfl rfl (by kernel_rfl) (fun _ _ _ h => h) (Or.inl ⟨by rfl, ?_⟩) ?_ ?_
  rotate_left
  · intro w'
    go_simp
    with_reducible rfl
  rotate_left
  · simp only [Act.put, sA_, sB_, sC_, i64_w, i32_w]
    rfl
  refine pure_ (i := 6) (N := some 19) (v := ?_) (a' := ?_) #[T_, T_, T_, T_, T_, T_, T_, F_, F_, F_] rfl rfl (by kernel_rfl) (fun _ _ _ h => h) (Or.inl ⟨by rfl, ?_⟩) ?_ ?_
  rotate_left
  · intro w'
    go_simp
    with_reducible rfl
  rotate_left
  · simp only [Act.put, sA_, sB_, sC_, i64_w, i32_w]
    rfl
  refine one_ (i := 7) (N := some 20) #[T_, T_, T_, T_, T_, T_, T_, T_, F_, F_] rfl rfl (by kernel_rfl) (by decide) (fun K hK => ?_)
  refine call_ (N := some 20) 144 #[.agg #[.int .i64 t], .int .i64 n] (by rfl) rfl ?_ ?_
  · first | (go_simp; done) | (go_simp; rfl)
  refine (hok _).mono ?_
  rintro e w4 ⟨rfl, hb⟩
  refine ⟨_, rfl, ?_⟩
  have hb2 := Tp.below hHeld.2.2.2.2.2 hb
  refine hK.out _ _ ⟨(kC_ hb2.h1 0).trans rfl, (kC_ hb2.h1 1).trans rfl, (kC_ hb2.h1 2).trans rfl, (kC_ hb2.h1 3).trans rfl, (kC_ hb2.h1 4).trans rfl, hb2⟩ (fun hHeld => ?_)
  clear hK K
  refine norm_ (a' := ?_) ?_ ?_
  rotate_left
  · show Act.put _ (some 20) _ = _
    simp only [Act.put, sA_, sB_, sC_, i64_w, i32_w]
    rfl
  refine pure_ (i := 8) (N := some 21) (v := ?_) (a' := ?_) #[T_, T_, T_, T_, T_, T_, T_, T_, T_, F_] rfl rfl (by kernel_rfl) (fun _ _ _ h => h) (Or.inl ⟨by rfl, ?_⟩) ?_ ?_
  rotate_left
  · intro w'
    go_simp
    with_reducible rfl
  rotate_left
  · simp only [Act.put, sA_, sB_, sC_, i64_w, i32_w]
    rfl
  refine pure_ (i := 9) (N := some 4) (v := ?_) (a' := ?_) #[T_, T_, T_, T_, T_, T_, T_, T_, T_, T_] rfl rfl (by kernel_rfl) (fun _ _ _ h => h) (Or.inl ⟨by rfl, ?_⟩) ?_ ?_
  rotate_left
  · intro w'
    go_simp
    with_reducible rfl
  rotate_left
  · simp only [Act.put, sA_, sB_, sC_, i64_w, i32_w]
    rfl
  refine done_ (by kernel_rfl) ?_
  have hB := Tp.bel hHeld.2.2.2.2.2
  clear hHeld
  go_wp2
  go_ret
  exact ⟨rfl, hB⟩
set_option maxRecDepth 100000 in
set_option maxHeartbeats 3200000 in
theorem src_ok2_false (t c d n : Int) (b : Bool) (w : World) (hq : ((0 : Int) == c && (0 : Int) == d) = false) : Calls Tryz.prog 81 #[.agg #[.int .i64 2, .int .i64 t, .int .i64 c, .int .i64 d, .bool b], .int .i64 n] w fun e w' => e = .returned (.bool (false)) ∧ Below w.heap.size w w' := by
  have hu46 := Tryz.underlying41
  have hu44 := Tryz.underlying39
  have hrd := fun W => reading2 t c d b W
  have hms := m_src2
  have hmo := m_ok2
  have hx : True := trivial
  have q1 := heap_alloc_new w (.cells #[.int .i64 2, .int .i64 t, .int .i64 c, .int .i64 d, .bool b] 41)
  have hB := al w (.cells #[.int .i64 2, .int .i64 t, .int .i64 c, .int .i64 d, .bool b] 41)
  go_enter Tryz.func81, Tryz.ntmps81
  go_wp2_with fail
  refine (hrd _).mono ?_
  rintro e w2 ⟨rfl, hb⟩
  replace q1 := blk_below q1 hb
  replace hB := hB.trans (hb.mono hB.size)
  clear hrd hb
  obtain ⟨g1, hg1⟩ : ∃ g, w.heap.size = g := ⟨_, rfl⟩
  rw [hg1] at q1
  try rw [hg1]
  clear hg1
  (obtain ⟨i0, i1, i2, i3, i4⟩ := cells5 q1)
  go_upto_region 5 with (fail)
  have hT : Tp w w2.heap.size #[.int .i64 2, .int .i64 t, .int .i64 c, .int .i64 d, .bool b] (w2.alloc (.cells #[.int .i64 2, .int .i64 t, .int .i64 c, .int .i64 d, .bool b] 41)) := ⟨heap_alloc_new _ _, hB.trans ((al w2 _).mono hB.size)⟩
  clear q1 i0 i1 i2 i3 i4
  have hsz := hB.size
  generalize w2.alloc (Obj.cells _ 41) = w3 at hT ⊢
  obtain ⟨g6, hg6⟩ : ∃ g, w2.heap.size = g := ⟨_, rfl⟩
  rw [hg6] at hT hsz ⊢
  clear hg6 hB
  have i4 : w3.cell? ⟨g6, 4, none⟩ = some (.bool b) := (kC_ hT.h1 4).trans rfl
  have f4 : w3.frozen? ⟨g6, 4, none⟩ = false := blk_frozen hT.h1 4
  go_upto_region 6 with (fail)
  have hT2 : Tp w g6 #[.int .i64 2, .int .i64 t, .int .i64 c, .int .i64 d, .bool false] (w3.setCell ⟨g6, 4, none⟩ (.bool false)).drew := Tp.below ⟨blk_put hT.h1 4 _ rfl, bS_ hT.bel hsz⟩ (b1_ (Below.refl _ _))
  clear hT i4 f4
  have hT := hT2
  clear hT2
  refine start_ (n := 10) (S := fun w' => w'.cell? ⟨g6, 0, none⟩ = some (.int .i64 2) ∧ w'.cell? ⟨g6, 1, none⟩ = some (.int .i64 t) ∧ w'.cell? ⟨g6, 2, none⟩ = some (.int .i64 c) ∧ w'.cell? ⟨g6, 3, none⟩ = some (.int .i64 d) ∧ w'.cell? ⟨g6, 4, none⟩ = some (.bool false) ∧ Tp w g6 #[.int .i64 2, .int .i64 t, .int .i64 c, .int .i64 d, .bool false] w') (ds := []) #[F_, F_, F_, F_, F_, F_, F_, F_, F_, F_] (by kernel_rfl) rfl rfl ⟨(kC_ hT.h1 0).trans rfl, (kC_ hT.h1 1).trans rfl, (kC_ hT.h1 2).trans rfl, (kC_ hT.h1 3).trans rfl, (kC_ hT.h1 4).trans rfl, hT⟩ (fun hHeld => ?_)
  refine pure_ (i := 0) (N := some 13) (v := ?_) (a' := ?_) #[T_, F_, F_, F_, F_, F_, F_, F_, F_, F_] rfl rfl (by kernel_rfl) (fun _ _ _ h => h) (Or.inl ⟨by rfl, ?_⟩) ?_ ?_
  rotate_left
  · intro w'
    go_simp
    with_reducible rfl
  rotate_left
  · simp only [Act.put, sA_, sB_, sC_, i64_w, i32_w]
    rfl
  refine take_ (i := 2) (N := some 15) (v := ?_) (a' := ?_) #[T_, F_, T_, F_, F_, F_, F_, F_, F_, F_] rfl rfl (by kernel_rfl) (fun _ _ _ h => h) (Or.inl ⟨by rfl, ?_⟩) hHeld ?_ ?_
  rotate_left
  · rintro w' ⟨s0, s1, s2, s3, s4, s5⟩
    go_simp
    with_reducible rfl
  rotate_left
  · simp only [Act.put, sA_, sB_, sC_, i64_w, i32_w]
    rfl
  refine one_ (i := 1) (N := some 14) #[T_, T_, T_, F_, F_, F_, F_, F_, F_, F_] rfl rfl (by kernel_rfl) (by decide) (fun K hK => ?_)
  refine call_ (N := some 14) 146 #[.agg #[.int .i64 t]] (by rfl) rfl ?_ ?_
  · first | (go_simp; done) | (go_simp; rfl)
  refine (src2 t _).mono ?_
  rintro e w3 ⟨rfl, hb⟩
  refine ⟨_, rfl, ?_⟩
  have hb1 := Tp.below hHeld.2.2.2.2.2 hb
  refine hK.out _ _ ⟨(kC_ hb1.h1 0).trans rfl, (kC_ hb1.h1 1).trans rfl, (kC_ hb1.h1 2).trans rfl, (kC_ hb1.h1 3).trans rfl, (kC_ hb1.h1 4).trans rfl, hb1⟩ (fun hHeld => ?_)
  clear hK K
  refine norm_ (a' := ?_) ?_ ?_
  rotate_left
  · show Act.put _ (some 14) _ = _
    simp only [Act.put, sA_, sB_, sC_, i64_w, i32_w]
    rfl
  refine pure_ (i := 3) (N := some 16) (v := ?_) (a' := ?_) #[T_, T_, T_, T_, F_, F_, F_, F_, F_, F_] rfl rfl (by kernel_rfl) (fun _ _ _ h => h) (Or.inl ⟨by rfl, ?_⟩) ?_ ?_
  rotate_left
  · intro w'
    go_simp
    with_reducible rfl
  rotate_left
  · simp only [Act.put, sA_, sB_, sC_, i64_w, i32_w]
    rfl
  refine pure_ (i := 4) (N := some 17) (v := ?_) (a' := ?_) #[T_, T_, T_, T_, T_, F_, F_, F_, F_, F_] rfl rfl (by kernel_rfl) (fun _ _ _ h => h) (Or.inl ⟨by rfl, ?_⟩) ?_ ?_
  rotate_left
  · intro w'
    go_simp
    with_reducible rfl
  rotate_left
  · simp only [Act.put, sA_, sB_, sC_, i64_w, i32_w]
    rfl
  refine pure_ (i := 5) (N := some 18) (v := undef) (a' := ?_) #[T_, T_, T_, T_, T_, T_, F_, F_, F_, F_] rfl rfl (by kernel_rfl) (fun _ _ _ h => h) (Or.inr ⟨by rfl, rfl⟩) ?_ ?_
  rotate_left
  · simp only [Act.put, sA_, sB_, sC_, i64_w, i32_w]
    rfl
  refine pure_ (i := 6) (N := some 19) (v := undef) (a' := ?_) #[T_, T_, T_, T_, T_, T_, T_, F_, F_, F_] rfl rfl (by kernel_rfl) (fun _ _ _ h => h) (Or.inr ⟨by rfl, rfl⟩) ?_ ?_
  rotate_left
  · simp only [Act.put, sA_, sB_, sC_, i64_w, i32_w]
    rfl
  refine pure_ (i := 7) (N := some 20) (v := undef) (a' := ?_) #[T_, T_, T_, T_, T_, T_, T_, T_, F_, F_] rfl rfl (by kernel_rfl) (fun _ _ _ h => h) (Or.inr ⟨by rfl, rfl⟩) ?_ ?_
  rotate_left
  · simp only [Act.put, sA_, sB_, sC_, i64_w, i32_w]
    rfl
  refine pure_ (i := 8) (N := some 21) (v := ?_) (a' := ?_) #[T_, T_, T_, T_, T_, T_, T_, T_, T_, F_] rfl rfl (by kernel_rfl) (fun _ _ _ h => h) (Or.inl ⟨by rfl, ?_⟩) ?_ ?_
  rotate_left
  · intro w'
    go_simp
    with_reducible rfl
  rotate_left
  · simp only [Act.put, sA_, sB_, sC_, i64_w, i32_w]
    rfl
  refine pure_ (i := 9) (N := some 4) (v := ?_) (a' := ?_) #[T_, T_, T_, T_, T_, T_, T_, T_, T_, T_] rfl rfl (by kernel_rfl) (fun _ _ _ h => h) (Or.inl ⟨by rfl, ?_⟩) ?_ ?_
  rotate_left
  · intro w'
    go_simp
    with_reducible rfl
  rotate_left
  · simp only [Act.put, sA_, sB_, sC_, i64_w, i32_w]
    rfl
  refine done_ (by kernel_rfl) ?_
  have hB := Tp.bel hHeld.2.2.2.2.2
  clear hHeld
  go_wp2
  go_ret
  exact ⟨rfl, hB⟩
set_option maxRecDepth 100000 in
set_option maxHeartbeats 3200000 in
theorem src_ok3_true (t c d n : Int) (b : Bool) (w : World) (hq : ((0 : Int) == c && (0 : Int) == d) = true) : Calls Tryz.prog 81 #[.agg #[.int .i64 3, .int .i64 t, .int .i64 c, .int .i64 d, .bool b], .int .i64 n] w fun e w' => e = .returned (.bool (inB t n)) ∧ Below w.heap.size w w' := by
  have hu46 := Tryz.underlying41
  have hu44 := Tryz.underlying39
  have hrd := fun W => reading3 t c d b W
  have hms := m_src3
  have hmo := m_ok3
  have hok := fun W => ok3 t n W
  generalize inB t n = rr at hok ⊢
  have q1 := heap_alloc_new w (.cells #[.int .i64 3, .int .i64 t, .int .i64 c, .int .i64 d, .bool b] 41)
  have hB := al w (.cells #[.int .i64 3, .int .i64 t, .int .i64 c, .int .i64 d, .bool b] 41)
  go_enter Tryz.func81, Tryz.ntmps81
  go_wp2_with fail
  refine (hrd _).mono ?_
  rintro e w2 ⟨rfl, hb⟩
  replace q1 := blk_below q1 hb
  replace hB := hB.trans (hb.mono hB.size)
  clear hrd hb
  obtain ⟨g1, hg1⟩ : ∃ g, w.heap.size = g := ⟨_, rfl⟩
  rw [hg1] at q1
  try rw [hg1]
  clear hg1
  (obtain ⟨i0, i1, i2, i3, i4⟩ := cells5 q1)
  go_upto_region 5 with (fail)
  have hT : Tp w w2.heap.size #[.int .i64 3, .int .i64 t, .int .i64 c, .int .i64 d, .bool b] (w2.alloc (.cells #[.int .i64 3, .int .i64 t, .int .i64 c, .int .i64 d, .bool b] 41)) := ⟨heap_alloc_new _ _, hB.trans ((al w2 _).mono hB.size)⟩
  clear q1 i0 i1 i2 i3 i4
  have hsz := hB.size
  generalize w2.alloc (Obj.cells _ 41) = w3 at hT ⊢
  obtain ⟨g6, hg6⟩ : ∃ g, w2.heap.size = g := ⟨_, rfl⟩
  rw [hg6] at hT hsz ⊢
  clear hg6 hB
  have i4 : w3.cell? ⟨g6, 4, none⟩ = some (.bool b) := (kC_ hT.h1 4).trans rfl
  have f4 : w3.frozen? ⟨g6, 4, none⟩ = false := blk_frozen hT.h1 4
  go_upto_region 6 with (fail)
  have hT2 : Tp w g6 #[.int .i64 3, .int .i64 t, .int .i64 c, .int .i64 d, .bool false] (w3.setCell ⟨g6, 4, none⟩ (.bool false)).drew := Tp.below ⟨blk_put hT.h1 4 _ rfl, bS_ hT.bel hsz⟩ (b1_ (Below.refl _ _))
  clear hT i4 f4
  have hT := hT2
  clear hT2
  refine start_ (n := 10) (S := fun w' => w'.cell? ⟨g6, 0, none⟩ = some (.int .i64 3) ∧ w'.cell? ⟨g6, 1, none⟩ = some (.int .i64 t) ∧ w'.cell? ⟨g6, 2, none⟩ = some (.int .i64 c) ∧ w'.cell? ⟨g6, 3, none⟩ = some (.int .i64 d) ∧ w'.cell? ⟨g6, 4, none⟩ = some (.bool false) ∧ Tp w g6 #[.int .i64 3, .int .i64 t, .int .i64 c, .int .i64 d, .bool false] w') (ds := []) #[F_, F_, F_, F_, F_, F_, F_, F_, F_, F_] (by kernel_rfl) rfl rfl ⟨(kC_ hT.h1 0).trans rfl, (kC_ hT.h1 1).trans rfl, (kC_ hT.h1 2).trans rfl, (kC_ hT.h1 3).trans rfl, (kC_ hT.h1 4).trans rfl, hT⟩ (fun hHeld => ?_)
  refine pure_ (i := 0) (N := some 13) (v := ?_) (a' := ?_) #[T_, F_, F_, F_, F_, F_, F_, F_, F_, F_] rfl rfl (by kernel_rfl) (fun _ _ _ h => h) (Or.inl ⟨by rfl, ?_⟩) ?_ ?_
  rotate_left
  · intro w'
    go_simp
    with_reducible rfl
  rotate_left
  · simp only [Act.put, sA_, sB_, sC_, i64_w, i32_w]
    rfl
  refine take_ (i := 2) (N := some 15) (v := ?_) (a' := ?_) #[T_, F_, T_, F_, F_, F_, F_, F_, F_, F_] rfl rfl (by kernel_rfl) (fun _ _ _ h => h) (Or.inl ⟨by rfl, ?_⟩) hHeld ?_ ?_
  rotate_left
  · rintro w' ⟨s0, s1, s2, s3, s4, s5⟩
    go_simp
    with_reducible rfl
  rotate_left
  · simp only [Act.put, sA_, sB_, sC_, i64_w, i32_w]
    rfl
  refine one_ (i := 1) (N := some 14) #[T_, T_, T_, F_, F_, F_, F_, F_, F_, F_] rfl rfl (by kernel_rfl) (by decide) (fun K hK => ?_)
  refine call_ (N := some 14) 150 #[.agg #[.int .i64 t]] (by rfl) rfl ?_ ?_
  · first | (go_simp; done) | (go_simp; rfl)
  refine (src3 t _).mono ?_
  rintro e w3 ⟨rfl, hb⟩
  refine ⟨_, rfl, ?_⟩
  have hb1 := Tp.below hHeld.2.2.2.2.2 hb
  refine hK.out _ _ ⟨(kC_ hb1.h1 0).trans rfl, (kC_ hb1.h1 1).trans rfl, (kC_ hb1.h1 2).trans rfl, (kC_ hb1.h1 3).trans rfl, (kC_ hb1.h1 4).trans rfl, hb1⟩ (fun hHeld => ?_)
  clear hK K
  refine norm_ (a' := ?_) ?_ ?_
  rotate_left
  · show Act.put _ (some 14) _ = _
    simp only [Act.put, sA_, sB_, sC_, i64_w, i32_w]
    rfl
  refine pure_ (i := 3) (N := some 16) (v := ?_) (a' := ?_) #[T_, T_, T_, T_, F_, F_, F_, F_, F_, F_] rfl rfl (by kernel_rfl) (fun _ _ _ h => h) (Or.inl ⟨by rfl, ?_⟩) ?_ ?_
  rotate_left
  · intro w'
    go_simp
    with_reducible rfl
  rotate_left
  · simp only [Act.put, sA_, sB_, sC_, i64_w, i32_w]
    rfl
  refine pure_ (i := 4) (N := some 17) (v := ?_) (a' := ?_) #[T_, T_, T_, T_, T_, F_, F_, F_, F_, F_] rfl rfl (by kernel_rfl) (fun _ _ _ h => h) (Or.inl ⟨by rfl, ?_⟩) ?_ ?_
  rotate_left
  · intro w'
    go_simp
    with_reducible rfl
  rotate_left
  · simp only [Act.put, sA_, sB_, sC_, i64_w, i32_w]
    rfl
  refine pure_ (i := 5) (N := some 18) (v := ?_) (a' := ?_) #[T_, T_, T_, T_, T_, T_, F_, F_, F_, F_] rfl rfl (by kernel_rfl) (fun _ _ _ h => h) (Or.inl ⟨by rfl, ?_⟩) ?_ ?_
  rotate_left
  · intro w'
    go_simp
    with_reducible rfl
  rotate_left
  · simp only [Act.put, sA_, sB_, sC_, i64_w, i32_w]
    rfl
  refine pure_ (i := 6) (N := some 19) (v := ?_) (a' := ?_) #[T_, T_, T_, T_, T_, T_, T_, F_, F_, F_] rfl rfl (by kernel_rfl) (fun _ _ _ h => h) (Or.inl ⟨by rfl, ?_⟩) ?_ ?_
  rotate_left
  · intro w'
    go_simp
    with_reducible rfl
  rotate_left
  · simp only [Act.put, sA_, sB_, sC_, i64_w, i32_w]
    rfl
  refine one_ (i := 7) (N := some 20) #[T_, T_, T_, T_, T_, T_, T_, T_, F_, F_] rfl rfl (by kernel_rfl) (by decide) (fun K hK => ?_)
  refine call_ (N := some 20) 148 #[.agg #[.int .i64 t], .int .i64 n] (by rfl) rfl ?_ ?_
  · first | (go_simp; done) | (go_simp; rfl)
  refine (hok _).mono ?_
  rintro e w4 ⟨rfl, hb⟩
  refine ⟨_, rfl, ?_⟩
  have hb2 := Tp.below hHeld.2.2.2.2.2 hb
  refine hK.out _ _ ⟨(kC_ hb2.h1 0).trans rfl, (kC_ hb2.h1 1).trans rfl, (kC_ hb2.h1 2).trans rfl, (kC_ hb2.h1 3).trans rfl, (kC_ hb2.h1 4).trans rfl, hb2⟩ (fun hHeld => ?_)
  clear hK K
  refine norm_ (a' := ?_) ?_ ?_
  rotate_left
  · show Act.put _ (some 20) _ = _
    simp only [Act.put, sA_, sB_, sC_, i64_w, i32_w]
    rfl
  refine pure_ (i := 8) (N := some 21) (v := ?_) (a' := ?_) #[T_, T_, T_, T_, T_, T_, T_, T_, T_, F_] rfl rfl (by kernel_rfl) (fun _ _ _ h => h) (Or.inl ⟨by rfl, ?_⟩) ?_ ?_
  rotate_left
  · intro w'
    go_simp
    with_reducible rfl
  rotate_left
  · simp only [Act.put, sA_, sB_, sC_, i64_w, i32_w]
    rfl
  refine pure_ (i := 9) (N := some 4) (v := ?_) (a' := ?_) #[T_, T_, T_, T_, T_, T_, T_, T_, T_, T_] rfl rfl (by kernel_rfl) (fun _ _ _ h => h) (Or.inl ⟨by rfl, ?_⟩) ?_ ?_
  rotate_left
  · intro w'
    go_simp
    with_reducible rfl
  rotate_left
  · simp only [Act.put, sA_, sB_, sC_, i64_w, i32_w]
    rfl
  refine done_ (by kernel_rfl) ?_
  have hB := Tp.bel hHeld.2.2.2.2.2
  clear hHeld
  go_wp2
  go_ret
  exact ⟨rfl, hB⟩
set_option maxRecDepth 100000 in
set_option maxHeartbeats 3200000 in
theorem src_ok3_false (t c d n : Int) (b : Bool) (w : World) (hq : ((0 : Int) == c && (0 : Int) == d) = false) : Calls Tryz.prog 81 #[.agg #[.int .i64 3, .int .i64 t, .int .i64 c, .int .i64 d, .bool b], .int .i64 n] w fun e w' => e = .returned (.bool (false)) ∧ Below w.heap.size w w' := by
  have hu46 := Tryz.underlying41
  have hu44 := Tryz.underlying39
  have hrd := fun W => reading3 t c d b W
  have hms := m_src3
  have hmo := m_ok3
  have hx : True := trivial
  have q1 := heap_alloc_new w (.cells #[.int .i64 3, .int .i64 t, .int .i64 c, .int .i64 d, .bool b] 41)
  have hB := al w (.cells #[.int .i64 3, .int .i64 t, .int .i64 c, .int .i64 d, .bool b] 41)
  go_enter Tryz.func81, Tryz.ntmps81
  go_wp2_with fail
  refine (hrd _).mono ?_
  rintro e w2 ⟨rfl, hb⟩
  replace q1 := blk_below q1 hb
  replace hB := hB.trans (hb.mono hB.size)
  clear hrd hb
  obtain ⟨g1, hg1⟩ : ∃ g, w.heap.size = g := ⟨_, rfl⟩
  rw [hg1] at q1
  try rw [hg1]
  clear hg1
  (obtain ⟨i0, i1, i2, i3, i4⟩ := cells5 q1)
  go_upto_region 5 with (fail)
  have hT : Tp w w2.heap.size #[.int .i64 3, .int .i64 t, .int .i64 c, .int .i64 d, .bool b] (w2.alloc (.cells #[.int .i64 3, .int .i64 t, .int .i64 c, .int .i64 d, .bool b] 41)) := ⟨heap_alloc_new _ _, hB.trans ((al w2 _).mono hB.size)⟩
  clear q1 i0 i1 i2 i3 i4
  have hsz := hB.size
  generalize w2.alloc (Obj.cells _ 41) = w3 at hT ⊢
  obtain ⟨g6, hg6⟩ : ∃ g, w2.heap.size = g := ⟨_, rfl⟩
  rw [hg6] at hT hsz ⊢
  clear hg6 hB
  have i4 : w3.cell? ⟨g6, 4, none⟩ = some (.bool b) := (kC_ hT.h1 4).trans rfl
  have f4 : w3.frozen? ⟨g6, 4, none⟩ = false := blk_frozen hT.h1 4
  go_upto_region 6 with (fail)
  have hT2 : Tp w g6 #[.int .i64 3, .int .i64 t, .int .i64 c, .int .i64 d, .bool false] (w3.setCell ⟨g6, 4, none⟩ (.bool false)).drew := Tp.below ⟨blk_put hT.h1 4 _ rfl, bS_ hT.bel hsz⟩ (b1_ (Below.refl _ _))
  clear hT i4 f4
  have hT := hT2
  clear hT2
  refine start_ (n := 10) (S := fun w' => w'.cell? ⟨g6, 0, none⟩ = some (.int .i64 3) ∧ w'.cell? ⟨g6, 1, none⟩ = some (.int .i64 t) ∧ w'.cell? ⟨g6, 2, none⟩ = some (.int .i64 c) ∧ w'.cell? ⟨g6, 3, none⟩ = some (.int .i64 d) ∧ w'.cell? ⟨g6, 4, none⟩ = some (.bool false) ∧ Tp w g6 #[.int .i64 3, .int .i64 t, .int .i64 c, .int .i64 d, .bool false] w') (ds := []) #[F_, F_, F_, F_, F_, F_, F_, F_, F_, F_] (by kernel_rfl) rfl rfl ⟨(kC_ hT.h1 0).trans rfl, (kC_ hT.h1 1).trans rfl, (kC_ hT.h1 2).trans rfl, (kC_ hT.h1 3).trans rfl, (kC_ hT.h1 4).trans rfl, hT⟩ (fun hHeld => ?_)
  refine pure_ (i := 0) (N := some 13) (v := ?_) (a' := ?_) #[T_, F_, F_, F_, F_, F_, F_, F_, F_, F_] rfl rfl (by kernel_rfl) (fun _ _ _ h => h) (Or.inl ⟨by rfl, ?_⟩) ?_ ?_
  rotate_left
  · intro w'
    go_simp
    with_reducible rfl
  rotate_left
  · simp only [Act.put, sA_, sB_, sC_, i64_w, i32_w]
    rfl
  refine take_ (i := 2) (N := some 15) (v := ?_) (a' := ?_) #[T_, F_, T_, F_, F_, F_, F_, F_, F_, F_] rfl rfl (by kernel_rfl) (fun _ _ _ h => h) (Or.inl ⟨by rfl, ?_⟩) hHeld ?_ ?_
  rotate_left
  · rintro w' ⟨s0, s1, s2, s3, s4, s5⟩
    go_simp
    with_reducible rfl
  rotate_left
  · simp only [Act.put, sA_, sB_, sC_, i64_w, i32_w]
    rfl
  refine one_ (i := 1) (N := some 14) #[T_, T_, T_, F_, F_, F_, F_, F_, F_, F_] rfl rfl (by kernel_rfl) (by decide) (fun K hK => ?_)
  refine call_ (N := some 14) 150 #[.agg #[.int .i64 t]] (by rfl) rfl ?_ ?_
  · first | (go_simp; done) | (go_simp; rfl)
  refine (src3 t _).mono ?_
  rintro e w3 ⟨rfl, hb⟩
  refine ⟨_, rfl, ?_⟩
  have hb1 := Tp.below hHeld.2.2.2.2.2 hb
  refine hK.out _ _ ⟨(kC_ hb1.h1 0).trans rfl, (kC_ hb1.h1 1).trans rfl, (kC_ hb1.h1 2).trans rfl, (kC_ hb1.h1 3).trans rfl, (kC_ hb1.h1 4).trans rfl, hb1⟩ (fun hHeld => ?_)
  clear hK K
  refine norm_ (a' := ?_) ?_ ?_
  rotate_left
  · show Act.put _ (some 14) _ = _
    simp only [Act.put, sA_, sB_, sC_, i64_w, i32_w]
    rfl
  refine pure_ (i := 3) (N := some 16) (v := ?_) (a' := ?_) #[T_, T_, T_, T_, F_, F_, F_, F_, F_, F_] rfl rfl (by kernel_rfl) (fun _ _ _ h => h) (Or.inl ⟨by rfl, ?_⟩) ?_ ?_
  rotate_left
  · intro w'
    go_simp
    with_reducible rfl
  rotate_left
  · simp only [Act.put, sA_, sB_, sC_, i64_w, i32_w]
    rfl
  refine pure_ (i := 4) (N := some 17) (v := ?_) (a' := ?_) #[T_, T_, T_, T_, T_, F_, F_, F_, F_, F_] rfl rfl (by kernel_rfl) (fun _ _ _ h => h) (Or.inl ⟨by rfl, ?_⟩) ?_ ?_
  rotate_left
  · intro w'
    go_simp
    with_reducible rfl
  rotate_left
  · simp only [Act.put, sA_, sB_, sC_, i64_w, i32_w]
    rfl
  refine pure_ (i := 5) (N := some 18) (v := undef) (a' := ?_) #[T_, T_, T_, T_, T_, T_, F_, F_, F_, F_] rfl rfl (by kernel_rfl) (fun _ _ _ h => h) (Or.inr ⟨by rfl, rfl⟩) ?_ ?_
  rotate_left
  · simp only [Act.put, sA_, sB_, sC_, i64_w, i32_w]
    rfl
  refine pure_ (i := 6) (N := some 19) (v := undef) (a' := ?_) #[T_, T_, T_, T_, T_, T_, T_, F_, F_, F_] rfl rfl (by kernel_rfl) (fun _ _ _ h => h) (Or.inr ⟨by rfl, rfl⟩) ?_ ?_
  rotate_left
  · simp only [Act.put, sA_, sB_, sC_, i64_w, i32_w]
    rfl
  refine pure_ (i := 7) (N := some 20) (v := undef) (a' := ?_) #[T_, T_, T_, T_, T_, T_, T_, T_, F_, F_] rfl rfl (by kernel_rfl) (fun _ _ _ h => h) (Or.inr ⟨by rfl, rfl⟩) ?_ ?_
  rotate_left
  · simp only [Act.put, sA_, sB_, sC_, i64_w, i32_w]
    rfl
  refine pure_ (i := 8) (N := some 21) (v := ?_) (a' := ?_) #[T_, T_, T_, T_, T_, T_, T_, T_, T_, F_] rfl rfl (by kernel_rfl) (fun _ _ _ h => h) (Or.inl ⟨by rfl, ?_⟩) ?_ ?_
  rotate_left
  · intro w'
    go_simp
    with_reducible rfl
  rotate_left
  · simp only [Act.put, sA_, sB_, sC_, i64_w, i32_w]
    rfl
  refine pure_ (i := 9) (N := some 4) (v := ?_) (a' := ?_) #[T_, T_, T_, T_, T_, T_, T_, T_, T_, T_] rfl rfl (by kernel_rfl) (fun _ _ _ h => h) (Or.inl ⟨by rfl, ?_⟩) ?_ ?_
  rotate_left
  · intro w'
    go_simp
    with_reducible rfl
  rotate_left
  · simp only [Act.put, sA_, sB_, sC_, i64_w, i32_w]
    rfl
  refine done_ (by kernel_rfl) ?_
  have hB := Tp.bel hHeld.2.2.2.2.2
  clear hHeld
  go_wp2
  go_ret
  exact ⟨rfl, hB⟩
set_option maxRecDepth 100000 in
theorem src_ok0 (a t c d n : Int) (b : Bool) (w : World) (h1 : (a == 1) = false) (h2 : (a == 2) = false) (h3 : (a == 3) = false) : Calls Tryz.prog 81 #[.agg #[.int .i64 a, .int .i64 t, .int .i64 c, .int .i64 d, .bool b], .int .i64 n] w fun e w' => e = .returned (.bool false) ∧ Below w.heap.size w w' := by
  have hu46 := Tryz.underlying41
  have hu44 := Tryz.underlying39
  have hrd := fun W => reading0 a t c d b W h1 h2 h3
  have hB := al w (.cells #[.int .i64 a, .int .i64 t, .int .i64 c, .int .i64 d, .bool b] 41)
  go_enter Tryz.func81, Tryz.ntmps81
  go_wp2_with fail
  refine (hrd _).mono ?_
  rintro e w2 ⟨rfl, hb⟩
  replace hB := hB.trans (hb.mono hB.size)
  clear hrd hb
  go_wp2
  go_ret
  exact ⟨rfl, hB⟩
theorem bz (t : Int) : (t == 0) = ((0 : Int) == t) := by rw [Bool.eq_iff_iff, beq_iff_eq, beq_iff_eq]; exact eq_comm
theorem src_ok (a t c d n : Int) (b : Bool) (w : World) : Calls Tryz.prog 81 #[.agg #[.int .i64 a, .int .i64 t, .int .i64 c, .int .i64 d, .bool b], .int .i64 n] w fun e w' => e = .returned (.bool (sOk a t c d n)) ∧ Below w.heap.size w w' := by
  unfold sOk
  by_cases h1 : a = 1
  · subst h1
    rw [if_pos rfl, bz t]
    cases hq : (0 : Int) == t with
    | true => exact src_ok1_true t c d n b w hq
    | false => exact src_ok1_false t c d n b w hq
  by_cases h2 : a = 2
  · subst h2
    rw [if_neg (by omega), if_pos (.inl rfl), bz c, bz d]
    cases hq : ((0 : Int) == c && (0 : Int) == d) with
    | true => exact src_ok2_true t c d n b w hq
    | false => exact src_ok2_false t c d n b w hq
  by_cases h3 : a = 3
  · subst h3
    rw [if_neg (by omega), if_pos (.inr rfl), bz c, bz d]
    cases hq : ((0 : Int) == c && (0 : Int) == d) with
    | true => exact src_ok3_true t c d n b w hq
    | false => exact src_ok3_false t c d n b w hq
  rw [if_neg h1, if_neg (by omega)]
  exact src_ok0 a t c d n b w (by simpa using h1) (by simpa using h2) (by simpa using h3)
end Go.Proofs.YtphblfmjdiigkaaGreatDoor.Hu2
namespace Go.Proofs.YtphblfmjdiigkaaGreatDoor.Hu3
open Go.RowKit Go.Proofs.YtphblfmjdiigkaaGreatDoor.Hu2 Go.Proofs.YtphblfmjdiigkaaGreatDoor.Hu1 Go.Proofs.YtphblfmjdiigkaaGreatDoor.HFnNetSame Go.Proofs.YtphblfmjdiigkaaGreatDoorW.PrintWords Go.Proofs.YtphblfmjdiigkaaGreatDoorW.PrintLast Go.Proofs.YtphblfmjdiigkaaGreatDoorW.PrintMore
set_option linter.unusedVariables false
set_option linter.unusedSimpArgs false
attribute [local go_sem] max2_int min2_int max_two min_two
attribute [local go_sem high] eqA39
attribute [local go_sem high] eqA41
theorem rd46 (l : List S41) (i : Nat) (h : i < l.length) : rd_T41 l (i : Int) = l[i] := by
  unfold rd_T41; rw [Int.toNat_natCast, List.getD_eq_getElem?_getD, List.getElem?_eq_getElem h]; rfl
set_option maxRecDepth 100000 in
set_option maxHeartbeats 3200000 in
theorem index46 (g T : Nat) (C : Array Value) (p : S41 → Bool) (l : List S41) (A : Option Addr) (c : Nat) (w : World) (hg : w.heap[g]? = some (.cells C T (0, 0))) (hc : l.length ≤ c) (hC : Kd.C k41 w A l.length l)
    (hp : ∀ (x : S41) (W : World), W.heap[g]? = some (.cells C T (0, 0)) → Calls Tryz.prog 80 #[.agg #[.int .i64 x.f0, .int .i64 x.f1, .int .i64 x.f2.f0, .int .i64 x.f2.f1, .bool x.f3], .pointer (some ⟨g, 0, none⟩)] W fun e w' => e = .returned (.bool (p x)) ∧ Below W.heap.size W w') :
    Calls Tryz.prog 93 #[.slice A l.length c, .func (.func 80) #[] #[.pointer (some ⟨g, 0, none⟩)]] w fun e w' => ∃ i : Int, e = .returned (.int .i64 i) ∧ Aside0 (decide (i ≥ 0) = l.any p) ∧ Below w.heap.size w w' := by
  have hmx := aM_ (Kd.C_max hC)
  go_enter Tryz.func93, Tryz.ntmps93
  go_wp2
  go_loopw [8] (fun i wr => ∃ (k : Nat), k ≤ l.length ∧ i = .int .i64 k ∧ Aside0 (∀ j (h : j < l.length), j < k → p l[j] = false) ∧ Below w.heap.size w wr) (fun i _ => l.length - (intOf i).toNat)
  case atStart => exact ⟨0, by omega, rfl, ⟨fun _ _ h => absurd h (by omega)⟩, Below.refl _ _⟩
  case round =>
    obtain ⟨k, hk, rfl, hf, hbw⟩ := hrel
    by_cases hlt : k < l.length
    · obtain ⟨ad, hA, e0, e1, e2, e3, e4⟩ := at_T41 (Kd.C_below hC hbw) (k : Int) (by omega) (by omega)
      subst hA
      rw [Int.toNat_natCast] at e0 e1 e2 e3 e4
      rw [rd46 l k hlt] at e0 e1 e2 e3 e4
      have hcall := hp l[k] wr (blk_below hg hbw)
      obtain ⟨q, hq⟩ : ∃ q, p l[k] = q := ⟨_, rfl⟩
      rw [hq] at hcall
      have hq' := aM_ hq
      clear hq
      have hmem := aM_ (List.getElem_mem hlt)
      generalize hxe : l[k] = x at e0 e1 e2 e3 e4 hcall
      clear hxe
      have d2 : decide ((k : Int) < (l.length : Int)) = true := by simp; omega
      have hu46 := Tryz.underlying41
      have hu44 := Tryz.underlying39
      have hkb : k + 1 ≤ 9223372036854775807 := Nat.le_trans hlt hmx.out
      have hkb' := aM_ hkb
      clear hC hp hg hkb
      cases q with
      | true =>
        go_wp2_with fail
        refine hcall.mono ?_
        rintro e w2 ⟨rfl, hb2⟩
        clear hcall
        go_wp2
        go_ret
        refine ⟨(k : Int), rfl, ⟨?_⟩, hbw.trans (hb2.mono hbw.size)⟩
        rw [List.any_eq_true.2 ⟨_, hmem.out, hq'.out⟩]
        exact dT_ (by omega)
      | false =>
        go_wp2_with fail
        refine hcall.mono ?_
        rintro e w2 ⟨rfl, hb2⟩
        clear hcall
        have hkb := hkb'.out
        have hf2 := aM_ (show ∀ j (h : j < l.length), j < k + 1 → p l[j] = false from fun j h h1 => by
          by_cases e : j = k
          · subst e; exact hq'.out
          · exact hf.out j h (by omega))
        go_wp2
        go_roundw
        case rel => exact ⟨k + 1, by omega, by go_num, hf2, hbw.trans (hb2.mono hbw.size)⟩
        case measure => simp [intOf]; omega
    · have hkn : k = l.length := by omega
      subst hkn
      have d2 : decide ((l.length : Int) < (l.length : Int)) = false := by simp
      clear hC hp hg
      go_wp2
      go_ret
      refine ⟨-1, rfl, ⟨?_⟩, hbw⟩
      have : l.any p = false := by
        rw [List.any_eq_false]
        intro x hx
        obtain ⟨j, hj, rfl⟩ := List.mem_iff_getElem.1 hx
        rw [hf.out j hj hj]; simp
      rw [this]; rfl
set_option maxRecDepth 100000 in
theorem contains41 (g T : Nat) (C : Array Value) (p : S41 → Bool) (l : List S41) (A : Option Addr) (c : Nat) (w : World) (hg : w.heap[g]? = some (.cells C T (0, 0))) (hc : l.length ≤ c) (hC : Kd.C k41 w A l.length l)
    (hp : ∀ (x : S41) (W : World), W.heap[g]? = some (.cells C T (0, 0)) → Calls Tryz.prog 80 #[.agg #[.int .i64 x.f0, .int .i64 x.f1, .int .i64 x.f2.f0, .int .i64 x.f2.f1, .bool x.f3], .pointer (some ⟨g, 0, none⟩)] W fun e w' => e = .returned (.bool (p x)) ∧ Below W.heap.size W w') :
    Calls Tryz.prog 79 #[.slice A l.length c, .func (.func 80) #[] #[.pointer (some ⟨g, 0, none⟩)]] w fun e w' => e = .returned (.bool (l.any p)) ∧ Below w.heap.size w w' := by
  have h := index46 g T C p l A c w hg hc hC hp
  clear hg hC hp
  go_enter Tryz.func79, Tryz.ntmps79
  go_wp2_with fail
  refine h.mono ?_
  rintro e w2 ⟨i, rfl, hi, hb⟩
  clear h
  go_wp2
  go_ret
  exact ⟨by rw [← hi.out] <;> rfl, hb⟩
theorem rd48 (l : List S43) (i : Nat) (h : i < l.length) : rd_T43 l (i : Int) = l[i] := by
  unfold rd_T43; rw [Int.toNat_natCast, List.getD_eq_getElem?_getD, List.getElem?_eq_getElem h]; rfl
set_option maxRecDepth 100000 in
set_option maxHeartbeats 3200000 in
theorem index48 (g T : Nat) (C : Array Value) (p : S43 → Bool) (l : List S43) (A : Option Addr) (c : Nat) (w : World) (hg : w.heap[g]? = some (.cells C T (0, 0))) (hc : l.length ≤ c) (hC : Kd.C k43 w A l.length l)
    (hp : ∀ (x : S43) (W : World), W.heap[g]? = some (.cells C T (0, 0)) → Calls Tryz.prog 47 #[.agg #[.int .i64 x.f0, .int .i64 x.f1, .int .i64 x.f2.f0, .int .i64 x.f2.f1, .int .i64 x.f2.f2.f0, .int .i64 x.f2.f2.f1, .bool x.f2.f3, .int .i64 x.f3.f0, .int .i64 x.f3.f1, .int .i64 x.f3.f2.f0, .int .i64 x.f3.f2.f1, .bool x.f3.f3], .pointer (some ⟨g, 0, none⟩)] W fun e w' => e = .returned (.bool (p x)) ∧ Below W.heap.size W w') :
    Calls Tryz.prog 76 #[.slice A l.length c, .func (.func 47) #[] #[.pointer (some ⟨g, 0, none⟩)]] w fun e w' => ∃ i : Int, e = .returned (.int .i64 i) ∧ Aside0 (decide (i ≥ 0) = l.any p) ∧ Below w.heap.size w w' := by
  have hmx := aM_ (Kd.C_max hC)
  go_enter Tryz.func76, Tryz.ntmps76
  go_wp2
  go_loopw [8] (fun i wr => ∃ (k : Nat), k ≤ l.length ∧ i = .int .i64 k ∧ Aside0 (∀ j (h : j < l.length), j < k → p l[j] = false) ∧ Below w.heap.size w wr) (fun i _ => l.length - (intOf i).toNat)
  case atStart => exact ⟨0, by omega, rfl, ⟨fun _ _ h => absurd h (by omega)⟩, Below.refl _ _⟩
  case round =>
    obtain ⟨k, hk, rfl, hf, hbw⟩ := hrel
    by_cases hlt : k < l.length
    · obtain ⟨ad, hA, e0, e1, e2, e3, e4, e5, e6, e7, e8, e9, e10, e11⟩ := at_T43 (Kd.C_below hC hbw) (k : Int) (by omega) (by omega)
      subst hA
      rw [Int.toNat_natCast] at e0 e1 e2 e3 e4 e5 e6 e7 e8 e9 e10 e11
      rw [rd48 l k hlt] at e0 e1 e2 e3 e4 e5 e6 e7 e8 e9 e10 e11
      have hcall := hp l[k] wr (blk_below hg hbw)
      obtain ⟨q, hq⟩ : ∃ q, p l[k] = q := ⟨_, rfl⟩
      rw [hq] at hcall
      have hq' := aM_ hq
      clear hq
      have hmem := aM_ (List.getElem_mem hlt)
      generalize hxe : l[k] = x at e0 e1 e2 e3 e4 e5 e6 e7 e8 e9 e10 e11 hcall
      clear hxe
      have d2 : decide ((k : Int) < (l.length : Int)) = true := by simp; omega
      have hu48 := Tryz.underlying43
      have hu46 := Tryz.underlying41
      have hu44 := Tryz.underlying39
      have hkb : k + 1 ≤ 9223372036854775807 := Nat.le_trans hlt hmx.out
      have hkb' := aM_ hkb
      clear hC hp hg hkb
      cases q with
      | true =>
        go_wp2_with fail
        refine hcall.mono ?_
        rintro e w2 ⟨rfl, hb2⟩
        clear hcall
        go_wp2
        go_ret
        refine ⟨(k : Int), rfl, ⟨?_⟩, hbw.trans (hb2.mono hbw.size)⟩
        rw [List.any_eq_true.2 ⟨_, hmem.out, hq'.out⟩]
        exact dT_ (by omega)
      | false =>
        go_wp2_with fail
        refine hcall.mono ?_
        rintro e w2 ⟨rfl, hb2⟩
        clear hcall
        have hkb := hkb'.out
        have hf2 := aM_ (show ∀ j (h : j < l.length), j < k + 1 → p l[j] = false from fun j h h1 => by
          by_cases e : j = k
          · subst e; exact hq'.out
          · exact hf.out j h (by omega))
        go_wp2
        go_roundw
        case rel => exact ⟨k + 1, by omega, by go_num, hf2, hbw.trans (hb2.mono hbw.size)⟩
        case measure => simp [intOf]; omega
    · have hkn : k = l.length := by omega
      subst hkn
      have d2 : decide ((l.length : Int) < (l.length : Int)) = false := by simp
      clear hC hp hg
      go_wp2
      go_ret
      refine ⟨-1, rfl, ⟨?_⟩, hbw⟩
      have : l.any p = false := by
        rw [List.any_eq_false]
        intro x hx
        obtain ⟨j, hj, rfl⟩ := List.mem_iff_getElem.1 hx
        rw [hf.out j hj hj]; simp
      rw [this]; rfl
set_option maxRecDepth 100000 in
theorem contains43 (g T : Nat) (C : Array Value) (p : S43 → Bool) (l : List S43) (A : Option Addr) (c : Nat) (w : World) (hg : w.heap[g]? = some (.cells C T (0, 0))) (hc : l.length ≤ c) (hC : Kd.C k43 w A l.length l)
    (hp : ∀ (x : S43) (W : World), W.heap[g]? = some (.cells C T (0, 0)) → Calls Tryz.prog 47 #[.agg #[.int .i64 x.f0, .int .i64 x.f1, .int .i64 x.f2.f0, .int .i64 x.f2.f1, .int .i64 x.f2.f2.f0, .int .i64 x.f2.f2.f1, .bool x.f2.f3, .int .i64 x.f3.f0, .int .i64 x.f3.f1, .int .i64 x.f3.f2.f0, .int .i64 x.f3.f2.f1, .bool x.f3.f3], .pointer (some ⟨g, 0, none⟩)] W fun e w' => e = .returned (.bool (p x)) ∧ Below W.heap.size W w') :
    Calls Tryz.prog 46 #[.slice A l.length c, .func (.func 47) #[] #[.pointer (some ⟨g, 0, none⟩)]] w fun e w' => e = .returned (.bool (l.any p)) ∧ Below w.heap.size w w' := by
  have h := index48 g T C p l A c w hg hc hC hp
  clear hg hC hp
  go_enter Tryz.func46, Tryz.ntmps46
  go_wp2_with fail
  refine h.mono ?_
  rintro e w2 ⟨i, rfl, hi, hb⟩
  clear h
  go_wp2
  go_ret
  exact ⟨by rw [← hi.out] <;> rfl, hb⟩
theorem rd62 (l : List S66) (i : Nat) (h : i < l.length) : rd_T66 l (i : Int) = l[i] := by
  unfold rd_T66; rw [Int.toNat_natCast, List.getD_eq_getElem?_getD, List.getElem?_eq_getElem h]; rfl
set_option maxRecDepth 100000 in
set_option maxHeartbeats 3200000 in
theorem index62 (g T : Nat) (C : Array Value) (p : S66 → Bool) (l : List S66) (A : Option Addr) (c : Nat) (w : World) (hg : w.heap[g]? = some (.cells C T (0, 0))) (hc : l.length ≤ c) (hC : Kd.C k66 w A l.length l)
    (hp : ∀ (x : S66) (W : World), W.heap[g]? = some (.cells C T (0, 0)) → Calls Tryz.prog 51 #[.agg #[.int .i64 x.f0.f0, .int .i64 x.f0.f1, .int .i64 x.f1], .pointer (some ⟨g, 0, none⟩)] W fun e w' => e = .returned (.bool (p x)) ∧ Below W.heap.size W w') :
    Calls Tryz.prog 82 #[.slice A l.length c, .func (.func 51) #[] #[.pointer (some ⟨g, 0, none⟩)]] w fun e w' => ∃ i : Int, e = .returned (.int .i64 i) ∧ Aside0 (decide (i ≥ 0) = l.any p) ∧ Below w.heap.size w w' := by
  have hmx := aM_ (Kd.C_max hC)
  go_enter Tryz.func82, Tryz.ntmps82
  go_wp2
  go_loopw [8] (fun i wr => ∃ (k : Nat), k ≤ l.length ∧ i = .int .i64 k ∧ Aside0 (∀ j (h : j < l.length), j < k → p l[j] = false) ∧ Below w.heap.size w wr) (fun i _ => l.length - (intOf i).toNat)
  case atStart => exact ⟨0, by omega, rfl, ⟨fun _ _ h => absurd h (by omega)⟩, Below.refl _ _⟩
  case round =>
    obtain ⟨k, hk, rfl, hf, hbw⟩ := hrel
    by_cases hlt : k < l.length
    · obtain ⟨ad, hA, e0, e1, e2⟩ := at_T66 (Kd.C_below hC hbw) (k : Int) (by omega) (by omega)
      subst hA
      rw [Int.toNat_natCast] at e0 e1 e2
      rw [rd62 l k hlt] at e0 e1 e2
      have hcall := hp l[k] wr (blk_below hg hbw)
      obtain ⟨q, hq⟩ : ∃ q, p l[k] = q := ⟨_, rfl⟩
      rw [hq] at hcall
      have hq' := aM_ hq
      clear hq
      have hmem := aM_ (List.getElem_mem hlt)
      generalize hxe : l[k] = x at e0 e1 e2 hcall
      clear hxe
      have d2 : decide ((k : Int) < (l.length : Int)) = true := by simp; omega
      have hu62 := Tryz.underlying66
      have hu44 := Tryz.underlying39
      have hkb : k + 1 ≤ 9223372036854775807 := Nat.le_trans hlt hmx.out
      have hkb' := aM_ hkb
      clear hC hp hg hkb
      cases q with
      | true =>
        go_wp2_with fail
        refine hcall.mono ?_
        rintro e w2 ⟨rfl, hb2⟩
        clear hcall
        go_wp2
        go_ret
        refine ⟨(k : Int), rfl, ⟨?_⟩, hbw.trans (hb2.mono hbw.size)⟩
        rw [List.any_eq_true.2 ⟨_, hmem.out, hq'.out⟩]
        exact dT_ (by omega)
      | false =>
        go_wp2_with fail
        refine hcall.mono ?_
        rintro e w2 ⟨rfl, hb2⟩
        clear hcall
        have hkb := hkb'.out
        have hf2 := aM_ (show ∀ j (h : j < l.length), j < k + 1 → p l[j] = false from fun j h h1 => by
          by_cases e : j = k
          · subst e; exact hq'.out
          · exact hf.out j h (by omega))
        go_wp2
        go_roundw
        case rel => exact ⟨k + 1, by omega, by go_num, hf2, hbw.trans (hb2.mono hbw.size)⟩
        case measure => simp [intOf]; omega
    · have hkn : k = l.length := by omega
      subst hkn
      have d2 : decide ((l.length : Int) < (l.length : Int)) = false := by simp
      clear hC hp hg
      go_wp2
      go_ret
      refine ⟨-1, rfl, ⟨?_⟩, hbw⟩
      have : l.any p = false := by
        rw [List.any_eq_false]
        intro x hx
        obtain ⟨j, hj, rfl⟩ := List.mem_iff_getElem.1 hx
        rw [hf.out j hj hj]; simp
      rw [this]; rfl
set_option maxRecDepth 100000 in
theorem contains66 (g T : Nat) (C : Array Value) (p : S66 → Bool) (l : List S66) (A : Option Addr) (c : Nat) (w : World) (hg : w.heap[g]? = some (.cells C T (0, 0))) (hc : l.length ≤ c) (hC : Kd.C k66 w A l.length l)
    (hp : ∀ (x : S66) (W : World), W.heap[g]? = some (.cells C T (0, 0)) → Calls Tryz.prog 51 #[.agg #[.int .i64 x.f0.f0, .int .i64 x.f0.f1, .int .i64 x.f1], .pointer (some ⟨g, 0, none⟩)] W fun e w' => e = .returned (.bool (p x)) ∧ Below W.heap.size W w') :
    Calls Tryz.prog 50 #[.slice A l.length c, .func (.func 51) #[] #[.pointer (some ⟨g, 0, none⟩)]] w fun e w' => e = .returned (.bool (l.any p)) ∧ Below w.heap.size w w' := by
  have h := index62 g T C p l A c w hg hc hC hp
  clear hg hC hp
  go_enter Tryz.func50, Tryz.ntmps50
  go_wp2_with fail
  refine h.mono ?_
  rintro e w2 ⟨i, rfl, hi, hb⟩
  clear h
  go_wp2
  go_ret
  exact ⟨by rw [← hi.out] <;> rfl, hb⟩
end Go.Proofs.YtphblfmjdiigkaaGreatDoor.Hu3
