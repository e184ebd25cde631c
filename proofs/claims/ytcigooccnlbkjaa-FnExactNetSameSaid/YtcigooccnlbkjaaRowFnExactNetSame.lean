/- The row of the law FnExactNetSame: it returns true for every two nets: the program's NetSame is the reference's. No condition. -/
import Derived.Test.YtcigooccnlbkjaaRows
import Derived.Test.YtcigooccnlbkjaaHFnExactNetSamex7
import Derived.WalkKit
import Derived.ProofKit
import Derived.OpenShut
import Derived.ShutString
import Derived.ChangeOld
import Derived.Below
import Derived.SizedLaws
import Derived.Lib.SmallJoins
import Derived.ChangeSame
import Derived.Deep.Strs
import Derived.Deep.Slices
namespace Go.Proofs.Ytcigooccnlbkjaa.fnExactNetSame
open Go.ChangeShapes Go.WideShapes Go.ChangeAt Go.RowKit Go.Joins
open Go.ChangeMaps (open_string shut_string)
set_option linter.unusedVariables false
set_option linter.unusedSimpArgs false
theorem own : ownKnob Try.prog.godebug = none := by kernel_rfl
theorem laidOut : laidOutB Try.prog = true := by kernel_rfl
open HFnExactNetSame Go.Proofs.YtcigooccnlbkjaaW.PrintWords Go.Proofs.YtcigooccnlbkjaaW.PrintLast
theorem len_2 {l : List Value} (h : l.length = 2) : ∃ c0 c1, l = [c0, c1] := by
  match l, h with
  | [c0, c1], _ => exact ⟨c0, c1, rfl⟩
theorem open_46 {H : Type} {enc : TypeId × Value → H} {w : World} {base : Nat} {spare : Nat → Bool} {held : Bool} {fuel : Nat} {cs : List Value} {x : DataW H × List MemPlace} (h : DataW.trod enc Try.prog w base spare held fuel 46 cs = some x) :
    ∃ (x0 : Int) (x1 : Int), cs = [.int .i64 x0, .int .i64 x1] ∧ True ∧ (Lit.int .i64 x0).wf = true ∧ (Lit.int .i64 x1).wf = true := by
  obtain ⟨xs, n, _, _, hl, hx, hf⟩ := DataW.trod_struct Try.underlying46 h
  have hl2 : cs.length = 2 := hl.trans (by kernel_rfl)
  replace hx : xs.length = 2 := hx.trans (by rfl)
  have s3 : Try.prog.cellsOf 3 = 1 := by kernel_rfl
  have g0 := hf 0 _ rfl
  have g1 := hf 1 _ rfl
  obtain ⟨c0, c1, rfl⟩ := len_2 hl2
  have e0 : ∃ y, xs[0]? = some y := ⟨xs[0]'(by omega), List.getElem?_eq_getElem _⟩
  obtain ⟨y0, e0⟩ := e0
  rw [e0] at g0
  have e1 : ∃ y, xs[1]? = some y := ⟨xs[1]'(by omega), List.getElem?_eq_getElem _⟩
  obtain ⟨y1, e1⟩ := e1
  rw [e1] at g1
  replace g0 : DataW.trod enc Try.prog w base spare held n 3 [c0] = some y0 := by
    have g := g0
    simp only [List.getElem_toArray, List.getElem_cons_zero, List.getElem_cons_succ, s3] at g
    exact g
  obtain ⟨z0, q0, _, hw0⟩ := DataW.trod_int Try.underlying3 g0
  simp only [List.cons.injEq, and_true] at q0
  obtain rfl := q0
  replace g1 : DataW.trod enc Try.prog w base spare held n 3 [c1] = some y1 := by
    have g := g1
    simp only [List.getElem_toArray, List.getElem_cons_zero, List.getElem_cons_succ, s3] at g
    exact g
  obtain ⟨z1, q1, _, hw1⟩ := DataW.trod_int Try.underlying3 g1
  simp only [List.cons.injEq, and_true] at q1
  obtain rfl := q1
  exact ⟨z0, z1, rfl, trivial, hw0, hw1⟩
theorem len_5 {l : List Value} (h : l.length = 5) : ∃ c0 c1 c2 c3 c4, l = [c0, c1, c2, c3, c4] := by
  match l, h with
  | [c0, c1, c2, c3, c4], _ => exact ⟨c0, c1, c2, c3, c4, rfl⟩
theorem open_138 {H : Type} {enc : TypeId × Value → H} {w : World} {base : Nat} {spare : Nat → Bool} {held : Bool} {fuel : Nat} {cs : List Value} {x : DataW H × List MemPlace} (h : DataW.trod enc Try.prog w base spare held fuel 138 cs = some x) :
    ∃ (x0 : Int) (x1 : Int) (x2 : Int) (x3 : Int) (x4 : Bool), cs = [.int .i64 x0, .int .i64 x1, .int .i64 x2, .int .i64 x3, .bool x4] ∧ True ∧ (Lit.int .i64 x0).wf = true ∧ (Lit.int .i64 x1).wf = true ∧ (Lit.int .i64 x2).wf = true ∧ (Lit.int .i64 x3).wf = true := by
  obtain ⟨xs, n, _, _, hl, hx, hf⟩ := DataW.trod_struct Try.underlying138 h
  have hl2 : cs.length = 5 := hl.trans (by kernel_rfl)
  replace hx : xs.length = 4 := hx.trans (by rfl)
  have s3 : Try.prog.cellsOf 3 = 1 := by kernel_rfl
  have s46 : Try.prog.cellsOf 46 = 2 := by kernel_rfl
  have s4 : Try.prog.cellsOf 4 = 1 := by kernel_rfl
  have g0 := hf 0 _ rfl
  have g1 := hf 1 _ rfl
  have g2 := hf 2 _ rfl
  have g3 := hf 3 _ rfl
  obtain ⟨c0, c1, c2, c3, c4, rfl⟩ := len_5 hl2
  have e0 : ∃ y, xs[0]? = some y := ⟨xs[0]'(by omega), List.getElem?_eq_getElem _⟩
  obtain ⟨y0, e0⟩ := e0
  rw [e0] at g0
  have e1 : ∃ y, xs[1]? = some y := ⟨xs[1]'(by omega), List.getElem?_eq_getElem _⟩
  obtain ⟨y1, e1⟩ := e1
  rw [e1] at g1
  have e2 : ∃ y, xs[2]? = some y := ⟨xs[2]'(by omega), List.getElem?_eq_getElem _⟩
  obtain ⟨y2, e2⟩ := e2
  rw [e2] at g2
  have e3 : ∃ y, xs[3]? = some y := ⟨xs[3]'(by omega), List.getElem?_eq_getElem _⟩
  obtain ⟨y3, e3⟩ := e3
  rw [e3] at g3
  replace g0 : DataW.trod enc Try.prog w base spare held n 3 [c0] = some y0 := by
    have g := g0
    simp only [List.getElem_toArray, List.getElem_cons_zero, List.getElem_cons_succ, s3] at g
    exact g
  obtain ⟨z0, q0, _, hw0⟩ := DataW.trod_int Try.underlying3 g0
  simp only [List.cons.injEq, and_true] at q0
  obtain rfl := q0
  replace g1 : DataW.trod enc Try.prog w base spare held n 3 [c1] = some y1 := by
    have g := g1
    simp only [List.getElem_toArray, List.getElem_cons_zero, List.getElem_cons_succ, s3] at g
    exact g
  obtain ⟨z1, q1, _, hw1⟩ := DataW.trod_int Try.underlying3 g1
  simp only [List.cons.injEq, and_true] at q1
  obtain rfl := q1
  replace g2 : DataW.trod enc Try.prog w base spare held n 46 [c2, c3] = some y2 := by
    have g := g2
    simp only [List.getElem_toArray, List.getElem_cons_zero, List.getElem_cons_succ, s46] at g
    exact g
  obtain ⟨z2_0, z2_1, q2, hw2⟩ := open_46 g2
  simp only [List.cons.injEq, and_true] at q2
  obtain ⟨rfl, rfl⟩ := q2
  replace g3 : DataW.trod enc Try.prog w base spare held n 4 [c4] = some y3 := by
    have g := g3
    simp only [List.getElem_toArray, List.getElem_cons_zero, List.getElem_cons_succ, s4] at g
    exact g
  obtain ⟨z3, q3, _⟩ := DataW.trod_bool Try.underlying4 g3
  simp only [List.cons.injEq, and_true] at q3
  obtain rfl := q3
  exact ⟨z0, z1, z2_0, z2_1, z3, rfl, trivial, hw0, hw1, hw2.2.1, hw2.2.2⟩
theorem len_12 {l : List Value} (h : l.length = 12) : ∃ c0 c1 c2 c3 c4 c5 c6 c7 c8 c9 c10 c11, l = [c0, c1, c2, c3, c4, c5, c6, c7, c8, c9, c10, c11] := by
  match l, h with
  | [c0, c1, c2, c3, c4, c5, c6, c7, c8, c9, c10, c11], _ => exact ⟨c0, c1, c2, c3, c4, c5, c6, c7, c8, c9, c10, c11, rfl⟩
theorem open_140 {H : Type} {enc : TypeId × Value → H} {w : World} {base : Nat} {spare : Nat → Bool} {held : Bool} {fuel : Nat} {cs : List Value} {x : DataW H × List MemPlace} (h : DataW.trod enc Try.prog w base spare held fuel 140 cs = some x) :
    ∃ (x0 : Int) (x1 : Int) (x2 : Int) (x3 : Int) (x4 : Int) (x5 : Int) (x6 : Bool) (x7 : Int) (x8 : Int) (x9 : Int) (x10 : Int) (x11 : Bool), cs = [.int .i64 x0, .int .i64 x1, .int .i64 x2, .int .i64 x3, .int .i64 x4, .int .i64 x5, .bool x6, .int .i64 x7, .int .i64 x8, .int .i64 x9, .int .i64 x10, .bool x11] ∧ True ∧ (Lit.int .i64 x0).wf = true ∧ (Lit.int .i64 x1).wf = true ∧ (Lit.int .i64 x2).wf = true ∧ (Lit.int .i64 x3).wf = true ∧ (Lit.int .i64 x4).wf = true ∧ (Lit.int .i64 x5).wf = true ∧ (Lit.int .i64 x7).wf = true ∧ (Lit.int .i64 x8).wf = true ∧ (Lit.int .i64 x9).wf = true ∧ (Lit.int .i64 x10).wf = true := by
  obtain ⟨xs, n, _, _, hl, hx, hf⟩ := DataW.trod_struct Try.underlying140 h
  have hl2 : cs.length = 12 := hl.trans (by kernel_rfl)
  replace hx : xs.length = 4 := hx.trans (by rfl)
  have s3 : Try.prog.cellsOf 3 = 1 := by kernel_rfl
  have s138 : Try.prog.cellsOf 138 = 5 := by kernel_rfl
  have g0 := hf 0 _ rfl
  have g1 := hf 1 _ rfl
  have g2 := hf 2 _ rfl
  have g3 := hf 3 _ rfl
  obtain ⟨c0, c1, c2, c3, c4, c5, c6, c7, c8, c9, c10, c11, rfl⟩ := len_12 hl2
  have e0 : ∃ y, xs[0]? = some y := ⟨xs[0]'(by omega), List.getElem?_eq_getElem _⟩
  obtain ⟨y0, e0⟩ := e0
  rw [e0] at g0
  have e1 : ∃ y, xs[1]? = some y := ⟨xs[1]'(by omega), List.getElem?_eq_getElem _⟩
  obtain ⟨y1, e1⟩ := e1
  rw [e1] at g1
  have e2 : ∃ y, xs[2]? = some y := ⟨xs[2]'(by omega), List.getElem?_eq_getElem _⟩
  obtain ⟨y2, e2⟩ := e2
  rw [e2] at g2
  have e3 : ∃ y, xs[3]? = some y := ⟨xs[3]'(by omega), List.getElem?_eq_getElem _⟩
  obtain ⟨y3, e3⟩ := e3
  rw [e3] at g3
  replace g0 : DataW.trod enc Try.prog w base spare held n 3 [c0] = some y0 := by
    have g := g0
    simp only [List.getElem_toArray, List.getElem_cons_zero, List.getElem_cons_succ, s3] at g
    exact g
  obtain ⟨z0, q0, _, hw0⟩ := DataW.trod_int Try.underlying3 g0
  simp only [List.cons.injEq, and_true] at q0
  obtain rfl := q0
  replace g1 : DataW.trod enc Try.prog w base spare held n 3 [c1] = some y1 := by
    have g := g1
    simp only [List.getElem_toArray, List.getElem_cons_zero, List.getElem_cons_succ, s3] at g
    exact g
  obtain ⟨z1, q1, _, hw1⟩ := DataW.trod_int Try.underlying3 g1
  simp only [List.cons.injEq, and_true] at q1
  obtain rfl := q1
  replace g2 : DataW.trod enc Try.prog w base spare held n 138 [c2, c3, c4, c5, c6] = some y2 := by
    have g := g2
    simp only [List.getElem_toArray, List.getElem_cons_zero, List.getElem_cons_succ, s138] at g
    exact g
  obtain ⟨z2_0, z2_1, z2_2, z2_3, z2_4, q2, hw2⟩ := open_138 g2
  simp only [List.cons.injEq, and_true] at q2
  obtain ⟨rfl, rfl, rfl, rfl, rfl⟩ := q2
  replace g3 : DataW.trod enc Try.prog w base spare held n 138 [c7, c8, c9, c10, c11] = some y3 := by
    have g := g3
    simp only [List.getElem_toArray, List.getElem_cons_zero, List.getElem_cons_succ, s138] at g
    exact g
  obtain ⟨z3_0, z3_1, z3_2, z3_3, z3_4, q3, hw3⟩ := open_138 g3
  simp only [List.cons.injEq, and_true] at q3
  obtain ⟨rfl, rfl, rfl, rfl, rfl⟩ := q3
  exact ⟨z0, z1, z2_0, z2_1, z2_2, z2_3, z2_4, z3_0, z3_1, z3_2, z3_3, z3_4, rfl, trivial, hw0, hw1, hw2.2.1, hw2.2.2.1, hw2.2.2.2.1, hw2.2.2.2.2, hw3.2.1, hw3.2.2.1, hw3.2.2.2.1, hw3.2.2.2.2⟩
theorem len_3 {l : List Value} (h : l.length = 3) : ∃ c0 c1 c2, l = [c0, c1, c2] := by
  match l, h with
  | [c0, c1, c2], _ => exact ⟨c0, c1, c2, rfl⟩
theorem open_143 {H : Type} {enc : TypeId × Value → H} {w : World} {base : Nat} {spare : Nat → Bool} {held : Bool} {fuel : Nat} {cs : List Value} {x : DataW H × List MemPlace} (h : DataW.trod enc Try.prog w base spare held fuel 143 cs = some x) :
    ∃ (x0 : Int) (x1 : Int) (x2 : Int), cs = [.int .i64 x0, .int .i64 x1, .int .i64 x2] ∧ True ∧ (Lit.int .i64 x0).wf = true ∧ (Lit.int .i64 x1).wf = true ∧ (Lit.int .i64 x2).wf = true := by
  obtain ⟨xs, n, _, _, hl, hx, hf⟩ := DataW.trod_struct Try.underlying143 h
  have hl2 : cs.length = 3 := hl.trans (by kernel_rfl)
  replace hx : xs.length = 2 := hx.trans (by rfl)
  have s46 : Try.prog.cellsOf 46 = 2 := by kernel_rfl
  have s3 : Try.prog.cellsOf 3 = 1 := by kernel_rfl
  have g0 := hf 0 _ rfl
  have g1 := hf 1 _ rfl
  obtain ⟨c0, c1, c2, rfl⟩ := len_3 hl2
  have e0 : ∃ y, xs[0]? = some y := ⟨xs[0]'(by omega), List.getElem?_eq_getElem _⟩
  obtain ⟨y0, e0⟩ := e0
  rw [e0] at g0
  have e1 : ∃ y, xs[1]? = some y := ⟨xs[1]'(by omega), List.getElem?_eq_getElem _⟩
  obtain ⟨y1, e1⟩ := e1
  rw [e1] at g1
  replace g0 : DataW.trod enc Try.prog w base spare held n 46 [c0, c1] = some y0 := by
    have g := g0
    simp only [List.getElem_toArray, List.getElem_cons_zero, List.getElem_cons_succ, s46] at g
    exact g
  obtain ⟨z0_0, z0_1, q0, hw0⟩ := open_46 g0
  simp only [List.cons.injEq, and_true] at q0
  obtain ⟨rfl, rfl⟩ := q0
  replace g1 : DataW.trod enc Try.prog w base spare held n 3 [c2] = some y1 := by
    have g := g1
    simp only [List.getElem_toArray, List.getElem_cons_zero, List.getElem_cons_succ, s3] at g
    exact g
  obtain ⟨z1, q1, _, hw1⟩ := DataW.trod_int Try.underlying3 g1
  simp only [List.cons.injEq, and_true] at q1
  obtain rfl := q1
  exact ⟨z0_0, z0_1, z1, rfl, trivial, hw0.2.1, hw0.2.2, hw1⟩
theorem slice_kd {H : Type} {enc : TypeId × Value → H} {P : Program} {w : World} {base : Nat} {spare : Nat → Bool} {held : Bool} {t e : TypeId} {α : Type} (d : Kd α) (ok : α → Prop) (d0 : α) (ht : P.underlying t = some (.slice e)) (hc : P.cellsOf e = d.sz)
    (hop : ∀ {n : Nat} {cs : List Value} {x : DataW H × List MemPlace}, DataW.trod enc P w base spare held n e cs = some x → ∃ a, d.K w a cs ∧ ok a)
    {fuel : Nat} {A : Option Addr} {len cap : Nat} {x : DataW H × List MemPlace} (h : DataW.trod enc P w base spare held fuel t [.slice A len cap] = some x) :
    ∃ l : List α, l.length = len ∧ len ≤ cap ∧ d.C w A len l ∧ ∀ a ∈ l, ok a := by
  rcases Go.Deep.open_slice ht h with ⟨hcs, _⟩ | ⟨a, len', cap', m, n, D, Pl, hcs, hb, hl, hcap, hm, hx, hel⟩
  · simp only [List.cons.injEq, Value.slice.injEq, and_true] at hcs
    obtain ⟨rfl, rfl, rfl⟩ := hcs
    exact ⟨[], rfl, Nat.le_refl _, ⟨rfl, by omega, fun h => absurd h (by omega)⟩, by simp⟩
  · simp only [List.cons.injEq, Value.slice.injEq, and_true] at hcs
    obtain ⟨rfl, rfl, rfl⟩ := hcs
    have hlm : len ≤ m := by rw [hm]; split <;> omega
    haveI : Inhabited α := ⟨d0⟩
    obtain ⟨f, hf⟩ := Go.Deep.choose_lt (n := len) (p := fun i (z : α) => ∃ cs', w.cells? base (a.add (i * P.cellsOf e)) (P.cellsOf e) = some cs' ∧ d.K w z cs' ∧ ok z) (fun i hi => by
      obtain ⟨cs', h1, h2⟩ := hel i (by omega)
      obtain ⟨z, hz, hz2⟩ := hop h2
      exact ⟨z, cs', h1, hz, hz2⟩)
    refine ⟨(List.range len).map f, by simp, hl, ⟨by simp, by unfold maxLen at hcap; omega, fun _ => ⟨a, rfl, fun j p hj => ?_⟩⟩, ?_⟩
    · have hjl : j < len := by
        have := (List.getElem?_eq_some_iff.1 hj).1; simpa using this
      have hp : p = f j := by
        rw [List.getElem?_map, List.getElem?_range hjl] at hj; simpa using hj.symm
      subst hp
      obtain ⟨cs', h1, h2, _⟩ := hf j hjl
      refine ⟨cs', d.K_len h2, h2, fun i u hu => ?_⟩
      have hs := World.cells?_some h1
      have hi : i < d.sz := by rw [← d.K_len h2]; exact (List.getElem?_eq_some_iff.1 hu).1
      have := hs.2.2 i (by rw [hc]; exact hi)
      rw [Go.Deep.add_add, hc] at this
      rw [this]; exact hu
    · intro z hz
      obtain ⟨i, hi, rfl⟩ := List.mem_map.1 hz
      exact (hf i (List.mem_range.1 hi)).choose_spec.2.2
theorem slice_any {H : Type} {enc : TypeId × Value → H} {P : Program} {w : World} {base : Nat} {spare : Nat → Bool} {held : Bool} {t e : TypeId} {α : Type} (d : Kd α) (ok : α → Prop) (d0 : α) (ht : P.underlying t = some (.slice e)) (hc : P.cellsOf e = d.sz)
    (hop : ∀ {n : Nat} {cs : List Value} {x : DataW H × List MemPlace}, DataW.trod enc P w base spare held n e cs = some x → ∃ a, d.K w a cs ∧ ok a)
    {fuel : Nat} {cs : List Value} {x : DataW H × List MemPlace} (h : DataW.trod enc P w base spare held fuel t cs = some x) :
    ∃ (A : Option Addr) (cap : Nat) (l : List α), cs = [.slice A l.length cap] ∧ l.length ≤ cap ∧ d.C w A l.length l ∧ ∀ a ∈ l, ok a := by
  have hs : ∃ A len cap, cs = [.slice A len cap] := by
    rcases Go.Deep.open_slice ht h with ⟨hcs, _⟩ | ⟨a, len', cap', m, n, D, Pl, hcs, _⟩
    · exact ⟨_, _, _, hcs⟩
    · exact ⟨_, _, _, hcs⟩
  obtain ⟨A, len, cap, rfl⟩ := hs
  obtain ⟨l, rfl, h1, h2, h3⟩ := slice_kd d ok d0 ht hc hop h
  exact ⟨A, cap, l, rfl, h1, h2, h3⟩
theorem lenOf_67 {l : List Value} (h : l.length = 2) : ∃ cc0 cc1, l = [cc0, cc1] := by
  match l, h with
  | [cc0, cc1], _ => exact ⟨cc0, cc1, rfl⟩
theorem open_67 {H : Type} {enc : TypeId × Value → H} {w : World} {base : Nat} {spare : Nat → Bool} {held : Bool} {fuel : Nat} {cs : List Value} {x : DataW H × List MemPlace} (h : DataW.trod enc Try.prog w base spare held fuel 67 cs = some x) :
    ∃ (A0 : Option Addr) (c0 : Nat) (l0 : List S140) (A1 : Option Addr) (c1 : Nat) (l1 : List S143), cs = [.slice A0 l0.length c0, .slice A1 l1.length c1] ∧ l0.length ≤ c0 ∧ k140.C w A0 l0.length l0 ∧ l1.length ≤ c1 ∧ k143.C w A1 l1.length l1 := by
  obtain ⟨xs, n, _, _, hl, hx, hf⟩ := DataW.trod_struct Try.underlying67 h
  have hl2 : cs.length = 2 := hl.trans (by kernel_rfl)
  replace hx : xs.length = 2 := hx.trans (by rfl)
  have s64 : Try.prog.cellsOf 64 = 1 := by kernel_rfl
  have s65 : Try.prog.cellsOf 65 = 1 := by kernel_rfl
  have g0 := hf 0 _ rfl
  have g1 := hf 1 _ rfl
  obtain ⟨cc0, cc1, rfl⟩ := lenOf_67 hl2
  have e0 : ∃ y, xs[0]? = some y := ⟨xs[0]'(by omega), List.getElem?_eq_getElem _⟩
  obtain ⟨y0, e0⟩ := e0
  rw [e0] at g0
  have e1 : ∃ y, xs[1]? = some y := ⟨xs[1]'(by omega), List.getElem?_eq_getElem _⟩
  obtain ⟨y1, e1⟩ := e1
  rw [e1] at g1
  replace g0 : DataW.trod enc Try.prog w base spare held n 64 [cc0] = some y0 := by
    have g := g0
    simp only [List.getElem_toArray, List.getElem_cons_zero, List.getElem_cons_succ, s64] at g
    exact g
  obtain ⟨B0, b0, m0, q0, hc0, hr0, _⟩ := slice_any k140 (fun _ => True) z140 Try.underlying64 (by kernel_rfl) (fun h => by obtain ⟨x0, x1, x2, x3, x4, x5, x6, x7, x8, x9, x10, x11, rfl, _⟩ := open_140 h; exact ⟨⟨x0, x1, ⟨x2, x3, ⟨x4, x5⟩, x6⟩, ⟨x7, x8, ⟨x9, x10⟩, x11⟩⟩, k140_mk w _, trivial⟩) g0
  simp only [List.cons.injEq, and_true] at q0
  obtain rfl := q0
  replace g1 : DataW.trod enc Try.prog w base spare held n 65 [cc1] = some y1 := by
    have g := g1
    simp only [List.getElem_toArray, List.getElem_cons_zero, List.getElem_cons_succ, s65] at g
    exact g
  obtain ⟨B1, b1, m1, q1, hc1, hr1, _⟩ := slice_any k143 (fun _ => True) z143 Try.underlying65 (by kernel_rfl) (fun h => by obtain ⟨x0, x1, x2, rfl, _⟩ := open_143 h; exact ⟨⟨⟨x0, x1⟩, x2⟩, k143_mk w _, trivial⟩) g1
  simp only [List.cons.injEq, and_true] at q1
  obtain rfl := q1
  exact ⟨B0, b0, m0, B1, b1, m1, rfl, hc0, hr0, hc1, hr1⟩
-- provides: wrap_id
theorem wrap_id {x : Int} (h1 : -9223372036854775808 ≤ x) (h2 : x ≤ 9223372036854775807) : wrap64 x = x := by
  unfold wrap64; omega
def cvWire (x : S140) : S118 := ⟨x.f0, x.f1, ⟨x.f2.f0, x.f2.f1, ⟨x.f2.f2.f0, x.f2.f2.f1⟩, x.f2.f3⟩, ⟨x.f3.f0, x.f3.f1, ⟨x.f3.f2.f0, x.f3.f2.f1⟩, x.f3.f3⟩⟩
theorem rd140 (l : List S140) (i : Nat) (h : i < l.length) : rd_T140 l (i : Int) = l[i] := by
  unfold rd_T140; rw [Int.toNat_natCast, List.getD_eq_getElem?_getD, List.getElem?_eq_getElem h]; rfl
theorem toWireS_loop (l : List S140) (hl : l.length ≤ 1048576) (d : Nat) : ∀ (k i : Nat) (x : List S118), i + d = l.length → x.length = l.length → x.take i = (l.take i).map cvWire → d < k →
    laws_toWireS.l0 k l x (i : Int) = some (l.map cvWire) := by
  induction d with
  | zero =>
    intro k i x hi hx ht hk
    obtain ⟨k, rfl⟩ : ∃ m, k = m + 1 := ⟨k - 1, by omega⟩
    simp only [laws_toWireS.l0]
    rw [if_neg (by omega)]
    have e1 : x.take i = x := List.take_of_length_le (by omega)
    have e2 : l.take i = l := List.take_of_length_le (by omega)
    rw [e1, e2] at ht; rw [ht]
  | succ d ih =>
    intro k i x hi hx ht hk
    obtain ⟨k, rfl⟩ : ∃ m, k = m + 1 := ⟨k - 1, by omega⟩
    simp only [laws_toWireS.l0]
    have hil : i < l.length := by omega
    rw [if_pos (by omega), if_pos (by omega), rd140 l i hil]
    simp only [laws_toWire.f, laws_toSrc.f, laws_toAddr.f, Option.bind_some]
    rw [if_pos (by omega), wrap_id (by omega) (by omega), Int.toNat_natCast]
    have := ih k (i + 1) (x.set i (cvWire l[i])) (by omega) (by simpa using hx) (by
      rw [List.take_succ_eq_append_getElem (by simpa using (by omega : i < x.length)), List.take_succ_eq_append_getElem hil, List.map_append, List.map_singleton, ← ht, List.take_set, List.set_eq_of_length_le (by simp; omega)]
      simp) (by omega)
    exact this
theorem toWireS_some (l : List S140) (hl : l.length ≤ 1048576) (k : Nat) (hk : l.length < k) : laws_toWireS.f k l = some (l.map cvWire) := by
  unfold laws_toWireS.f
  rw [if_pos (by omega), if_pos (by omega)]
  have := toWireS_loop l hl l.length k 0 (List.replicate ((l.length : Int)).toNat z118) (by omega) (by simp) (by simp) hk
  exact this
theorem eqWireS_loop (x : List S118) (hl : x.length ≤ 1048576) (d : Nat) : ∀ (k i : Nat), i + d = x.length → d < k → laws_eqWireS.l0 k x x (i : Int) = some true := by
  induction d with
  | zero =>
    intro k i hi hk
    obtain ⟨k, rfl⟩ : ∃ m, k = m + 1 := ⟨k - 1, by omega⟩
    simp only [laws_eqWireS.l0]
    rw [if_neg (by omega)]
  | succ d ih =>
    intro k i hi hk
    obtain ⟨k, rfl⟩ : ∃ m, k = m + 1 := ⟨k - 1, by omega⟩
    simp only [laws_eqWireS.l0]
    rw [if_pos (by omega), if_pos (by omega), if_pos (by omega)]
    simp only [laws_eqWire.f, laws_eqSrc.f, laws_eqAddr.f, if_true, bne_self_eq_false, Bool.false_eq_true, if_false, Option.bind_some]
    rw [wrap_id (by omega) (by omega)]
    exact ih k (i + 1) (by omega) (by omega)
theorem eqWireS_self (x : List S118) (hl : x.length ≤ 1048576) (k : Nat) (hk : x.length < k) : laws_eqWireS.f k x x = some true := by
  unfold laws_eqWireS.f
  rw [if_pos rfl]; exact eqWireS_loop x hl x.length k 0 (by omega) hk
theorem szWireS_le (l : List S140) (a r : Int) (ha : 0 ≤ a) (ha2 : a ≤ 1048576) (hl : l.length ≤ 9223372036854775807) (h : laws_szWireS.f l a = some r) : r < 0 ∨ (r = a - (l.length : Int) ∧ (l.length : Int) ≤ a) := by
  unfold laws_szWireS.f at h
  rw [wrap_id (by omega) (by omega)] at h
  split at h <;> simp only [Option.some.injEq] at h <;> omega
theorem szWireS_some (l : List S140) (a : Int) : ∃ r, laws_szWireS.f l a = some r := by
  unfold laws_szWireS.f; split <;> exact ⟨_, rfl⟩
def cvDrive (x : S143) : S120 := ⟨⟨x.f0.f0, x.f0.f1⟩, x.f1⟩
theorem rd143 (l : List S143) (i : Nat) (h : i < l.length) : rd_T143 l (i : Int) = l[i] := by
  unfold rd_T143; rw [Int.toNat_natCast, List.getD_eq_getElem?_getD, List.getElem?_eq_getElem h]; rfl
theorem toDriveS_loop (l : List S143) (hl : l.length ≤ 1048576) (d : Nat) : ∀ (k i : Nat) (x : List S120), i + d = l.length → x.length = l.length → x.take i = (l.take i).map cvDrive → d < k →
    laws_toDriveS.l0 k l x (i : Int) = some (l.map cvDrive) := by
  induction d with
  | zero =>
    intro k i x hi hx ht hk
    obtain ⟨k, rfl⟩ : ∃ m, k = m + 1 := ⟨k - 1, by omega⟩
    simp only [laws_toDriveS.l0]
    rw [if_neg (by omega)]
    have e1 : x.take i = x := List.take_of_length_le (by omega)
    have e2 : l.take i = l := List.take_of_length_le (by omega)
    rw [e1, e2] at ht; rw [ht]
  | succ d ih =>
    intro k i x hi hx ht hk
    obtain ⟨k, rfl⟩ : ∃ m, k = m + 1 := ⟨k - 1, by omega⟩
    simp only [laws_toDriveS.l0]
    have hil : i < l.length := by omega
    rw [if_pos (by omega), if_pos (by omega), rd143 l i hil]
    simp only [laws_toDrive.f, laws_toAddr.f, Option.bind_some]
    rw [if_pos (by omega), wrap_id (by omega) (by omega), Int.toNat_natCast]
    have := ih k (i + 1) (x.set i (cvDrive l[i])) (by omega) (by simpa using hx) (by
      rw [List.take_succ_eq_append_getElem (by simpa using (by omega : i < x.length)), List.take_succ_eq_append_getElem hil, List.map_append, List.map_singleton, ← ht, List.take_set, List.set_eq_of_length_le (by simp; omega)]
      simp) (by omega)
    exact this
theorem toDriveS_some (l : List S143) (hl : l.length ≤ 1048576) (k : Nat) (hk : l.length < k) : laws_toDriveS.f k l = some (l.map cvDrive) := by
  unfold laws_toDriveS.f
  rw [if_pos (by omega), if_pos (by omega)]
  have := toDriveS_loop l hl l.length k 0 (List.replicate ((l.length : Int)).toNat z120) (by omega) (by simp) (by simp) hk
  exact this
theorem eqDriveS_loop (x : List S120) (hl : x.length ≤ 1048576) (d : Nat) : ∀ (k i : Nat), i + d = x.length → d < k → laws_eqDriveS.l0 k x x (i : Int) = some true := by
  induction d with
  | zero =>
    intro k i hi hk
    obtain ⟨k, rfl⟩ : ∃ m, k = m + 1 := ⟨k - 1, by omega⟩
    simp only [laws_eqDriveS.l0]
    rw [if_neg (by omega)]
  | succ d ih =>
    intro k i hi hk
    obtain ⟨k, rfl⟩ : ∃ m, k = m + 1 := ⟨k - 1, by omega⟩
    simp only [laws_eqDriveS.l0]
    rw [if_pos (by omega), if_pos (by omega), if_pos (by omega)]
    simp only [laws_eqDrive.f, laws_eqAddr.f, if_true, bne_self_eq_false, Bool.false_eq_true, if_false, Option.bind_some]
    rw [wrap_id (by omega) (by omega)]
    exact ih k (i + 1) (by omega) (by omega)
theorem eqDriveS_self (x : List S120) (hl : x.length ≤ 1048576) (k : Nat) (hk : x.length < k) : laws_eqDriveS.f k x x = some true := by
  unfold laws_eqDriveS.f
  rw [if_pos rfl]; exact eqDriveS_loop x hl x.length k 0 (by omega) hk
theorem szDriveS_le (l : List S143) (a r : Int) (ha : 0 ≤ a) (ha2 : a ≤ 1048576) (hl : l.length ≤ 9223372036854775807) (h : laws_szDriveS.f l a = some r) : r < 0 ∨ (r = a - (l.length : Int) ∧ (l.length : Int) ≤ a) := by
  unfold laws_szDriveS.f at h
  rw [wrap_id (by omega) (by omega)] at h
  split at h <;> simp only [Option.some.injEq] at h <;> omega
theorem szDriveS_some (l : List S143) (a : Int) : ∃ r, laws_szDriveS.f l a = some r := by
  unfold laws_szDriveS.f; split <;> exact ⟨_, rfl⟩
theorem l1_val (a c : List S118) (b e : List S120) (hl : b.length = e.length) (hb : b.length ≤ 1048576) (d : Nat) : ∀ (k k2 i : Nat), i + d = b.length → d < k → d < k2 →
    ∃ v, impl_Drive.l0 k2 b e (b.length : Int) (i : Int) = some v ∧ spec_NetSame.l1 k (i : Int) a b c e = some v := by
  induction d with
  | zero =>
    intro k k2 i hi hk hk2
    obtain ⟨k, rfl⟩ : ∃ m, k = m + 1 := ⟨k - 1, by omega⟩
    obtain ⟨k2, rfl⟩ : ∃ m, k2 = m + 1 := ⟨k2 - 1, by omega⟩
    simp only [impl_Drive.l0, spec_NetSame.l1]
    rw [if_neg (by omega), if_neg (by omega)]; exact ⟨_, rfl, rfl⟩
  | succ d ih =>
    intro k k2 i hi hk hk2
    obtain ⟨k, rfl⟩ : ∃ m, k = m + 1 := ⟨k - 1, by omega⟩
    obtain ⟨k2, rfl⟩ : ∃ m, k2 = m + 1 := ⟨k2 - 1, by omega⟩
    simp only [impl_Drive.l0, spec_NetSame.l1]
    have p0 : (i : Int) < (b.length : Int) := by omega
    have p1 : (i : Int) < (e.length : Int) := by omega
    have p2 : (0 : Int) ≤ (i : Int) := by omega
    simp only [p0, p1, p2, if_true]
    rw [wrap_id (by omega) (by omega)]
    obtain ⟨v, h1, h2⟩ := ih k k2 (i + 1) (by omega) (by omega) (by omega)
    rw [show ((i : Int) + 1) = ((i + 1 : Nat) : Int) by omega, h1, h2]
    split
    · exact ⟨_, rfl, rfl⟩
    · exact ⟨_, rfl, rfl⟩
theorem l0_val (a c : List S118) (b e : List S120) (hl : a.length = c.length) (ha : a.length ≤ 1048576) (d : Nat) : ∀ (k k2 i : Nat), i + d = a.length → d < k → d < k2 →
    ∃ v, impl_Wire.l0 k2 a c (a.length : Int) (i : Int) = some v ∧ spec_NetSame.l0 k (i : Int) a b c e = if v = true then spec_NetSame.l1 (k - d - 1) 0 a b c e else some false := by
  induction d with
  | zero =>
    intro k k2 i hi hk hk2
    obtain ⟨k, rfl⟩ : ∃ m, k = m + 1 := ⟨k - 1, by omega⟩
    obtain ⟨k2, rfl⟩ : ∃ m, k2 = m + 1 := ⟨k2 - 1, by omega⟩
    simp only [impl_Wire.l0, spec_NetSame.l0]
    rw [if_neg (by omega), if_neg (by omega)]; exact ⟨true, rfl, by rw [if_pos rfl]; congr 1⟩
  | succ d ih =>
    intro k k2 i hi hk hk2
    obtain ⟨k, rfl⟩ : ∃ m, k = m + 1 := ⟨k - 1, by omega⟩
    obtain ⟨k2, rfl⟩ : ∃ m, k2 = m + 1 := ⟨k2 - 1, by omega⟩
    simp only [impl_Wire.l0, spec_NetSame.l0]
    have p0 : (i : Int) < (a.length : Int) := by omega
    have p1 : (i : Int) < (c.length : Int) := by omega
    have p2 : (0 : Int) ≤ (i : Int) := by omega
    simp only [p0, p1, p2, if_true]
    rw [wrap_id (by omega) (by omega)]
    obtain ⟨v, h1, h2⟩ := ih k k2 (i + 1) (by omega) (by omega) (by omega)
    rw [show ((i : Int) + 1) = ((i + 1 : Nat) : Int) by omega, h1, h2]
    split
    · exact ⟨false, rfl, rfl⟩
    · exact ⟨v, rfl, by rw [show k + 1 - (d + 1) - 1 = k - d - 1 by omega]⟩
theorem same_some (a c : List S118) (b e : List S120) (ha : a.length ≤ 1048576) (hb : b.length ≤ 1048576) : ∃ v, spec_NetSame.f 5000000 a b c e = some v ∧ impl_NetSame.f 5000000 a b c e = some v := by
  unfold spec_NetSame.f impl_NetSame.f impl_Wire.f impl_Drive.f
  by_cases hl : (a.length : Int) = (c.length : Int)
  · rw [if_pos hl, if_pos hl]
    obtain ⟨v, h1, h2⟩ := l0_val a c b e (by omega) ha a.length 4999999 5000000 0 (by omega) (by omega) (by omega)
    rw [show (0 : Int) = ((0 : Nat) : Int) from rfl, h1]; simp only [Option.bind_some]
    by_cases hl2 : (b.length : Int) = (e.length : Int)
    · have q : ((b.length : Int) != (e.length : Int)) = false := by simpa using hl2
      rw [q, if_pos hl2, spec_NetSame.j0, if_neg (by decide)]
      rw [show (0 : Int) = ((0 : Nat) : Int) from rfl, h2]
      cases v with
      | false => exact ⟨false, rfl, rfl⟩
      | true =>
        rw [if_pos rfl, if_pos rfl]
        obtain ⟨u, g1, g2⟩ := l1_val a c b e (by omega) hb b.length (4999999 - a.length - 1) 5000000 0 (by omega) (by omega) (by omega)
        exact ⟨u, g2, by rw [g1]; rfl⟩
    · have q : ((b.length : Int) != (e.length : Int)) = true := by simpa using hl2
      rw [q, if_neg hl2, spec_NetSame.j0, if_pos rfl]
      cases v with
      | false => exact ⟨false, rfl, rfl⟩
      | true => exact ⟨false, rfl, rfl⟩
  · rw [if_neg hl, if_neg hl, spec_NetSame.j0, if_pos rfl]; exact ⟨false, rfl, rfl⟩
theorem sz_le (l : List S140) (m : List S143) (a : Int) (ha : 0 ≤ a) (ha2 : a ≤ 1048576) (hl : l.length ≤ 9223372036854775807) (hm : m.length ≤ 9223372036854775807) : ∃ r, laws_szNet.f l m a = some r ∧ (r < 0 ∨ ((l.length : Int) ≤ a ∧ (m.length : Int) ≤ a ∧ r ≤ a)) := by
  unfold laws_szNet.f
  obtain ⟨r0, e0⟩ := szWireS_some l a
  rw [e0]; simp only [Option.bind_some]
  by_cases c0 : r0 < 0
  · rw [if_pos c0]; exact ⟨-1, rfl, Or.inl (by omega)⟩
  rw [if_neg c0]
  have b0 := szWireS_le l a r0 ha ha2 hl e0
  obtain ⟨r1, e1⟩ := szDriveS_some m r0
  rw [e1]; simp only [Option.bind_some]
  by_cases c1 : r1 < 0
  · rw [if_pos c1]; exact ⟨-1, rfl, Or.inl (by omega)⟩
  rw [if_neg c1]
  have b1 := szDriveS_le m r0 r1 (by omega) (by omega) hm e1
  exact ⟨r1, rfl, Or.inr (by omega)⟩
theorem toNet_some (l : List S140) (m : List S143) (hl : l.length ≤ 1048576) (hm : m.length ≤ 1048576) : laws_toNet.f 5000000 l m = some (l.map cvWire, m.map cvDrive) := by
  unfold laws_toNet.f
  rw [toWireS_some l hl _ (by omega), Option.bind_some, toDriveS_some m hm _ (by omega), Option.bind_some]
theorem eqNet_self (l : List S118) (m : List S120) (hl : l.length ≤ 1048576) (hm : m.length ≤ 1048576) : laws_eqNet.f 5000000 l m l m = some true := by
  unfold laws_eqNet.f
  rw [eqWireS_self l hl _ (by omega), Option.bind_some, if_pos rfl, eqDriveS_self m hm _ (by omega), Option.bind_some, if_pos rfl]
theorem pure (l0 : List S140) (m0 : List S143) (l1 : List S140) (m1 : List S143) (h0 : l0.length ≤ 9223372036854775807) (h1 : m0.length ≤ 9223372036854775807) (h2 : l1.length ≤ 9223372036854775807) (h3 : m1.length ≤ 9223372036854775807) : ∃ k, laws_FnExactNetSame.f k l0 m0 l1 m1 = some true := by
  refine ⟨5000000, ?_⟩
  unfold laws_FnExactNetSame.f
  obtain ⟨r0, e0, b0⟩ := sz_le l0 m0 1048576 (by omega) (by omega) h0 h1
  rw [e0]; simp only [Option.bind_some]
  by_cases c0 : r0 < 0
  · rw [if_pos c0]
  rw [if_neg c0]
  obtain ⟨r1, e1, b1⟩ := sz_le l1 m1 r0 (by omega) (by omega) h2 h3
  rw [e1]; simp only [Option.bind_some]
  by_cases c1 : r1 < 0
  · rw [if_pos c1]
  rw [if_neg c1, toNet_some l0 m0 (by omega) (by omega)]; simp only [Option.bind_some]
  rw [toNet_some l1 m1 (by omega) (by omega)]; simp only [Option.bind_some]
  obtain ⟨v, hs, hi⟩ := same_some (l0.map cvWire) (l1.map cvWire) (m0.map cvDrive) (m1.map cvDrive) (by simp only [List.length_map]; omega) (by simp only [List.length_map]; omega)
  rw [hs, hi]; simp only [Option.bind_some]
  rw [if_neg (by simp), eqNet_self _ _ (by simp only [List.length_map]; omega) (by simp only [List.length_map]; omega)]; simp only [Option.bind_some, if_true]
  rw [eqNet_self _ _ (by simp only [List.length_map]; omega) (by simp only [List.length_map]; omega)]; simp
set_option maxRecDepth 100000 in
theorem lifted (os : Os) (started : os.Started) (H : Type) (enc : TypeId × Value → H) :
    ReturnsInHanded {} Try.checked os 10 .any (Rows.fnExactNetSameSpec.pre6 enc Try.prog Try.f10 Rows.fnExactNetSameRow.domain false) (Rows.fnExactNetSameSpec.post enc Try.prog Try.f10 false true false false) := by
  refine returnsInHanded_of_change_sized (C := Try.checked) own started (by kernel_rfl) Try.func10
    (ChangeSpec.witness6 (enc := enc) (C := Try.checked) false ⟨#[], #[.agg #[.slice none 0 0, .slice none 0 0], .agg #[.slice none 0 0, .slice none 0 0]], []⟩ 8 (by kernel_rfl) (by kernel_rfl) (by kernel_rfl) (by kernel_rfl)) ?_
  intro W base args ds gs before hval0 hW hcnd hsz0 _
  have hsz : (DataW.weightsEach Try.prog (Try.f10.params.toList ++ Rows.fnExactNetSameSpec.plain.varTypes Try.prog) (ds ++ gs)).all (· ≤ reachBytes) = true := hsz0
  have hval : ∀ (j : Nat) t v, Try.f10.params[j]? = some t → args[j]? = some v → Value.okWide Try.prog W .any base t v := hval0
  have hW' := hW
  obtain ⟨p, q, hA0, hV, rfl, hfz, hnd⟩ := hW
  have hA : DataW.TrodAll enc Try.prog W 0 (fun _ => true) true Try.f10.params.toList args.toList ds p := hA0
  rw [Try.params10] at hA hval hsz
  obtain ⟨v0, vs0, d0, ds0, p0, q0, hargs, rfl, rfl, h0, r0⟩ := trodAll_cons hA
  obtain ⟨v1, vs1, d1, ds1, p1, q1, rfl, rfl, rfl, h1, r1⟩ := trodAll_cons r0
  obtain ⟨rfl, rfl, rfl⟩ := trodAll_nil r1
  obtain rfl : args = #[v0, v1] := by cases args; simp_all
  obtain ⟨rfl, rfl⟩ := trodVars_none hV
  have k0 := h0
  have lt0 : ∀ x ∈ p0, x.block < W.heap.size := by obtain ⟨m, hm⟩ := k0; exact DataW.trod_lt m _ _ _ hm
  have k1 := h1
  have lt1 : ∀ x ∈ p1, x.block < W.heap.size := by obtain ⟨m, hm⟩ := k1; exact DataW.trod_lt m _ _ _ hm
  clear hA0 hval0 hsz0
  suffices hfin : Calls Try.prog 10 #[v0, v1] W fun e w' => e = .returned (.bool true) ∧ Below W.heap.size W w' by
    refine hfin.mono fun e W' ⟨he, bel⟩ => ?_
    subst he
    exact ⟨_, rfl, _, _, _, [], _, [], hW', trodAll_mk1 (shut_bool Try.underlying4 _), (trodAll_cons_mk (Below.trod laidOut (by kernel_rfl) (of_decide_eq_true (by kernel_rfl)) k0 bel lt0) (trodAll_cons_mk (Below.trod laidOut (by kernel_rfl) (of_decide_eq_true (by kernel_rfl)) k1 bel lt1) trodAll_mk0)), rfl, bel.frame _, fun h => by cases h⟩
  obtain ⟨cs0, rfl, hz0⟩ := okWide_struct Try.underlying67 (hval 0 67 v0 rfl rfl)
  obtain ⟨fuel0, hf0⟩ := h0
  obtain ⟨A0_0, c0_0, l0_0, A0_1, c0_1, l0_1, hcs0, hc0_0, hr0_0, hc0_1, hr0_1⟩ := open_67 hf0
  obtain rfl : cs0 = #[.slice A0_0 l0_0.length c0_0, .slice A0_1 l0_1.length c0_1] := by cases cs0; exact congrArg Array.mk hcs0
  obtain ⟨cs1, rfl, hz1⟩ := okWide_struct Try.underlying67 (hval 1 67 v1 rfl rfl)
  obtain ⟨fuel1, hf1⟩ := h1
  obtain ⟨A1_0, c1_0, l1_0, A1_1, c1_1, l1_1, hcs1, hc1_0, hr1_0, hc1_1, hr1_1⟩ := open_67 hf1
  obtain rfl : cs1 = #[.slice A1_0 l1_0.length c1_0, .slice A1_1 l1_1.length c1_1] := by cases cs1; exact congrArg Array.mk hcs1
  obtain ⟨k, h⟩ := pure l0_0 l0_1 l1_0 l1_1 hr0_0.2.1 hr0_1.2.1 hr1_0.2.1 hr1_1.2.1
  exact laws_FnExactNetSame.calls k _ _ l0_0 _ _ l0_1 _ _ l1_0 _ _ l1_1 W hr0_0 hc0_0 hr0_1 hc0_1 hr1_0 hc1_0 hr1_1 hc1_1 h
theorem over : Rows.fnExactNetSameRow.holds Try.pinned (OpenSpec.ofChange Rows.fnExactNetSameSpec) :=
  OpenClaim.holds_of_wide 10 Try.f10 rfl rfl rfl rfl rfl rfl rfl ⟨rfl, rfl, rfl, rfl, rfl⟩ rfl rfl rfl rfl rfl (by kernel_rfl) Try.func10 (by kernel_rfl)
    (of_decide_eq_true (by kernel_rfl)) (by unfold Func.isWrapper; first | (rw [if_pos (by decide +kernel)]; kernel_rfl) | (rw [if_neg (by decide +kernel)]; exact ⟨rfl, rfl⟩))
    (fun os started H enc _ => lifted os started H enc)
theorem proved : Rows.FnExactNetSameSaid := over
end Go.Proofs.Ytcigooccnlbkjaa.fnExactNetSame
namespace Go.Proofs.Ytcigooccnlbkjaa
/-- The row, under a short name, for the claim. -/
theorem fnExactNetSame_holds : Rows.FnExactNetSameSaid := fnExactNetSame.proved
end Go.Proofs.Ytcigooccnlbkjaa
