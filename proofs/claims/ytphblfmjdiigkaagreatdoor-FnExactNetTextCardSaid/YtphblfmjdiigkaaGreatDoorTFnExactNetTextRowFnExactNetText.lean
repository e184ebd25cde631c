/- The row of the law FnExactNetText: it returns true for every net (of any size), with the listed variables as the program's text lays them. -/
import Derived.Test.YtphblfmjdiigkaaGreatDoorRows
import Derived.Test.YtphblfmjdiigkaaGreatDoorTFnExactNetTextHl6
import Derived.Test.YtphblfmjdiigkaaGreatDoorTFnExactNetTextHl7
import Derived.Test.YtphblfmjdiigkaaGreatDoorTie
import Derived.Test.YtphblfmjdiigkaaGreatDoorCards
import Derived.LaidMore
import Derived.Stop.Joined
import Derived.SevenTiedAt
import Derived.WalkKit
import Derived.ProofKit
import Derived.OpenShut
import Derived.ShutString
import Derived.ChangeOld
import Derived.Below
import Derived.SizedLaws
import Derived.Lib.SmallJoins
import Derived.ChangeSame
import Derived.Deep.Strs
import Derived.Deep.Slices
namespace Go.Proofs.YtphblfmjdiigkaaGreatDoor.fnExactNetText
open Go.ChangeShapes Go.WideShapes Go.ChangeAt Go.RowKit Go.Joins
open Go.ChangeMaps (open_string shut_string)
set_option linter.unusedVariables false
set_option linter.unusedSimpArgs false
theorem own : ownKnob Tryz.prog.godebug = none := by kernel_rfl
theorem laidOut : laidOutB Tryz.prog = true := by kernel_rfl
open HFnExactNetText Go.Proofs.YtphblfmjdiigkaaGreatDoorW.PrintWords Go.Proofs.YtphblfmjdiigkaaGreatDoorW.PrintLast
theorem len_2 {l : List Value} (h : l.length = 2) : ∃ c0 c1, l = [c0, c1] := by
  match l, h with
  | [c0, c1], _ => exact ⟨c0, c1, rfl⟩
theorem open_79 {H : Type} {enc : TypeId × Value → H} {w : World} {base : Nat} {spare : Nat → Bool} {held : Bool} {fuel : Nat} {cs : List Value} {x : DataW H × List MemPlace} (h : DataW.trod enc Tryz.prog w base spare held fuel 79 cs = some x) :
    ∃ (x0 : Int) (x1 : Int), cs = [.int .i64 x0, .int .i64 x1] ∧ True ∧ (Lit.int .i64 x0).wf = true ∧ (Lit.int .i64 x1).wf = true := by
  obtain ⟨xs, n, _, _, hl, hx, hf⟩ := DataW.trod_struct Tryz.underlying79 h
  have hl2 : cs.length = 2 := hl.trans (by kernel_rfl)
  replace hx : xs.length = 2 := hx.trans (by rfl)
  have s3 : Tryz.prog.cellsOf 3 = 1 := by kernel_rfl
  have g0 := hf 0 _ rfl
  have g1 := hf 1 _ rfl
  obtain ⟨c0, c1, rfl⟩ := len_2 hl2
  have e0 : ∃ y, xs[0]? = some y := ⟨xs[0]'(by omega), List.getElem?_eq_getElem _⟩
  obtain ⟨y0, e0⟩ := e0
  rw [e0] at g0
  have e1 : ∃ y, xs[1]? = some y := ⟨xs[1]'(by omega), List.getElem?_eq_getElem _⟩
  obtain ⟨y1, e1⟩ := e1
  rw [e1] at g1
  replace g0 : DataW.trod enc Tryz.prog w base spare held n 3 [c0] = some y0 := by
    have g := g0
    simp only [List.getElem_toArray, List.getElem_cons_zero, List.getElem_cons_succ, s3] at g
    exact g
  obtain ⟨z0, q0, _, hw0⟩ := DataW.trod_int Tryz.underlying3 g0
  simp only [List.cons.injEq, and_true] at q0
  obtain rfl := q0
  replace g1 : DataW.trod enc Tryz.prog w base spare held n 3 [c1] = some y1 := by
    have g := g1
    simp only [List.getElem_toArray, List.getElem_cons_zero, List.getElem_cons_succ, s3] at g
    exact g
  obtain ⟨z1, q1, _, hw1⟩ := DataW.trod_int Tryz.underlying3 g1
  simp only [List.cons.injEq, and_true] at q1
  obtain rfl := q1
  exact ⟨z0, z1, rfl, trivial, hw0, hw1⟩
theorem len_5 {l : List Value} (h : l.length = 5) : ∃ c0 c1 c2 c3 c4, l = [c0, c1, c2, c3, c4] := by
  match l, h with
  | [c0, c1, c2, c3, c4], _ => exact ⟨c0, c1, c2, c3, c4, rfl⟩
theorem open_81 {H : Type} {enc : TypeId × Value → H} {w : World} {base : Nat} {spare : Nat → Bool} {held : Bool} {fuel : Nat} {cs : List Value} {x : DataW H × List MemPlace} (h : DataW.trod enc Tryz.prog w base spare held fuel 81 cs = some x) :
    ∃ (x0 : Int) (x1 : Int) (x2 : Int) (x3 : Int) (x4 : Bool), cs = [.int .i64 x0, .int .i64 x1, .int .i64 x2, .int .i64 x3, .bool x4] ∧ True ∧ (Lit.int .i64 x0).wf = true ∧ (Lit.int .i64 x1).wf = true ∧ (Lit.int .i64 x2).wf = true ∧ (Lit.int .i64 x3).wf = true := by
  obtain ⟨xs, n, _, _, hl, hx, hf⟩ := DataW.trod_struct Tryz.underlying81 h
  have hl2 : cs.length = 5 := hl.trans (by kernel_rfl)
  replace hx : xs.length = 4 := hx.trans (by rfl)
  have s3 : Tryz.prog.cellsOf 3 = 1 := by kernel_rfl
  have s79 : Tryz.prog.cellsOf 79 = 2 := by kernel_rfl
  have s4 : Tryz.prog.cellsOf 4 = 1 := by kernel_rfl
  have g0 := hf 0 _ rfl
  have g1 := hf 1 _ rfl
  have g2 := hf 2 _ rfl
  have g3 := hf 3 _ rfl
  obtain ⟨c0, c1, c2, c3, c4, rfl⟩ := len_5 hl2
  have e0 : ∃ y, xs[0]? = some y := ⟨xs[0]'(by omega), List.getElem?_eq_getElem _⟩
  obtain ⟨y0, e0⟩ := e0
  rw [e0] at g0
  have e1 : ∃ y, xs[1]? = some y := ⟨xs[1]'(by omega), List.getElem?_eq_getElem _⟩
  obtain ⟨y1, e1⟩ := e1
  rw [e1] at g1
  have e2 : ∃ y, xs[2]? = some y := ⟨xs[2]'(by omega), List.getElem?_eq_getElem _⟩
  obtain ⟨y2, e2⟩ := e2
  rw [e2] at g2
  have e3 : ∃ y, xs[3]? = some y := ⟨xs[3]'(by omega), List.getElem?_eq_getElem _⟩
  obtain ⟨y3, e3⟩ := e3
  rw [e3] at g3
  replace g0 : DataW.trod enc Tryz.prog w base spare held n 3 [c0] = some y0 := by
    have g := g0
    simp only [List.getElem_toArray, List.getElem_cons_zero, List.getElem_cons_succ, s3] at g
    exact g
  obtain ⟨z0, q0, _, hw0⟩ := DataW.trod_int Tryz.underlying3 g0
  simp only [List.cons.injEq, and_true] at q0
  obtain rfl := q0
  replace g1 : DataW.trod enc Tryz.prog w base spare held n 3 [c1] = some y1 := by
    have g := g1
    simp only [List.getElem_toArray, List.getElem_cons_zero, List.getElem_cons_succ, s3] at g
    exact g
  obtain ⟨z1, q1, _, hw1⟩ := DataW.trod_int Tryz.underlying3 g1
  simp only [List.cons.injEq, and_true] at q1
  obtain rfl := q1
  replace g2 : DataW.trod enc Tryz.prog w base spare held n 79 [c2, c3] = some y2 := by
    have g := g2
    simp only [List.getElem_toArray, List.getElem_cons_zero, List.getElem_cons_succ, s79] at g
    exact g
  obtain ⟨z2_0, z2_1, q2, hw2⟩ := open_79 g2
  simp only [List.cons.injEq, and_true] at q2
  obtain ⟨rfl, rfl⟩ := q2
  replace g3 : DataW.trod enc Tryz.prog w base spare held n 4 [c4] = some y3 := by
    have g := g3
    simp only [List.getElem_toArray, List.getElem_cons_zero, List.getElem_cons_succ, s4] at g
    exact g
  obtain ⟨z3, q3, _⟩ := DataW.trod_bool Tryz.underlying4 g3
  simp only [List.cons.injEq, and_true] at q3
  obtain rfl := q3
  exact ⟨z0, z1, z2_0, z2_1, z3, rfl, trivial, hw0, hw1, hw2.2.1, hw2.2.2⟩
theorem len_12 {l : List Value} (h : l.length = 12) : ∃ c0 c1 c2 c3 c4 c5 c6 c7 c8 c9 c10 c11, l = [c0, c1, c2, c3, c4, c5, c6, c7, c8, c9, c10, c11] := by
  match l, h with
  | [c0, c1, c2, c3, c4, c5, c6, c7, c8, c9, c10, c11], _ => exact ⟨c0, c1, c2, c3, c4, c5, c6, c7, c8, c9, c10, c11, rfl⟩
theorem open_83 {H : Type} {enc : TypeId × Value → H} {w : World} {base : Nat} {spare : Nat → Bool} {held : Bool} {fuel : Nat} {cs : List Value} {x : DataW H × List MemPlace} (h : DataW.trod enc Tryz.prog w base spare held fuel 83 cs = some x) :
    ∃ (x0 : Int) (x1 : Int) (x2 : Int) (x3 : Int) (x4 : Int) (x5 : Int) (x6 : Bool) (x7 : Int) (x8 : Int) (x9 : Int) (x10 : Int) (x11 : Bool), cs = [.int .i64 x0, .int .i64 x1, .int .i64 x2, .int .i64 x3, .int .i64 x4, .int .i64 x5, .bool x6, .int .i64 x7, .int .i64 x8, .int .i64 x9, .int .i64 x10, .bool x11] ∧ True ∧ (Lit.int .i64 x0).wf = true ∧ (Lit.int .i64 x1).wf = true ∧ (Lit.int .i64 x2).wf = true ∧ (Lit.int .i64 x3).wf = true ∧ (Lit.int .i64 x4).wf = true ∧ (Lit.int .i64 x5).wf = true ∧ (Lit.int .i64 x7).wf = true ∧ (Lit.int .i64 x8).wf = true ∧ (Lit.int .i64 x9).wf = true ∧ (Lit.int .i64 x10).wf = true := by
  obtain ⟨xs, n, _, _, hl, hx, hf⟩ := DataW.trod_struct Tryz.underlying83 h
  have hl2 : cs.length = 12 := hl.trans (by kernel_rfl)
  replace hx : xs.length = 4 := hx.trans (by rfl)
  have s3 : Tryz.prog.cellsOf 3 = 1 := by kernel_rfl
  have s81 : Tryz.prog.cellsOf 81 = 5 := by kernel_rfl
  have g0 := hf 0 _ rfl
  have g1 := hf 1 _ rfl
  have g2 := hf 2 _ rfl
  have g3 := hf 3 _ rfl
  obtain ⟨c0, c1, c2, c3, c4, c5, c6, c7, c8, c9, c10, c11, rfl⟩ := len_12 hl2
  have e0 : ∃ y, xs[0]? = some y := ⟨xs[0]'(by omega), List.getElem?_eq_getElem _⟩
  obtain ⟨y0, e0⟩ := e0
  rw [e0] at g0
  have e1 : ∃ y, xs[1]? = some y := ⟨xs[1]'(by omega), List.getElem?_eq_getElem _⟩
  obtain ⟨y1, e1⟩ := e1
  rw [e1] at g1
  have e2 : ∃ y, xs[2]? = some y := ⟨xs[2]'(by omega), List.getElem?_eq_getElem _⟩
  obtain ⟨y2, e2⟩ := e2
  rw [e2] at g2
  have e3 : ∃ y, xs[3]? = some y := ⟨xs[3]'(by omega), List.getElem?_eq_getElem _⟩
  obtain ⟨y3, e3⟩ := e3
  rw [e3] at g3
  replace g0 : DataW.trod enc Tryz.prog w base spare held n 3 [c0] = some y0 := by
    have g := g0
    simp only [List.getElem_toArray, List.getElem_cons_zero, List.getElem_cons_succ, s3] at g
    exact g
  obtain ⟨z0, q0, _, hw0⟩ := DataW.trod_int Tryz.underlying3 g0
  simp only [List.cons.injEq, and_true] at q0
  obtain rfl := q0
  replace g1 : DataW.trod enc Tryz.prog w base spare held n 3 [c1] = some y1 := by
    have g := g1
    simp only [List.getElem_toArray, List.getElem_cons_zero, List.getElem_cons_succ, s3] at g
    exact g
  obtain ⟨z1, q1, _, hw1⟩ := DataW.trod_int Tryz.underlying3 g1
  simp only [List.cons.injEq, and_true] at q1
  obtain rfl := q1
  replace g2 : DataW.trod enc Tryz.prog w base spare held n 81 [c2, c3, c4, c5, c6] = some y2 := by
    have g := g2
    simp only [List.getElem_toArray, List.getElem_cons_zero, List.getElem_cons_succ, s81] at g
    exact g
  obtain ⟨z2_0, z2_1, z2_2, z2_3, z2_4, q2, hw2⟩ := open_81 g2
  simp only [List.cons.injEq, and_true] at q2
  obtain ⟨rfl, rfl, rfl, rfl, rfl⟩ := q2
  replace g3 : DataW.trod enc Tryz.prog w base spare held n 81 [c7, c8, c9, c10, c11] = some y3 := by
    have g := g3
    simp only [List.getElem_toArray, List.getElem_cons_zero, List.getElem_cons_succ, s81] at g
    exact g
  obtain ⟨z3_0, z3_1, z3_2, z3_3, z3_4, q3, hw3⟩ := open_81 g3
  simp only [List.cons.injEq, and_true] at q3
  obtain ⟨rfl, rfl, rfl, rfl, rfl⟩ := q3
  exact ⟨z0, z1, z2_0, z2_1, z2_2, z2_3, z2_4, z3_0, z3_1, z3_2, z3_3, z3_4, rfl, trivial, hw0, hw1, hw2.2.1, hw2.2.2.1, hw2.2.2.2.1, hw2.2.2.2.2, hw3.2.1, hw3.2.2.1, hw3.2.2.2.1, hw3.2.2.2.2⟩
theorem len_3 {l : List Value} (h : l.length = 3) : ∃ c0 c1 c2, l = [c0, c1, c2] := by
  match l, h with
  | [c0, c1, c2], _ => exact ⟨c0, c1, c2, rfl⟩
theorem open_86 {H : Type} {enc : TypeId × Value → H} {w : World} {base : Nat} {spare : Nat → Bool} {held : Bool} {fuel : Nat} {cs : List Value} {x : DataW H × List MemPlace} (h : DataW.trod enc Tryz.prog w base spare held fuel 86 cs = some x) :
    ∃ (x0 : Int) (x1 : Int) (x2 : Int), cs = [.int .i64 x0, .int .i64 x1, .int .i64 x2] ∧ True ∧ (Lit.int .i64 x0).wf = true ∧ (Lit.int .i64 x1).wf = true ∧ (Lit.int .i64 x2).wf = true := by
  obtain ⟨xs, n, _, _, hl, hx, hf⟩ := DataW.trod_struct Tryz.underlying86 h
  have hl2 : cs.length = 3 := hl.trans (by kernel_rfl)
  replace hx : xs.length = 2 := hx.trans (by rfl)
  have s79 : Tryz.prog.cellsOf 79 = 2 := by kernel_rfl
  have s3 : Tryz.prog.cellsOf 3 = 1 := by kernel_rfl
  have g0 := hf 0 _ rfl
  have g1 := hf 1 _ rfl
  obtain ⟨c0, c1, c2, rfl⟩ := len_3 hl2
  have e0 : ∃ y, xs[0]? = some y := ⟨xs[0]'(by omega), List.getElem?_eq_getElem _⟩
  obtain ⟨y0, e0⟩ := e0
  rw [e0] at g0
  have e1 : ∃ y, xs[1]? = some y := ⟨xs[1]'(by omega), List.getElem?_eq_getElem _⟩
  obtain ⟨y1, e1⟩ := e1
  rw [e1] at g1
  replace g0 : DataW.trod enc Tryz.prog w base spare held n 79 [c0, c1] = some y0 := by
    have g := g0
    simp only [List.getElem_toArray, List.getElem_cons_zero, List.getElem_cons_succ, s79] at g
    exact g
  obtain ⟨z0_0, z0_1, q0, hw0⟩ := open_79 g0
  simp only [List.cons.injEq, and_true] at q0
  obtain ⟨rfl, rfl⟩ := q0
  replace g1 : DataW.trod enc Tryz.prog w base spare held n 3 [c2] = some y1 := by
    have g := g1
    simp only [List.getElem_toArray, List.getElem_cons_zero, List.getElem_cons_succ, s3] at g
    exact g
  obtain ⟨z1, q1, _, hw1⟩ := DataW.trod_int Tryz.underlying3 g1
  simp only [List.cons.injEq, and_true] at q1
  obtain rfl := q1
  exact ⟨z0_0, z0_1, z1, rfl, trivial, hw0.2.1, hw0.2.2, hw1⟩
theorem slice_kd {H : Type} {enc : TypeId × Value → H} {P : Program} {w : World} {base : Nat} {spare : Nat → Bool} {held : Bool} {t e : TypeId} {α : Type} (d : Kd α) (ok : α → Prop) (d0 : α) (ht : P.underlying t = some (.slice e)) (hc : P.cellsOf e = d.sz)
    (hop : ∀ {n : Nat} {cs : List Value} {x : DataW H × List MemPlace}, DataW.trod enc P w base spare held n e cs = some x → ∃ a, d.K w a cs ∧ ok a)
    {fuel : Nat} {A : Option Addr} {len cap : Nat} {x : DataW H × List MemPlace} (h : DataW.trod enc P w base spare held fuel t [.slice A len cap] = some x) :
    ∃ l : List α, l.length = len ∧ len ≤ cap ∧ d.C w A len l ∧ ∀ a ∈ l, ok a := by
  rcases Go.Deep.open_slice ht h with ⟨hcs, _⟩ | ⟨a, len', cap', m, n, D, Pl, hcs, hb, hl, hcap, hm, hx, hel⟩
  · simp only [List.cons.injEq, Value.slice.injEq, and_true] at hcs
    obtain ⟨rfl, rfl, rfl⟩ := hcs
    exact ⟨[], rfl, Nat.le_refl _, ⟨rfl, by omega, fun h => absurd h (by omega)⟩, by simp⟩
  · simp only [List.cons.injEq, Value.slice.injEq, and_true] at hcs
    obtain ⟨rfl, rfl, rfl⟩ := hcs
    have hlm : len ≤ m := by rw [hm]; split <;> omega
    haveI : Inhabited α := ⟨d0⟩
    obtain ⟨f, hf⟩ := Go.Deep.choose_lt (n := len) (p := fun i (z : α) => ∃ cs', w.cells? base (a.add (i * P.cellsOf e)) (P.cellsOf e) = some cs' ∧ d.K w z cs' ∧ ok z) (fun i hi => by
      obtain ⟨cs', h1, h2⟩ := hel i (by omega)
      obtain ⟨z, hz, hz2⟩ := hop h2
      exact ⟨z, cs', h1, hz, hz2⟩)
    refine ⟨(List.range len).map f, by simp, hl, ⟨by simp, by unfold maxLen at hcap; omega, fun _ => ⟨a, rfl, fun j p hj => ?_⟩⟩, ?_⟩
    · have hjl : j < len := by
        have := (List.getElem?_eq_some_iff.1 hj).1; simpa using this
      have hp : p = f j := by
        rw [List.getElem?_map, List.getElem?_range hjl] at hj; simpa using hj.symm
      subst hp
      obtain ⟨cs', h1, h2, _⟩ := hf j hjl
      refine ⟨cs', d.K_len h2, h2, fun i u hu => ?_⟩
      have hs := World.cells?_some h1
      have hi : i < d.sz := by rw [← d.K_len h2]; exact (List.getElem?_eq_some_iff.1 hu).1
      have := hs.2.2 i (by rw [hc]; exact hi)
      rw [Go.Deep.add_add, hc] at this
      rw [this]; exact hu
    · intro z hz
      obtain ⟨i, hi, rfl⟩ := List.mem_map.1 hz
      exact (hf i (List.mem_range.1 hi)).choose_spec.2.2
theorem slice_any {H : Type} {enc : TypeId × Value → H} {P : Program} {w : World} {base : Nat} {spare : Nat → Bool} {held : Bool} {t e : TypeId} {α : Type} (d : Kd α) (ok : α → Prop) (d0 : α) (ht : P.underlying t = some (.slice e)) (hc : P.cellsOf e = d.sz)
    (hop : ∀ {n : Nat} {cs : List Value} {x : DataW H × List MemPlace}, DataW.trod enc P w base spare held n e cs = some x → ∃ a, d.K w a cs ∧ ok a)
    {fuel : Nat} {cs : List Value} {x : DataW H × List MemPlace} (h : DataW.trod enc P w base spare held fuel t cs = some x) :
    ∃ (A : Option Addr) (cap : Nat) (l : List α), cs = [.slice A l.length cap] ∧ l.length ≤ cap ∧ d.C w A l.length l ∧ ∀ a ∈ l, ok a := by
  have hs : ∃ A len cap, cs = [.slice A len cap] := by
    rcases Go.Deep.open_slice ht h with ⟨hcs, _⟩ | ⟨a, len', cap', m, n, D, Pl, hcs, _⟩
    · exact ⟨_, _, _, hcs⟩
    · exact ⟨_, _, _, hcs⟩
  obtain ⟨A, len, cap, rfl⟩ := hs
  obtain ⟨l, rfl, h1, h2, h3⟩ := slice_kd d ok d0 ht hc hop h
  exact ⟨A, cap, l, rfl, h1, h2, h3⟩
theorem lenOf_25 {l : List Value} (h : l.length = 2) : ∃ cc0 cc1, l = [cc0, cc1] := by
  match l, h with
  | [cc0, cc1], _ => exact ⟨cc0, cc1, rfl⟩
theorem open_25 {H : Type} {enc : TypeId × Value → H} {w : World} {base : Nat} {spare : Nat → Bool} {held : Bool} {fuel : Nat} {cs : List Value} {x : DataW H × List MemPlace} (h : DataW.trod enc Tryz.prog w base spare held fuel 25 cs = some x) :
    ∃ (A0 : Option Addr) (c0 : Nat) (l0 : List S83) (A1 : Option Addr) (c1 : Nat) (l1 : List S86), cs = [.slice A0 l0.length c0, .slice A1 l1.length c1] ∧ l0.length ≤ c0 ∧ k83.C w A0 l0.length l0 ∧ l1.length ≤ c1 ∧ k86.C w A1 l1.length l1 := by
  obtain ⟨xs, n, _, _, hl, hx, hf⟩ := DataW.trod_struct Tryz.underlying25 h
  have hl2 : cs.length = 2 := hl.trans (by kernel_rfl)
  replace hx : xs.length = 2 := hx.trans (by rfl)
  have s22 : Tryz.prog.cellsOf 22 = 1 := by kernel_rfl
  have s23 : Tryz.prog.cellsOf 23 = 1 := by kernel_rfl
  have g0 := hf 0 _ rfl
  have g1 := hf 1 _ rfl
  obtain ⟨cc0, cc1, rfl⟩ := lenOf_25 hl2
  have e0 : ∃ y, xs[0]? = some y := ⟨xs[0]'(by omega), List.getElem?_eq_getElem _⟩
  obtain ⟨y0, e0⟩ := e0
  rw [e0] at g0
  have e1 : ∃ y, xs[1]? = some y := ⟨xs[1]'(by omega), List.getElem?_eq_getElem _⟩
  obtain ⟨y1, e1⟩ := e1
  rw [e1] at g1
  replace g0 : DataW.trod enc Tryz.prog w base spare held n 22 [cc0] = some y0 := by
    have g := g0
    simp only [List.getElem_toArray, List.getElem_cons_zero, List.getElem_cons_succ, s22] at g
    exact g
  obtain ⟨B0, b0, m0, q0, hc0, hr0, _⟩ := slice_any k83 (fun _ => True) z83 Tryz.underlying22 (by kernel_rfl) (fun h => by obtain ⟨x0, x1, x2, x3, x4, x5, x6, x7, x8, x9, x10, x11, rfl, _⟩ := open_83 h; exact ⟨⟨x0, x1, ⟨x2, x3, ⟨x4, x5⟩, x6⟩, ⟨x7, x8, ⟨x9, x10⟩, x11⟩⟩, k83_mk w _, trivial⟩) g0
  simp only [List.cons.injEq, and_true] at q0
  obtain rfl := q0
  replace g1 : DataW.trod enc Tryz.prog w base spare held n 23 [cc1] = some y1 := by
    have g := g1
    simp only [List.getElem_toArray, List.getElem_cons_zero, List.getElem_cons_succ, s23] at g
    exact g
  obtain ⟨B1, b1, m1, q1, hc1, hr1, _⟩ := slice_any k86 (fun _ => True) z86 Tryz.underlying23 (by kernel_rfl) (fun h => by obtain ⟨x0, x1, x2, rfl, _⟩ := open_86 h; exact ⟨⟨⟨x0, x1⟩, x2⟩, k86_mk w _, trivial⟩) g1
  simp only [List.cons.injEq, and_true] at q1
  obtain rfl := q1
  exact ⟨B0, b0, m0, B1, b1, m1, rfl, hc0, hr0, hc1, hr1⟩
set_option maxRecDepth 100000 in
/-- The door's own heap meets the condition: closed facts. -/
theorem door_met (os : Os) (args : Array Value) : laidMetH Tryz.prog Rows.fnExactNetTextRow.laid ((World.doorLaid Tryz.prog 400 os).forCall (fun _ _ => 0) ⟨#[], args, []⟩).memory :=
  laidMetH_of_parts3 (fuel := 8) (laidMet_of_run' 8 (by kernel_rfl) (by kernel_rfl)) (by kernel_rfl) (by kernel_rfl)
set_option maxRecDepth 100000 in
theorem lifted (os : Os) (started : os.Started) (H : Type) (enc : TypeId × Value → H) :
    ReturnsInHanded {} Tryz.checked os 3 .any (fun w args => (Rows.fnExactNetTextSpec.pre enc Tryz.prog Tryz.f3 [] false w args ∧ laidMetH Tryz.prog Rows.fnExactNetTextRow.laid w) ∧ sizedMet enc Tryz.prog Tryz.f3 (OpenSpec.ofChange Rows.fnExactNetTextSpec) false w args) (Rows.fnExactNetTextSpec.post enc Tryz.prog Tryz.f3 false true false false) := by
  refine returnsInHanded_of_change_and (C := Tryz.checked) (X := fun w _ => laidMetH Tryz.prog Rows.fnExactNetTextRow.laid w) (fun _ _ _ hh h => h.of_heap hh) own started (by kernel_rfl) Tryz.func3
    (ChangeSpec.witness_shaped (enc := enc) (C := Tryz.checked) (os := os) (X := fun w _ => laidMetH Tryz.prog Rows.fnExactNetTextRow.laid w) false (World.doorLaid Tryz.prog 400 os) #[.agg #[.slice none 0 0, .slice none 0 0]] 8 rfl (World.shaped_of_RefB (by kernel_rfl) (by kernel_rfl)) (by kernel_rfl) (by kernel_rfl) (by kernel_rfl) (door_met os _)) ?_
  intro W base args ds gs before hval0 hW hcnd hsz0 hL _
  have hsz : (DataW.weightsEach Tryz.prog (Tryz.f3.params.toList ++ Rows.fnExactNetTextSpec.plain.varTypes Tryz.prog) (ds ++ gs)).all (· ≤ reachBytes) = true := hsz0
  have hval : ∀ (j : Nat) t v, Tryz.f3.params[j]? = some t → args[j]? = some v → Value.okWide Tryz.prog W .any base t v := hval0
  have hW' := hW
  obtain ⟨p, q, hA0, hV, rfl, hfz, hnd⟩ := hW
  have hA : DataW.TrodAll enc Tryz.prog W 0 (fun _ => true) true Tryz.f3.params.toList args.toList ds p := hA0
  rw [Tryz.params3] at hA hval hsz
  obtain ⟨v0, vs0, d0, ds0, p0, q0, hargs, rfl, rfl, h0, r0⟩ := trodAll_cons hA
  obtain ⟨rfl, rfl, rfl⟩ := trodAll_nil r0
  obtain rfl : args = #[v0] := by cases args; simp_all
  obtain ⟨rfl, rfl⟩ := trodVars_none hV
  have k0 := h0
  have lt0 : ∀ x ∈ p0, x.block < W.heap.size := by obtain ⟨m, hm⟩ := k0; exact DataW.trod_lt m _ _ _ hm
  clear hA0 hval0 hsz0
  suffices hfin : Calls Tryz.prog 3 #[v0] W fun e w' => e = .returned (.bool true) ∧ Below W.heap.size W w' by
    refine hfin.mono fun e W' ⟨he, bel⟩ => ?_
    subst he
    exact ⟨_, rfl, _, _, _, [], _, [], hW', trodAll_mk1 (shut_bool Tryz.underlying4 _), (trodAll_cons_mk (Below.trod laidOut (by kernel_rfl) (of_decide_eq_true (by kernel_rfl)) k0 bel lt0) trodAll_mk0), rfl, bel.frame _, fun h => by cases h⟩
  obtain ⟨cs0, rfl, hz0⟩ := okWide_struct Tryz.underlying25 (hval 0 25 v0 rfl rfl)
  obtain ⟨fuel0, hf0⟩ := h0
  obtain ⟨A0_0, c0_0, l0_0, A0_1, c0_1, l0_1, hcs0, hc0_0, hr0_0, hc0_1, hr0_1⟩ := open_25 hf0
  obtain rfl : cs0 = #[.slice A0_0 l0_0.length c0_0, .slice A0_1 l0_1.length c0_1] := by cases cs0; exact congrArg Array.mk hcs0
  exact Hl6.walkText l0_0 l0_1 _ _ _ _ W hc0_0 hc0_1 hr0_0 hr0_1 (Hl7.tb_of W hL)
theorem over : Rows.fnExactNetTextRow.holds Tryz.pinned (OpenSpec.ofChange Rows.fnExactNetTextSpec) :=
  OpenClaim.holds_of_wide 3 Tryz.f3 rfl rfl rfl rfl rfl rfl rfl ⟨rfl, rfl, rfl, rfl, rfl⟩ rfl rfl rfl rfl rfl (by kernel_rfl) Tryz.func3 (by kernel_rfl)
    (of_decide_eq_true (by kernel_rfl)) (by unfold Func.isWrapper; first | (rw [if_pos (by decide +kernel)]; kernel_rfl) | (rw [if_neg (by decide +kernel)]; exact ⟨rfl, rfl⟩))
    (fun os started H enc _ => lifted os started H enc)
/-- The card: the row, its listed variables tied to the program's text. -/
theorem card_holds : Rows.FnExactNetTextCardSaid :=
  Claim7.holds_tied_plain_at .later [] [.data, .data, .data] true (true, "6b923d558aa2e4c6c4b0653eaf90b209060ae6b524e9c1855ce26f0372ffe2e1") false
    over (fun _ h => by cases h) (by kernel_rfl) (fun _ h => by cases h) fnExactNetText_row_tie rfl ⟨rfl, rfl⟩ (by kernel_rfl) rfl
    (fun f fn hf hfn => by
      obtain rfl : f = 3 := Option.some.inj ((show Tryz.prog.funcNamed "loop.example/stopgate/laws.FnExactNetText" = some 3 by kernel_rfl).symm.trans hf) |>.symm
      obtain rfl : fn = Tryz.f3 := (Option.some.inj (Tryz.func3.symm.trans hfn)).symm
      exact ⟨by kernel_rfl, fun j t ht => by
        rw [Tryz.params3] at ht
        have hm : t ∈ [25] := by simpa using Array.mem_of_getElem? ht
        have hall : ([25].all fun u => !Tryz.prog.wantsStandIn u) = true := by kernel_rfl
        exact (show Tryz.prog.wantsStandIn t = false by simpa using List.all_eq_true.1 hall t hm)⟩)
    (by kernel_rfl)
end Go.Proofs.YtphblfmjdiigkaaGreatDoor.fnExactNetText
namespace Go.Proofs.YtphblfmjdiigkaaGreatDoor
theorem fnExactNetTextCard_holds : Rows.FnExactNetTextCardSaid := fnExactNetText.card_holds
#print axioms fnExactNetTextCard_holds
end Go.Proofs.YtphblfmjdiigkaaGreatDoor
