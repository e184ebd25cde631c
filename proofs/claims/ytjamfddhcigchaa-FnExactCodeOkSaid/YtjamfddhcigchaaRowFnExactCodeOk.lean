/- The row of the law FnExactCodeOk: for every slice of instructions the law returns true. No condition. -/
import Derived.Test.YtjamfddhcigchaaRows
import Derived.Test.YtjamfddhcigchaaHl
import Derived.WalkKit
import Derived.ProofKit
import Derived.OpenShut
import Derived.ShutString
import Derived.ChangeOld
import Derived.Below
import Derived.SizedLaws
import Derived.Lib.SmallJoins
import Derived.ChangeSame
import Derived.Deep.Strs
import Derived.Deep.Slices
namespace Go.Proofs.Ytjamfddhcigchaa.fnExactCodeOk
open Go.ChangeShapes Go.WideShapes Go.ChangeAt Go.RowKit Go.Joins
open Go.ChangeMaps (open_string shut_string)
set_option linter.unusedVariables false
set_option linter.unusedSimpArgs false
theorem own : ownKnob Try.prog.godebug = none := by kernel_rfl
theorem laidOut : laidOutB Try.prog = true := by kernel_rfl
open PFnExactCodeDepth Go.Proofs.YtjamfddhcigchaaW.PrintWords Go.Proofs.YtjamfddhcigchaaW.PrintLast
theorem len_2 {l : List Value} (h : l.length = 2) : ∃ c0 c1, l = [c0, c1] := by
  match l, h with
  | [c0, c1], _ => exact ⟨c0, c1, rfl⟩
theorem open_38 {H : Type} {enc : TypeId × Value → H} {w : World} {base : Nat} {spare : Nat → Bool} {held : Bool} {fuel : Nat} {cs : List Value} {x : DataW H × List MemPlace} (h : DataW.trod enc Try.prog w base spare held fuel 38 cs = some x) :
    ∃ (x0 : Int) (x1 : Int), cs = [.int .i64 x0, .int .i64 x1] ∧ True ∧ (Lit.int .i64 x0).wf = true ∧ (Lit.int .i64 x1).wf = true := by
  obtain ⟨xs, n, _, _, hl, hx, hf⟩ := DataW.trod_struct Try.underlying38 h
  have hl2 : cs.length = 2 := hl.trans (by kernel_rfl)
  replace hx : xs.length = 2 := hx.trans (by rfl)
  have s3 : Try.prog.cellsOf 3 = 1 := by kernel_rfl
  have g0 := hf 0 _ rfl
  have g1 := hf 1 _ rfl
  obtain ⟨c0, c1, rfl⟩ := len_2 hl2
  have e0 : ∃ y, xs[0]? = some y := ⟨xs[0]'(by omega), List.getElem?_eq_getElem _⟩
  obtain ⟨y0, e0⟩ := e0
  rw [e0] at g0
  have e1 : ∃ y, xs[1]? = some y := ⟨xs[1]'(by omega), List.getElem?_eq_getElem _⟩
  obtain ⟨y1, e1⟩ := e1
  rw [e1] at g1
  replace g0 : DataW.trod enc Try.prog w base spare held n 3 [c0] = some y0 := by
    have g := g0
    simp only [List.getElem_toArray, List.getElem_cons_zero, List.getElem_cons_succ, s3] at g
    exact g
  obtain ⟨z0, q0, _, hw0⟩ := DataW.trod_int Try.underlying3 g0
  simp only [List.cons.injEq, and_true] at q0
  obtain rfl := q0
  replace g1 : DataW.trod enc Try.prog w base spare held n 3 [c1] = some y1 := by
    have g := g1
    simp only [List.getElem_toArray, List.getElem_cons_zero, List.getElem_cons_succ, s3] at g
    exact g
  obtain ⟨z1, q1, _, hw1⟩ := DataW.trod_int Try.underlying3 g1
  simp only [List.cons.injEq, and_true] at q1
  obtain rfl := q1
  exact ⟨z0, z1, rfl, trivial, hw0, hw1⟩
theorem len_4 {l : List Value} (h : l.length = 4) : ∃ c0 c1 c2 c3, l = [c0, c1, c2, c3] := by
  match l, h with
  | [c0, c1, c2, c3], _ => exact ⟨c0, c1, c2, c3, rfl⟩
theorem open_40 {H : Type} {enc : TypeId × Value → H} {w : World} {base : Nat} {spare : Nat → Bool} {held : Bool} {fuel : Nat} {cs : List Value} {x : DataW H × List MemPlace} (h : DataW.trod enc Try.prog w base spare held fuel 40 cs = some x) :
    ∃ (x0 : Int) (x1 : Int) (x2 : Int) (x3 : Int), cs = [.int .i64 x0, .int .i64 x1, .int .i64 x2, .int .i64 x3] ∧ True ∧ (Lit.int .i64 x0).wf = true ∧ (Lit.int .i64 x1).wf = true ∧ (Lit.int .i64 x2).wf = true ∧ (Lit.int .i64 x3).wf = true := by
  obtain ⟨xs, n, _, _, hl, hx, hf⟩ := DataW.trod_struct Try.underlying40 h
  have hl2 : cs.length = 4 := hl.trans (by kernel_rfl)
  replace hx : xs.length = 3 := hx.trans (by rfl)
  have s3 : Try.prog.cellsOf 3 = 1 := by kernel_rfl
  have s38 : Try.prog.cellsOf 38 = 2 := by kernel_rfl
  have g0 := hf 0 _ rfl
  have g1 := hf 1 _ rfl
  have g2 := hf 2 _ rfl
  obtain ⟨c0, c1, c2, c3, rfl⟩ := len_4 hl2
  have e0 : ∃ y, xs[0]? = some y := ⟨xs[0]'(by omega), List.getElem?_eq_getElem _⟩
  obtain ⟨y0, e0⟩ := e0
  rw [e0] at g0
  have e1 : ∃ y, xs[1]? = some y := ⟨xs[1]'(by omega), List.getElem?_eq_getElem _⟩
  obtain ⟨y1, e1⟩ := e1
  rw [e1] at g1
  have e2 : ∃ y, xs[2]? = some y := ⟨xs[2]'(by omega), List.getElem?_eq_getElem _⟩
  obtain ⟨y2, e2⟩ := e2
  rw [e2] at g2
  replace g0 : DataW.trod enc Try.prog w base spare held n 3 [c0] = some y0 := by
    have g := g0
    simp only [List.getElem_toArray, List.getElem_cons_zero, List.getElem_cons_succ, s3] at g
    exact g
  obtain ⟨z0, q0, _, hw0⟩ := DataW.trod_int Try.underlying3 g0
  simp only [List.cons.injEq, and_true] at q0
  obtain rfl := q0
  replace g1 : DataW.trod enc Try.prog w base spare held n 3 [c1] = some y1 := by
    have g := g1
    simp only [List.getElem_toArray, List.getElem_cons_zero, List.getElem_cons_succ, s3] at g
    exact g
  obtain ⟨z1, q1, _, hw1⟩ := DataW.trod_int Try.underlying3 g1
  simp only [List.cons.injEq, and_true] at q1
  obtain rfl := q1
  replace g2 : DataW.trod enc Try.prog w base spare held n 38 [c2, c3] = some y2 := by
    have g := g2
    simp only [List.getElem_toArray, List.getElem_cons_zero, List.getElem_cons_succ, s38] at g
    exact g
  obtain ⟨z2_0, z2_1, q2, hw2⟩ := open_38 g2
  simp only [List.cons.injEq, and_true] at q2
  obtain ⟨rfl, rfl⟩ := q2
  exact ⟨z0, z1, z2_0, z2_1, rfl, trivial, hw0, hw1, hw2.2.1, hw2.2.2⟩
theorem slice_kd {H : Type} {enc : TypeId × Value → H} {P : Program} {w : World} {base : Nat} {spare : Nat → Bool} {held : Bool} {t e : TypeId} {α : Type} (d : Kd α) (ok : α → Prop) (d0 : α) (ht : P.underlying t = some (.slice e)) (hc : P.cellsOf e = d.sz)
    (hop : ∀ {n : Nat} {cs : List Value} {x : DataW H × List MemPlace}, DataW.trod enc P w base spare held n e cs = some x → ∃ a, d.K w a cs ∧ ok a)
    {fuel : Nat} {A : Option Addr} {len cap : Nat} {x : DataW H × List MemPlace} (h : DataW.trod enc P w base spare held fuel t [.slice A len cap] = some x) :
    ∃ l : List α, l.length = len ∧ len ≤ cap ∧ d.C w A len l ∧ ∀ a ∈ l, ok a := by
  rcases Go.Deep.open_slice ht h with ⟨hcs, _⟩ | ⟨a, len', cap', m, n, D, Pl, hcs, hb, hl, hcap, hm, hx, hel⟩
  · simp only [List.cons.injEq, Value.slice.injEq, and_true] at hcs
    obtain ⟨rfl, rfl, rfl⟩ := hcs
    exact ⟨[], rfl, Nat.le_refl _, ⟨rfl, by omega, fun h => absurd h (by omega)⟩, by simp⟩
  · simp only [List.cons.injEq, Value.slice.injEq, and_true] at hcs
    obtain ⟨rfl, rfl, rfl⟩ := hcs
    have hlm : len ≤ m := by rw [hm]; split <;> omega
    haveI : Inhabited α := ⟨d0⟩
    obtain ⟨f, hf⟩ := Go.Deep.choose_lt (n := len) (p := fun i (z : α) => ∃ cs', w.cells? base (a.add (i * P.cellsOf e)) (P.cellsOf e) = some cs' ∧ d.K w z cs' ∧ ok z) (fun i hi => by
      obtain ⟨cs', h1, h2⟩ := hel i (by omega)
      obtain ⟨z, hz, hz2⟩ := hop h2
      exact ⟨z, cs', h1, hz, hz2⟩)
    refine ⟨(List.range len).map f, by simp, hl, ⟨by simp, by unfold maxLen at hcap; omega, fun _ => ⟨a, rfl, fun j p hj => ?_⟩⟩, ?_⟩
    · have hjl : j < len := by
        have := (List.getElem?_eq_some_iff.1 hj).1; simpa using this
      have hp : p = f j := by
        rw [List.getElem?_map, List.getElem?_range hjl] at hj; simpa using hj.symm
      subst hp
      obtain ⟨cs', h1, h2, _⟩ := hf j hjl
      refine ⟨cs', d.K_len h2, h2, fun i u hu => ?_⟩
      have hs := World.cells?_some h1
      have hi : i < d.sz := by rw [← d.K_len h2]; exact (List.getElem?_eq_some_iff.1 hu).1
      have := hs.2.2 i (by rw [hc]; exact hi)
      rw [Go.Deep.add_add, hc] at this
      rw [this]; exact hu
    · intro z hz
      obtain ⟨i, hi, rfl⟩ := List.mem_map.1 hz
      exact (hf i (List.mem_range.1 hi)).choose_spec.2.2
set_option maxRecDepth 100000 in
theorem lifted (os : Os) (started : os.Started) (H : Type) (enc : TypeId × Value → H) :
    ReturnsInHanded {} Try.checked os 3 .any (Rows.fnExactCodeOkSpec.pre6 enc Try.prog Try.f3 Rows.fnExactCodeOkRow.domain false) (Rows.fnExactCodeOkSpec.post enc Try.prog Try.f3 false true false false) := by
  refine returnsInHanded_of_change_sized (C := Try.checked) own started (by kernel_rfl) Try.func3
    (ChangeSpec.witness6 (enc := enc) (C := Try.checked) false ⟨#[], #[.slice none 0 0], []⟩ 8 (by kernel_rfl) (by kernel_rfl) (by kernel_rfl) (by kernel_rfl)) ?_
  intro W base args ds gs before hval0 hW hcnd hsz0 _
  have hsz : (DataW.weightsEach Try.prog (Try.f3.params.toList ++ Rows.fnExactCodeOkSpec.plain.varTypes Try.prog) (ds ++ gs)).all (· ≤ reachBytes) = true := hsz0
  have hval : ∀ (j : Nat) t v, Try.f3.params[j]? = some t → args[j]? = some v → Value.okWide Try.prog W .any base t v := hval0
  have hW' := hW
  obtain ⟨p, q, hA0, hV, rfl, hfz, hnd⟩ := hW
  have hA : DataW.TrodAll enc Try.prog W 0 (fun _ => true) true Try.f3.params.toList args.toList ds p := hA0
  rw [Try.params3] at hA hval hsz
  obtain ⟨v0, vs0, d0, ds0, p0, q0, hargs, rfl, rfl, h0, r0⟩ := trodAll_cons hA
  obtain ⟨rfl, rfl, rfl⟩ := trodAll_nil r0
  obtain rfl : args = #[v0] := by cases args; simp_all
  obtain ⟨rfl, rfl⟩ := trodVars_none hV
  have k0 := h0
  have lt0 : ∀ x ∈ p0, x.block < W.heap.size := by obtain ⟨m, hm⟩ := k0; exact DataW.trod_lt m _ _ _ hm
  clear hA0 hval0 hsz0
  suffices hfin : Calls Try.prog 3 #[v0] W fun e w' => e = .returned (.bool true) ∧ Below W.heap.size W w' by
    refine hfin.mono fun e W' ⟨he, bel⟩ => ?_
    subst he
    exact ⟨_, rfl, _, _, _, [], _, [], hW', trodAll_mk1 (shut_bool Try.underlying4 _), (trodAll_cons_mk (Below.trod laidOut (by kernel_rfl) (of_decide_eq_true (by kernel_rfl)) k0 bel lt0) trodAll_mk0), rfl, bel.frame _, fun h => by cases h⟩
  obtain ⟨A0, len0, cap0, rfl⟩ := okWide_slice Try.underlying22 (hval 0 22 v0 rfl rfl)
  obtain ⟨fuel0, hf0⟩ := h0
  obtain ⟨l0, rfl, hc0, hr0, _⟩ := slice_kd k40 (fun _ => True) z40 Try.underlying22 (by kernel_rfl) (fun h => by obtain ⟨x0, x1, x2, x3, rfl, _⟩ := open_40 h; exact ⟨⟨x0, x1, ⟨x2, x3⟩⟩, k40_mk W _, trivial⟩) (by simpa [Value.cells] using hf0)
  exact Hl.walkOk _ _ l0 W hr0 hc0
theorem over : Rows.fnExactCodeOkRow.holds Try.pinned (OpenSpec.ofChange Rows.fnExactCodeOkSpec) :=
  OpenClaim.holds_of_wide 3 Try.f3 rfl rfl rfl rfl rfl rfl rfl ⟨rfl, rfl, rfl, rfl, rfl⟩ rfl rfl rfl rfl rfl (by kernel_rfl) Try.func3 (by kernel_rfl)
    (of_decide_eq_true (by kernel_rfl)) (by unfold Func.isWrapper; first | (rw [if_pos (by decide +kernel)]; kernel_rfl) | (rw [if_neg (by decide +kernel)]; exact ⟨rfl, rfl⟩))
    (fun os started H enc _ => lifted os started H enc)
theorem proved : Rows.FnExactCodeOkSaid := over
end Go.Proofs.Ytjamfddhcigchaa.fnExactCodeOk
namespace Go.Proofs.Ytjamfddhcigchaa
/-- The row, under a short name, for the claim. -/
theorem fnExactCodeOk_holds : Rows.FnExactCodeOkSaid := fnExactCodeOk.proved
end Go.Proofs.Ytjamfddhcigchaa
