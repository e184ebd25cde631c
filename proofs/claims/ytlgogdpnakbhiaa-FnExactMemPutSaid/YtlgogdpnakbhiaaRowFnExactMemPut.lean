/- The row of the law FnExactMemPut: The law FnExactMemPut returns true for every memory, place and number. No condition. -/
import Derived.Test.YtlgogdpnakbhiaaRows
import Derived.Test.YtlgogdpnakbhiaaMyFnExactMemPut
import Derived.WalkKit
import Derived.ProofKit
import Derived.OpenShut
import Derived.ShutString
import Derived.ChangeOld
import Derived.Below
import Derived.SizedLaws
import Derived.Lib.SmallJoins
import Derived.ChangeSame
import Derived.Deep.Strs
import Derived.Deep.Slices
namespace Go.Proofs.Ytlgogdpnakbhiaa.fnExactMemPut
open Go.ChangeShapes Go.WideShapes Go.ChangeAt Go.RowKit Go.Joins
open Go.ChangeMaps (open_string shut_string)
set_option linter.unusedVariables false
set_option linter.unusedSimpArgs false
theorem own : ownKnob Try.prog.godebug = none := by kernel_rfl
theorem laidOut : laidOutB Try.prog = true := by kernel_rfl
open HFnExactMemPut Go.Proofs.YtlgogdpnakbhiaaW.PrintWords Go.Proofs.YtlgogdpnakbhiaaW.PrintLast
theorem slice_kd {H : Type} {enc : TypeId × Value → H} {P : Program} {w : World} {base : Nat} {spare : Nat → Bool} {held : Bool} {t e : TypeId} {α : Type} (d : Kd α) (ok : α → Prop) (d0 : α) (ht : P.underlying t = some (.slice e)) (hc : P.cellsOf e = d.sz)
    (hop : ∀ {n : Nat} {cs : List Value} {x : DataW H × List MemPlace}, DataW.trod enc P w base spare held n e cs = some x → ∃ a, d.K w a cs ∧ ok a)
    {fuel : Nat} {A : Option Addr} {len cap : Nat} {x : DataW H × List MemPlace} (h : DataW.trod enc P w base spare held fuel t [.slice A len cap] = some x) :
    ∃ l : List α, l.length = len ∧ len ≤ cap ∧ d.C w A len l ∧ ∀ a ∈ l, ok a := by
  rcases Go.Deep.open_slice ht h with ⟨hcs, _⟩ | ⟨a, len', cap', m, n, D, Pl, hcs, hb, hl, hcap, hm, hx, hel⟩
  · simp only [List.cons.injEq, Value.slice.injEq, and_true] at hcs
    obtain ⟨rfl, rfl, rfl⟩ := hcs
    exact ⟨[], rfl, Nat.le_refl _, ⟨rfl, by omega, fun h => absurd h (by omega)⟩, by simp⟩
  · simp only [List.cons.injEq, Value.slice.injEq, and_true] at hcs
    obtain ⟨rfl, rfl, rfl⟩ := hcs
    have hlm : len ≤ m := by rw [hm]; split <;> omega
    haveI : Inhabited α := ⟨d0⟩
    obtain ⟨f, hf⟩ := Go.Deep.choose_lt (n := len) (p := fun i (z : α) => ∃ cs', w.cells? base (a.add (i * P.cellsOf e)) (P.cellsOf e) = some cs' ∧ d.K w z cs' ∧ ok z) (fun i hi => by
      obtain ⟨cs', h1, h2⟩ := hel i (by omega)
      obtain ⟨z, hz, hz2⟩ := hop h2
      exact ⟨z, cs', h1, hz, hz2⟩)
    refine ⟨(List.range len).map f, by simp, hl, ⟨by simp, by unfold maxLen at hcap; omega, fun _ => ⟨a, rfl, fun j p hj => ?_⟩⟩, ?_⟩
    · have hjl : j < len := by
        have := (List.getElem?_eq_some_iff.1 hj).1; simpa using this
      have hp : p = f j := by
        rw [List.getElem?_map, List.getElem?_range hjl] at hj; simpa using hj.symm
      subst hp
      obtain ⟨cs', h1, h2, _⟩ := hf j hjl
      refine ⟨cs', d.K_len h2, h2, fun i u hu => ?_⟩
      have hs := World.cells?_some h1
      have hi : i < d.sz := by rw [← d.K_len h2]; exact (List.getElem?_eq_some_iff.1 hu).1
      have := hs.2.2 i (by rw [hc]; exact hi)
      rw [Go.Deep.add_add, hc] at this
      rw [this]; exact hu
    · intro z hz
      obtain ⟨i, hi, rfl⟩ := List.mem_map.1 hz
      exact (hf i (List.mem_range.1 hi)).choose_spec.2.2
theorem slice_any {H : Type} {enc : TypeId × Value → H} {P : Program} {w : World} {base : Nat} {spare : Nat → Bool} {held : Bool} {t e : TypeId} {α : Type} (d : Kd α) (ok : α → Prop) (d0 : α) (ht : P.underlying t = some (.slice e)) (hc : P.cellsOf e = d.sz)
    (hop : ∀ {n : Nat} {cs : List Value} {x : DataW H × List MemPlace}, DataW.trod enc P w base spare held n e cs = some x → ∃ a, d.K w a cs ∧ ok a)
    {fuel : Nat} {cs : List Value} {x : DataW H × List MemPlace} (h : DataW.trod enc P w base spare held fuel t cs = some x) :
    ∃ (A : Option Addr) (cap : Nat) (l : List α), cs = [.slice A l.length cap] ∧ l.length ≤ cap ∧ d.C w A l.length l ∧ ∀ a ∈ l, ok a := by
  have hs : ∃ A len cap, cs = [.slice A len cap] := by
    rcases Go.Deep.open_slice ht h with ⟨hcs, _⟩ | ⟨a, len', cap', m, n, D, Pl, hcs, _⟩
    · exact ⟨_, _, _, hcs⟩
    · exact ⟨_, _, _, hcs⟩
  obtain ⟨A, len, cap, rfl⟩ := hs
  obtain ⟨l, rfl, h1, h2, h3⟩ := slice_kd d ok d0 ht hc hop h
  exact ⟨A, cap, l, rfl, h1, h2, h3⟩
theorem len_2 {l : List Value} (h : l.length = 2) : ∃ c0 c1, l = [c0, c1] := by
  match l, h with
  | [c0, c1], _ => exact ⟨c0, c1, rfl⟩
theorem open_36 {H : Type} {enc : TypeId × Value → H} {w : World} {base : Nat} {spare : Nat → Bool} {held : Bool} {fuel : Nat} {cs : List Value} {x : DataW H × List MemPlace} (h : DataW.trod enc Try.prog w base spare held fuel 36 cs = some x) :
    ∃ (x0 : Int) (x1 : Int), cs = [.int .i64 x0, .int .i64 x1] ∧ True ∧ (Lit.int .i64 x0).wf = true ∧ (Lit.int .i64 x1).wf = true := by
  obtain ⟨xs, n, _, _, hl, hx, hf⟩ := DataW.trod_struct Try.underlying36 h
  have hl2 : cs.length = 2 := hl.trans (by kernel_rfl)
  replace hx : xs.length = 2 := hx.trans (by rfl)
  have s3 : Try.prog.cellsOf 3 = 1 := by kernel_rfl
  have g0 := hf 0 _ rfl
  have g1 := hf 1 _ rfl
  obtain ⟨c0, c1, rfl⟩ := len_2 hl2
  have e0 : ∃ y, xs[0]? = some y := ⟨xs[0]'(by omega), List.getElem?_eq_getElem _⟩
  obtain ⟨y0, e0⟩ := e0
  rw [e0] at g0
  have e1 : ∃ y, xs[1]? = some y := ⟨xs[1]'(by omega), List.getElem?_eq_getElem _⟩
  obtain ⟨y1, e1⟩ := e1
  rw [e1] at g1
  replace g0 : DataW.trod enc Try.prog w base spare held n 3 [c0] = some y0 := by
    have g := g0
    simp only [List.getElem_toArray, List.getElem_cons_zero, List.getElem_cons_succ, s3] at g
    exact g
  obtain ⟨z0, q0, _, hw0⟩ := DataW.trod_int Try.underlying3 g0
  simp only [List.cons.injEq, and_true] at q0
  obtain rfl := q0
  replace g1 : DataW.trod enc Try.prog w base spare held n 3 [c1] = some y1 := by
    have g := g1
    simp only [List.getElem_toArray, List.getElem_cons_zero, List.getElem_cons_succ, s3] at g
    exact g
  obtain ⟨z1, q1, _, hw1⟩ := DataW.trod_int Try.underlying3 g1
  simp only [List.cons.injEq, and_true] at q1
  obtain rfl := q1
  exact ⟨z0, z1, rfl, trivial, hw0, hw1⟩
theorem lenOf_29 {l : List Value} (h : l.length = 3) : ∃ cc0 cc1 cc2, l = [cc0, cc1, cc2] := by
  match l, h with
  | [cc0, cc1, cc2], _ => exact ⟨cc0, cc1, cc2, rfl⟩
theorem open_29 {H : Type} {enc : TypeId × Value → H} {w : World} {base : Nat} {spare : Nat → Bool} {held : Bool} {fuel : Nat} {cs : List Value} {x : DataW H × List MemPlace} (h : DataW.trod enc Try.prog w base spare held fuel 29 cs = some x) :
    ∃ (A0 : Option Addr) (c0 : Nat) (l0 : List Int) (A1 : Option Addr) (c1 : Nat) (l1 : List Int) (A2 : Option Addr) (c2 : Nat) (l2 : List Int), cs = [.slice A0 l0.length c0, .slice A1 l1.length c1, .slice A2 l2.length c2] ∧ l0.length ≤ c0 ∧ (Kd.int .i64).C w A0 l0.length l0 ∧ (∀ z ∈ l0, (Lit.int .i64 z).wf = true) ∧ l1.length ≤ c1 ∧ (Kd.int .i64).C w A1 l1.length l1 ∧ (∀ z ∈ l1, (Lit.int .i64 z).wf = true) ∧ l2.length ≤ c2 ∧ (Kd.int .i64).C w A2 l2.length l2 ∧ (∀ z ∈ l2, (Lit.int .i64 z).wf = true) := by
  obtain ⟨xs, n, _, _, hl, hx, hf⟩ := DataW.trod_struct Try.underlying29 h
  have hl2 : cs.length = 3 := hl.trans (by kernel_rfl)
  replace hx : xs.length = 3 := hx.trans (by rfl)
  have s22 : Try.prog.cellsOf 22 = 1 := by kernel_rfl
  have g0 := hf 0 _ rfl
  have g1 := hf 1 _ rfl
  have g2 := hf 2 _ rfl
  obtain ⟨cc0, cc1, cc2, rfl⟩ := lenOf_29 hl2
  have e0 : ∃ y, xs[0]? = some y := ⟨xs[0]'(by omega), List.getElem?_eq_getElem _⟩
  obtain ⟨y0, e0⟩ := e0
  rw [e0] at g0
  have e1 : ∃ y, xs[1]? = some y := ⟨xs[1]'(by omega), List.getElem?_eq_getElem _⟩
  obtain ⟨y1, e1⟩ := e1
  rw [e1] at g1
  have e2 : ∃ y, xs[2]? = some y := ⟨xs[2]'(by omega), List.getElem?_eq_getElem _⟩
  obtain ⟨y2, e2⟩ := e2
  rw [e2] at g2
  replace g0 : DataW.trod enc Try.prog w base spare held n 22 [cc0] = some y0 := by
    have g := g0
    simp only [List.getElem_toArray, List.getElem_cons_zero, List.getElem_cons_succ, s22] at g
    exact g
  obtain ⟨B0, b0, m0, q0, hc0, hr0, hw0⟩ := slice_any (Kd.int .i64) (fun z => (Lit.int .i64 z).wf = true) (0 : Int) Try.underlying22 (by kernel_rfl) (fun h => by obtain ⟨z, rfl, _, hz⟩ := DataW.trod_int Try.underlying3 h; exact ⟨z, rfl, hz⟩) g0
  simp only [List.cons.injEq, and_true] at q0
  obtain rfl := q0
  replace g1 : DataW.trod enc Try.prog w base spare held n 22 [cc1] = some y1 := by
    have g := g1
    simp only [List.getElem_toArray, List.getElem_cons_zero, List.getElem_cons_succ, s22] at g
    exact g
  obtain ⟨B1, b1, m1, q1, hc1, hr1, hw1⟩ := slice_any (Kd.int .i64) (fun z => (Lit.int .i64 z).wf = true) (0 : Int) Try.underlying22 (by kernel_rfl) (fun h => by obtain ⟨z, rfl, _, hz⟩ := DataW.trod_int Try.underlying3 h; exact ⟨z, rfl, hz⟩) g1
  simp only [List.cons.injEq, and_true] at q1
  obtain rfl := q1
  replace g2 : DataW.trod enc Try.prog w base spare held n 22 [cc2] = some y2 := by
    have g := g2
    simp only [List.getElem_toArray, List.getElem_cons_zero, List.getElem_cons_succ, s22] at g
    exact g
  obtain ⟨B2, b2, m2, q2, hc2, hr2, hw2⟩ := slice_any (Kd.int .i64) (fun z => (Lit.int .i64 z).wf = true) (0 : Int) Try.underlying22 (by kernel_rfl) (fun h => by obtain ⟨z, rfl, _, hz⟩ := DataW.trod_int Try.underlying3 h; exact ⟨z, rfl, hz⟩) g2
  simp only [List.cons.injEq, and_true] at q2
  obtain rfl := q2
  exact ⟨B0, b0, m0, B1, b1, m1, B2, b2, m2, rfl, hc0, hr0, hw0, hc1, hr1, hw1, hc2, hr2, hw2⟩
set_option maxRecDepth 100000 in
theorem lifted (os : Os) (started : os.Started) (H : Type) (enc : TypeId × Value → H) :
    ReturnsInHanded {} Try.checked os 7 .any (Rows.fnExactMemPutSpec.pre6 enc Try.prog Try.f7 Rows.fnExactMemPutRow.domain false) (Rows.fnExactMemPutSpec.post enc Try.prog Try.f7 false true false false) := by
  refine returnsInHanded_of_change_sized (C := Try.checked) own started (by kernel_rfl) Try.func7
    (ChangeSpec.witness6 (enc := enc) (C := Try.checked) false ⟨#[], #[.agg #[.slice none 0 0, .slice none 0 0, .slice none 0 0], .agg #[.int .i64 0, .int .i64 0], .int .i64 0], []⟩ 8 (by kernel_rfl) (by kernel_rfl) (by kernel_rfl) (by kernel_rfl)) ?_
  intro W base args ds gs before hval0 hW hcnd hsz0 _
  have hsz : (DataW.weightsEach Try.prog (Try.f7.params.toList ++ Rows.fnExactMemPutSpec.plain.varTypes Try.prog) (ds ++ gs)).all (· ≤ reachBytes) = true := hsz0
  have hval : ∀ (j : Nat) t v, Try.f7.params[j]? = some t → args[j]? = some v → Value.okWide Try.prog W .any base t v := hval0
  have hW' := hW
  obtain ⟨p, q, hA0, hV, rfl, hfz, hnd⟩ := hW
  have hA : DataW.TrodAll enc Try.prog W 0 (fun _ => true) true Try.f7.params.toList args.toList ds p := hA0
  rw [Try.params7] at hA hval hsz
  obtain ⟨v0, vs0, d0, ds0, p0, q0, hargs, rfl, rfl, h0, r0⟩ := trodAll_cons hA
  obtain ⟨v1, vs1, d1, ds1, p1, q1, rfl, rfl, rfl, h1, r1⟩ := trodAll_cons r0
  obtain ⟨v2, vs2, d2, ds2, p2, q2, rfl, rfl, rfl, h2, r2⟩ := trodAll_cons r1
  obtain ⟨rfl, rfl, rfl⟩ := trodAll_nil r2
  obtain rfl : args = #[v0, v1, v2] := by cases args; simp_all
  obtain ⟨rfl, rfl⟩ := trodVars_none hV
  have k0 := h0
  have lt0 : ∀ x ∈ p0, x.block < W.heap.size := by obtain ⟨m, hm⟩ := k0; exact DataW.trod_lt m _ _ _ hm
  have k1 := h1
  have lt1 : ∀ x ∈ p1, x.block < W.heap.size := by obtain ⟨m, hm⟩ := k1; exact DataW.trod_lt m _ _ _ hm
  have k2 := h2
  have lt2 : ∀ x ∈ p2, x.block < W.heap.size := by obtain ⟨m, hm⟩ := k2; exact DataW.trod_lt m _ _ _ hm
  clear hA0 hval0 hsz0
  suffices hfin : Calls Try.prog 7 #[v0, v1, v2] W fun e w' => e = .returned (.bool true) ∧ Below W.heap.size W w' by
    refine hfin.mono fun e W' ⟨he, bel⟩ => ?_
    subst he
    exact ⟨_, rfl, _, _, _, [], _, [], hW', trodAll_mk1 (shut_bool Try.underlying4 _), (trodAll_cons_mk (Below.trod laidOut (by kernel_rfl) (of_decide_eq_true (by kernel_rfl)) k0 bel lt0) (trodAll_cons_mk (Below.trod laidOut (by kernel_rfl) (of_decide_eq_true (by kernel_rfl)) k1 bel lt1) (trodAll_cons_mk (Below.trod laidOut (by kernel_rfl) (of_decide_eq_true (by kernel_rfl)) k2 bel lt2) trodAll_mk0))), rfl, bel.frame _, fun h => by cases h⟩
  obtain ⟨cs0, rfl, hz0⟩ := okWide_struct Try.underlying29 (hval 0 29 v0 rfl rfl)
  obtain ⟨fuel0, hf0⟩ := h0
  obtain ⟨A0_0, c0_0, l0_0, A0_1, c0_1, l0_1, A0_2, c0_2, l0_2, hcs0, hc0_0, hr0_0, hw0_0, hc0_1, hr0_1, hw0_1, hc0_2, hr0_2, hw0_2⟩ := open_29 hf0
  obtain rfl : cs0 = #[.slice A0_0 l0_0.length c0_0, .slice A0_1 l0_1.length c0_1, .slice A0_2 l0_2.length c0_2] := by cases cs0; exact congrArg Array.mk hcs0
  obtain ⟨cs1, rfl, hz1⟩ := okWide_struct Try.underlying36 (hval 1 36 v1 rfl rfl)
  obtain ⟨fuel1, hf1⟩ := h1
  obtain ⟨a1_0, a1_1, hc1, _⟩ := open_36 hf1
  obtain rfl : cs1 = #[.int .i64 a1_0, .int .i64 a1_1] := by cases cs1; exact congrArg Array.mk hc1
  obtain ⟨a2, rfl, _, _, _⟩ := open_int Try.underlying3 (hval 2 3 v2 rfl rfl) h2
  exact MyFnExactMemPut.all _ _ _ _ _ _ l0_0 l0_1 l0_2 a1_0 a1_1 a2 W hr0_0 hc0_0 hr0_1 hc0_1 hr0_2 hc0_2
theorem over : Rows.fnExactMemPutRow.holds Try.pinned (OpenSpec.ofChange Rows.fnExactMemPutSpec) :=
  OpenClaim.holds_of_wide 7 Try.f7 rfl rfl rfl rfl rfl rfl rfl ⟨rfl, rfl, rfl, rfl, rfl⟩ rfl rfl rfl rfl rfl (by kernel_rfl) Try.func7 (by kernel_rfl)
    (of_decide_eq_true (by kernel_rfl)) (by unfold Func.isWrapper; first | (rw [if_pos (by decide +kernel)]; kernel_rfl) | (rw [if_neg (by decide +kernel)]; exact ⟨rfl, rfl⟩))
    (fun os started H enc _ => lifted os started H enc)
theorem proved : Rows.FnExactMemPutSaid := over
end Go.Proofs.Ytlgogdpnakbhiaa.fnExactMemPut
namespace Go.Proofs.Ytlgogdpnakbhiaa
/-- The row, under a short name, for the claim. -/
theorem fnExactMemPut_holds : Rows.FnExactMemPutSaid := fnExactMemPut.proved
end Go.Proofs.Ytlgogdpnakbhiaa
