/- The row of the law FnExactStmtsSame: for every two lists of statements the law returns true: the program's StmtsSame is the reference's. No condition. -/
import Derived.Test.YtcigooccnlbkjaaRows
import Derived.Test.YtcigooccnlbkjaaHf6
import Derived.WalkKit
import Derived.ProofKit
import Derived.OpenShut
import Derived.ShutString
import Derived.ChangeOld
import Derived.Below
import Derived.SizedLaws
import Derived.Lib.SmallJoins
import Derived.ChangeSame
import Derived.Deep.Strs
import Derived.Deep.Slices
namespace Go.Proofs.Ytcigooccnlbkjaa.fnExactStmtsSame
open Go.ChangeShapes Go.WideShapes Go.ChangeAt Go.RowKit Go.Joins
open Go.ChangeMaps (open_string shut_string)
set_option linter.unusedVariables false
set_option linter.unusedSimpArgs false
theorem own : ownKnob Try.prog.godebug = none := by kernel_rfl
theorem laidOut : laidOutB Try.prog = true := by kernel_rfl
open PFnExactStmtsSame Go.Proofs.YtcigooccnlbkjaaW.PrintWords Go.Proofs.YtcigooccnlbkjaaW.PrintLast
theorem slice_kdN {H : Type} {enc : TypeId × Value → H} {P : Program} {w : World} {base : Nat} {spare : Nat → Bool} {held : Bool} {t e : TypeId} {α : Type} (d : Kd α) (d0 : α) (ht : P.underlying t = some (.slice e)) (hc : P.cellsOf e = d.sz) {fuel : Nat} {cs : List Value} {x : DataW H × List MemPlace}
    (hop : ∀ {n : Nat} {cs : List Value} {x : DataW H × List MemPlace}, n < fuel → DataW.trod enc P w base spare held n e cs = some x → ∃ a, d.K w a cs)
    (h : DataW.trod enc P w base spare held fuel t cs = some x) :
    ∃ (A : Option Addr) (cap : Nat) (l : List α), cs = [.slice A l.length cap] ∧ l.length ≤ cap ∧ d.C w A l.length l := by
  rcases DataW.trod_slice ht h with ⟨rfl, _⟩ | ⟨a, len, cap, elems, rest, n, hn, rfl, _, _, hl, hm, hlen, hel, _, _⟩
  · exact ⟨none, 0, [], rfl, Nat.le_refl _, ⟨rfl, by simp, fun h => absurd h (by simp)⟩⟩
  · haveI : Inhabited α := ⟨d0⟩
    obtain ⟨f, hf⟩ := Go.Deep.choose_lt (n := len) (p := fun i (z : α) => ∃ cs', w.cells? base (a.add (i * P.cellsOf e)) (P.cellsOf e) = some cs' ∧ d.K w z cs') (fun i hi => by
      have h1 := hel i hi
      rw [List.getElem?_eq_getElem (by omega)] at h1
      obtain ⟨cs', h2, h3⟩ := Option.bind_eq_some_iff.mp h1
      obtain ⟨z, hz⟩ := hop (by omega) h3
      exact ⟨z, cs', h2, hz⟩)
    have hll : ((List.range len).map f).length = len := by simp
    refine ⟨some a, cap, (List.range len).map f, by rw [hll], by rw [hll]; exact hl, ?_⟩
    rw [hll]
    refine ⟨hll, by unfold maxLen at hm; omega, fun _ => ⟨a, rfl, fun j p hj => ?_⟩⟩
    have hjl : j < len := by
      have := (List.getElem?_eq_some_iff.1 hj).1; simpa using this
    have hp : p = f j := by
      rw [List.getElem?_map, List.getElem?_range hjl] at hj; simpa using hj.symm
    subst hp
    obtain ⟨cs', h1, h2⟩ := hf j hjl
    refine ⟨cs', d.K_len h2, h2, fun i u hu => ?_⟩
    have hs := World.cells?_some h1
    have hi : i < d.sz := by rw [← d.K_len h2]; exact (List.getElem?_eq_some_iff.1 hu).1
    have := hs.2.2 i (by rw [hc]; exact hi)
    rw [Go.Deep.add_add, hc] at this
    rw [this]; exact hu
theorem len_2 {l : List Value} (h : l.length = 2) : ∃ c0 c1, l = [c0, c1] := by
  match l, h with
  | [c0, c1], _ => exact ⟨c0, c1, rfl⟩
theorem open_46 {H : Type} {enc : TypeId × Value → H} {w : World} {base : Nat} {spare : Nat → Bool} {held : Bool} {fuel : Nat} {cs : List Value} {x : DataW H × List MemPlace} (h : DataW.trod enc Try.prog w base spare held fuel 46 cs = some x) :
    ∃ (x0 : Int) (x1 : Int), cs = [.int .i64 x0, .int .i64 x1] ∧ True ∧ (Lit.int .i64 x0).wf = true ∧ (Lit.int .i64 x1).wf = true := by
  obtain ⟨xs, n, _, _, hl, hx, hf⟩ := DataW.trod_struct Try.underlying46 h
  have hl2 : cs.length = 2 := hl.trans (by kernel_rfl)
  replace hx : xs.length = 2 := hx.trans (by rfl)
  have s3 : Try.prog.cellsOf 3 = 1 := by kernel_rfl
  have g0 := hf 0 _ rfl
  have g1 := hf 1 _ rfl
  obtain ⟨c0, c1, rfl⟩ := len_2 hl2
  have e0 : ∃ y, xs[0]? = some y := ⟨xs[0]'(by omega), List.getElem?_eq_getElem _⟩
  obtain ⟨y0, e0⟩ := e0
  rw [e0] at g0
  have e1 : ∃ y, xs[1]? = some y := ⟨xs[1]'(by omega), List.getElem?_eq_getElem _⟩
  obtain ⟨y1, e1⟩ := e1
  rw [e1] at g1
  replace g0 : DataW.trod enc Try.prog w base spare held n 3 [c0] = some y0 := by
    have g := g0
    simp only [List.getElem_toArray, List.getElem_cons_zero, List.getElem_cons_succ, s3] at g
    exact g
  obtain ⟨z0, q0, _, hw0⟩ := DataW.trod_int Try.underlying3 g0
  simp only [List.cons.injEq, and_true] at q0
  obtain rfl := q0
  replace g1 : DataW.trod enc Try.prog w base spare held n 3 [c1] = some y1 := by
    have g := g1
    simp only [List.getElem_toArray, List.getElem_cons_zero, List.getElem_cons_succ, s3] at g
    exact g
  obtain ⟨z1, q1, _, hw1⟩ := DataW.trod_int Try.underlying3 g1
  simp only [List.cons.injEq, and_true] at q1
  obtain rfl := q1
  exact ⟨z0, z1, rfl, trivial, hw0, hw1⟩
theorem len_5 {l : List Value} (h : l.length = 5) : ∃ c0 c1 c2 c3 c4, l = [c0, c1, c2, c3, c4] := by
  match l, h with
  | [c0, c1, c2, c3, c4], _ => exact ⟨c0, c1, c2, c3, c4, rfl⟩
theorem opentree_49 {H : Type} {enc : TypeId × Value → H} {w : World} {base : Nat} {spare : Nat → Bool} {held : Bool} : ∀ (m fuel : Nat) (cs : List Value) (x : DataW H × List MemPlace), fuel < m → DataW.trod enc Try.prog w base spare held fuel 49 cs = some x → ∃ z : S49, k49.K w z cs
  | 0, _, _, _, hm, _ => absurd hm (by omega)
  | m + 1, fuel, cs, x, hm, h => by
    obtain ⟨xs, n, hn, _, hl, hx, hf⟩ := DataW.trod_struct Try.underlying49 h
    have hl2 : cs.length = 5 := hl.trans (by kernel_rfl)
    replace hx : xs.length = 4 := hx.trans (by rfl)
    have s3 : Try.prog.cellsOf 3 = 1 := by kernel_rfl
    have s46 : Try.prog.cellsOf 46 = 2 := by kernel_rfl
    have s47 : Try.prog.cellsOf 47 = 1 := by kernel_rfl
    have g0 := hf 0 _ rfl
    have g1 := hf 1 _ rfl
    have g2 := hf 2 _ rfl
    have g3 := hf 3 _ rfl
    obtain ⟨c0, c1, c2, c3, c4, rfl⟩ := len_5 hl2
    have e0 : ∃ y, xs[0]? = some y := ⟨xs[0]'(by omega), List.getElem?_eq_getElem _⟩
    obtain ⟨y0, e0⟩ := e0
    rw [e0] at g0
    have e1 : ∃ y, xs[1]? = some y := ⟨xs[1]'(by omega), List.getElem?_eq_getElem _⟩
    obtain ⟨y1, e1⟩ := e1
    rw [e1] at g1
    have e2 : ∃ y, xs[2]? = some y := ⟨xs[2]'(by omega), List.getElem?_eq_getElem _⟩
    obtain ⟨y2, e2⟩ := e2
    rw [e2] at g2
    have e3 : ∃ y, xs[3]? = some y := ⟨xs[3]'(by omega), List.getElem?_eq_getElem _⟩
    obtain ⟨y3, e3⟩ := e3
    rw [e3] at g3
    replace g0 : DataW.trod enc Try.prog w base spare held n 3 [c0] = some y0 := by
      have g := g0
      simp only [List.getElem_toArray, List.getElem_cons_zero, List.getElem_cons_succ, s3] at g
      exact g
    obtain ⟨z0, q0, _, _⟩ := DataW.trod_int Try.underlying3 g0
    simp only [List.cons.injEq, and_true] at q0
    obtain rfl := q0
    replace g1 : DataW.trod enc Try.prog w base spare held n 3 [c1] = some y1 := by
      have g := g1
      simp only [List.getElem_toArray, List.getElem_cons_zero, List.getElem_cons_succ, s3] at g
      exact g
    obtain ⟨z1, q1, _, _⟩ := DataW.trod_int Try.underlying3 g1
    simp only [List.cons.injEq, and_true] at q1
    obtain rfl := q1
    replace g2 : DataW.trod enc Try.prog w base spare held n 46 [c2, c3] = some y2 := by
      have g := g2
      simp only [List.getElem_toArray, List.getElem_cons_zero, List.getElem_cons_succ, s46] at g
      exact g
    obtain ⟨z2_0, z2_1, q2, _⟩ := open_46 g2
    simp only [List.cons.injEq, and_true] at q2
    obtain ⟨rfl, rfl⟩ := q2
    replace g3 : DataW.trod enc Try.prog w base spare held n 47 [c4] = some y3 := by
      have g := g3
      simp only [List.getElem_toArray, List.getElem_cons_zero, List.getElem_cons_succ, s47] at g
      exact g
    obtain ⟨B3, b3, l3, q3, hc3, hr3⟩ := slice_kdN k49 z49 Try.underlying47 (by kernel_rfl) (fun {n' cs' x'} hlt hh => opentree_49 m n' cs' x' (by omega) hh) g3
    simp only [List.cons.injEq, and_true] at q3
    obtain rfl := q3
    exact ⟨⟨z0, z1, ⟨z2_0, z2_1⟩, l3⟩, k49_mk w ⟨z0, z1, ⟨z2_0, z2_1⟩, l3⟩ hc3 hr3⟩
theorem len_10 {l : List Value} (h : l.length = 10) : ∃ c0 c1 c2 c3 c4 c5 c6 c7 c8 c9, l = [c0, c1, c2, c3, c4, c5, c6, c7, c8, c9] := by
  match l, h with
  | [c0, c1, c2, c3, c4, c5, c6, c7, c8, c9], _ => exact ⟨c0, c1, c2, c3, c4, c5, c6, c7, c8, c9, rfl⟩
theorem opentree_107 {H : Type} {enc : TypeId × Value → H} {w : World} {base : Nat} {spare : Nat → Bool} {held : Bool} : ∀ (m fuel : Nat) (cs : List Value) (x : DataW H × List MemPlace), fuel < m → DataW.trod enc Try.prog w base spare held fuel 107 cs = some x → ∃ z : S107, k107.K w z cs
  | 0, _, _, _, hm, _ => absurd hm (by omega)
  | m + 1, fuel, cs, x, hm, h => by
    obtain ⟨xs, n, hn, _, hl, hx, hf⟩ := DataW.trod_struct Try.underlying107 h
    have hl2 : cs.length = 10 := hl.trans (by kernel_rfl)
    replace hx : xs.length = 5 := hx.trans (by rfl)
    have s3 : Try.prog.cellsOf 3 = 1 := by kernel_rfl
    have s46 : Try.prog.cellsOf 46 = 2 := by kernel_rfl
    have s49 : Try.prog.cellsOf 49 = 5 := by kernel_rfl
    have s58 : Try.prog.cellsOf 58 = 1 := by kernel_rfl
    have g0 := hf 0 _ rfl
    have g1 := hf 1 _ rfl
    have g2 := hf 2 _ rfl
    have g3 := hf 3 _ rfl
    have g4 := hf 4 _ rfl
    obtain ⟨c0, c1, c2, c3, c4, c5, c6, c7, c8, c9, rfl⟩ := len_10 hl2
    have e0 : ∃ y, xs[0]? = some y := ⟨xs[0]'(by omega), List.getElem?_eq_getElem _⟩
    obtain ⟨y0, e0⟩ := e0
    rw [e0] at g0
    have e1 : ∃ y, xs[1]? = some y := ⟨xs[1]'(by omega), List.getElem?_eq_getElem _⟩
    obtain ⟨y1, e1⟩ := e1
    rw [e1] at g1
    have e2 : ∃ y, xs[2]? = some y := ⟨xs[2]'(by omega), List.getElem?_eq_getElem _⟩
    obtain ⟨y2, e2⟩ := e2
    rw [e2] at g2
    have e3 : ∃ y, xs[3]? = some y := ⟨xs[3]'(by omega), List.getElem?_eq_getElem _⟩
    obtain ⟨y3, e3⟩ := e3
    rw [e3] at g3
    have e4 : ∃ y, xs[4]? = some y := ⟨xs[4]'(by omega), List.getElem?_eq_getElem _⟩
    obtain ⟨y4, e4⟩ := e4
    rw [e4] at g4
    replace g0 : DataW.trod enc Try.prog w base spare held n 3 [c0] = some y0 := by
      have g := g0
      simp only [List.getElem_toArray, List.getElem_cons_zero, List.getElem_cons_succ, s3] at g
      exact g
    obtain ⟨z0, q0, _, _⟩ := DataW.trod_int Try.underlying3 g0
    simp only [List.cons.injEq, and_true] at q0
    obtain rfl := q0
    replace g1 : DataW.trod enc Try.prog w base spare held n 46 [c1, c2] = some y1 := by
      have g := g1
      simp only [List.getElem_toArray, List.getElem_cons_zero, List.getElem_cons_succ, s46] at g
      exact g
    obtain ⟨z1_0, z1_1, q1, _⟩ := open_46 g1
    simp only [List.cons.injEq, and_true] at q1
    obtain ⟨rfl, rfl⟩ := q1
    replace g2 : DataW.trod enc Try.prog w base spare held n 49 [c3, c4, c5, c6, c7] = some y2 := by
      have g := g2
      simp only [List.getElem_toArray, List.getElem_cons_zero, List.getElem_cons_succ, s49] at g
      exact g
    obtain ⟨t2, q2⟩ := opentree_49 (n + 1) n _ _ (by omega) g2
    obtain ⟨SA2_0, sc2_0, q2, u2_0, v2_0⟩ := k49_open q2
    simp only [List.cons.injEq, and_true] at q2
    obtain ⟨rfl, rfl, rfl, rfl, rfl⟩ := q2
    replace g3 : DataW.trod enc Try.prog w base spare held n 58 [c8] = some y3 := by
      have g := g3
      simp only [List.getElem_toArray, List.getElem_cons_zero, List.getElem_cons_succ, s58] at g
      exact g
    obtain ⟨B3, b3, l3, q3, hc3, hr3⟩ := slice_kdN k107 z107 Try.underlying58 (by kernel_rfl) (fun {n' cs' x'} hlt hh => opentree_107 m n' cs' x' (by omega) hh) g3
    simp only [List.cons.injEq, and_true] at q3
    obtain rfl := q3
    replace g4 : DataW.trod enc Try.prog w base spare held n 58 [c9] = some y4 := by
      have g := g4
      simp only [List.getElem_toArray, List.getElem_cons_zero, List.getElem_cons_succ, s58] at g
      exact g
    obtain ⟨B4, b4, l4, q4, hc4, hr4⟩ := slice_kdN k107 z107 Try.underlying58 (by kernel_rfl) (fun {n' cs' x'} hlt hh => opentree_107 m n' cs' x' (by omega) hh) g4
    simp only [List.cons.injEq, and_true] at q4
    obtain rfl := q4
    exact ⟨⟨z0, ⟨z1_0, z1_1⟩, t2, l3, l4⟩, k107_mk w ⟨z0, ⟨z1_0, z1_1⟩, t2, l3, l4⟩ u2_0 v2_0 hc3 hr3 hc4 hr4⟩
set_option maxRecDepth 100000 in
theorem lifted (os : Os) (started : os.Started) (H : Type) (enc : TypeId × Value → H) :
    ReturnsInHanded {} Try.checked os 9 .any (Rows.fnExactStmtsSameSpec.pre6 enc Try.prog Try.f9 Rows.fnExactStmtsSameRow.domain false) (Rows.fnExactStmtsSameSpec.post enc Try.prog Try.f9 false true false false) := by
  refine returnsInHanded_of_change_sized (C := Try.checked) own started (by kernel_rfl) Try.func9
    (ChangeSpec.witness6 (enc := enc) (C := Try.checked) false ⟨#[], #[.slice none 0 0, .slice none 0 0], []⟩ 8 (by kernel_rfl) (by kernel_rfl) (by kernel_rfl) (by kernel_rfl)) ?_
  intro W base args ds gs before hval0 hW hcnd hsz0 _
  have hsz : (DataW.weightsEach Try.prog (Try.f9.params.toList ++ Rows.fnExactStmtsSameSpec.plain.varTypes Try.prog) (ds ++ gs)).all (· ≤ reachBytes) = true := hsz0
  have hval : ∀ (j : Nat) t v, Try.f9.params[j]? = some t → args[j]? = some v → Value.okWide Try.prog W .any base t v := hval0
  have hW' := hW
  obtain ⟨p, q, hA0, hV, rfl, hfz, hnd⟩ := hW
  have hA : DataW.TrodAll enc Try.prog W 0 (fun _ => true) true Try.f9.params.toList args.toList ds p := hA0
  rw [Try.params9] at hA hval hsz
  obtain ⟨v0, vs0, d0, ds0, p0, q0, hargs, rfl, rfl, h0, r0⟩ := trodAll_cons hA
  obtain ⟨v1, vs1, d1, ds1, p1, q1, rfl, rfl, rfl, h1, r1⟩ := trodAll_cons r0
  obtain ⟨rfl, rfl, rfl⟩ := trodAll_nil r1
  obtain rfl : args = #[v0, v1] := by cases args; simp_all
  obtain ⟨rfl, rfl⟩ := trodVars_none hV
  have k0 := h0
  have lt0 : ∀ x ∈ p0, x.block < W.heap.size := by obtain ⟨m, hm⟩ := k0; exact DataW.trod_lt m _ _ _ hm
  have k1 := h1
  have lt1 : ∀ x ∈ p1, x.block < W.heap.size := by obtain ⟨m, hm⟩ := k1; exact DataW.trod_lt m _ _ _ hm
  clear hA0 hval0 hsz0
  suffices hfin : Calls Try.prog 9 #[v0, v1] W fun e w' => e = .returned (.bool true) ∧ Below W.heap.size W w' by
    refine hfin.mono fun e W' ⟨he, bel⟩ => ?_
    subst he
    exact ⟨_, rfl, _, _, _, [], _, [], hW', trodAll_mk1 (shut_bool Try.underlying4 _), (trodAll_cons_mk (Below.trod laidOut (by kernel_rfl) (of_decide_eq_true (by kernel_rfl)) k0 bel lt0) (trodAll_cons_mk (Below.trod laidOut (by kernel_rfl) (of_decide_eq_true (by kernel_rfl)) k1 bel lt1) trodAll_mk0)), rfl, bel.frame _, fun h => by cases h⟩
  obtain ⟨A0, len0, cap0, rfl⟩ := okWide_slice Try.underlying58 (hval 0 58 v0 rfl rfl)
  obtain ⟨fuel0, hf0⟩ := h0
  obtain ⟨A0', cap0', l0, hcs0, hc0, hr0⟩ := slice_kdN k107 z107 Try.underlying58 (by kernel_rfl) (fun {n' cs' x'} _ hh => opentree_107 (n' + 1) n' cs' x' (by omega) hh) hf0
  obtain ⟨rfl, rfl, rfl⟩ : A0 = A0' ∧ len0 = l0.length ∧ cap0 = cap0' := by simpa [Value.cells] using hcs0
  obtain ⟨A1, len1, cap1, rfl⟩ := okWide_slice Try.underlying58 (hval 1 58 v1 rfl rfl)
  obtain ⟨fuel1, hf1⟩ := h1
  obtain ⟨A1', cap1', l1, hcs1, hc1, hr1⟩ := slice_kdN k107 z107 Try.underlying58 (by kernel_rfl) (fun {n' cs' x'} _ hh => opentree_107 (n' + 1) n' cs' x' (by omega) hh) hf1
  obtain ⟨rfl, rfl, rfl⟩ : A1 = A1' ∧ len1 = l1.length ∧ cap1 = cap1' := by simpa [Value.cells] using hcs1
  exact Hf6.walk l0 l1 _ _ _ _ W hc0 hc1 hr0 hr1
theorem over : Rows.fnExactStmtsSameRow.holds Try.pinned (OpenSpec.ofChange Rows.fnExactStmtsSameSpec) :=
  OpenClaim.holds_of_wide 9 Try.f9 rfl rfl rfl rfl rfl rfl rfl ⟨rfl, rfl, rfl, rfl, rfl⟩ rfl rfl rfl rfl rfl (by kernel_rfl) Try.func9 (by kernel_rfl)
    (of_decide_eq_true (by kernel_rfl)) (by unfold Func.isWrapper; first | (rw [if_pos (by decide +kernel)]; kernel_rfl) | (rw [if_neg (by decide +kernel)]; exact ⟨rfl, rfl⟩))
    (fun os started H enc _ => lifted os started H enc)
theorem proved : Rows.FnExactStmtsSameSaid := over
end Go.Proofs.Ytcigooccnlbkjaa.fnExactStmtsSame
namespace Go.Proofs.Ytcigooccnlbkjaa
/-- The row, under a short name, for the claim. -/
theorem fnExactStmtsSame_holds : Rows.FnExactStmtsSameSaid := fnExactStmtsSame.proved
end Go.Proofs.Ytcigooccnlbkjaa
