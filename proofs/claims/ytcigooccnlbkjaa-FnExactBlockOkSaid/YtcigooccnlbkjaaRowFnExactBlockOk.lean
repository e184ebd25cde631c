/- The row of the law FnExactBlockOk: it returns true for every block: the program's BlockOk is the reference's. No condition. -/
import Derived.Test.YtcigooccnlbkjaaRows
import Derived.Test.YtcigooccnlbkjaaHFnExactBlockOkx1
import Derived.WalkKit
import Derived.ProofKit
import Derived.OpenShut
import Derived.ShutString
import Derived.ChangeOld
import Derived.Below
import Derived.SizedLaws
import Derived.Lib.SmallJoins
import Derived.ChangeSame
import Derived.Deep.Strs
namespace Go.Proofs.Ytcigooccnlbkjaa.fnExactBlockOk
open Go.ChangeShapes Go.WideShapes Go.ChangeAt Go.RowKit Go.Joins
open Go.ChangeMaps (open_string shut_string)
set_option linter.unusedVariables false
set_option linter.unusedSimpArgs false
theorem own : ownKnob Try.prog.godebug = none := by kernel_rfl
theorem laidOut : laidOutB Try.prog = true := by kernel_rfl
open HFnExactBlockOk
theorem len_5 {l : List Value} (h : l.length = 5) : ∃ c0 c1 c2 c3 c4, l = [c0, c1, c2, c3, c4] := by
  match l, h with
  | [c0, c1, c2, c3, c4], _ => exact ⟨c0, c1, c2, c3, c4, rfl⟩
theorem open_23 {H : Type} {enc : TypeId × Value → H} {w : World} {base : Nat} {spare : Nat → Bool} {held : Bool} {fuel : Nat} {cs : List Value} {x : DataW H × List MemPlace} (h : DataW.trod enc Try.prog w base spare held fuel 23 cs = some x) :
    ∃ (x0 : Int) (x1 : Int) (x2 : Bool) (x3 : Bool) (x4 : Int), cs = [.int .i64 x0, .int .i64 x1, .bool x2, .bool x3, .int .i64 x4] ∧ True ∧ (Lit.int .i64 x0).wf = true ∧ (Lit.int .i64 x1).wf = true ∧ (Lit.int .i64 x4).wf = true := by
  obtain ⟨xs, n, _, _, hl, hx, hf⟩ := DataW.trod_struct Try.underlying23 h
  have hl2 : cs.length = 5 := hl.trans (by kernel_rfl)
  replace hx : xs.length = 5 := hx.trans (by rfl)
  have s3 : Try.prog.cellsOf 3 = 1 := by kernel_rfl
  have s4 : Try.prog.cellsOf 4 = 1 := by kernel_rfl
  have g0 := hf 0 _ rfl
  have g1 := hf 1 _ rfl
  have g2 := hf 2 _ rfl
  have g3 := hf 3 _ rfl
  have g4 := hf 4 _ rfl
  obtain ⟨c0, c1, c2, c3, c4, rfl⟩ := len_5 hl2
  have e0 : ∃ y, xs[0]? = some y := ⟨xs[0]'(by omega), List.getElem?_eq_getElem _⟩
  obtain ⟨y0, e0⟩ := e0
  rw [e0] at g0
  have e1 : ∃ y, xs[1]? = some y := ⟨xs[1]'(by omega), List.getElem?_eq_getElem _⟩
  obtain ⟨y1, e1⟩ := e1
  rw [e1] at g1
  have e2 : ∃ y, xs[2]? = some y := ⟨xs[2]'(by omega), List.getElem?_eq_getElem _⟩
  obtain ⟨y2, e2⟩ := e2
  rw [e2] at g2
  have e3 : ∃ y, xs[3]? = some y := ⟨xs[3]'(by omega), List.getElem?_eq_getElem _⟩
  obtain ⟨y3, e3⟩ := e3
  rw [e3] at g3
  have e4 : ∃ y, xs[4]? = some y := ⟨xs[4]'(by omega), List.getElem?_eq_getElem _⟩
  obtain ⟨y4, e4⟩ := e4
  rw [e4] at g4
  replace g0 : DataW.trod enc Try.prog w base spare held n 3 [c0] = some y0 := by
    have g := g0
    simp only [List.getElem_toArray, List.getElem_cons_zero, List.getElem_cons_succ, s3] at g
    exact g
  obtain ⟨z0, q0, _, hw0⟩ := DataW.trod_int Try.underlying3 g0
  simp only [List.cons.injEq, and_true] at q0
  obtain rfl := q0
  replace g1 : DataW.trod enc Try.prog w base spare held n 3 [c1] = some y1 := by
    have g := g1
    simp only [List.getElem_toArray, List.getElem_cons_zero, List.getElem_cons_succ, s3] at g
    exact g
  obtain ⟨z1, q1, _, hw1⟩ := DataW.trod_int Try.underlying3 g1
  simp only [List.cons.injEq, and_true] at q1
  obtain rfl := q1
  replace g2 : DataW.trod enc Try.prog w base spare held n 4 [c2] = some y2 := by
    have g := g2
    simp only [List.getElem_toArray, List.getElem_cons_zero, List.getElem_cons_succ, s4] at g
    exact g
  obtain ⟨z2, q2, _⟩ := DataW.trod_bool Try.underlying4 g2
  simp only [List.cons.injEq, and_true] at q2
  obtain rfl := q2
  replace g3 : DataW.trod enc Try.prog w base spare held n 4 [c3] = some y3 := by
    have g := g3
    simp only [List.getElem_toArray, List.getElem_cons_zero, List.getElem_cons_succ, s4] at g
    exact g
  obtain ⟨z3, q3, _⟩ := DataW.trod_bool Try.underlying4 g3
  simp only [List.cons.injEq, and_true] at q3
  obtain rfl := q3
  replace g4 : DataW.trod enc Try.prog w base spare held n 3 [c4] = some y4 := by
    have g := g4
    simp only [List.getElem_toArray, List.getElem_cons_zero, List.getElem_cons_succ, s3] at g
    exact g
  obtain ⟨z4, q4, _, hw4⟩ := DataW.trod_int Try.underlying3 g4
  simp only [List.cons.injEq, and_true] at q4
  obtain rfl := q4
  exact ⟨z0, z1, z2, z3, z4, rfl, trivial, hw0, hw1, hw4⟩
theorem l6N_some (k : Nat) (a n : Int) : spec_l6N.f (k + 1) a n = some (Hb.sizedB a n) := by
  have key : ∀ b : Bool, (b = true ↔ (1 ≤ a ∧ a ≤ 3)) → spec_l6N.j0 (k + 1) n a b = some (Hb.sizedB a n) := by
    intro b hb
    simp only [spec_l6N.j0, Hb.sizedB]
    by_cases h : b = true
    · have h1 := hb.1 h
      rw [if_pos h]
      have e1 : decide (1 ≤ a) = true := by simp; omega
      have e2 : decide (a ≤ 3) = true := by simp; omega
      have e3 : decide (4 ≤ a) = false := by simp; omega
      by_cases hn : n ≥ 0
      · rw [if_pos hn]; have e4 : decide (0 ≤ n) = true := by simpa using hn
        simp [e1, e2, e3, e4]
      · rw [if_neg hn]; have e4 : decide (0 ≤ n) = false := by simpa using hn
        simp [e1, e2, e3, e4]
    · have h1 : ¬ (1 ≤ a ∧ a ≤ 3) := fun x => h (hb.2 x)
      rw [if_neg h]
      have e12 : (decide (1 ≤ a) && decide (a ≤ 3)) = false := by simp; omega
      rw [e12]
      by_cases h4 : a = 4
      · subst h4; simp; rfl
      · rw [if_neg h4]
        by_cases h5 : a = 5
        · subst h5; simp; rfl
        · rw [if_neg h5]
          have e : (decide (4 ≤ a) && decide (a ≤ 5)) = false := by simp; omega
          simp [e]
  unfold spec_l6N.f
  by_cases h1 : a = 1
  · rw [if_pos h1]; exact key _ (by simp [h1])
  · rw [if_neg h1]
    by_cases h2 : a = 2
    · rw [if_pos h2]; exact key _ (by simp [h2])
    · rw [if_neg h2]; exact key _ (by simp; omega)
theorem ok_some (k : Nat) (a n t : Int) (o s : Bool) : spec_BlockOk.f (k + 1) a n o s t = some (Hb.blockOkB a n t) := by
  unfold spec_BlockOk.f
  rw [l6N_some]; simp only [Option.bind_some]
  unfold Hb.blockOkB
  cases hs : Hb.sizedB a n with
  | false => simp
  | true =>
    rw [if_pos rfl]
    have hk : 1 ≤ a ∧ a ≤ 5 := by simp [Hb.sizedB] at hs; omega
    by_cases h1 : t < 0
    · rw [if_pos h1]; have e : Hb.isTimeB t = false := by simp [Hb.isTimeB]; omega
      rw [e]; simp
    · rw [if_neg h1]
      by_cases h2 : t > 1000
      · rw [if_pos h2]; have e : Hb.isTimeB t = false := by simp [Hb.isTimeB]; omega
        rw [e]; simp
      · rw [if_neg h2]; have e : Hb.isTimeB t = true := by simp [Hb.isTimeB]; omega
        rw [e]
        by_cases h3 : t = 0
        · rw [if_pos h3]; simp [h3]
        · rw [if_neg h3]
          rcases (by omega : a = 1 ∨ a = 2 ∨ a = 3 ∨ a = 4 ∨ a = 5) with rfl | rfl | rfl | rfl | rfl <;> simp [h3]
theorem pure (a n t : Int) (o s : Bool) : laws_FnExactBlockOk.f 1 a n o s t = some true := by
  unfold laws_FnExactBlockOk.f laws_toBlock.f impl_BlockOk.f
  simp only [Option.bind_some]
  rw [ok_some]; simp
set_option maxRecDepth 100000 in
theorem lifted (os : Os) (started : os.Started) (H : Type) (enc : TypeId × Value → H) :
    ReturnsInHanded {} Try.checked os 3 .any (Rows.fnExactBlockOkSpec.pre6 enc Try.prog Try.f3 Rows.fnExactBlockOkRow.domain false) (Rows.fnExactBlockOkSpec.post enc Try.prog Try.f3 false true false false) := by
  refine returnsInHanded_of_change_sized (C := Try.checked) own started (by kernel_rfl) Try.func3
    (ChangeSpec.witness6 (enc := enc) (C := Try.checked) false ⟨#[], #[.agg #[.int .i64 0, .int .i64 0, .bool false, .bool false, .int .i64 0]], []⟩ 8 (by kernel_rfl) (by kernel_rfl) (by kernel_rfl) (by kernel_rfl)) ?_
  intro W base args ds gs before hval0 hW hcnd hsz0 _
  have hsz : (DataW.weightsEach Try.prog (Try.f3.params.toList ++ Rows.fnExactBlockOkSpec.plain.varTypes Try.prog) (ds ++ gs)).all (· ≤ reachBytes) = true := hsz0
  have hval : ∀ (j : Nat) t v, Try.f3.params[j]? = some t → args[j]? = some v → Value.okWide Try.prog W .any base t v := hval0
  have hW' := hW
  obtain ⟨p, q, hA0, hV, rfl, hfz, hnd⟩ := hW
  have hA : DataW.TrodAll enc Try.prog W 0 (fun _ => true) true Try.f3.params.toList args.toList ds p := hA0
  rw [Try.params3] at hA hval hsz
  obtain ⟨v0, vs0, d0, ds0, p0, q0, hargs, rfl, rfl, h0, r0⟩ := trodAll_cons hA
  obtain ⟨rfl, rfl, rfl⟩ := trodAll_nil r0
  obtain rfl : args = #[v0] := by cases args; simp_all
  obtain ⟨rfl, rfl⟩ := trodVars_none hV
  have k0 := h0
  have lt0 : ∀ x ∈ p0, x.block < W.heap.size := by obtain ⟨m, hm⟩ := k0; exact DataW.trod_lt m _ _ _ hm
  clear hA0 hval0 hsz0
  suffices hfin : Calls Try.prog 3 #[v0] W fun e w' => e = .returned (.bool true) ∧ Below W.heap.size W w' by
    refine hfin.mono fun e W' ⟨he, bel⟩ => ?_
    subst he
    exact ⟨_, rfl, _, _, _, [], _, [], hW', trodAll_mk1 (shut_bool Try.underlying4 _), (trodAll_cons_mk (Below.trod laidOut (by kernel_rfl) (of_decide_eq_true (by kernel_rfl)) k0 bel lt0) trodAll_mk0), rfl, bel.frame _, fun h => by cases h⟩
  obtain ⟨cs, rfl, hz⟩ := okWide_struct Try.underlying23 (hval 0 23 v0 rfl rfl)
  obtain ⟨fuel, hf⟩ := h0
  obtain ⟨x0, x1, x2, x3, x4, hc, _⟩ := open_23 hf
  obtain rfl : cs = #[.int .i64 x0, .int .i64 x1, .bool x2, .bool x3, .int .i64 x4] := by cases cs; exact congrArg Array.mk hc
  exact laws_FnExactBlockOk.calls 1 x0 x1 x2 x3 x4 true W (pure x0 x1 x4 x2 x3)
theorem over : Rows.fnExactBlockOkRow.holds Try.pinned (OpenSpec.ofChange Rows.fnExactBlockOkSpec) :=
  OpenClaim.holds_of_wide 3 Try.f3 rfl rfl rfl rfl rfl rfl rfl ⟨rfl, rfl, rfl, rfl, rfl⟩ rfl rfl rfl rfl rfl (by kernel_rfl) Try.func3 (by kernel_rfl)
    (of_decide_eq_true (by kernel_rfl)) (by unfold Func.isWrapper; first | (rw [if_pos (by decide +kernel)]; kernel_rfl) | (rw [if_neg (by decide +kernel)]; exact ⟨rfl, rfl⟩))
    (fun os started H enc _ => lifted os started H enc)
theorem proved : Rows.FnExactBlockOkSaid := over
end Go.Proofs.Ytcigooccnlbkjaa.fnExactBlockOk
namespace Go.Proofs.Ytcigooccnlbkjaa
/-- The row, under a short name, for the claim. -/
theorem fnExactBlockOk_holds : Rows.FnExactBlockOkSaid := fnExactBlockOk.proved
end Go.Proofs.Ytcigooccnlbkjaa
