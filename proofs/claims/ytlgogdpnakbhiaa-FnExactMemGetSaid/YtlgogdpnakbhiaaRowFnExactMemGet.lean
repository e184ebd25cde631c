/- The row of the law FnExactMemGet: it returns true for every memory and place: the program's MemGet is the reference's. No condition. -/
import Derived.Test.YtlgogdpnakbhiaaRows
import Derived.Test.YtlgogdpnakbhiaaHFnExactMemGetx3
import Derived.WalkKit
import Derived.ProofKit
import Derived.OpenShut
import Derived.ShutString
import Derived.ChangeOld
import Derived.Below
import Derived.SizedLaws
import Derived.Lib.SmallJoins
import Derived.ChangeSame
import Derived.Deep.Strs
import Derived.Deep.Slices
namespace Go.Proofs.Ytlgogdpnakbhiaa.fnExactMemGet
open Go.ChangeShapes Go.WideShapes Go.ChangeAt Go.RowKit Go.Joins
open Go.ChangeMaps (open_string shut_string)
set_option linter.unusedVariables false
set_option linter.unusedSimpArgs false
theorem own : ownKnob Try.prog.godebug = none := by kernel_rfl
theorem laidOut : laidOutB Try.prog = true := by kernel_rfl
open HFnExactMemGet Go.Proofs.YtlgogdpnakbhiaaW.PrintWords Go.Proofs.YtlgogdpnakbhiaaW.PrintLast
theorem slice_kd {H : Type} {enc : TypeId × Value → H} {P : Program} {w : World} {base : Nat} {spare : Nat → Bool} {held : Bool} {t e : TypeId} {α : Type} (d : Kd α) (ok : α → Prop) (d0 : α) (ht : P.underlying t = some (.slice e)) (hc : P.cellsOf e = d.sz)
    (hop : ∀ {n : Nat} {cs : List Value} {x : DataW H × List MemPlace}, DataW.trod enc P w base spare held n e cs = some x → ∃ a, d.K w a cs ∧ ok a)
    {fuel : Nat} {A : Option Addr} {len cap : Nat} {x : DataW H × List MemPlace} (h : DataW.trod enc P w base spare held fuel t [.slice A len cap] = some x) :
    ∃ l : List α, l.length = len ∧ len ≤ cap ∧ d.C w A len l ∧ ∀ a ∈ l, ok a := by
  rcases Go.Deep.open_slice ht h with ⟨hcs, _⟩ | ⟨a, len', cap', m, n, D, Pl, hcs, hb, hl, hcap, hm, hx, hel⟩
  · simp only [List.cons.injEq, Value.slice.injEq, and_true] at hcs
    obtain ⟨rfl, rfl, rfl⟩ := hcs
    exact ⟨[], rfl, Nat.le_refl _, ⟨rfl, by omega, fun h => absurd h (by omega)⟩, by simp⟩
  · simp only [List.cons.injEq, Value.slice.injEq, and_true] at hcs
    obtain ⟨rfl, rfl, rfl⟩ := hcs
    have hlm : len ≤ m := by rw [hm]; split <;> omega
    haveI : Inhabited α := ⟨d0⟩
    obtain ⟨f, hf⟩ := Go.Deep.choose_lt (n := len) (p := fun i (z : α) => ∃ cs', w.cells? base (a.add (i * P.cellsOf e)) (P.cellsOf e) = some cs' ∧ d.K w z cs' ∧ ok z) (fun i hi => by
      obtain ⟨cs', h1, h2⟩ := hel i (by omega)
      obtain ⟨z, hz, hz2⟩ := hop h2
      exact ⟨z, cs', h1, hz, hz2⟩)
    refine ⟨(List.range len).map f, by simp, hl, ⟨by simp, by unfold maxLen at hcap; omega, fun _ => ⟨a, rfl, fun j p hj => ?_⟩⟩, ?_⟩
    · have hjl : j < len := by
        have := (List.getElem?_eq_some_iff.1 hj).1; simpa using this
      have hp : p = f j := by
        rw [List.getElem?_map, List.getElem?_range hjl] at hj; simpa using hj.symm
      subst hp
      obtain ⟨cs', h1, h2, _⟩ := hf j hjl
      refine ⟨cs', d.K_len h2, h2, fun i u hu => ?_⟩
      have hs := World.cells?_some h1
      have hi : i < d.sz := by rw [← d.K_len h2]; exact (List.getElem?_eq_some_iff.1 hu).1
      have := hs.2.2 i (by rw [hc]; exact hi)
      rw [Go.Deep.add_add, hc] at this
      rw [this]; exact hu
    · intro z hz
      obtain ⟨i, hi, rfl⟩ := List.mem_map.1 hz
      exact (hf i (List.mem_range.1 hi)).choose_spec.2.2
theorem slice_any {H : Type} {enc : TypeId × Value → H} {P : Program} {w : World} {base : Nat} {spare : Nat → Bool} {held : Bool} {t e : TypeId} {α : Type} (d : Kd α) (ok : α → Prop) (d0 : α) (ht : P.underlying t = some (.slice e)) (hc : P.cellsOf e = d.sz)
    (hop : ∀ {n : Nat} {cs : List Value} {x : DataW H × List MemPlace}, DataW.trod enc P w base spare held n e cs = some x → ∃ a, d.K w a cs ∧ ok a)
    {fuel : Nat} {cs : List Value} {x : DataW H × List MemPlace} (h : DataW.trod enc P w base spare held fuel t cs = some x) :
    ∃ (A : Option Addr) (cap : Nat) (l : List α), cs = [.slice A l.length cap] ∧ l.length ≤ cap ∧ d.C w A l.length l ∧ ∀ a ∈ l, ok a := by
  have hs : ∃ A len cap, cs = [.slice A len cap] := by
    rcases Go.Deep.open_slice ht h with ⟨hcs, _⟩ | ⟨a, len', cap', m, n, D, Pl, hcs, _⟩
    · exact ⟨_, _, _, hcs⟩
    · exact ⟨_, _, _, hcs⟩
  obtain ⟨A, len, cap, rfl⟩ := hs
  obtain ⟨l, rfl, h1, h2, h3⟩ := slice_kd d ok d0 ht hc hop h
  exact ⟨A, cap, l, rfl, h1, h2, h3⟩
theorem len_2 {l : List Value} (h : l.length = 2) : ∃ c0 c1, l = [c0, c1] := by
  match l, h with
  | [c0, c1], _ => exact ⟨c0, c1, rfl⟩
theorem open_36 {H : Type} {enc : TypeId × Value → H} {w : World} {base : Nat} {spare : Nat → Bool} {held : Bool} {fuel : Nat} {cs : List Value} {x : DataW H × List MemPlace} (h : DataW.trod enc Try.prog w base spare held fuel 36 cs = some x) :
    ∃ (x0 : Int) (x1 : Int), cs = [.int .i64 x0, .int .i64 x1] ∧ True ∧ (Lit.int .i64 x0).wf = true ∧ (Lit.int .i64 x1).wf = true := by
  obtain ⟨xs, n, _, _, hl, hx, hf⟩ := DataW.trod_struct Try.underlying36 h
  have hl2 : cs.length = 2 := hl.trans (by kernel_rfl)
  replace hx : xs.length = 2 := hx.trans (by rfl)
  have s3 : Try.prog.cellsOf 3 = 1 := by kernel_rfl
  have g0 := hf 0 _ rfl
  have g1 := hf 1 _ rfl
  obtain ⟨c0, c1, rfl⟩ := len_2 hl2
  have e0 : ∃ y, xs[0]? = some y := ⟨xs[0]'(by omega), List.getElem?_eq_getElem _⟩
  obtain ⟨y0, e0⟩ := e0
  rw [e0] at g0
  have e1 : ∃ y, xs[1]? = some y := ⟨xs[1]'(by omega), List.getElem?_eq_getElem _⟩
  obtain ⟨y1, e1⟩ := e1
  rw [e1] at g1
  replace g0 : DataW.trod enc Try.prog w base spare held n 3 [c0] = some y0 := by
    have g := g0
    simp only [List.getElem_toArray, List.getElem_cons_zero, List.getElem_cons_succ, s3] at g
    exact g
  obtain ⟨z0, q0, _, hw0⟩ := DataW.trod_int Try.underlying3 g0
  simp only [List.cons.injEq, and_true] at q0
  obtain rfl := q0
  replace g1 : DataW.trod enc Try.prog w base spare held n 3 [c1] = some y1 := by
    have g := g1
    simp only [List.getElem_toArray, List.getElem_cons_zero, List.getElem_cons_succ, s3] at g
    exact g
  obtain ⟨z1, q1, _, hw1⟩ := DataW.trod_int Try.underlying3 g1
  simp only [List.cons.injEq, and_true] at q1
  obtain rfl := q1
  exact ⟨z0, z1, rfl, trivial, hw0, hw1⟩
theorem lenOf_29 {l : List Value} (h : l.length = 3) : ∃ cc0 cc1 cc2, l = [cc0, cc1, cc2] := by
  match l, h with
  | [cc0, cc1, cc2], _ => exact ⟨cc0, cc1, cc2, rfl⟩
theorem open_29 {H : Type} {enc : TypeId × Value → H} {w : World} {base : Nat} {spare : Nat → Bool} {held : Bool} {fuel : Nat} {cs : List Value} {x : DataW H × List MemPlace} (h : DataW.trod enc Try.prog w base spare held fuel 29 cs = some x) :
    ∃ (A0 : Option Addr) (c0 : Nat) (l0 : List Int) (A1 : Option Addr) (c1 : Nat) (l1 : List Int) (A2 : Option Addr) (c2 : Nat) (l2 : List Int), cs = [.slice A0 l0.length c0, .slice A1 l1.length c1, .slice A2 l2.length c2] ∧ l0.length ≤ c0 ∧ (Kd.int .i64).C w A0 l0.length l0 ∧ (∀ z ∈ l0, (Lit.int .i64 z).wf = true) ∧ l1.length ≤ c1 ∧ (Kd.int .i64).C w A1 l1.length l1 ∧ (∀ z ∈ l1, (Lit.int .i64 z).wf = true) ∧ l2.length ≤ c2 ∧ (Kd.int .i64).C w A2 l2.length l2 ∧ (∀ z ∈ l2, (Lit.int .i64 z).wf = true) := by
  obtain ⟨xs, n, _, _, hl, hx, hf⟩ := DataW.trod_struct Try.underlying29 h
  have hl2 : cs.length = 3 := hl.trans (by kernel_rfl)
  replace hx : xs.length = 3 := hx.trans (by rfl)
  have s22 : Try.prog.cellsOf 22 = 1 := by kernel_rfl
  have g0 := hf 0 _ rfl
  have g1 := hf 1 _ rfl
  have g2 := hf 2 _ rfl
  obtain ⟨cc0, cc1, cc2, rfl⟩ := lenOf_29 hl2
  have e0 : ∃ y, xs[0]? = some y := ⟨xs[0]'(by omega), List.getElem?_eq_getElem _⟩
  obtain ⟨y0, e0⟩ := e0
  rw [e0] at g0
  have e1 : ∃ y, xs[1]? = some y := ⟨xs[1]'(by omega), List.getElem?_eq_getElem _⟩
  obtain ⟨y1, e1⟩ := e1
  rw [e1] at g1
  have e2 : ∃ y, xs[2]? = some y := ⟨xs[2]'(by omega), List.getElem?_eq_getElem _⟩
  obtain ⟨y2, e2⟩ := e2
  rw [e2] at g2
  replace g0 : DataW.trod enc Try.prog w base spare held n 22 [cc0] = some y0 := by
    have g := g0
    simp only [List.getElem_toArray, List.getElem_cons_zero, List.getElem_cons_succ, s22] at g
    exact g
  obtain ⟨B0, b0, m0, q0, hc0, hr0, hw0⟩ := slice_any (Kd.int .i64) (fun z => (Lit.int .i64 z).wf = true) (0 : Int) Try.underlying22 (by kernel_rfl) (fun h => by obtain ⟨z, rfl, _, hz⟩ := DataW.trod_int Try.underlying3 h; exact ⟨z, rfl, hz⟩) g0
  simp only [List.cons.injEq, and_true] at q0
  obtain rfl := q0
  replace g1 : DataW.trod enc Try.prog w base spare held n 22 [cc1] = some y1 := by
    have g := g1
    simp only [List.getElem_toArray, List.getElem_cons_zero, List.getElem_cons_succ, s22] at g
    exact g
  obtain ⟨B1, b1, m1, q1, hc1, hr1, hw1⟩ := slice_any (Kd.int .i64) (fun z => (Lit.int .i64 z).wf = true) (0 : Int) Try.underlying22 (by kernel_rfl) (fun h => by obtain ⟨z, rfl, _, hz⟩ := DataW.trod_int Try.underlying3 h; exact ⟨z, rfl, hz⟩) g1
  simp only [List.cons.injEq, and_true] at q1
  obtain rfl := q1
  replace g2 : DataW.trod enc Try.prog w base spare held n 22 [cc2] = some y2 := by
    have g := g2
    simp only [List.getElem_toArray, List.getElem_cons_zero, List.getElem_cons_succ, s22] at g
    exact g
  obtain ⟨B2, b2, m2, q2, hc2, hr2, hw2⟩ := slice_any (Kd.int .i64) (fun z => (Lit.int .i64 z).wf = true) (0 : Int) Try.underlying22 (by kernel_rfl) (fun h => by obtain ⟨z, rfl, _, hz⟩ := DataW.trod_int Try.underlying3 h; exact ⟨z, rfl, hz⟩) g2
  simp only [List.cons.injEq, and_true] at q2
  obtain rfl := q2
  exact ⟨B0, b0, m0, B1, b1, m1, B2, b2, m2, rfl, hc0, hr0, hw0, hc1, hr1, hw1, hc2, hr2, hw2⟩
-- provides: wrap_id
theorem wrap_id {x : Int} (h1 : -9223372036854775808 ≤ x) (h2 : x ≤ 9223372036854775807) : wrap64 x = x := by
  unfold wrap64; omega
theorem rdI (l : List Int) (i : Nat) (h : i < l.length) : rd l (i : Int) = l[i] := by
  unfold rd; rw [Int.toNat_natCast, List.getD_eq_getElem?_getD, List.getElem?_eq_getElem h]; rfl
theorem toIntS_loop (l : List Int) (hl : l.length ≤ 1048576) (d : Nat) : ∀ (k i : Nat) (x : List Int), i + d = l.length → x.length = l.length → x.take i = l.take i → d < k →
    laws_toIntS.l0 k l x (i : Int) = some l := by
  induction d with
  | zero =>
    intro k i x hi hx ht hk
    obtain ⟨k, rfl⟩ : ∃ m, k = m + 1 := ⟨k - 1, by omega⟩
    simp only [laws_toIntS.l0]
    rw [if_neg (by omega)]
    have e1 : x.take i = x := List.take_of_length_le (by omega)
    have e2 : l.take i = l := List.take_of_length_le (by omega)
    rw [e1, e2] at ht; rw [ht]
  | succ d ih =>
    intro k i x hi hx ht hk
    obtain ⟨k, rfl⟩ : ∃ m, k = m + 1 := ⟨k - 1, by omega⟩
    simp only [laws_toIntS.l0]
    have hil : i < l.length := by omega
    rw [if_pos (by omega), if_pos (by omega), rdI l i hil]
    rw [if_pos (by omega), wrap_id (by omega) (by omega), Int.toNat_natCast]
    have := ih k (i + 1) (x.set i l[i]) (by omega) (by simpa using hx) (by
      rw [List.take_succ_eq_append_getElem (by simpa using (by omega : i < x.length)), List.take_succ_eq_append_getElem hil, ← ht, List.take_set, List.set_eq_of_length_le (by simp; omega)]
      simp) (by omega)
    exact this
theorem toIntS_some (l : List Int) (hl : l.length ≤ 1048576) (k : Nat) (hk : l.length < k) : laws_toIntS.f k l = some l := by
  unfold laws_toIntS.f
  rw [if_pos (by omega), if_pos (by omega)]
  have := toIntS_loop l hl l.length k 0 (List.replicate ((l.length : Int)).toNat 0) (by omega) (by simp) (by simp) hk
  exact this
theorem eqIntS_loop (x : List Int) (hl : x.length ≤ 1048576) (d : Nat) : ∀ (k i : Nat), i + d = x.length → d < k → laws_eqIntS.l0 k x x (i : Int) = some true := by
  induction d with
  | zero =>
    intro k i hi hk
    obtain ⟨k, rfl⟩ : ∃ m, k = m + 1 := ⟨k - 1, by omega⟩
    simp only [laws_eqIntS.l0]
    rw [if_neg (by omega)]
  | succ d ih =>
    intro k i hi hk
    obtain ⟨k, rfl⟩ : ∃ m, k = m + 1 := ⟨k - 1, by omega⟩
    simp only [laws_eqIntS.l0]
    rw [if_pos (by omega), if_pos (by omega), if_pos (by omega)]
    simp only [if_true]
    rw [wrap_id (by omega) (by omega)]
    exact ih k (i + 1) (by omega) (by omega)
theorem eqIntS_self (x : List Int) (hl : x.length ≤ 1048576) (k : Nat) (hk : x.length < k) : laws_eqIntS.f k x x = some true := by
  unfold laws_eqIntS.f
  rw [if_pos rfl]; exact eqIntS_loop x hl x.length k 0 (by omega) hk
theorem szIntS_le (l : List Int) (a r : Int) (ha : 0 ≤ a) (ha2 : a ≤ 1048576) (hl : l.length ≤ 9223372036854775807) (h : laws_szIntS.f l a = some r) : r < 0 ∨ (r = a - (l.length : Int) ∧ (l.length : Int) ≤ a) := by
  unfold laws_szIntS.f at h
  rw [wrap_id (by omega) (by omega)] at h
  split at h <;> simp only [Option.some.injEq] at h <;> omega
theorem szIntS_some (l : List Int) (a : Int) : ∃ r, laws_szIntS.f l a = some r := by
  unfold laws_szIntS.f; split <;> exact ⟨_, rfl⟩
theorem szMem_le (l m o : List Int) (a : Int) (ha : 0 ≤ a) (ha2 : a ≤ 1048576) (hl : l.length ≤ 9223372036854775807) (hm : m.length ≤ 9223372036854775807) (ho : o.length ≤ 9223372036854775807) : ∃ r, laws_szMem.f l m o a = some r ∧ (r < 0 ∨ ((l.length : Int) ≤ a ∧ (m.length : Int) ≤ a ∧ (o.length : Int) ≤ a ∧ r ≤ a)) := by
  unfold laws_szMem.f
  obtain ⟨r0, e0⟩ := szIntS_some l a
  rw [e0]; simp only [Option.bind_some]
  by_cases c0 : r0 < 0
  · rw [if_pos c0]; exact ⟨-1, rfl, Or.inl (by omega)⟩
  rw [if_neg c0]
  have b0 := szIntS_le l a r0 ha ha2 hl e0
  obtain ⟨r1, e1⟩ := szIntS_some m r0
  rw [e1]; simp only [Option.bind_some]
  by_cases c1 : r1 < 0
  · rw [if_pos c1]; exact ⟨-1, rfl, Or.inl (by omega)⟩
  rw [if_neg c1]
  have b1 := szIntS_le m r0 r1 (by omega) (by omega) hm e1
  obtain ⟨r2, e2⟩ := szIntS_some o r1
  rw [e2]; simp only [Option.bind_some]
  by_cases c2 : r2 < 0
  · rw [if_pos c2]; exact ⟨-1, rfl, Or.inl (by omega)⟩
  rw [if_neg c2]
  have b2 := szIntS_le o r1 r2 (by omega) (by omega) ho e2
  exact ⟨r2, rfl, Or.inr (by omega)⟩
theorem toMem_some (l m o : List Int) (hl : l.length ≤ 1048576) (hm : m.length ≤ 1048576) (ho : o.length ≤ 1048576) : laws_toMem.f 5000000 l m o = some (l, m, o) := by
  unfold laws_toMem.f
  rw [toIntS_some l hl _ (by omega), Option.bind_some, toIntS_some m hm _ (by omega), Option.bind_some, toIntS_some o ho _ (by omega), Option.bind_some]
theorem eqMem_self (l m o : List Int) (hl : l.length ≤ 1048576) (hm : m.length ≤ 1048576) (ho : o.length ≤ 1048576) : laws_eqMem.f 5000000 l m o l m o = some true := by
  unfold laws_eqMem.f
  rw [eqIntS_self l hl _ (by omega), Option.bind_some, if_pos rfl, eqIntS_self m hm _ (by omega), Option.bind_some, if_pos rfl, eqIntS_self o ho _ (by omega), Option.bind_some, if_pos rfl]
theorem cut_same (n : Int) : ∃ c, spec_NumCut.f n = some c ∧ (c = n ↔ Hm.isN n = true) := by
  unfold spec_NumCut.f spec_l1Max.f spec_l1Min.f
  have hN : Hm.isN n = true ↔ (-1000000 ≤ n ∧ n ≤ 1000000) := by simp [Hm.isN]
  rw [hN]
  by_cases h1 : (1000000 : Int) < n
  · rw [if_pos h1]; simp only [Option.bind_some]
    rw [if_neg (by omega)]; exact ⟨_, rfl, by omega⟩
  · rw [if_neg h1]; simp only [Option.bind_some]
    by_cases h2 : (-1000000 : Int) > n
    · rw [if_pos h2]; exact ⟨_, rfl, by omega⟩
    · rw [if_neg h2]; exact ⟨_, rfl, by omega⟩
theorem list_loop (x : List Int) (hx : x.length ≤ 1048576) (d : Nat) : ∀ (k i : Nat), i + d = x.length → d < k → spec_l2List.l0 k x (i : Int) = some (decide (x.length = 6) && (x.drop i).all Hm.isN) ∨ (∃ b, spec_l2List.l0 k x (i : Int) = some false ∧ (x.drop i).all Hm.isN = b ∧ b = false) := by
  induction d with
  | zero =>
    intro k i hi hk
    obtain ⟨k, rfl⟩ : ∃ m, k = m + 1 := ⟨k - 1, by omega⟩
    simp only [spec_l2List.l0]
    rw [if_neg (by omega), List.drop_eq_nil_of_le (by omega)]
    left
    by_cases h : x.length = 6
    · simp [h]
    · have : ((x.length : Int) == 6) = false := by simp; omega
      rw [this]; simp [h]
  | succ d ih =>
    intro k i hi hk
    obtain ⟨k, rfl⟩ : ∃ m, k = m + 1 := ⟨k - 1, by omega⟩
    have hil : i < x.length := by omega
    simp only [spec_l2List.l0]
    rw [if_pos (by omega), if_pos (by omega), rdI x i hil]
    obtain ⟨c, hc, hc2⟩ := cut_same x[i]
    rw [hc]; simp only [Option.bind_some]
    rw [List.drop_eq_getElem_cons hil, List.all_cons]
    by_cases h : c = x[i]
    · rw [if_pos h, hc2.1 h, Bool.true_and, wrap_id (by omega) (by omega)]
      exact ih k (i + 1) (by omega) (by omega)
    · have hn : Hm.isN x[i] = false := by
        cases hq : Hm.isN x[i] with
        | false => rfl
        | true => exact absurd (hc2.2 hq) h
      rw [if_neg h, hn]; right; exact ⟨false, rfl, by simp, rfl⟩
theorem list_some (x : List Int) (hx : x.length ≤ 1048576) : spec_l2List.f 5000000 x = some (Hm.okL x) := by
  unfold spec_l2List.f Hm.okL
  rcases list_loop x hx x.length 5000000 0 (by omega) (by omega) with h | ⟨b, h, h2, h3⟩
  · exact h
  · subst h3
    simp only [List.drop_zero] at h2
    rw [h2, Bool.and_false]; exact h
theorem specOk_some (a b c : List Int) (ha : a.length ≤ 1048576) (hb : b.length ≤ 1048576) (hc : c.length ≤ 1048576) : spec_MemOk.f 5000000 a b c = some (Hm.okM a b c) := by
  unfold spec_MemOk.f Hm.okM
  rw [list_some a ha, list_some b hb, list_some c hc]; simp only [Option.bind_some]
  cases Hm.okL a <;> cases Hm.okL b <;> rfl
theorem addr_some (k i : Int) : spec_AddrOk.f k i = some (Hn.aOk k i) := by
  unfold spec_AddrOk.f Hn.aOk
  by_cases h1 : k ≥ 1
  · rw [if_pos h1]
    by_cases h2 : k ≤ 3
    · rw [if_pos h2]
      by_cases h3 : i ≥ 0
      · rw [if_pos h3]; simp [h2, (by omega : 1 ≤ k), (by omega : 0 ≤ i)]
      · rw [if_neg h3]; simp [(by omega : ¬ 0 ≤ i)]
    · rw [if_neg h2]; simp [h2]
  · rw [if_neg h1]; simp [(by omega : ¬ 1 ≤ k)]
theorem get_some (a b c : List Int) (k i : Int) (ha : a.length ≤ 1048576) (hb : b.length ≤ 1048576) (hc : c.length ≤ 1048576) : spec_MemGet.f 5000000 a b c k i = some (Hn.gM a b c k i) := by
  unfold spec_MemGet.f Hn.gM
  rw [specOk_some a b c ha hb hc, addr_some]; simp only [Option.bind_some]
  cases hk : Hm.okM a b c with
  | false => rfl
  | true =>
    cases hA : Hn.aOk k i with
    | false => rfl
    | true =>
      simp only [if_true, Bool.and_self]
      have hl : a.length = 6 ∧ b.length = 6 ∧ c.length = 6 := by
        simp only [Hm.okM, Hm.okL, Bool.and_eq_true, decide_eq_true_eq] at hk
        exact ⟨hk.1.1.1, hk.1.2.1, hk.2.1⟩
      have hi : 0 ≤ i ∧ i < 6 := by
        simp only [Hn.aOk, Bool.and_eq_true, decide_eq_true_eq] at hA
        exact ⟨hA.2.2.1, hA.2.2.2⟩
      unfold spec_l2Get.f Hn.pk
      by_cases h1 : k = 1
      · rw [if_pos h1, if_pos h1, if_pos hi.1, if_pos (by omega)]; rfl
      · rw [if_neg h1, if_neg h1]
        by_cases h2 : k = 2
        · rw [if_pos h2, if_pos h2, if_pos hi.1, if_pos (by omega)]; rfl
        · rw [if_neg h2, if_neg h2, if_pos hi.1, if_pos (by omega)]; rfl
theorem pure (l0 m0 o0 : List Int) (k i : Int) (h0 : l0.length ≤ 9223372036854775807) (h1 : m0.length ≤ 9223372036854775807) (h2 : o0.length ≤ 9223372036854775807) : ∃ n, laws_FnExactMemGet.f n l0 m0 o0 k i = some true := by
  refine ⟨5000000, ?_⟩
  unfold laws_FnExactMemGet.f
  obtain ⟨r0, e0, b0⟩ := szMem_le l0 m0 o0 1048576 (by omega) (by omega) h0 h1 h2
  rw [e0]; simp only [Option.bind_some]
  by_cases c0 : r0 < 0
  · rw [if_pos c0]
  rw [if_neg c0, toMem_some l0 m0 o0 (by omega) (by omega) (by omega)]; simp only [Option.bind_some, laws_toAddr.f]
  rw [get_some l0 m0 o0 k i (by omega) (by omega) (by omega), impl_MemGet.f]; simp only [Option.bind_some, if_true]
  rw [eqMem_self l0 m0 o0 (by omega) (by omega) (by omega)]; simp
set_option maxRecDepth 100000 in
theorem lifted (os : Os) (started : os.Started) (H : Type) (enc : TypeId × Value → H) :
    ReturnsInHanded {} Try.checked os 6 .any (Rows.fnExactMemGetSpec.pre6 enc Try.prog Try.f6 Rows.fnExactMemGetRow.domain false) (Rows.fnExactMemGetSpec.post enc Try.prog Try.f6 false true false false) := by
  refine returnsInHanded_of_change_sized (C := Try.checked) own started (by kernel_rfl) Try.func6
    (ChangeSpec.witness6 (enc := enc) (C := Try.checked) false ⟨#[], #[.agg #[.slice none 0 0, .slice none 0 0, .slice none 0 0], .agg #[.int .i64 0, .int .i64 0]], []⟩ 8 (by kernel_rfl) (by kernel_rfl) (by kernel_rfl) (by kernel_rfl)) ?_
  intro W base args ds gs before hval0 hW hcnd hsz0 _
  have hsz : (DataW.weightsEach Try.prog (Try.f6.params.toList ++ Rows.fnExactMemGetSpec.plain.varTypes Try.prog) (ds ++ gs)).all (· ≤ reachBytes) = true := hsz0
  have hval : ∀ (j : Nat) t v, Try.f6.params[j]? = some t → args[j]? = some v → Value.okWide Try.prog W .any base t v := hval0
  have hW' := hW
  obtain ⟨p, q, hA0, hV, rfl, hfz, hnd⟩ := hW
  have hA : DataW.TrodAll enc Try.prog W 0 (fun _ => true) true Try.f6.params.toList args.toList ds p := hA0
  rw [Try.params6] at hA hval hsz
  obtain ⟨v0, vs0, d0, ds0, p0, q0, hargs, rfl, rfl, h0, r0⟩ := trodAll_cons hA
  obtain ⟨v1, vs1, d1, ds1, p1, q1, rfl, rfl, rfl, h1, r1⟩ := trodAll_cons r0
  obtain ⟨rfl, rfl, rfl⟩ := trodAll_nil r1
  obtain rfl : args = #[v0, v1] := by cases args; simp_all
  obtain ⟨rfl, rfl⟩ := trodVars_none hV
  have k0 := h0
  have lt0 : ∀ x ∈ p0, x.block < W.heap.size := by obtain ⟨m, hm⟩ := k0; exact DataW.trod_lt m _ _ _ hm
  have k1 := h1
  have lt1 : ∀ x ∈ p1, x.block < W.heap.size := by obtain ⟨m, hm⟩ := k1; exact DataW.trod_lt m _ _ _ hm
  clear hA0 hval0 hsz0
  suffices hfin : Calls Try.prog 6 #[v0, v1] W fun e w' => e = .returned (.bool true) ∧ Below W.heap.size W w' by
    refine hfin.mono fun e W' ⟨he, bel⟩ => ?_
    subst he
    exact ⟨_, rfl, _, _, _, [], _, [], hW', trodAll_mk1 (shut_bool Try.underlying4 _), (trodAll_cons_mk (Below.trod laidOut (by kernel_rfl) (of_decide_eq_true (by kernel_rfl)) k0 bel lt0) (trodAll_cons_mk (Below.trod laidOut (by kernel_rfl) (of_decide_eq_true (by kernel_rfl)) k1 bel lt1) trodAll_mk0)), rfl, bel.frame _, fun h => by cases h⟩
  obtain ⟨cs0, rfl, hz0⟩ := okWide_struct Try.underlying29 (hval 0 29 v0 rfl rfl)
  obtain ⟨fuel0, hf0⟩ := h0
  obtain ⟨A0_0, c0_0, l0_0, A0_1, c0_1, l0_1, A0_2, c0_2, l0_2, hcs0, hc0_0, hr0_0, hw0_0, hc0_1, hr0_1, hw0_1, hc0_2, hr0_2, hw0_2⟩ := open_29 hf0
  obtain rfl : cs0 = #[.slice A0_0 l0_0.length c0_0, .slice A0_1 l0_1.length c0_1, .slice A0_2 l0_2.length c0_2] := by cases cs0; exact congrArg Array.mk hcs0
  obtain ⟨cs1, rfl, hz1⟩ := okWide_struct Try.underlying36 (hval 1 36 v1 rfl rfl)
  obtain ⟨fuel1, hf1⟩ := h1
  obtain ⟨a1_0, a1_1, hc1, _⟩ := open_36 hf1
  obtain rfl : cs1 = #[.int .i64 a1_0, .int .i64 a1_1] := by cases cs1; exact congrArg Array.mk hc1
  obtain ⟨n, h⟩ := pure l0_0 l0_1 l0_2 a1_0 a1_1 hr0_0.2.1 hr0_1.2.1 hr0_2.2.1
  exact laws_FnExactMemGet.calls n _ _ l0_0 _ _ l0_1 _ _ l0_2 a1_0 a1_1 true W hr0_0 hc0_0 hr0_1 hc0_1 hr0_2 hc0_2 h
theorem over : Rows.fnExactMemGetRow.holds Try.pinned (OpenSpec.ofChange Rows.fnExactMemGetSpec) :=
  OpenClaim.holds_of_wide 6 Try.f6 rfl rfl rfl rfl rfl rfl rfl ⟨rfl, rfl, rfl, rfl, rfl⟩ rfl rfl rfl rfl rfl (by kernel_rfl) Try.func6 (by kernel_rfl)
    (of_decide_eq_true (by kernel_rfl)) (by unfold Func.isWrapper; first | (rw [if_pos (by decide +kernel)]; kernel_rfl) | (rw [if_neg (by decide +kernel)]; exact ⟨rfl, rfl⟩))
    (fun os started H enc _ => lifted os started H enc)
theorem proved : Rows.FnExactMemGetSaid := over
end Go.Proofs.Ytlgogdpnakbhiaa.fnExactMemGet
namespace Go.Proofs.Ytlgogdpnakbhiaa
/-- The row, under a short name, for the claim. -/
theorem fnExactMemGet_holds : Rows.FnExactMemGetSaid := fnExactMemGet.proved
end Go.Proofs.Ytlgogdpnakbhiaa
