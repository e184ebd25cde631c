/- The closures of impl.netOk and impl.netOk: what it answers, for every net whose order is known. No other condition. -/
import Derived.Test.YtphblfmjdiigkaaGreatDoorTFnExactNetTextHFnExactNetTextx6
import Derived.Test.YtphblfmjdiigkaaGreatDoorTFnExactNetTextHFnExactNetTextx11
import Derived.Test.YtphblfmjdiigkaaGreatDoorTFnExactNetTextHj4
import Derived.Test.YtphblfmjdiigkaaGreatDoorTFnExactNetTextHj3
import Derived.Test.YtphblfmjdiigkaaGreatDoorTFnExactNetTextHj2
import Derived.Test.YtphblfmjdiigkaaGreatDoorTFnExactNetTextHj1
import Derived.WalkLawsBesides
import Derived.WalkSpells
import Derived.Deep.RegionHeld
import Derived.Deep.DeepCutAuto
import Derived.Deep.CutBlock
namespace Go.Proofs.YtphblfmjdiigkaaGreatDoor.Hj5
open Go.RowKit Go.Proofs.YtphblfmjdiigkaaGreatDoor.Hj4 Go.Proofs.YtphblfmjdiigkaaGreatDoor.Hj3 Go.Proofs.YtphblfmjdiigkaaGreatDoor.Hj2 Go.Proofs.YtphblfmjdiigkaaGreatDoor.Hj1 Go.Proofs.YtphblfmjdiigkaaGreatDoor.HFnExactNetText Go.Proofs.YtphblfmjdiigkaaGreatDoorW.PrintWords Go.Proofs.YtphblfmjdiigkaaGreatDoorW.PrintLast Go.Proofs.YtphblfmjdiigkaaGreatDoorW.PrintMore
set_option linter.unusedVariables false
set_option linter.unusedSimpArgs false
attribute [local go_sem] max2_int min2_int max_two min_two
attribute [local go_sem high] eqA39
attribute [local go_sem high] eqA41
def pB (k i : Int) : Bool := aOk k i && k != 1
theorem putsC (k i : Int) (W : World) : Calls Tryz.prog 49 #[.agg #[.int .i64 k, .int .i64 i]] W fun e w' => e = .returned (.bool (pB k i)) ∧ Below W.heap.size W w' := by
  refine impl_puts.calls k i _ W ?_
  unfold impl_puts.f pB
  rw [aOk_some]; simp only [Option.bind_some]
  cases aOk k i <;> rfl
def toB (x e : S66) : Bool := x.f0.f0 == e.f0.f0 && (x.f0.f1 == e.f0.f1)
set_option maxRecDepth 100000 in
theorem clo41 (x e0 : S66) (g : Nat) (w : World) (hg : w.heap[g]? = some (.cells #[.int .i64 e0.f0.f0, .int .i64 e0.f0.f1, .int .i64 e0.f1] 66 (0, 0))) : Calls Tryz.prog 51 #[.agg #[.int .i64 x.f0.f0, .int .i64 x.f0.f1, .int .i64 x.f1], .pointer (some ⟨g, 0, none⟩)] w fun e w' => e = .returned (.bool (toB x e0)) ∧ Below w.heap.size w w' := by
  have hu62 := Tryz.underlying66
  have hu44 := Tryz.underlying39
  have hb1 := al w (.cells #[.int .i64 x.f0.f0, .int .i64 x.f0.f1, .int .i64 x.f1] 66)
  have hg1 := blk_below hg hb1
  have i0 : (w.alloc (.cells #[.int .i64 x.f0.f0, .int .i64 x.f0.f1, .int .i64 x.f1] 66)).cell? ⟨g, 0, none⟩ = some (.int .i64 e0.f0.f0) := (blk_cell hg1 0).trans rfl
  have i1 : (w.alloc (.cells #[.int .i64 x.f0.f0, .int .i64 x.f0.f1, .int .i64 x.f1] 66)).cell? ⟨g, 1, none⟩ = some (.int .i64 e0.f0.f1) := (blk_cell hg1 1).trans rfl
  show Calls Tryz.prog 51 _ w fun e w' => e = .returned (.bool (x.f0.f0 == e0.f0.f0 && (x.f0.f1 == e0.f0.f1))) ∧ _
  clear hg hg1
  go_enter Tryz.func51, Tryz.ntmps51
  go_wp2
  go_ret
  exact ⟨rfl, hb1⟩
set_option maxRecDepth 100000 in
theorem clo37 (x : S43) (A B : Option Addr) (l : List S43) (m : List S66) (c d g : Nat) (w : World) (hg : w.heap[g]? = some (.cells #[.slice A l.length c, .slice B m.length d] 31 (0, 0))) : Calls Tryz.prog 47 #[.agg #[.int .i64 x.f0, .int .i64 x.f1, .int .i64 x.f2.f0, .int .i64 x.f2.f1, .int .i64 x.f2.f2.f0, .int .i64 x.f2.f2.f1, .bool x.f2.f3, .int .i64 x.f3.f0, .int .i64 x.f3.f1, .int .i64 x.f3.f2.f0, .int .i64 x.f3.f2.f1, .bool x.f3.f3], .pointer (some ⟨g, 0, none⟩)] w fun e w' => e = .returned (.bool (!(wOk x l.length))) ∧ Below w.heap.size w w' := by
  have hu48 := Tryz.underlying43
  have hu46 := Tryz.underlying41
  have hu44 := Tryz.underlying39
  have hu32 := Tryz.underlying31
  have h := fun W => wire_ok x l.length W
  have hb1 := al w (.cells #[.int .i64 x.f0, .int .i64 x.f1, .int .i64 x.f2.f0, .int .i64 x.f2.f1, .int .i64 x.f2.f2.f0, .int .i64 x.f2.f2.f1, .bool x.f2.f3, .int .i64 x.f3.f0, .int .i64 x.f3.f1, .int .i64 x.f3.f2.f0, .int .i64 x.f3.f2.f1, .bool x.f3.f3] 43)
  have hg1 := blk_below hg hb1
  have i0 : (w.alloc (.cells #[.int .i64 x.f0, .int .i64 x.f1, .int .i64 x.f2.f0, .int .i64 x.f2.f1, .int .i64 x.f2.f2.f0, .int .i64 x.f2.f2.f1, .bool x.f2.f3, .int .i64 x.f3.f0, .int .i64 x.f3.f1, .int .i64 x.f3.f2.f0, .int .i64 x.f3.f2.f1, .bool x.f3.f3] 43)).cell? ⟨g, 0, none⟩ = some (.slice A l.length c) := (blk_cell hg1 0).trans rfl
  generalize wOk x l.length = r at h ⊢
  clear hg hg1
  go_enter Tryz.func47, Tryz.ntmps47
  go_wp2_with fail
  refine (h _).mono ?_
  rintro e w2 ⟨rfl, hb⟩
  clear h i0
  go_wp2
  go_ret
  exact ⟨rfl, hb1.trans (hb.mono hb1.size)⟩
def ncl (e : S66) (l : List S43) : Bool := pB e.f0.f0 e.f0.f1 && (decide (0 ≤ e.f1) && decide (e.f1 < (l.length : Int)))
def dOk (l : List S43) (m : List S66) (i : Nat) : Bool := match m[i]? with
  | none => true
  | some e => ncl e l && !((m.take i).any fun x => toB x e)
structure Tn (w : World) (g1 : Nat) (X : Array Value) (W : World) : Prop where
  h1 : W.heap[g1]? = some (.cells X 31 (0, 0))
  bel : Below w.heap.size w W
theorem Tn.below {w W W' : World} {g1 : Nat} {X : Array Value} (h : Tn w g1 X W) (k : Below W.heap.size W W') : Tn w g1 X W' := ⟨blk_below h.h1 k, h.bel.trans (k.mono h.bel.size)⟩
def NOK (l : List S43) (m : List S66) (R : List Int) (w : World) (e : Ending) (w' : World) : Prop := ∃ r, e = .returned (.bool r) ∧ Aside0 (r = true ↔ (l.length ≤ 8 ∧ m.length ≤ 4 ∧ l.all (fun x => wOk x l.length) = true ∧ (∀ i, i < m.length → dOk l m i = true) ∧ R.length = l.length)) ∧ Below w.heap.size w w'
set_option maxRecDepth 100000 in
set_option maxHeartbeats 6400000 in
theorem netOk_any (l : List S43) (m : List S66) (A B : Option Addr) (c d : Nat) (k0 : Nat) (R : List Int) (w : World) (hc : l.length ≤ c) (hd : m.length ≤ d) (hC : Kd.C k43 w A l.length l) (hD : Kd.C k66 w B m.length m)
    (hord : l.length ≤ 8 → l.all (fun x => wOk x l.length) = true → impl_Net_order.f k0 l m = some R) :
    Calls Tryz.prog 23 #[.agg #[.slice A l.length c, .slice B m.length d]] w (NOK l m R w) := by
  have hB0 := al w (.cells #[.slice A l.length c, .slice B m.length d] 31)
  have hT : Tn w w.heap.size #[.slice A l.length c, .slice B m.length d] (w.alloc (.cells #[.slice A l.length c, .slice B m.length d] 31)) := ⟨heap_alloc_new _ _, hB0⟩
  have hu32 := Tryz.underlying31
  by_cases h8 : 8 < l.length
  · have d1 : decide ((l.length : Int) > 8) = true := decide_eq_true (by omega)
    have d1' : decide (8 < (l.length : Int)) = true := decide_eq_true (by omega)
    have hno : Aside0 (false = true ↔ (l.length ≤ 8 ∧ m.length ≤ 4 ∧ l.all (fun x => wOk x l.length) = true ∧ (∀ i, i < m.length → dOk l m i = true) ∧ R.length = l.length)) := ⟨⟨(fun h => by cases h), (fun h => by omega)⟩⟩
    clear h8 hord hC hD hT
    go_enter Tryz.func23, Tryz.ntmps23
    go_wp2
    go_ret
    exact ⟨false, rfl, hno, hB0⟩
  by_cases h4 : 4 < m.length
  · have d1 : decide ((l.length : Int) > 8) = false := decide_eq_false (by omega)
    have d1' : decide (8 < (l.length : Int)) = false := decide_eq_false (by omega)
    have d2 : decide ((m.length : Int) > 4) = true := decide_eq_true (by omega)
    have d2' : decide (4 < (m.length : Int)) = true := decide_eq_true (by omega)
    have hno : Aside0 (false = true ↔ (l.length ≤ 8 ∧ m.length ≤ 4 ∧ l.all (fun x => wOk x l.length) = true ∧ (∀ i, i < m.length → dOk l m i = true) ∧ R.length = l.length)) := ⟨⟨(fun h => by cases h), (fun h => by omega)⟩⟩
    clear h8 h4 hord hC hD hT
    go_enter Tryz.func23, Tryz.ntmps23
    go_wp2
    go_ret
    exact ⟨false, rfl, hno, hB0⟩
  have d1 : decide ((l.length : Int) > 8) = false := decide_eq_false (by omega)
  have d1' : decide (8 < (l.length : Int)) = false := decide_eq_false (by omega)
  have d2 : decide ((m.length : Int) > 4) = false := decide_eq_false (by omega)
  have d2' : decide (4 < (m.length : Int)) = false := decide_eq_false (by omega)
  have hl8 := Aside0.mk (show l.length ≤ 8 by omega)
  have hm4 := Aside0.mk (show m.length ≤ 4 by omega)
  have cW := fun g W (h : W.heap[g]? = some (.cells #[.slice A l.length c, .slice B m.length d] 31 (0, 0))) (hb : Below w.heap.size w W) => contains43 g 31 #[.slice A l.length c, .slice B m.length d] (fun x => !(wOk x l.length)) l A c W h hc (Kd.C_below hC hb) (fun y W' h' => clo37 y A B l m c d g W' h')
  clear h8 h4
  cases hall : l.all (fun x => wOk x l.length) with
  | false =>
    have hany : (l.any fun x => !(wOk x l.length)) = true := by rw [← List.not_all_eq_any_not, hall]; rfl
    rw [hany] at cW
    have hno : Aside0 (false = true ↔ (l.length ≤ 8 ∧ m.length ≤ 4 ∧ l.all (fun x => wOk x l.length) = true ∧ (∀ i, i < m.length → dOk l m i = true) ∧ R.length = l.length)) := ⟨⟨(fun h => by cases h), (fun h => absurd (hall.symm.trans h.2.2.1) (by simp))⟩⟩
    clear hord hC hD hall hany
    go_enter Tryz.func23, Tryz.ntmps23
    go_wp2_with fail
    refine (cW _ _ hT.h1 hT.bel).mono ?_
    rintro e w2 ⟨rfl, hb⟩
    clear cW
    go_wp2
    go_ret
    exact ⟨false, rfl, hno, hT.bel.trans (hb.mono hT.bel.size)⟩
  | true =>
    have hany : (l.any fun x => !(wOk x l.length)) = false := by rw [← List.not_all_eq_any_not, hall]; rfl
    rw [hany] at cW
    have hof := hord hl8.out hall
    have hC' := Aside0.mk hC
    have hall' := Aside0.mk hall
    clear hord hall hany hC
    go_enter Tryz.func23, Tryz.ntmps23
    go_wp2_with fail
    refine (cW _ _ hT.h1 hT.bel).mono ?_
    rintro e w2 ⟨rfl, hb⟩
    replace hT := hT.below hb
    clear cW hb hB0
    obtain ⟨g1, hg1⟩ : ∃ g, w.heap.size = g := ⟨_, rfl⟩
    rw [hg1] at hT
    try rw [hg1]
    clear hg1
    have i0 : w2.cell? ⟨g1, 0, none⟩ = some (.slice A l.length c) := (blk_cell hT.h1 0).trans rfl
    have i1 : w2.cell? ⟨g1, 1, none⟩ = some (.slice B m.length d) := (blk_cell hT.h1 1).trans rfl
    go_wp2
    go_loopw [22] (fun i wr => ∃ (k : Nat), k ≤ m.length ∧ i = .int .i64 k ∧ Aside0 (∀ j, j < k → dOk l m j = true) ∧ Tn w g1 #[.slice A l.length c, .slice B m.length d] wr) (fun i _ => m.length - (intOf i).toNat)
    case atStart => exact ⟨0, by omega, rfl, ⟨fun _ h => absurd h (by omega)⟩, hT⟩
    case round =>
      clear hT i0 i1
      obtain ⟨k, hk, rfl, hf, hT⟩ := hrel
      by_cases hlt : k < m.length
      · have hmem : m[k]? = some m[k] := List.getElem?_eq_getElem hlt
        obtain ⟨ad, hA, e0, e1, e2⟩ := at_T66 (Kd.C_below hD hT.bel) (k : Int) (by omega) (by omega)
        subst hA
        rw [Int.toNat_natCast] at e0 e1 e2
        rw [rd62 m k hlt] at e0 e1 e2
        have hdk : dOk l m k = (ncl m[k] l && !((m.take k).any fun x => toB x m[k])) := by unfold dOk; rw [hmem]
        have htk : (m.take k).length = k := by rw [List.length_take]; omega
        have cD := fun (x : S66) g W (h : W.heap[g]? = some (.cells #[.int .i64 x.f0.f0, .int .i64 x.f0.f1, .int .i64 x.f1] 66 (0, 0))) (hb : Below w.heap.size w W) => contains66 g 66 #[.int .i64 x.f0.f0, .int .i64 x.f0.f1, .int .i64 x.f1] (fun y => toB y x) (m.take k) (some ad) d W h (by rw [htk]; omega) (Kd.C_take (Kd.C_below hD hb) (by omega)) (fun y W' h' => clo41 y x g W' h')
        rw [htk] at cD
        have hsl : ∀ W, (Instr.slice 29 (.slice (some ad) m.length d) none (some (.int .i64 (k : Int))) none).run Tryz.prog W = .ok (.slice (some ad) k d) W := by
          obtain ⟨i, hi⟩ := Option.isSome_iff_exists.1 (show (Tryz.prog.info? 66).isSome = true by kernel_rfl)
          have h := cut_to (P := Tryz.prog) 29 66 .i64 Tryz.underlying29 hi (some ad) m.length d (k : Int) (by omega) (by omega) hd
          rw [Int.toNat_natCast] at h
          exact h
        replace cD := cD m[k]
        generalize m[k] = x at *
        have d2 : decide ((k : Int) < (m.length : Int)) = true := by simp; omega
        have hu62 := Tryz.underlying66
        have hu44 := Tryz.underlying39
        have pC := putsC x.f0.f0 x.f0.f1
        have hdk' := Aside0.mk hdk
        have hlt' := Aside0.mk hlt
        have hk' := Aside0.mk hk
        have hmx := Aside0.mk (show k + 1 ≤ 5 by have := hm4.out; omega)
        clear hdk hmem htk hD
        have i0 : wr.cell? ⟨g1, 0, none⟩ = some (.slice A l.length c) := (blk_cell hT.h1 0).trans rfl
        have i1 : wr.cell? ⟨g1, 1, none⟩ = some (.slice (some ad) m.length d) := (blk_cell hT.h1 1).trans rfl
        go_upto_region 8 with (fail)
        have q4 := heap_alloc_new wr (.cells #[.int .i64 x.f0.f0, .int .i64 x.f0.f1, .int .i64 x.f1] 66)
        replace hT := hT.below (al wr (.cells #[.int .i64 x.f0.f0, .int .i64 x.f0.f1, .int .i64 x.f1] 66))
        clear i0 i1 e0 e1 e2
        generalize wr.alloc (Obj.cells _ 66) = v1 at hT q4 ⊢
        obtain ⟨g4, hg4⟩ : ∃ g, wr.heap.size = g := ⟨_, rfl⟩
        rw [hg4] at q4 ⊢
        clear hg4
        have j0 : v1.cell? ⟨g4, 0, none⟩ = some (.int .i64 x.f0.f0) := (blk_cell q4 0).trans rfl
        have j1 : v1.cell? ⟨g4, 1, none⟩ = some (.int .i64 x.f0.f1) := (blk_cell q4 1).trans rfl
        by_cases hpu : pB x.f0.f0 x.f0.f1 = false
        · rw [hpu] at pC
          have hbad : dOk l m k = false := by rw [hdk'.out]; unfold ncl; rw [hpu]; rfl
          have hno : Aside0 (false = true ↔ (l.length ≤ 8 ∧ m.length ≤ 4 ∧ l.all (fun x => wOk x l.length) = true ∧ (∀ i, i < m.length → dOk l m i = true) ∧ R.length = l.length)) := ⟨⟨(fun h => by cases h), (fun h => by have := h.2.2.2.1 k hlt'.out; rw [hbad] at this; cases this)⟩⟩
          clear hbad
          clear hpu cD hsl
          go_wp2_with fail
          refine (pC _).mono ?_
          rintro e v2 ⟨rfl, hb⟩
          replace hT := hT.below hb
          clear pC hb j0 j1
          have hB := hT.bel
          go_wp2
          go_ret
          exact ⟨false, rfl, hno, hB⟩
        replace hpu : pB x.f0.f0 x.f0.f1 = true := by simpa using hpu
        rw [hpu] at pC
        by_cases h0 : x.f1 < 0
        · have n0 : decide (x.f1 < 0) = true := decide_eq_true h0
          have hbad : dOk l m k = false := by rw [hdk'.out]; unfold ncl; rw [hpu, decide_eq_false (by omega : ¬ 0 ≤ x.f1)]; rfl
          have hno : Aside0 (false = true ↔ (l.length ≤ 8 ∧ m.length ≤ 4 ∧ l.all (fun x => wOk x l.length) = true ∧ (∀ i, i < m.length → dOk l m i = true) ∧ R.length = l.length)) := ⟨⟨(fun h => by cases h), (fun h => by have := h.2.2.2.1 k hlt'.out; rw [hbad] at this; cases this)⟩⟩
          clear hbad
          clear hpu cD hsl h0
          go_wp2_with fail
          refine (pC _).mono ?_
          rintro e v2 ⟨rfl, hb⟩
          replace hT := hT.below hb
          replace q4 := blk_below q4 hb
          clear pC hb j0 j1
          have j2 : v2.cell? ⟨g4, 2, none⟩ = some (.int .i64 x.f1) := (blk_cell q4 2).trans rfl
          have hB := hT.bel
          go_wp2
          go_ret
          exact ⟨false, rfl, hno, hB⟩
        have n0 : decide (x.f1 < 0) = false := decide_eq_false h0
        by_cases h1 : (l.length : Int) ≤ x.f1
        · have n1 : decide (x.f1 ≥ (l.length : Int)) = true := decide_eq_true h1
          have n1' : decide ((l.length : Int) ≤ x.f1) = true := decide_eq_true h1
          have hbad : dOk l m k = false := by rw [hdk'.out]; unfold ncl; rw [hpu, decide_eq_false (by omega : ¬ x.f1 < (l.length : Int)), Bool.and_false]; rfl
          have hno : Aside0 (false = true ↔ (l.length ≤ 8 ∧ m.length ≤ 4 ∧ l.all (fun x => wOk x l.length) = true ∧ (∀ i, i < m.length → dOk l m i = true) ∧ R.length = l.length)) := ⟨⟨(fun h => by cases h), (fun h => by have := h.2.2.2.1 k hlt'.out; rw [hbad] at this; cases this)⟩⟩
          clear hbad
          clear hpu cD hsl h0 h1
          go_wp2_with fail
          refine (pC _).mono ?_
          rintro e v2 ⟨rfl, hb⟩
          replace hT := hT.below hb
          replace q4 := blk_below q4 hb
          clear pC hb j0 j1
          have j2 : v2.cell? ⟨g4, 2, none⟩ = some (.int .i64 x.f1) := (blk_cell q4 2).trans rfl
          have i0 : v2.cell? ⟨g1, 0, none⟩ = some (.slice A l.length c) := (blk_cell hT.h1 0).trans rfl
          have hB := hT.bel
          go_wp2
          go_ret
          exact ⟨false, rfl, hno, hB⟩
        have n1 : decide (x.f1 ≥ (l.length : Int)) = false := decide_eq_false h1
        have n1' : decide ((l.length : Int) ≤ x.f1) = false := decide_eq_false h1
        have hnc : ncl x l = true := by unfold ncl; rw [hpu, decide_eq_true (by omega : 0 ≤ x.f1), decide_eq_true (by omega : x.f1 < (l.length : Int))]; rfl
        rw [hnc, Bool.true_and] at hdk'
        have hdk2 := hdk'
        clear hdk' hnc hpu h0 h1
        go_wp2_with fail
        refine (pC _).mono ?_
        rintro e v2 ⟨rfl, hb⟩
        replace hT := hT.below hb
        replace q4 := blk_below q4 hb
        clear pC hb j0 j1
        have j2 : v2.cell? ⟨g4, 2, none⟩ = some (.int .i64 x.f1) := (blk_cell q4 2).trans rfl
        have i0 : v2.cell? ⟨g1, 0, none⟩ = some (.slice A l.length c) := (blk_cell hT.h1 0).trans rfl
        have i1 : v2.cell? ⟨g1, 1, none⟩ = some (.slice (some ad) m.length d) := (blk_cell hT.h1 1).trans rfl
        have cD2 := cD g4 v2 q4 hT.bel
        have kk : (k : Int) ≤ (m.length : Int) := by have := hk'.out; omega
        clear cD
        by_cases ha : ((m.take k).any fun y => toB y x) = true
        · rw [ha] at cD2
          have hbad : dOk l m k = false := by rw [hdk2.out, ha]; rfl
          have hno : Aside0 (false = true ↔ (l.length ≤ 8 ∧ m.length ≤ 4 ∧ l.all (fun x => wOk x l.length) = true ∧ (∀ i, i < m.length → dOk l m i = true) ∧ R.length = l.length)) := ⟨⟨(fun h => by cases h), (fun h => by have := h.2.2.2.1 k hlt'.out; rw [hbad] at this; cases this)⟩⟩
          clear hbad
          clear ha
          go_wp2_with fail
          refine cD2.mono ?_
          rintro e v3 ⟨rfl, hb⟩
          replace hT := hT.below hb
          clear cD2 hb i0 i1 j2 hsl
          have hB := hT.bel
          go_wp2
          go_ret
          exact ⟨false, rfl, hno, hB⟩
        · replace ha : ((m.take k).any fun y => toB y x) = false := by simpa using ha
          rw [ha] at cD2
          have hok : dOk l m k = true := by rw [hdk2.out, ha]; rfl
          have hf2 := Aside0.mk (show ∀ j, j < k + 1 → dOk l m j = true from fun j h => by
            by_cases e : j = k
            · subst e; exact hok
            · exact hf.out j (by omega))
          clear ha hok
          go_wp2_with fail
          refine cD2.mono ?_
          rintro e v3 ⟨rfl, hb⟩
          replace hT := hT.below hb
          clear cD2 hb i0 i1 j2 hsl q4
          have hmx2 := hmx.out
          have hlt2 := hlt'.out
          go_wp2
          go_roundw
          case rel => exact ⟨k + 1, by omega, by go_num, hf2, hT⟩
          case measure => simp [intOf]; omega
      · have hkn : k = m.length := by omega
        subst hkn
        have d3 : decide ((m.length : Int) < (m.length : Int)) = false := by simp
        have oC : ∀ W, Below w.heap.size w W → Calls Tryz.prog 52 #[.agg #[.slice A l.length c, .slice B m.length d]] W fun e w' => ∃ P p, e = .returned (.slice P R.length p) ∧ Below W.heap.size W w' := by
          intro W hb
          refine (impl_Net_order.calls k0 A c l B d m R W (Kd.C_below hC'.out hb) hc (Kd.C_below hD hb) hd hof).mono ?_
          rintro e w' ⟨v, rfl, hR, hb'⟩
          obtain ⟨P, p, rfl, _, _⟩ := Kd.R_reads hR
          exact ⟨P, p, rfl, hb'⟩
        have hyes : Aside0 (((R.length : Int) == (l.length : Int)) = true ↔ (l.length ≤ 8 ∧ m.length ≤ 4 ∧ l.all (fun x => wOk x l.length) = true ∧ (∀ i, i < m.length → dOk l m i = true) ∧ R.length = l.length)) := by
          refine ⟨⟨fun h => ?_, fun h => ?_⟩⟩
          · have : (R.length : Int) = (l.length : Int) := by simpa using h
            exact ⟨hl8.out, hm4.out, hall'.out, hf.out, by omega⟩
          · rw [h.2.2.2.2]; simp
        clear hof hD hf
        have hof2 := hC'
        go_upto_region 11 with (fail)
        have hTd : Tn w g1 #[.slice A l.length c, .slice B m.length d] wr.drew := hT.below (below_drew1 (Below.refl _ _))
        clear hT
        refine start_ (n := 8) (S := fun w' => w'.cell? ⟨g1, 0, none⟩ = some (.slice A l.length c) ∧ w'.cell? ⟨g1, 1, none⟩ = some (.slice B m.length d) ∧ Tn w g1 #[.slice A l.length c, .slice B m.length d] w') (ds := []) #[false, false, false, false, false, false, false, false] (by kernel_rfl) rfl rfl ⟨(blk_cell hTd.h1 0).trans rfl, (blk_cell hTd.h1 1).trans rfl, hTd⟩ (fun hHeld => ?_)
        refine pure_ (i := 3) (N := some 56) (v := ?_) (a' := ?_) #[false, false, false, true, false, false, false, false] rfl rfl (by kernel_rfl) (fun _ _ _ h => h) (Or.inl ⟨by rfl, ?_⟩) ?_ ?_
        rotate_left
        · intro w'
          go_simp
          with_reducible rfl
        rotate_left
        · simp only [Act.put, List.setIfInBounds_toArray, List.set_cons_zero, List.set_cons_succ, i64_w, i32_w]
          rfl
        refine take_ (i := 0) (N := some 53) (v := ?_) (a' := ?_) #[true, false, false, true, false, false, false, false] rfl rfl (by kernel_rfl) (fun _ _ _ h => h) (Or.inl ⟨by rfl, ?_⟩) hHeld ?_ ?_
        rotate_left
        · rintro w' ⟨s0, s1, s2⟩
          go_simp
          with_reducible rfl
        rotate_left
        · simp only [Act.put, List.setIfInBounds_toArray, List.set_cons_zero, List.set_cons_succ, i64_w, i32_w]
          rfl
        refine take_ (i := 4) (N := some 57) (v := ?_) (a' := ?_) #[true, false, false, true, true, false, false, false] rfl rfl (by kernel_rfl) (fun _ _ _ h => h) (Or.inl ⟨by rfl, ?_⟩) hHeld ?_ ?_
        rotate_left
        · rintro w' ⟨s0, s1, s2⟩
          go_simp
          with_reducible rfl
        rotate_left
        · simp only [Act.put, List.setIfInBounds_toArray, List.set_cons_zero, List.set_cons_succ, i64_w, i32_w]
          rfl
        refine pure_ (i := 5) (N := some 58) (v := ?_) (a' := ?_) #[true, false, false, true, true, true, false, false] rfl rfl (by kernel_rfl) (fun _ _ _ h => h) (Or.inl ⟨by rfl, ?_⟩) ?_ ?_
        rotate_left
        · intro w'
          go_simp
          with_reducible rfl
        rotate_left
        · simp only [Act.put, List.setIfInBounds_toArray, List.set_cons_zero, List.set_cons_succ, i64_w, i32_w]
          rfl
        refine one_ (i := 1) (N := some 54) #[true, true, false, true, true, true, false, false] rfl rfl (by kernel_rfl) (by decide) (fun K hK => ?_)
        refine goes_ Tryz.func52 (by kernel_rfl) rfl #[.agg #[.slice A l.length c, .slice B m.length d]] (by rfl) rfl rfl (by simp only [List.map_toArray, List.map_cons, List.map_nil]; rfl) ?_
        with_reducible refine (oC _ hHeld.2.2.bel).mono ?_
        rintro e w3 ⟨P, p, rfl, hb⟩
        refine ⟨_, rfl, ?_⟩
        have hb1 := Tn.below hHeld.2.2 hb
        refine hK.out _ _ ⟨(blk_cell hb1.h1 0).trans rfl, (blk_cell hb1.h1 1).trans rfl, hb1⟩ (fun hHeld => ?_)
        clear hK K
        refine norm_ (a' := ?_) ?_ ?_
        rotate_left
        · show Act.put _ (some 54) _ = _
          simp only [Act.put, List.setIfInBounds_toArray, List.set_cons_zero, List.set_cons_succ, i64_w, i32_w]
          rfl
        refine pure_ (i := 2) (N := some 55) (v := ?_) (a' := ?_) #[true, true, true, true, true, true, false, false] rfl rfl (by kernel_rfl) (fun _ _ _ h => h) (Or.inl ⟨by rfl, ?_⟩) ?_ ?_
        rotate_left
        · intro w'
          go_simp
          with_reducible rfl
        rotate_left
        · simp only [Act.put, List.setIfInBounds_toArray, List.set_cons_zero, List.set_cons_succ, i64_w, i32_w]
          rfl
        refine pure_ (i := 6) (N := some 59) (v := ?_) (a' := ?_) #[true, true, true, true, true, true, true, false] rfl rfl (by kernel_rfl) (fun _ _ _ h => h) (Or.inl ⟨by rfl, ?_⟩) ?_ ?_
        rotate_left
        · intro w'
          go_simp
          with_reducible rfl
        rotate_left
        · simp only [Act.put, List.setIfInBounds_toArray, List.set_cons_zero, List.set_cons_succ, i64_w, i32_w]
          rfl
        refine pure_ (i := 7) (N := some 2) (v := ?_) (a' := ?_) #[true, true, true, true, true, true, true, true] rfl rfl (by kernel_rfl) (fun _ _ _ h => h) (Or.inl ⟨by rfl, ?_⟩) ?_ ?_
        rotate_left
        · intro w'
          go_simp
          with_reducible rfl
        rotate_left
        · simp only [Act.put, List.setIfInBounds_toArray, List.set_cons_zero, List.set_cons_succ, i64_w, i32_w]
          rfl
        refine done_ (by kernel_rfl) ?_
        have hT := hHeld.2.2
        clear hHeld
        have hB := hT.bel
        go_wp2
        go_ret
        exact ⟨_, rfl, hyes, hB⟩
end Go.Proofs.YtphblfmjdiigkaaGreatDoor.Hj5
