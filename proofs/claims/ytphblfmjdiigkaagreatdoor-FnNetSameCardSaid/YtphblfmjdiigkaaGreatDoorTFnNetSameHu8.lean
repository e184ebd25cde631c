/- The closures of impl.netOk and impl.netOk: what it answers, for every net whose order is known. No other condition. -/
import Derived.Test.YtphblfmjdiigkaaGreatDoorTFnNetSameHu4
import Derived.Test.YtphblfmjdiigkaaGreatDoorTFnNetSameHFnNetSamex15
namespace Go.Proofs.YtphblfmjdiigkaaGreatDoor.Hu5
open Go.RowKit Go.Proofs.YtphblfmjdiigkaaGreatDoor.Hu4 Go.Proofs.YtphblfmjdiigkaaGreatDoor.Hu3 Go.Proofs.YtphblfmjdiigkaaGreatDoor.Hu2 Go.Proofs.YtphblfmjdiigkaaGreatDoor.Hu1 Go.Proofs.YtphblfmjdiigkaaGreatDoor.HFnNetSame Go.Proofs.YtphblfmjdiigkaaGreatDoorW.PrintWords Go.Proofs.YtphblfmjdiigkaaGreatDoorW.PrintLast Go.Proofs.YtphblfmjdiigkaaGreatDoorW.PrintMore
set_option linter.unusedVariables false
set_option linter.unusedSimpArgs false
attribute [local go_sem] max2_int min2_int max_two min_two
attribute [local go_sem high] eqA39
attribute [local go_sem high] eqA41
def pB (k i : Int) : Bool := aOk k i && k != 1
theorem putsC (k i : Int) (W : World) : Calls Tryz.prog 49 #[.agg #[.int .i64 k, .int .i64 i]] W fun e w' => e = .returned (.bool (pB k i)) ∧ Below W.heap.size W w' := by
  refine impl_puts.calls k i _ W ?_
  unfold impl_puts.f pB
  rw [aOk_some]; simp only [Option.bind_some]
  cases aOk k i <;> rfl
def toB (x e : S66) : Bool := x.f0.f0 == e.f0.f0 && (x.f0.f1 == e.f0.f1)
set_option maxRecDepth 100000 in
theorem clo41 (x e0 : S66) (g : Nat) (w : World) (hg : w.heap[g]? = some (.cells #[.int .i64 e0.f0.f0, .int .i64 e0.f0.f1, .int .i64 e0.f1] 66 (0, 0))) : Calls Tryz.prog 51 #[.agg #[.int .i64 x.f0.f0, .int .i64 x.f0.f1, .int .i64 x.f1], .pointer (some ⟨g, 0, none⟩)] w fun e w' => e = .returned (.bool (toB x e0)) ∧ Below w.heap.size w w' := by
  have hu62 := Tryz.underlying66
  have hu44 := Tryz.underlying39
  have hb1 := al w (.cells #[.int .i64 x.f0.f0, .int .i64 x.f0.f1, .int .i64 x.f1] 66)
  have hg1 := blk_below hg hb1
  have i0 : (w.alloc (.cells #[.int .i64 x.f0.f0, .int .i64 x.f0.f1, .int .i64 x.f1] 66)).cell? ⟨g, 0, none⟩ = some (.int .i64 e0.f0.f0) := (kC_ hg1 0).trans rfl
  have i1 : (w.alloc (.cells #[.int .i64 x.f0.f0, .int .i64 x.f0.f1, .int .i64 x.f1] 66)).cell? ⟨g, 1, none⟩ = some (.int .i64 e0.f0.f1) := (kC_ hg1 1).trans rfl
  show Calls Tryz.prog 51 _ w fun e w' => e = .returned (.bool (x.f0.f0 == e0.f0.f0 && (x.f0.f1 == e0.f0.f1))) ∧ _
  clear hg hg1
  go_enter Tryz.func51, Tryz.ntmps51
  go_wp2
  go_ret
  exact ⟨rfl, hb1⟩
set_option maxRecDepth 100000 in
theorem clo37 (x : S43) (A B : Option Addr) (l : List S43) (m : List S66) (c d g : Nat) (w : World) (hg : w.heap[g]? = some (.cells #[.slice A l.length c, .slice B m.length d] 31 (0, 0))) : Calls Tryz.prog 47 #[.agg #[.int .i64 x.f0, .int .i64 x.f1, .int .i64 x.f2.f0, .int .i64 x.f2.f1, .int .i64 x.f2.f2.f0, .int .i64 x.f2.f2.f1, .bool x.f2.f3, .int .i64 x.f3.f0, .int .i64 x.f3.f1, .int .i64 x.f3.f2.f0, .int .i64 x.f3.f2.f1, .bool x.f3.f3], .pointer (some ⟨g, 0, none⟩)] w fun e w' => e = .returned (.bool (!(wOk x l.length))) ∧ Below w.heap.size w w' := by
  have hu48 := Tryz.underlying43
  have hu46 := Tryz.underlying41
  have hu44 := Tryz.underlying39
  have hu32 := Tryz.underlying31
  have h := fun W => wire_ok x l.length W
  have hb1 := al w (.cells #[.int .i64 x.f0, .int .i64 x.f1, .int .i64 x.f2.f0, .int .i64 x.f2.f1, .int .i64 x.f2.f2.f0, .int .i64 x.f2.f2.f1, .bool x.f2.f3, .int .i64 x.f3.f0, .int .i64 x.f3.f1, .int .i64 x.f3.f2.f0, .int .i64 x.f3.f2.f1, .bool x.f3.f3] 43)
  have hg1 := blk_below hg hb1
  have i0 : (w.alloc (.cells #[.int .i64 x.f0, .int .i64 x.f1, .int .i64 x.f2.f0, .int .i64 x.f2.f1, .int .i64 x.f2.f2.f0, .int .i64 x.f2.f2.f1, .bool x.f2.f3, .int .i64 x.f3.f0, .int .i64 x.f3.f1, .int .i64 x.f3.f2.f0, .int .i64 x.f3.f2.f1, .bool x.f3.f3] 43)).cell? ⟨g, 0, none⟩ = some (.slice A l.length c) := (kC_ hg1 0).trans rfl
  generalize wOk x l.length = r at h ⊢
  clear hg hg1
  go_enter Tryz.func47, Tryz.ntmps47
  go_wp2_with fail
  refine (h _).mono ?_
  rintro e w2 ⟨rfl, hb⟩
  clear h i0
  go_wp2
  go_ret
  exact ⟨rfl, hb1.trans (hb.mono hb1.size)⟩
def ncl (e : S66) (l : List S43) : Bool := pB e.f0.f0 e.f0.f1 && (decide (0 ≤ e.f1) && decide (e.f1 < (l.length : Int)))
def dOk (l : List S43) (m : List S66) (i : Nat) : Bool := match m[i]? with
  | none => true
  | some e => ncl e l && !((m.take i).any fun x => toB x e)
structure Tn (w : World) (g1 : Nat) (X : Array Value) (W : World) : Prop where
  h1 : W.heap[g1]? = some (.cells X 31 (0, 0))
  bel : Below w.heap.size w W
theorem Tn.below {w W W' : World} {g1 : Nat} {X : Array Value} (h : Tn w g1 X W) (k : Below W.heap.size W W') : Tn w g1 X W' := ⟨blk_below h.h1 k, h.bel.trans (k.mono h.bel.size)⟩
def NOK (l : List S43) (m : List S66) (R : List Int) (w : World) (e : Ending) (w' : World) : Prop := ∃ r, e = .returned (.bool r) ∧ Aside0 (r = true ↔ (l.length ≤ 8 ∧ m.length ≤ 4 ∧ l.all (fun x => wOk x l.length) = true ∧ (∀ i, i < m.length → dOk l m i = true) ∧ R.length = l.length)) ∧ Below w.heap.size w w'
set_option maxRecDepth 100000 in
set_option maxHeartbeats 6400000 in
theorem netOk_any (l : List S43) (m : List S66) (A B : Option Addr) (c d : Nat) (k0 : Nat) (R : List Int) (w : World) (hc : l.length ≤ c) (hd : m.length ≤ d) (hC : Kd.C k43 w A l.length l) (hD : Kd.C k66 w B m.length m)
    (hord : l.length ≤ 8 → l.all (fun x => wOk x l.length) = true → impl_Net_order.f k0 l m = some R) :
    Calls Tryz.prog 23 #[.agg #[.slice A l.length c, .slice B m.length d]] w (NOK l m R w) := by
  have hB0 := al w (.cells #[.slice A l.length c, .slice B m.length d] 31)
  have hT : Tn w w.heap.size #[.slice A l.length c, .slice B m.length d] (w.alloc (.cells #[.slice A l.length c, .slice B m.length d] 31)) := ⟨heap_alloc_new _ _, hB0⟩
  have hu32 := Tryz.underlying31
  by_cases h8 : 8 < l.length
  · have d1 : decide ((l.length : Int) > 8) = true := dT_ (by omega)
    have d1' : decide (8 < (l.length : Int)) = true := dT_ (by omega)
    have hno : Aside0 (false = true ↔ (l.length ≤ 8 ∧ m.length ≤ 4 ∧ l.all (fun x => wOk x l.length) = true ∧ (∀ i, i < m.length → dOk l m i = true) ∧ R.length = l.length)) := ⟨⟨(fun h => by cases h), (fun h => by omega)⟩⟩
    clear h8 hord hC hD hT
    go_enter Tryz.func23, Tryz.ntmps23
    go_wp2
    go_ret
    exact ⟨false, rfl, hno, hB0⟩
  by_cases h4 : 4 < m.length
  · have d1 : decide ((l.length : Int) > 8) = false := dF_ (by omega)
    have d1' : decide (8 < (l.length : Int)) = false := dF_ (by omega)
    have d2 : decide ((m.length : Int) > 4) = true := dT_ (by omega)
    have d2' : decide (4 < (m.length : Int)) = true := dT_ (by omega)
    have hno : Aside0 (false = true ↔ (l.length ≤ 8 ∧ m.length ≤ 4 ∧ l.all (fun x => wOk x l.length) = true ∧ (∀ i, i < m.length → dOk l m i = true) ∧ R.length = l.length)) := ⟨⟨(fun h => by cases h), (fun h => by omega)⟩⟩
    clear h8 h4 hord hC hD hT
    go_enter Tryz.func23, Tryz.ntmps23
    go_wp2
    go_ret
    exact ⟨false, rfl, hno, hB0⟩
  have d1 : decide ((l.length : Int) > 8) = false := dF_ (by omega)
  have d1' : decide (8 < (l.length : Int)) = false := dF_ (by omega)
  have d2 : decide ((m.length : Int) > 4) = false := dF_ (by omega)
  have d2' : decide (4 < (m.length : Int)) = false := dF_ (by omega)
  have hl8 := aM_ (show l.length ≤ 8 by omega)
  have hm4 := aM_ (show m.length ≤ 4 by omega)
  have cW := fun g W (h : W.heap[g]? = some (.cells #[.slice A l.length c, .slice B m.length d] 31 (0, 0))) (hb : Below w.heap.size w W) => contains43 g 31 #[.slice A l.length c, .slice B m.length d] (fun x => !(wOk x l.length)) l A c W h hc (Kd.C_below hC hb) (fun y W' h' => clo37 y A B l m c d g W' h')
  clear h8 h4
  cases hall : l.all (fun x => wOk x l.length) with
  | false =>
    have hany : (l.any fun x => !(wOk x l.length)) = true := by rw [← List.not_all_eq_any_not, hall]; rfl
    rw [hany] at cW
    have hno : Aside0 (false = true ↔ (l.length ≤ 8 ∧ m.length ≤ 4 ∧ l.all (fun x => wOk x l.length) = true ∧ (∀ i, i < m.length → dOk l m i = true) ∧ R.length = l.length)) := ⟨⟨(fun h => by cases h), (fun h => absurd (hall.symm.trans h.2.2.1) (by simp))⟩⟩
    clear hord hC hD hall hany
    go_enter Tryz.func23, Tryz.ntmps23
    go_wp2_with fail
    refine (cW _ _ hT.h1 hT.bel).mono ?_
    rintro e w2 ⟨rfl, hb⟩
    clear cW
    go_wp2
    go_ret
    exact ⟨false, rfl, hno, hT.bel.trans (hb.mono hT.bel.size)⟩
  | true =>
    have hany : (l.any fun x => !(wOk x l.length)) = false := by rw [← List.not_all_eq_any_not, hall]; rfl
    rw [hany] at cW
    have hof := hord hl8.out hall
    have hC' := aM_ hC
    have hall' := aM_ hall
    clear hord hall hany hC
    go_enter Tryz.func23, Tryz.ntmps23
    go_wp2_with fail
    refine (cW _ _ hT.h1 hT.bel).mono ?_
    rintro e w2 ⟨rfl, hb⟩
    replace hT := hT.below hb
    clear cW hb hB0
    obtain ⟨g1, hg1⟩ : ∃ g, w.heap.size = g := ⟨_, rfl⟩
    rw [hg1] at hT
    try rw [hg1]
    clear hg1
    have i0 : w2.cell? ⟨g1, 0, none⟩ = some (.slice A l.length c) := (kC_ hT.h1 0).trans rfl
    have i1 : w2.cell? ⟨g1, 1, none⟩ = some (.slice B m.length d) := (kC_ hT.h1 1).trans rfl
    go_wp2
    go_loopw [22] (fun i wr => ∃ (k : Nat), k ≤ m.length ∧ i = .int .i64 k ∧ Aside0 (∀ j, j < k → dOk l m j = true) ∧ Tn w g1 #[.slice A l.length c, .slice B m.length d] wr) (fun i _ => m.length - (intOf i).toNat)
    case atStart => exact ⟨0, by omega, rfl, ⟨fun _ h => absurd h (by omega)⟩, hT⟩
    case round =>
      clear hT i0 i1
      obtain ⟨k, hk, rfl, hf, hT⟩ := hrel
      by_cases hlt : k < m.length
      · have hmem : m[k]? = some m[k] := List.getElem?_eq_getElem hlt
        obtain ⟨ad, hA, e0, e1, e2⟩ := at_T66 (Kd.C_below hD hT.bel) (k : Int) (by omega) (by omega)
        subst hA
        rw [Int.toNat_natCast] at e0 e1 e2
        rw [rd62 m k hlt] at e0 e1 e2
        have hdk : dOk l m k = (ncl m[k] l && !((m.take k).any fun x => toB x m[k])) := by unfold dOk; rw [hmem]
        have htk : (m.take k).length = k := by rw [lT_]; omega
        have cD := fun (x : S66) g W (h : W.heap[g]? = some (.cells #[.int .i64 x.f0.f0, .int .i64 x.f0.f1, .int .i64 x.f1] 66 (0, 0))) (hb : Below w.heap.size w W) => contains66 g 66 #[.int .i64 x.f0.f0, .int .i64 x.f0.f1, .int .i64 x.f1] (fun y => toB y x) (m.take k) (some ad) d W h (by rw [htk]; omega) (Kd.C_take (Kd.C_below hD hb) (by omega)) (fun y W' h' => clo41 y x g W' h')
        rw [htk] at cD
        have hsl : ∀ W, (Instr.slice 29 (.slice (some ad) m.length d) none (some (.int .i64 (k : Int))) none).run Tryz.prog W = .ok (.slice (some ad) k d) W := by
          obtain ⟨i, hi⟩ := Option.isSome_iff_exists.1 (show (Tryz.prog.info? 66).isSome = true by kernel_rfl)
          have h := cut_to (P := Tryz.prog) 29 66 .i64 Tryz.underlying29 hi (some ad) m.length d (k : Int) (by omega) (by omega) hd
          rw [Int.toNat_natCast] at h
          exact h
        replace cD := cD m[k]
        generalize m[k] = x at *
        have d2 : decide ((k : Int) < (m.length : Int)) = true := by simp; omega
        have hu62 := Tryz.underlying66
        have hu44 := Tryz.underlying39
        have pC := putsC x.f0.f0 x.f0.f1
        have hdk' := aM_ hdk
        have hlt' := aM_ hlt
        have hk' := aM_ hk
        have hmx := aM_ (show k + 1 ≤ 5 by have := hm4.out; omega)
        clear hdk hmem htk hD
        have i0 : wr.cell? ⟨g1, 0, none⟩ = some (.slice A l.length c) := (kC_ hT.h1 0).trans rfl
        have i1 : wr.cell? ⟨g1, 1, none⟩ = some (.slice (some ad) m.length d) := (kC_ hT.h1 1).trans rfl
        go_upto_region 8 with (fail)
        have q4 := heap_alloc_new wr (.cells #[.int .i64 x.f0.f0, .int .i64 x.f0.f1, .int .i64 x.f1] 66)
        replace hT := hT.below (al wr (.cells #[.int .i64 x.f0.f0, .int .i64 x.f0.f1, .int .i64 x.f1] 66))
        clear i0 i1 e0 e1 e2
        generalize wr.alloc (Obj.cells _ 66) = v1 at hT q4 ⊢
        obtain ⟨g4, hg4⟩ : ∃ g, wr.heap.size = g := ⟨_, rfl⟩
        rw [hg4] at q4 ⊢
        clear hg4
        have j0 : v1.cell? ⟨g4, 0, none⟩ = some (.int .i64 x.f0.f0) := (kC_ q4 0).trans rfl
        have j1 : v1.cell? ⟨g4, 1, none⟩ = some (.int .i64 x.f0.f1) := (kC_ q4 1).trans rfl
        by_cases hpu : pB x.f0.f0 x.f0.f1 = false
        · rw [hpu] at pC
          have hbad : dOk l m k = false := by rw [hdk'.out]; unfold ncl; rw [hpu]; rfl
          have hno : Aside0 (false = true ↔ (l.length ≤ 8 ∧ m.length ≤ 4 ∧ l.all (fun x => wOk x l.length) = true ∧ (∀ i, i < m.length → dOk l m i = true) ∧ R.length = l.length)) := ⟨⟨(fun h => by cases h), (fun h => by have := h.2.2.2.1 k hlt'.out; rw [hbad] at this; cases this)⟩⟩
          clear hbad hpu cD hsl
          go_wp2_with fail
          refine (pC _).mono ?_
          rintro e v2 ⟨rfl, hb⟩
          replace hT := hT.below hb
          clear pC hb j0 j1
          have hB := hT.bel
          go_wp2
          go_ret
          exact ⟨false, rfl, hno, hB⟩
        replace hpu : pB x.f0.f0 x.f0.f1 = true := by simpa using hpu
        rw [hpu] at pC
        by_cases h0 : x.f1 < 0
        · have n0 : decide (x.f1 < 0) = true := dT_ h0
          have hbad : dOk l m k = false := by rw [hdk'.out]; unfold ncl; rw [hpu, dF_ (by omega : ¬ 0 ≤ x.f1)]; rfl
          have hno : Aside0 (false = true ↔ (l.length ≤ 8 ∧ m.length ≤ 4 ∧ l.all (fun x => wOk x l.length) = true ∧ (∀ i, i < m.length → dOk l m i = true) ∧ R.length = l.length)) := ⟨⟨(fun h => by cases h), (fun h => by have := h.2.2.2.1 k hlt'.out; rw [hbad] at this; cases this)⟩⟩
          clear hbad hpu cD hsl h0
          go_wp2_with fail
          refine (pC _).mono ?_
          rintro e v2 ⟨rfl, hb⟩
          replace hT := hT.below hb
          replace q4 := blk_below q4 hb
          clear pC hb j0 j1
          have j2 : v2.cell? ⟨g4, 2, none⟩ = some (.int .i64 x.f1) := (kC_ q4 2).trans rfl
          have hB := hT.bel
          go_wp2
          go_ret
          exact ⟨false, rfl, hno, hB⟩
        have n0 : decide (x.f1 < 0) = false := dF_ h0
        by_cases h1 : (l.length : Int) ≤ x.f1
        · have n1 : decide (x.f1 ≥ (l.length : Int)) = true := dT_ h1
          have n1' : decide ((l.length : Int) ≤ x.f1) = true := dT_ h1
          have hbad : dOk l m k = false := by rw [hdk'.out]; unfold ncl; rw [hpu, dF_ (by omega : ¬ x.f1 < (l.length : Int)), Bool.and_false]; rfl
          have hno : Aside0 (false = true ↔ (l.length ≤ 8 ∧ m.length ≤ 4 ∧ l.all (fun x => wOk x l.length) = true ∧ (∀ i, i < m.length → dOk l m i = true) ∧ R.length = l.length)) := ⟨⟨(fun h => by cases h), (fun h => by have := h.2.2.2.1 k hlt'.out; rw [hbad] at this; cases this)⟩⟩
          clear hbad hpu cD hsl h0 h1
          go_wp2_with fail
          refine (pC _).mono ?_
          rintro e v2 ⟨rfl, hb⟩
          replace hT := hT.below hb
          replace q4 := blk_below q4 hb
          clear pC hb j0 j1
          have j2 : v2.cell? ⟨g4, 2, none⟩ = some (.int .i64 x.f1) := (kC_ q4 2).trans rfl
          have i0 : v2.cell? ⟨g1, 0, none⟩ = some (.slice A l.length c) := (kC_ hT.h1 0).trans rfl
          have hB := hT.bel
          go_wp2
          go_ret
          exact ⟨false, rfl, hno, hB⟩
        have n1 : decide (x.f1 ≥ (l.length : Int)) = false := dF_ h1
        have n1' : decide ((l.length : Int) ≤ x.f1) = false := dF_ h1
        have hnc : ncl x l = true := by unfold ncl; rw [hpu, dT_ (by omega : 0 ≤ x.f1), dT_ (by omega : x.f1 < (l.length : Int))]; rfl
        rw [hnc, Bool.true_and] at hdk'
        have hdk2 := hdk'
        clear hdk' hnc hpu h0 h1
        go_wp2_with fail
        refine (pC _).mono ?_
        rintro e v2 ⟨rfl, hb⟩
        replace hT := hT.below hb
        replace q4 := blk_below q4 hb
        clear pC hb j0 j1
        have j2 : v2.cell? ⟨g4, 2, none⟩ = some (.int .i64 x.f1) := (kC_ q4 2).trans rfl
        have i0 : v2.cell? ⟨g1, 0, none⟩ = some (.slice A l.length c) := (kC_ hT.h1 0).trans rfl
        have i1 : v2.cell? ⟨g1, 1, none⟩ = some (.slice (some ad) m.length d) := (kC_ hT.h1 1).trans rfl
        have cD2 := cD g4 v2 q4 hT.bel
        have kk : (k : Int) ≤ (m.length : Int) := by have := hk'.out; omega
        clear cD
        by_cases ha : ((m.take k).any fun y => toB y x) = true
        · rw [ha] at cD2
          have hbad : dOk l m k = false := by rw [hdk2.out, ha]; rfl
          have hno : Aside0 (false = true ↔ (l.length ≤ 8 ∧ m.length ≤ 4 ∧ l.all (fun x => wOk x l.length) = true ∧ (∀ i, i < m.length → dOk l m i = true) ∧ R.length = l.length)) := ⟨⟨(fun h => by cases h), (fun h => by have := h.2.2.2.1 k hlt'.out; rw [hbad] at this; cases this)⟩⟩
          clear hbad ha
          go_wp2_with fail
          refine cD2.mono ?_
          rintro e v3 ⟨rfl, hb⟩
          replace hT := hT.below hb
          clear cD2 hb i0 i1 j2 hsl
          have hB := hT.bel
          go_wp2
          go_ret
          exact ⟨false, rfl, hno, hB⟩
        · replace ha : ((m.take k).any fun y => toB y x) = false := by simpa using ha
          rw [ha] at cD2
          have hok : dOk l m k = true := by rw [hdk2.out, ha]; rfl
          have hf2 := aM_ (show ∀ j, j < k + 1 → dOk l m j = true from fun j h => by
            by_cases e : j = k
            · subst e; exact hok
            · exact hf.out j (by omega))
          clear ha hok
          go_wp2_with fail
          refine cD2.mono ?_
          rintro e v3 ⟨rfl, hb⟩
          replace hT := hT.below hb
          clear cD2 hb i0 i1 j2 hsl q4
          have hmx2 := hmx.out
          have hlt2 := hlt'.out
          go_wp2
          go_roundw
          case rel => exact ⟨k + 1, by omega, by go_num, hf2, hT⟩
          case measure => simp [intOf]; omega
      · have hkn : k = m.length := by omega
        subst hkn
        have d3 : decide ((m.length : Int) < (m.length : Int)) = false := by simp
        have oC : ∀ W, Below w.heap.size w W → Calls Tryz.prog 52 #[.agg #[.slice A l.length c, .slice B m.length d]] W fun e w' => ∃ P p, e = .returned (.slice P R.length p) ∧ Below W.heap.size W w' := by
          intro W hb
          refine (impl_Net_order.calls k0 A c l B d m R W (Kd.C_below hC'.out hb) hc (Kd.C_below hD hb) hd hof).mono ?_
          rintro e w' ⟨v, rfl, hR, hb'⟩
          obtain ⟨P, p, rfl, _, _⟩ := Kd.R_reads hR
          exact ⟨P, p, rfl, hb'⟩
        have hyes : Aside0 (((R.length : Int) == (l.length : Int)) = true ↔ (l.length ≤ 8 ∧ m.length ≤ 4 ∧ l.all (fun x => wOk x l.length) = true ∧ (∀ i, i < m.length → dOk l m i = true) ∧ R.length = l.length)) := by
          refine ⟨⟨fun h => ?_, fun h => ?_⟩⟩
          · have : (R.length : Int) = (l.length : Int) := by simpa using h
            exact ⟨hl8.out, hm4.out, hall'.out, hf.out, by omega⟩
          · rw [h.2.2.2.2]; simp
        clear hof hD hf
        have hof2 := hC'
        go_upto_region 11 with (fail)
        have hTd : Tn w g1 #[.slice A l.length c, .slice B m.length d] wr.drew := hT.below (b1_ (Below.refl _ _))
        clear hT
        refine start_ (n := 8) (S := fun w' => w'.cell? ⟨g1, 0, none⟩ = some (.slice A l.length c) ∧ w'.cell? ⟨g1, 1, none⟩ = some (.slice B m.length d) ∧ Tn w g1 #[.slice A l.length c, .slice B m.length d] w') (ds := []) #[F_, F_, F_, F_, F_, F_, F_, F_] (by kernel_rfl) rfl rfl ⟨(kC_ hTd.h1 0).trans rfl, (kC_ hTd.h1 1).trans rfl, hTd⟩ (fun hHeld => ?_)
        refine pure_ (i := 3) (N := some 56) (v := ?_) (a' := ?_) #[F_, F_, F_, T_, F_, F_, F_, F_] rfl rfl (by kernel_rfl) (fun _ _ _ h => h) (Or.inl ⟨by rfl, ?_⟩) ?_ ?_
        rotate_left
        · intro w'
          go_simp
          with_reducible rfl
        rotate_left
        · simp only [Act.put, sA_, sB_, sC_, i64_w, i32_w]
          rfl
        refine take_ (i := 0) (N := some 53) (v := ?_) (a' := ?_) #[T_, F_, F_, T_, F_, F_, F_, F_] rfl rfl (by kernel_rfl) (fun _ _ _ h => h) (Or.inl ⟨by rfl, ?_⟩) hHeld ?_ ?_
        rotate_left
        · rintro w' ⟨s0, s1, s2⟩
          go_simp
          with_reducible rfl
        rotate_left
        · simp only [Act.put, sA_, sB_, sC_, i64_w, i32_w]
          rfl
        refine take_ (i := 4) (N := some 57) (v := ?_) (a' := ?_) #[T_, F_, F_, T_, T_, F_, F_, F_] rfl rfl (by kernel_rfl) (fun _ _ _ h => h) (Or.inl ⟨by rfl, ?_⟩) hHeld ?_ ?_
        rotate_left
        · rintro w' ⟨s0, s1, s2⟩
          go_simp
          with_reducible rfl
        rotate_left
        · simp only [Act.put, sA_, sB_, sC_, i64_w, i32_w]
          rfl
        refine pure_ (i := 5) (N := some 58) (v := ?_) (a' := ?_) #[T_, F_, F_, T_, T_, T_, F_, F_] rfl rfl (by kernel_rfl) (fun _ _ _ h => h) (Or.inl ⟨by rfl, ?_⟩) ?_ ?_
        rotate_left
        · intro w'
          go_simp
          with_reducible rfl
        rotate_left
        · simp only [Act.put, sA_, sB_, sC_, i64_w, i32_w]
          rfl
        refine one_ (i := 1) (N := some 54) #[T_, T_, F_, T_, T_, T_, F_, F_] rfl rfl (by kernel_rfl) (by decide) (fun K hK => ?_)
        refine goes_ Tryz.func52 (by kernel_rfl) rfl #[.agg #[.slice A l.length c, .slice B m.length d]] (by rfl) rfl rfl (by simp only [mA_, List.map_cons, List.map_nil]; rfl) ?_
        with_reducible refine (oC _ hHeld.2.2.bel).mono ?_
        rintro e w3 ⟨P, p, rfl, hb⟩
        refine ⟨_, rfl, ?_⟩
        have hb1 := Tn.below hHeld.2.2 hb
        refine hK.out _ _ ⟨(kC_ hb1.h1 0).trans rfl, (kC_ hb1.h1 1).trans rfl, hb1⟩ (fun hHeld => ?_)
        clear hK K
        refine norm_ (a' := ?_) ?_ ?_
        rotate_left
        · show Act.put _ (some 54) _ = _
          simp only [Act.put, sA_, sB_, sC_, i64_w, i32_w]
          rfl
        refine pure_ (i := 2) (N := some 55) (v := ?_) (a' := ?_) #[T_, T_, T_, T_, T_, T_, F_, F_] rfl rfl (by kernel_rfl) (fun _ _ _ h => h) (Or.inl ⟨by rfl, ?_⟩) ?_ ?_
        rotate_left
        · intro w'
          go_simp
          with_reducible rfl
        rotate_left
        · simp only [Act.put, sA_, sB_, sC_, i64_w, i32_w]
          rfl
        refine pure_ (i := 6) (N := some 59) (v := ?_) (a' := ?_) #[T_, T_, T_, T_, T_, T_, T_, F_] rfl rfl (by kernel_rfl) (fun _ _ _ h => h) (Or.inl ⟨by rfl, ?_⟩) ?_ ?_
        rotate_left
        · intro w'
          go_simp
          with_reducible rfl
        rotate_left
        · simp only [Act.put, sA_, sB_, sC_, i64_w, i32_w]
          rfl
        refine pure_ (i := 7) (N := some 2) (v := ?_) (a' := ?_) #[T_, T_, T_, T_, T_, T_, T_, T_] rfl rfl (by kernel_rfl) (fun _ _ _ h => h) (Or.inl ⟨by rfl, ?_⟩) ?_ ?_
        rotate_left
        · intro w'
          go_simp
          with_reducible rfl
        rotate_left
        · simp only [Act.put, sA_, sB_, sC_, i64_w, i32_w]
          rfl
        refine done_ (by kernel_rfl) ?_
        have hT := hHeld.2.2
        clear hHeld
        have hB := hT.bel
        go_wp2
        go_ret
        exact ⟨_, rfl, hyes, hB⟩
end Go.Proofs.YtphblfmjdiigkaaGreatDoor.Hu5
namespace Go.Proofs.YtphblfmjdiigkaaGreatDoor.Hu6
open Go.RowKit Go.Proofs.YtphblfmjdiigkaaGreatDoor.Hb Go.Proofs.YtphblfmjdiigkaaGreatDoor.Hu1 Go.Proofs.YtphblfmjdiigkaaGreatDoor.Hu2 Go.Proofs.YtphblfmjdiigkaaGreatDoor.Hu3 Go.Proofs.YtphblfmjdiigkaaGreatDoor.Hu4 Go.Proofs.YtphblfmjdiigkaaGreatDoor.Hu5 Go.Proofs.YtphblfmjdiigkaaGreatDoor.HFnNetSame Go.Proofs.YtphblfmjdiigkaaGreatDoorW.PrintWords Go.Proofs.YtphblfmjdiigkaaGreatDoorW.PrintLast Go.Proofs.YtphblfmjdiigkaaGreatDoorW.PrintMore
set_option linter.unusedVariables false
set_option linter.unusedSimpArgs false
theorem wrap_id {x : Int} (h1 : -9223372036854775808 ≤ x) (h2 : x ≤ 9223372036854775807) : wrap64 x = x := by
  unfold wrap64; omega
def b1 (b : Bool) : Int := if b = true then 1 else 0
theorem b1_01 (b : Bool) : 0 ≤ b1 b ∧ b1 b ≤ 1 := by unfold b1; split <;> omega
def wt (x : S43) (a : Int) : Int := b1 (x.f2.f0 == 2 && x.f2.f1 == a) + b1 (twB x.f0 && (x.f3.f0 == 2 && x.f3.f1 == a))
theorem wt_rng (x : S43) (a : Int) : 0 ≤ wt x a ∧ wt x a ≤ 2 := by
  have h1 := b1_01 (x.f2.f0 == 2 && x.f2.f1 == a)
  have h2 := b1_01 (twB x.f0 && (x.f3.f0 == 2 && x.f3.f1 == a))
  unfold wt; omega
theorem waits_end (k : Nat) (a s : Int) (ls : List S41) : impl_Wire_waits.l0 (k + 1) a s ls (ls.length : Int) (ls.length : Int) = some s := by
  rw [impl_Wire_waits.l0, if_neg (by omega)]
theorem waits_step (k : Nat) (a s : Int) (ls : List S41) (i : Nat) (h : i < ls.length) (hl : ls.length ≤ 2) (hs : 0 ≤ s ∧ s ≤ 2) : impl_Wire_waits.l0 (k + 1) a s ls (ls.length : Int) (i : Int) = impl_Wire_waits.l0 k a (s + b1 (ls[i].f0 == 2 && ls[i].f1 == a)) ls (ls.length : Int) ((i + 1 : Nat) : Int) := by
  rw [impl_Wire_waits.l0, if_pos (by omega), if_pos (by omega), if_pos (by omega), rd46 ls i h, wrap_id (x := (i : Int) + 1) (by omega) (by omega), wrap_id (x := s + 1) (by omega) (by omega)]
  by_cases c1 : ls[i].f0 = 2
  · rw [if_pos c1]
    by_cases c2 : ls[i].f1 = a
    · rw [if_pos c2, c1, c2]; simp [b1]
    · rw [if_neg c2, c1, show (ls[i].f1 == a) = false by simpa using c2]; simp [b1]
  · rw [if_neg c1, show (ls[i].f0 == 2) = false by simpa using c1]; simp [b1]
theorem waitsS (k : Nat) (x : S43) (a : Int) : impl_Wire_waits.f (k + 3) x.f0 x.f1 x.f2.f0 x.f2.f1 x.f2.f2.f0 x.f2.f2.f1 x.f2.f3 x.f3.f0 x.f3.f1 x.f3.f2.f0 x.f3.f2.f1 x.f3.f3 a = some (wt x a) := by
  unfold impl_Wire_waits.f
  rw [insS]
  simp only [Option.bind_some]
  unfold insL wt
  have r1 := b1_01 (x.f2.f0 == 2 && x.f2.f1 == a)
  cases twB x.f0 with
  | true =>
    rw [if_pos rfl]
    have s1 := waits_step (k + 2) a 0 [x.f2, x.f3] 0 (by simp) (by simp) (by omega)
    have s2 := waits_step (k + 1) a (0 + b1 (x.f2.f0 == 2 && x.f2.f1 == a)) [x.f2, x.f3] 1 (by simp) (by simp) (by omega)
    have s3 := waits_end k a (0 + b1 (x.f2.f0 == 2 && x.f2.f1 == a) + b1 (x.f3.f0 == 2 && x.f3.f1 == a)) [x.f2, x.f3]
    have e : impl_Wire_waits.l0 (k + 3) a 0 [x.f2, x.f3] ([x.f2, x.f3].length : Int) 0 = some (0 + b1 (x.f2.f0 == 2 && x.f2.f1 == a) + b1 (x.f3.f0 == 2 && x.f3.f1 == a)) := s1.trans (s2.trans s3)
    rw [e, Bool.true_and, Int.zero_add]
  | false =>
    rw [if_neg (by simp)]
    have s1 := waits_step (k + 2) a 0 [x.f2] 0 (by simp) (by simp) (by omega)
    have s3 := waits_end (k + 1) a (0 + b1 (x.f2.f0 == 2 && x.f2.f1 == a)) [x.f2]
    have e : impl_Wire_waits.l0 (k + 3) a 0 [x.f2] ([x.f2].length : Int) 0 = some (0 + b1 (x.f2.f0 == 2 && x.f2.f1 == a)) := s1.trans s3
    rw [e, Bool.false_and]; simp [b1]
def td (told : List Bool) (a : Int) : Bool := rdOf false told a
def U (told : List Bool) (x : S43) : Int := b1 (x.f2.f0 == 2 && !(td told x.f2.f1)) + b1 (x.f3.f0 == 2 && !(td told x.f3.f1))
def inR (n : Nat) (x : S43) : Prop := (x.f2.f0 = 2 → 0 ≤ x.f2.f1 ∧ x.f2.f1 < n) ∧ (x.f3.f0 = 2 → 0 ≤ x.f3.f1 ∧ x.f3.f1 < n) ∧ (twB x.f0 = false → x.f3.f0 = 0)
theorem sOk_rng {a t c d n : Int} (h : sOk a t c d n = true) (ha : a = 2) : 0 ≤ t ∧ t < n := by
  unfold sOk inB at h
  rw [if_neg (by omega), if_pos (.inl ha)] at h
  simp at h
  omega
theorem inR_of (n : Nat) (x : S43) (h : wOk x n = true) : inR n x := by
  unfold wOk at h
  simp only [Bool.and_eq_true, Bool.not_eq_true'] at h
  obtain ⟨_, h2, h3⟩ := h
  rw [List.any_eq_false] at h3
  have hA : sOkS x.f2 n = true := by
    have := h3 x.f2 (by unfold insL; split <;> simp)
    simpa using this
  refine ⟨fun e => sOk_rng hA e, fun e => ?_, fun e => ?_⟩
  · by_cases ht : twB x.f0 = true
    · have hB : sOkS x.f3 n = true := by
        have := h3 x.f3 (by unfold insL; rw [if_pos ht]; simp)
        simpa using this
      exact sOk_rng hB e
    · exfalso
      rw [show twB x.f0 = false by simpa using ht] at h2
      simp [z46B] at h2
      omega
  · rw [e] at h2
    simp [z46B] at h2
    exact h2.1
theorem td_set (told : List Bool) (i : Nat) (a : Int) (ha : 0 ≤ a) (hi : i < told.length) : td (told.set i true) a = (td told a || a == (i : Int)) := by
  unfold td rdOf
  by_cases e : a = (i : Int)
  · subst e
    rw [Int.toNat_natCast, List.getD_eq_getElem?_getD, List.getElem?_set_self hi]; simp
  · have h2 : i ≠ a.toNat := by omega
    rw [show (a == (i : Int)) = false by simpa using e, Bool.or_false, List.getD_eq_getElem?_getD, List.getD_eq_getElem?_getD, List.getElem?_set_ne h2]
theorem b1_split (p q r : Bool) (hr : p = true → r = true → q = false) : b1 (p && !(q || r)) = b1 (p && !q) - b1 (p && r) := by
  cases p <;> cases q <;> cases r <;> simp [b1] at hr ⊢
theorem U_set (n : Nat) (told : List Bool) (x : S43) (i : Nat) (hx : inR n x) (hi : i < told.length) (ht : td told (i : Int) = false) : U (told.set i true) x = U told x - wt x (i : Int) := by
  unfold U wt
  have e1 : b1 (x.f2.f0 == 2 && !(td (told.set i true) x.f2.f1)) = b1 (x.f2.f0 == 2 && !(td told x.f2.f1)) - b1 (x.f2.f0 == 2 && x.f2.f1 == (i : Int)) := by
    by_cases c : x.f2.f0 = 2
    · rw [td_set told i _ (hx.1 c).1 hi]
      exact b1_split _ _ _ (fun _ h => by rw [show x.f2.f1 = (i : Int) by simpa using h]; exact ht)
    · rw [show (x.f2.f0 == 2) = false by simpa using c]; simp [b1]
  have e2 : b1 (x.f3.f0 == 2 && !(td (told.set i true) x.f3.f1)) = b1 (x.f3.f0 == 2 && !(td told x.f3.f1)) - b1 (twB x.f0 && (x.f3.f0 == 2 && x.f3.f1 == (i : Int))) := by
    by_cases c : x.f3.f0 = 2
    · have htw : twB x.f0 = true := by
        cases h : twB x.f0 with
        | true => rfl
        | false => have := hx.2.2 h; omega
      rw [htw, Bool.true_and, td_set told i _ (hx.2.1 c).1 hi]
      exact b1_split _ _ _ (fun _ h => by rw [show x.f3.f1 = (i : Int) by simpa using h]; exact ht)
    · rw [show (x.f3.f0 == 2) = false by simpa using c]; simp [b1]
  rw [e1, e2]; omega
def wq (told : List Bool) (x : S43) : Bool := (x.f2.f0 == 2 && !(td told x.f2.f1)) || (x.f3.f0 == 2 && !(td told x.f3.f1))
theorem wq_U (told : List Bool) (x : S43) : (U told x = 0) ↔ wq told x = false := by
  unfold U wq
  cases (x.f2.f0 == 2 && !(td told x.f2.f1)) <;> cases (x.f3.f0 == 2 && !(td told x.f3.f1)) <;> simp [b1]
theorem l7WaitsS (x : S43) (told : List Bool) (hx : inR told.length x) : spec_l7Waits.f x.f0 x.f1 x.f2.f0 x.f2.f1 x.f2.f2.f0 x.f2.f2.f1 x.f2.f3 x.f3.f0 x.f3.f1 x.f3.f2.f0 x.f3.f2.f1 x.f3.f3 told = some (wq told x) := by
  unfold spec_l7Waits.f wq td
  by_cases c1 : x.f2.f0 = 2
  · obtain ⟨h1, h2⟩ := hx.1 c1
    rw [if_pos c1, if_pos h1, if_pos h2, show (x.f2.f0 == 2) = true by simpa using c1]
    cases hq : rdOf false told x.f2.f1
    · rfl
    · rw [if_pos rfl]
      by_cases c2 : x.f3.f0 = 2
      · obtain ⟨h3, h4⟩ := hx.2.1 c2
        rw [if_pos c2, if_pos h3, if_pos h4, show (x.f3.f0 == 2) = true by simpa using c2]; simp
      · rw [if_neg c2, show (x.f3.f0 == 2) = false by simpa using c2]; simp
  · rw [if_neg c1, show (x.f2.f0 == 2) = false by simpa using c1]
    by_cases c2 : x.f3.f0 = 2
    · obtain ⟨h3, h4⟩ := hx.2.1 c2
      rw [if_pos c2, if_pos h3, if_pos h4, show (x.f3.f0 == 2) = true by simpa using c2]; simp
    · rw [if_neg c2, show (x.f3.f0 == 2) = false by simpa using c2]; simp
def pk (l : List S43) (told : List Bool) : Nat → Nat → Option Nat
  | 0, _ => none
  | d + 1, i => if td told (i : Int) = false ∧ wq told (rd_T43 l (i : Int)) = false then some i else pk l told d (i + 1)
def ordR (l : List S43) : Nat → List Bool → List Int → List Int
  | 0, _, out => out
  | f + 1, told, out => match pk l told l.length 0 with
    | none => out
    | some i => ordR l f (told.set i true) (out ++ [(i : Int)])
theorem pk_some (l : List S43) (told : List Bool) : ∀ (d i j : Nat), pk l told d i = some j → i ≤ j ∧ j < i + d ∧ td told (j : Int) = false
  | 0, i, j, h => by cases h
  | d + 1, i, j, h => by
    rw [pk] at h
    by_cases c : td told (i : Int) = false ∧ wq told (rd_T43 l (i : Int)) = false
    · rw [if_pos c] at h
      obtain rfl := oI_ h
      exact ⟨by omega, by omega, c.1⟩
    · rw [if_neg c] at h
      obtain ⟨h1, h2, h3⟩ := pk_some l told d (i + 1) j h
      exact ⟨by omega, by omega, h3⟩
def okW (l : List S43) : Prop := ∀ i, i < l.length → inR l.length (rd_T43 l (i : Int))
theorem spec_in (l : List S43) (told : List Bool) (out : List Int) (r : Int) (hw : okW l) (ht : told.length = l.length) (h8 : l.length ≤ 8) (ho : out.length ≤ 100) (hr : 0 ≤ r ∧ r ≤ 8) : ∀ (d i k : Nat), i + d = l.length →
    spec_l7Order.l1 (k + 2 * d + 3) l told out r (-1) (i : Int) = match pk l told d i with
      | none => spec_l7Order.l0 (k + 1) l told out (r + 1)
      | some j => spec_l7Order.l0 (k + 2 * (i + d - j) - 1) l (told.set j true) (out ++ [(j : Int)]) (r + 1)
  | 0, i, k, hi => by
    rw [show k + 2 * 0 + 3 = (k + 2) + 1 by omega, spec_l7Order.l1, if_neg (by omega), spec_l7Order.j2, if_neg (by simp), if_neg (by omega), wrap_id (by omega) (by omega)]
    rfl
  | d + 1, i, k, hi => by
    have hrec := spec_in l told out r hw ht h8 ho hr d (i + 1) k (by omega)
    rw [show k + 2 * (d + 1) + 3 = (k + 2 * d + 4) + 1 by omega, spec_l7Order.l1, if_pos (by omega), show decide ((-1 : Int) < 0) = true from rfl, spec_l7Order.j2, if_pos rfl, if_pos (by omega), if_pos (by omega), wrap_id (x := (i : Int) + 1) (by omega) (by omega), pk]
    have hii : ((i : Int) + 1) = ((i + 1 : Nat) : Int) := rfl
    cases hq : td told (i : Int) with
    | true =>
      rw [if_pos (show rdOf false told (i : Int) = true from hq), if_neg (by simp), hii, hrec]
      have e : i + 1 + d = i + (d + 1) := by omega
      rw [e]
    | false =>
      rw [if_neg (by rw [show rdOf false told (i : Int) = false from hq]; simp), if_pos (by omega), l7WaitsS _ told (by rw [ht]; exact hw i (by omega))]
      simp only [Option.bind_some]
      cases hz : wq told (rd_T43 l (i : Int)) with
      | true =>
        rw [if_pos rfl, if_neg (by simp), hii, hrec]
        have e : i + 1 + d = i + (d + 1) := by omega
        rw [e]
      | false =>
        rw [if_neg (by simp), if_pos (by simp), hii]
        have hex : ∀ (q : Nat) (z : Int), 0 ≤ z → spec_l7Order.l1 (q + 2) l told out r (i : Int) z = spec_l7Order.l0 q l (told.set i true) (out ++ [(i : Int)]) (r + 1) := by
          intro q z hz0
          rw [spec_l7Order.l1]
          have hd : decide ((i : Int) < 0) = false := dF_ (by omega)
          have hj : spec_l7Order.j2 (q + 1) l told out r (i : Int) z false = spec_l7Order.l0 q l (told.set i true) (out ++ [(i : Int)]) (r + 1) := by
            rw [spec_l7Order.j2, if_neg (by simp), if_pos (by omega), if_pos (by omega), if_pos (by omega), if_pos (by omega), wrap_id (by omega) (by omega), Int.toNat_natCast]
          rw [hd]
          split <;> exact hj
        rw [show k + 2 * d + 3 = (k + 2 * d + 1) + 2 by omega, hex _ _ (by omega)]
        congr 1
        omega
theorem spec_ord (l : List S43) (hw : okW l) (h8 : l.length ≤ 8) : ∀ (f k r : Nat) (told : List Bool) (out : List Int), r + f = l.length → told.length = l.length → out.length + f ≤ 100 → 100 * f + 20 ≤ k →
    spec_l7Order.l0 k l told out (r : Int) = some (ordR l f told out)
  | 0, k, r, told, out, hr, ht, ho, hk => by
    obtain ⟨k, rfl⟩ : ∃ q, k = q + 1 := ⟨k - 1, by omega⟩
    rw [spec_l7Order.l0, if_neg (by omega)]; rfl
  | f + 1, k, r, told, out, hr, ht, ho, hk => by
    obtain ⟨k, rfl⟩ : ∃ q, k = (q + 2 * l.length + 3) + 1 := ⟨k - 2 * l.length - 4, by omega⟩
    rw [spec_l7Order.l0, if_pos (by omega)]
    have h := spec_in l told out (r : Int) hw ht h8 (by omega) (by omega) l.length 0 k (by omega)
    rw [show ((0 : Nat) : Int) = 0 from rfl] at h
    rw [h, ordR]
    have hrr : ((r : Int) + 1) = ((r + 1 : Nat) : Int) := rfl
    cases hp : pk l told l.length 0 with
    | none =>
      show spec_l7Order.l0 (k + 1) l told out ((r : Int) + 1) = some out
      rw [hrr, spec_ord l hw h8 f (k + 1) (r + 1) told out (by omega) ht (by omega) (by omega)]
      cases f with
      | zero => rfl
      | succ f => rw [ordR, hp]
    | some j =>
      obtain ⟨_, h2, _⟩ := pk_some l told _ _ _ hp
      show spec_l7Order.l0 (k + 2 * (0 + l.length - j) - 1) l (told.set j true) (out ++ [(j : Int)]) ((r : Int) + 1) = _
      rw [hrr, spec_ord l hw h8 f _ (r + 1) _ _ (by omega) (by rw [List.length_set]; exact ht) (by simp; omega) (by omega)]
def orD (l : List S43) : List Int := ordR l l.length (List.replicate l.length false) []
theorem spec_orderS (l : List S43) (hw : okW l) (h8 : l.length ≤ 8) (k : Nat) (hk : 900 ≤ k) : spec_l7Order.f k l = some (orD l) := by
  unfold spec_l7Order.f orD
  rw [if_pos (by omega), if_pos (by omega), Int.toNat_natCast]
  have := spec_ord l hw h8 l.length k 0 (List.replicate l.length false) [] (by omega) (by simp) (by simp; omega) (by omega)
  exact this
end Go.Proofs.YtphblfmjdiigkaaGreatDoor.Hu6
namespace Go.Proofs.YtphblfmjdiigkaaGreatDoor.Hu7
open Go.RowKit Go.Proofs.YtphblfmjdiigkaaGreatDoor.Hb Go.Proofs.YtphblfmjdiigkaaGreatDoor.Hu1 Go.Proofs.YtphblfmjdiigkaaGreatDoor.Hu2 Go.Proofs.YtphblfmjdiigkaaGreatDoor.Hu3 Go.Proofs.YtphblfmjdiigkaaGreatDoor.Hu4 Go.Proofs.YtphblfmjdiigkaaGreatDoor.Hu5 Go.Proofs.YtphblfmjdiigkaaGreatDoor.Hu6 Go.Proofs.YtphblfmjdiigkaaGreatDoor.HFnNetSame Go.Proofs.YtphblfmjdiigkaaGreatDoorW.PrintWords Go.Proofs.YtphblfmjdiigkaaGreatDoorW.PrintLast Go.Proofs.YtphblfmjdiigkaaGreatDoorW.PrintMore
set_option linter.unusedVariables false
set_option linter.unusedSimpArgs false
theorem rd_set (l : List Int) (i j : Nat) (v : Int) (h : i < l.length) : rd (l.set i v) (j : Int) = if j = i then v else rd l (j : Int) := by
  unfold rd
  rw [Int.toNat_natCast, List.getD_eq_getElem?_getD, List.getD_eq_getElem?_getD]
  by_cases e : j = i
  · subst e; rw [if_pos rfl, List.getElem?_set_self h]; rfl
  · rw [if_neg e, List.getElem?_set_ne (Ne.symm e)]
def V (x : S43) (i : Int) : Int := b1 (x.f2.f0 == 2 && decide (x.f2.f1 < i)) + b1 (twB x.f0 && (x.f3.f0 == 2 && decide (x.f3.f1 < i)))
theorem b1_lt (p : Bool) (t i : Int) : b1 (p && decide (t < i + 1)) = b1 (p && decide (t < i)) + b1 (p && t == i) := by
  cases p
  · simp [b1]
  · by_cases h1 : t < i
    · rw [dT_ h1, dT_ (by omega : t < i + 1), show (t == i) = false by simpa using (by omega : ¬ t = i)]; simp [b1]
    · rw [dF_ h1]
      by_cases h2 : t = i
      · rw [dT_ (by omega : t < i + 1), show (t == i) = true by simpa using h2]; simp [b1]
      · rw [dF_ (by omega : ¬ t < i + 1), show (t == i) = false by simpa using h2]; simp [b1]
theorem V_succ (x : S43) (i : Int) : V x (i + 1) = V x i + wt x i := by
  unfold V wt
  have h1 := b1_lt (x.f2.f0 == 2) x.f2.f1 i
  have h2 := b1_lt (twB x.f0 && x.f3.f0 == 2) x.f3.f1 i
  simp only [Bool.and_assoc] at h2
  rw [h1, h2]; omega
theorem V_zero (n : Nat) (x : S43) (hx : inR n x) : V x 0 = 0 := by
  unfold V
  have h1 : (x.f2.f0 == 2 && decide (x.f2.f1 < 0)) = false := by
    by_cases c : x.f2.f0 = 2
    · rw [dF_ (by have := (hx.1 c).1; omega), Bool.and_false]
    · rw [show (x.f2.f0 == 2) = false by simpa using c]; rfl
  have h2 : (x.f3.f0 == 2 && decide (x.f3.f1 < 0)) = false := by
    by_cases c : x.f3.f0 = 2
    · rw [dF_ (by have := (hx.2.1 c).1; omega), Bool.and_false]
    · rw [show (x.f3.f0 == 2) = false by simpa using c]; rfl
  rw [h1, h2, Bool.and_false]; rfl
theorem td_repl (n : Nat) (a : Int) : td (List.replicate n false) a = false := by
  unfold td rdOf
  rw [List.getD_eq_getElem?_getD, List.getElem?_replicate]
  split <;> rfl
theorem V_n (n : Nat) (x : S43) (hx : inR n x) : V x n = U (List.replicate n false) x := by
  unfold V U
  rw [td_repl, td_repl]
  have h1 : (x.f2.f0 == 2 && decide (x.f2.f1 < (n : Int))) = (x.f2.f0 == 2 && !false) := by
    by_cases c : x.f2.f0 = 2
    · rw [dT_ (hx.1 c).2]; simp
    · rw [show (x.f2.f0 == 2) = false by simpa using c]; rfl
  have h2 : (twB x.f0 && (x.f3.f0 == 2 && decide (x.f3.f1 < (n : Int)))) = (x.f3.f0 == 2 && !false) := by
    by_cases c : x.f3.f0 = 2
    · have htw : twB x.f0 = true := by
        cases h : twB x.f0 with
        | true => rfl
        | false => have := hx.2.2 h; omega
      rw [htw, dT_ (hx.2.1 c).2]; simp
    · rw [show (x.f3.f0 == 2) = false by simpa using c]; simp
  rw [h1, h2]
theorem V_rng (x : S43) (i : Int) : 0 ≤ V x i ∧ V x i ≤ 2 := by
  have h1 := b1_01 (x.f2.f0 == 2 && decide (x.f2.f1 < i))
  have h2 := b1_01 (twB x.f0 && (x.f3.f0 == 2 && decide (x.f3.f1 < i)))
  unfold V; omega
theorem V_next (x : S43) (at_ : Nat) (u : Int) (hv : u = V x at_) : wrap64 (u + wt x at_) = V x ((at_ + 1 : Nat) : Int) := by
  have hc : ((at_ + 1 : Nat) : Int) = (at_ : Int) + 1 := by omega
  have hb := V_rng x ((at_ : Int) + 1)
  rw [hc, hv]
  rw [V_succ] at hb ⊢
  generalize V x at_ + wt x at_ = z at hb
  exact wrap_id (by omega) (by omega)
theorem l1_end (l : List S43) (m : List S66) (x : S43) (i : Nat) (h8 : l.length ≤ 8) (hi : i < l.length) (k : Nat) (W : List Int) (n1 : Int) (hn : wrap64 ((i : Int) + 1) = n1) :
    impl_Net_order.l1 (k + 1) W (i : Int) l (l.length : Int) (i : Int) (l.length : Int) (l.length : Int) l m x.f0 x.f1 x.f2.f0 x.f2.f1 x.f2.f2.f0 x.f2.f2.f1 x.f2.f3 x.f3.f0 x.f3.f1 x.f3.f2.f0 x.f3.f2.f1 x.f3.f3 = impl_Net_order.l0 k W l (l.length : Int) n1 l m := by
  rw [impl_Net_order.l1, if_neg (by omega), hn]
theorem l1_step (l : List S43) (m : List S66) (x : S43) (i at_ k : Nat) (W : List Int) (h8 : l.length ≤ 8) (hi : i < l.length) (ha : at_ < l.length) (hW : W.length = l.length) (v : Int) (hv : wrap64 (rd W (i : Int) + wt x at_) = v) (n1 : Int) (hn : wrap64 ((at_ : Int) + 1) = n1) :
    impl_Net_order.l1 (k + 4) W (i : Int) l (l.length : Int) (i : Int) (l.length : Int) (at_ : Int) l m x.f0 x.f1 x.f2.f0 x.f2.f1 x.f2.f2.f0 x.f2.f2.f1 x.f2.f3 x.f3.f0 x.f3.f1 x.f3.f2.f0 x.f3.f2.f1 x.f3.f3 = impl_Net_order.l1 (k + 3) (W.set i v) (i : Int) l (l.length : Int) (i : Int) (l.length : Int) n1 l m x.f0 x.f1 x.f2.f0 x.f2.f1 x.f2.f2.f0 x.f2.f2.f1 x.f2.f3 x.f3.f0 x.f3.f1 x.f3.f2.f0 x.f3.f2.f1 x.f3.f3 := by
  have hw := waitsS k x at_
  rw [impl_Net_order.l1, if_pos (by omega), if_pos (by omega), if_pos (by omega), hw, Option.bind_some, hv, hn, Int.toNat_natCast]
theorem l1_run (l : List S43) (m : List S66) (x : S43) (i : Nat) (h8 : l.length ≤ 8) (hi : i < l.length) (d : Nat) : ∀ (at_ k : Nat) (W : List Int), at_ + d = l.length → W.length = l.length → rd W (i : Int) = V x at_ →
    impl_Net_order.l1 (k + d + 4) W (i : Int) l (l.length : Int) (i : Int) (l.length : Int) (at_ : Int) l m x.f0 x.f1 x.f2.f0 x.f2.f1 x.f2.f2.f0 x.f2.f2.f1 x.f2.f3 x.f3.f0 x.f3.f1 x.f3.f2.f0 x.f3.f2.f1 x.f3.f3 = impl_Net_order.l0 (k + 3) (if d = 0 then W else W.set i (V x l.length)) l (l.length : Int) ((i + 1 : Nat) : Int) l m := by
  induction d with
  | zero =>
    intro at_ k W ha hW hv
    obtain rfl : at_ = l.length := by omega
    have hw2 : wrap64 ((i : Int) + 1) = ((i + 1 : Nat) : Int) := wrap_id (by omega) (by omega)
    have hs := l1_end l m x i h8 hi (k + 3) W _ hw2
    have e1 : k + 0 + 4 = k + 3 + 1 := by omega
    rw [if_pos rfl, e1]
    exact hs
  | succ d ih =>
    intro at_ k W ha hW hv
    have ha1 : at_ < l.length := by omega
    have ha2 : at_ + 1 + d = l.length := by omega
    have hiW : i < W.length := by omega
    have hd0 : ¬ d + 1 = 0 := by omega
    have hw2 : wrap64 ((at_ : Int) + 1) = ((at_ + 1 : Nat) : Int) := wrap_id (by omega) (by omega)
    have e1 : k + (d + 1) + 4 = k + d + 1 + 4 := by omega
    have e2 : k + d + 4 = k + d + 1 + 3 := by omega
    have e3 : d = 0 → at_ + 1 = l.length := by omega
    have hw1 := V_next x at_ _ hv
    have hs := l1_step l m x i at_ (k + d + 1) W h8 hi ha1 hW _ hw1 _ hw2
    have hrd : rd (W.set i (V x ((at_ + 1 : Nat) : Int))) (i : Int) = V x ((at_ + 1 : Nat) : Int) := by rw [rd_set _ _ _ _ hiW, if_pos rfl]
    have hrec := ih (at_ + 1) k (W.set i (V x ((at_ + 1 : Nat) : Int))) ha2 (by rw [List.length_set]; exact hW) hrd
    have hfin : (if d = 0 then W.set i (V x ((at_ + 1 : Nat) : Int)) else (W.set i (V x ((at_ + 1 : Nat) : Int))).set i (V x l.length)) = W.set i (V x l.length) := by
      by_cases hd : d = 0
      · rw [if_pos hd, e3 hd]
      · rw [if_neg hd, List.set_set]
    rw [hfin] at hrec
    rw [if_neg hd0, ← hrec, e1, e2]
    exact hs
theorem l0_run (l : List S43) (m : List S66) (hw : okW l) (h8 : l.length ≤ 8) : ∀ (d i k : Nat) (W : List Int), i + d = l.length → W.length = l.length → (∀ j : Nat, j < i → rd W (j : Int) = V (rd_T43 l (j : Int)) l.length) → (∀ j : Nat, i ≤ j → j < l.length → rd W (j : Int) = 0) →
    ∃ W', W'.length = l.length ∧ (∀ j : Nat, j < l.length → rd W' (j : Int) = V (rd_T43 l (j : Int)) l.length) ∧ impl_Net_order.l0 (k + d * (l.length + 2) + 3) W l (l.length : Int) (i : Int) l m = impl_Net_order.l2 (k + 2) W' [] l m
  | 0, i, k, W, hi, hW, h1, h2 => ⟨W, hW, fun j hj => h1 j (by omega), by
    rw [show k + 0 * (l.length + 2) + 3 = (k + 2) + 1 by omega, impl_Net_order.l0, if_neg (by omega)]⟩
  | d + 1, i, k, W, hi, hW, h1, h2 => by
    obtain ⟨W', hl, hv, he⟩ := l0_run l m hw h8 d (i + 1) k (W.set i (V (rd_T43 l (i : Int)) l.length)) (by omega) (by simpa using hW)
      (fun j hj => by
        rw [rd_set _ _ _ _ (by omega)]
        by_cases e : j = i
        · subst e; rw [if_pos rfl]
        · rw [if_neg e]; exact h1 j (by omega))
      (fun j hj hj2 => by rw [rd_set _ _ _ _ (by omega), if_neg (by omega)]; exact h2 j (by omega) hj2)
    refine ⟨W', hl, hv, ?_⟩
    have h := l1_run l m (rd_T43 l (i : Int)) i h8 (by omega) l.length 0 (k + d * (l.length + 2)) W (by omega) hW (by rw [h2 i (by omega) (by omega)]; exact (V_zero l.length _ (hw i (by omega))).symm)
    rw [if_neg (by omega)] at h
    have e : k + (d + 1) * (l.length + 2) + 3 = (k + d * (l.length + 2) + l.length + 4) + 1 := by
      rw [Nat.succ_mul]; omega
    rw [e, impl_Net_order.l0, if_pos (by omega), if_pos (by omega), if_pos (by omega)]
    exact h.trans he
structure Rel (l : List S43) (told : List Bool) (W : List Int) (B : Int) : Prop where
  lt : told.length = l.length
  lw : W.length = l.length
  hi : ∀ j : Nat, j < l.length → td told (j : Int) = true → rd W (j : Int) < 0
  lo : ∀ j : Nat, j < l.length → td told (j : Int) = false → rd W (j : Int) = U told (rd_T43 l (j : Int))
  bd : ∀ j : Nat, j < l.length → -B ≤ rd W (j : Int) ∧ rd W (j : Int) ≤ 2
theorem index_run (l : List S43) (told : List Bool) (W : List Int) (B : Int) (h : Rel l told W B) (h8 : l.length ≤ 8) : ∀ (d i k : Nat), i + d = l.length →
    slices_Index_int_int.l0 (k + d + 1) W 0 (W.length : Int) (i : Int) = some (match pk l told d i with | none => -1 | some j => (j : Int))
  | 0, i, k, hi => by
    have := h.lw
    rw [slices_Index_int_int.l0, if_neg (by omega)]; rfl
  | d + 1, i, k, hi => by
    have := h.lw
    rw [show k + (d + 1) + 1 = (k + d + 1) + 1 by omega, slices_Index_int_int.l0, if_pos (by omega), if_pos (by omega), if_pos (by omega), pk]
    have hrec := index_run l told W B h h8 d (i + 1) k (by omega)
    by_cases c : td told (i : Int) = false ∧ wq told (rd_T43 l (i : Int)) = false
    · have : (0 : Int) = rd W (i : Int) := by rw [h.lo i (by omega) c.1]; exact ((wq_U told _).2 c.2).symm
      rw [if_pos this, if_pos c]
    · have : ¬ (0 : Int) = rd W (i : Int) := by
        intro e
        cases ht : td told (i : Int) with
        | true => have := h.hi i (by omega) ht; omega
        | false => exact c ⟨ht, (wq_U told _).1 (by rw [← h.lo i (by omega) ht]; exact e.symm)⟩
      rw [if_neg this, if_neg c, wrap_id (by omega) (by omega)]
      exact hrec
theorem l3_step (l : List S43) (m : List S66) (i at_ k : Nat) (W out : List Int) (h8 : l.length ≤ 8) (hi : i < l.length) (hW : W.length = l.length) (v : Int) (hv : wrap64 (rd W (i : Int) - wt (rd_T43 l (i : Int)) at_) = v) (n1 : Int) (hn : wrap64 ((i : Int) + 1) = n1) :
    impl_Net_order.l3 (k + 4) W out (at_ : Int) l (l.length : Int) (i : Int) l m = impl_Net_order.l3 (k + 3) (W.set i v) out (at_ : Int) l (l.length : Int) n1 l m := by
  have hw := waitsS k (rd_T43 l (i : Int)) at_
  rw [impl_Net_order.l3, if_pos (by omega), if_pos (by omega), if_pos (by omega), if_pos (by omega), hw, Option.bind_some, hv, hn, Int.toNat_natCast]
theorem l3_end (l : List S43) (m : List S66) (at_ k : Nat) (W out : List Int) :
    impl_Net_order.l3 (k + 1) W out (at_ : Int) l (l.length : Int) (l.length : Int) l m = impl_Net_order.l2 k W out l m := by
  rw [impl_Net_order.l3, if_neg (by omega)]
theorem l3_run (l : List S43) (m : List S66) (h8 : l.length ≤ 8) (B : Int) (hB : 0 ≤ B ∧ B ≤ 1000) (out : List Int) (at_ : Nat) (d : Nat) : ∀ (i k : Nat) (W : List Int), i + d = l.length → W.length = l.length → (∀ j : Nat, i ≤ j → j < l.length → -B ≤ rd W (j : Int) ∧ rd W (j : Int) ≤ 2) →
    ∃ W', W'.length = l.length ∧ (∀ j : Nat, j < l.length → rd W' (j : Int) = if j < i then rd W (j : Int) else rd W (j : Int) - wt (rd_T43 l (j : Int)) at_) ∧ impl_Net_order.l3 (k + d + 4) W out (at_ : Int) l (l.length : Int) (i : Int) l m = impl_Net_order.l2 (k + 3) W' out l m := by
  induction d with
  | zero =>
    intro i k W hi hW hb
    obtain rfl : i = l.length := by omega
    refine ⟨W, hW, fun j hj => by rw [if_pos (by omega)], ?_⟩
    exact l3_end l m at_ (k + 3) W out
  | succ d ih =>
    intro i k W hi hW hb
    have r2 := wt_rng (rd_T43 l (i : Int)) at_
    have hbi := hb i (by omega) (by omega)
    obtain ⟨W', hl, hv, he⟩ := ih (i + 1) k (W.set i (rd W (i : Int) - wt (rd_T43 l (i : Int)) at_)) (by omega) (by simpa using hW)
      (fun j hj hj2 => by rw [rd_set _ _ _ _ (by omega), if_neg (by omega)]; exact hb j (by omega) hj2)
    refine ⟨W', hl, fun j hj => ?_, ?_⟩
    · rw [hv j hj, rd_set _ _ _ _ (by omega)]
      by_cases e : j = i
      · subst e; rw [if_pos (by omega), if_pos rfl, if_neg (by omega)]
      · rw [if_neg e]
        by_cases h1 : j < i
        · rw [if_pos h1, if_pos (by omega)]
        · rw [if_neg h1, if_neg (by omega)]
    · have hw1 : wrap64 (rd W (i : Int) - wt (rd_T43 l (i : Int)) at_) = rd W (i : Int) - wt (rd_T43 l (i : Int)) at_ := wrap_id (by omega) (by omega)
      have hw2 : wrap64 ((i : Int) + 1) = ((i + 1 : Nat) : Int) := wrap_id (by omega) (by omega)
      have hs := l3_step l m i at_ (k + d + 1) W out h8 (by omega) hW _ hw1 _ hw2
      have e1 : k + (d + 1) + 4 = k + d + 1 + 4 := by omega
      have e2 : k + d + 4 = k + d + 1 + 3 := by omega
      rw [e1]
      rw [e2] at he
      rw [← he]
      exact hs
def nF : List Bool → Nat
  | [] => 0
  | b :: bs => (if b = true then 0 else 1) + nF bs
theorem nF_set : ∀ (told : List Bool) (j : Nat), j < told.length → td told (j : Int) = false → nF (told.set j true) + 1 = nF told
  | [], j, h, _ => by simp at h
  | b :: bs, 0, h, ht => by
    have : b = false := ht
    subst this
    simp [nF]; omega
  | b :: bs, j + 1, h, ht => by
    have h2 : td bs (j : Int) = false := ht
    have := nF_set bs j (by simpa using h) h2
    simp only [sC_, nF]
    omega
theorem nF_repl (n : Nat) : nF (List.replicate n false) = n := by
  induction n with
  | zero => rfl
  | succ n ih => rw [List.replicate_succ, nF, ih]; simp; omega
theorem l2_run (l : List S43) (m : List S66) (hw : okW l) (h8 : l.length ≤ 8) : ∀ (f k : Nat) (told : List Bool) (W out : List Int) (B : Int), nF told ≤ f → Rel l told W B → 1 ≤ B → B + 3 * f ≤ 900 → out.length + f ≤ 100 → 30 * f + 30 ≤ k →
    impl_Net_order.l2 k W out l m = some (ordR l f told out)
  | f, k, told, W, out, B, hn, hR, hB0, hB, ho, hk => by
    obtain ⟨k, rfl⟩ : ∃ q, k = (q + l.length + 8) + 1 := ⟨k - l.length - 9, by omega⟩
    have hlw := hR.lw
    have hidx : slices_Index_int_int.f (k + l.length + 8) W 0 = some (match pk l told l.length 0 with | none => -1 | some j => (j : Int)) := by
      unfold slices_Index_int_int.f
      have := index_run l told W B hR h8 l.length 0 (k + 7) (by omega)
      rw [show k + 7 + l.length + 1 = k + l.length + 8 by omega] at this
      exact this
    rw [impl_Net_order.l2, hidx]
    simp only [Option.bind_some]
    cases hp : pk l told l.length 0 with
    | none =>
      rw [if_pos (by decide)]
      cases f with
      | zero => rfl
      | succ f => rw [ordR, hp]
    | some j =>
      dsimp only
      obtain ⟨_, h2, h3⟩ := pk_some l told _ _ _ hp
      have hj : j < l.length := by omega
      have hjt : j < told.length := by rw [hR.lt]; exact hj
      have hns := nF_set told j hjt h3
      obtain ⟨f, rfl⟩ : ∃ q, f = q + 1 := ⟨f - 1, by omega⟩
      obtain ⟨W', hl', hv', he'⟩ := l3_run l m h8 B ⟨by omega, by omega⟩ (out ++ [(j : Int)]) j l.length 0 (k + 4) (W.set j (-1)) (by omega) (by simpa using hlw)
        (fun i _ hi => by
          rw [rd_set _ _ _ _ (by omega)]
          have := hR.bd i hi
          by_cases e : i = j
          · rw [if_pos e]; omega
          · rw [if_neg e]; exact this)
      rw [if_neg (by omega), if_pos (by omega), if_pos (by omega), if_pos (by omega), Int.toNat_natCast]
      rw [show k + 4 + l.length + 4 = k + l.length + 8 by omega] at he'
      refine Eq.trans he' ?_
      rw [ordR, hp]
      refine l2_run l m hw h8 f (k + 4 + 3) (told.set j true) W' (out ++ [(j : Int)]) (B + 3) (by omega) ⟨by rw [List.length_set]; exact hR.lt, hl', ?_, ?_, ?_⟩ (by omega) (by omega) (by simp; omega) (by omega)
      · intro i hi ht
        rw [hv' i hi, if_neg (by omega), rd_set _ _ _ _ (by omega)]
        have r2 := wt_rng (rd_T43 l (i : Int)) j
        by_cases e : i = j
        · rw [if_pos e]; omega
        · rw [if_neg e]
          rw [td_set told j _ (by omega) hjt, show ((i : Int) == (j : Int)) = false by simpa using (by omega : ¬ (i : Int) = (j : Int)), Bool.or_false] at ht
          have := hR.hi i hi ht
          omega
      · intro i hi ht
        rw [hv' i hi, if_neg (by omega), rd_set _ _ _ _ (by omega)]
        rw [td_set told j _ (by omega) hjt] at ht
        by_cases e : i = j
        · subst e; simp at ht
        · rw [show ((i : Int) == (j : Int)) = false by simpa using (by omega : ¬ (i : Int) = (j : Int)), Bool.or_false] at ht
          rw [if_neg e, hR.lo i hi ht, U_set l.length told _ j (hw i hi) hjt h3]
      · intro i hi
        rw [hv' i hi, if_neg (by omega), rd_set _ _ _ _ (by omega)]
        have r2 := wt_rng (rd_T43 l (i : Int)) j
        have := hR.bd i hi
        by_cases e : i = j
        · rw [if_pos e]; omega
        · rw [if_neg e]; omega
theorem impl_orderS (l : List S43) (m : List S66) (hw : okW l) (h8 : l.length ≤ 8) (k : Nat) (hk : 900 ≤ k) : impl_Net_order.f k l m = some (orD l) := by
  unfold impl_Net_order.f orD
  rw [if_pos (by omega), if_pos (by omega), Int.toNat_natCast]
  have hz : ∀ j : Nat, rd (List.replicate l.length (0 : Int)) (j : Int) = 0 := by
    intro j
    unfold rd
    rw [Int.toNat_natCast, List.getD_eq_getElem?_getD, List.getElem?_replicate]
    split <;> rfl
  have hm : l.length * (l.length + 2) ≤ 80 := by
    have h1 : l.length * (l.length + 2) ≤ 8 * 10 := Nat.mul_le_mul h8 (by omega)
    omega
  obtain ⟨q, rfl⟩ : ∃ q, k = q + l.length * (l.length + 2) + 3 := ⟨k - l.length * (l.length + 2) - 3, by omega⟩
  obtain ⟨W', hl', hv', he'⟩ := l0_run l m hw h8 l.length 0 q (List.replicate l.length 0) (by omega) (by simp) (fun j hj => by omega) (fun j _ _ => hz j)
  refine Eq.trans he' ?_
  refine l2_run l m hw h8 l.length (q + 2) (List.replicate l.length false) W' [] 1 (by rw [nF_repl]; exact Nat.le_refl _) ⟨by simp, hl', ?_, ?_, ?_⟩ (by omega) (by omega) (by simp; omega) (by omega)
  · intro j hj ht
    rw [td_repl] at ht; cases ht
  · intro j hj ht
    rw [hv' j hj]; exact V_n l.length _ (hw j hj)
  · intro j hj
    rw [hv' j hj]
    have := V_rng (rd_T43 l (j : Int)) l.length
    omega
end Go.Proofs.YtphblfmjdiigkaaGreatDoor.Hu7
namespace Go.Proofs.YtphblfmjdiigkaaGreatDoor.Hu8
open Go.RowKit Go.Proofs.YtphblfmjdiigkaaGreatDoor.Hb Go.Proofs.YtphblfmjdiigkaaGreatDoor.Hu1 Go.Proofs.YtphblfmjdiigkaaGreatDoor.Hu2 Go.Proofs.YtphblfmjdiigkaaGreatDoor.Hu3 Go.Proofs.YtphblfmjdiigkaaGreatDoor.Hu4 Go.Proofs.YtphblfmjdiigkaaGreatDoor.Hu5 Go.Proofs.YtphblfmjdiigkaaGreatDoor.Hu6 Go.Proofs.YtphblfmjdiigkaaGreatDoor.Hu7 Go.Proofs.YtphblfmjdiigkaaGreatDoor.HFnNetSame Go.Proofs.YtphblfmjdiigkaaGreatDoorW.PrintWords Go.Proofs.YtphblfmjdiigkaaGreatDoorW.PrintLast Go.Proofs.YtphblfmjdiigkaaGreatDoorW.PrintMore
set_option linter.unusedVariables false
set_option linter.unusedSimpArgs false
theorem gateT (a : Int) : spec_l7Gate.f a = some (gB a) := by
  unfold spec_l7Gate.f gB
  by_cases h : a ≥ 11
  · rw [if_pos h, decide_eq_true (by omega : 11 ≤ a), Bool.true_and]
  · rw [if_neg h, decide_eq_false (by omega : ¬ 11 ≤ a), Bool.false_and]
theorem twoT (a : Int) : spec_l7Two.f a = some (twB a) := by
  unfold spec_l7Two.f twB
  rw [gateT]; simp only [Option.bind_some]
  cases gB a
  · by_cases h : a = 3
    · rw [if_neg (by simp), if_pos h]; simp [h]
    · rw [if_neg (by simp), if_neg h]; simp [h]
  · rfl
theorem l6NT (k : Nat) (a b : Int) : spec_l6N.f (k + 1) a b = some (sizedB a b) := by
  have hj : ∀ a' : Int, 1 ≤ a' → a' ≤ 3 → spec_l6N.j0 (k + 1) b a' true = some (sizedB a' b) := by
    intro a' h1 h2
    rw [spec_l6N.j0, if_pos rfl]
    unfold sizedB
    rw [decide_eq_true h1, decide_eq_true h2, decide_eq_false (by omega : ¬ 4 ≤ a')]
    by_cases h : b ≥ 0
    · rw [if_pos h, decide_eq_true (by omega : 0 ≤ b)]; simp
    · rw [if_neg h, decide_eq_false (by omega : ¬ 0 ≤ b)]; simp
  unfold spec_l6N.f
  by_cases h1 : a = 1
  · subst h1; rw [if_pos rfl]; exact hj 1 (by omega) (by omega)
  by_cases h2 : a = 2
  · subst h2; rw [if_neg h1, if_pos rfl]; exact hj 2 (by omega) (by omega)
  by_cases h3 : a = 3
  · subst h3; rw [if_neg h1, if_neg h2]; exact hj 3 (by omega) (by omega)
  rw [if_neg h1, if_neg h2, show (a == 3) = false by simpa using h3, spec_l6N.j0, if_neg (by simp)]
  unfold sizedB
  by_cases h4 : a = 4
  · subst h4
    rw [if_pos rfl]
    by_cases hb : b = 0
    · subst hb; rfl
    · rw [show (b == 0) = false by simpa using hb, decide_eq_false hb]; simp
  by_cases h5 : a = 5
  · subst h5
    rw [if_neg h4, if_pos rfl]
    by_cases hb : b = 0
    · subst hb; rfl
    · rw [show (b == 0) = false by simpa using hb, decide_eq_false hb]; simp
  rw [if_neg h4, if_neg h5]
  have e : (decide (1 ≤ a) && decide (a ≤ 3)) = false := by
    by_cases h : 1 ≤ a
    · rw [decide_eq_false (by omega : ¬ a ≤ 3), Bool.and_false]
    · rw [decide_eq_false h, Bool.false_and]
  have e2 : (decide (4 ≤ a) && decide (a ≤ 5)) = false := by
    by_cases h : 4 ≤ a
    · rw [decide_eq_false (by omega : ¬ a ≤ 5), Bool.and_false]
    · rw [decide_eq_false h, Bool.false_and]
  rw [e, e2]; simp
theorem aOkT (k i : Int) : spec_AddrOk.f k i = some (aOk k i) := aOk_some k i
theorem srcT (a t c d n : Int) (b : Bool) : spec_l7Src.f a t c d b n = some (sOk a t c d n) := by
  unfold spec_l7Src.f sOk inB
  by_cases h1 : a = 1
  · rw [if_pos h1, if_pos h1, aOkT]; simp only [Option.bind_some]
    cases aOk c d <;> simp
  rw [if_neg h1, if_neg h1]
  by_cases h2 : a = 2
  · rw [if_pos h2, if_pos (Or.inl h2 : a = 2 ∨ a = 3)]
    by_cases q1 : t ≥ 0
    · rw [if_pos q1, decide_eq_true (by omega : 0 ≤ t)]
      by_cases q2 : t < n
      · rw [if_pos q2, decide_eq_true q2]; simp
      · rw [if_neg q2, decide_eq_false q2]; simp
    · rw [if_neg q1, decide_eq_false (by omega : ¬ 0 ≤ t)]; simp
  rw [if_neg h2]
  by_cases h3 : a = 3
  · rw [if_pos h3, if_pos (Or.inr h3 : a = 2 ∨ a = 3)]
    by_cases q1 : t ≥ 0
    · rw [if_pos q1, decide_eq_true (by omega : 0 ≤ t)]
      by_cases q2 : t < n
      · rw [if_pos q2, decide_eq_true q2]; simp
      · rw [if_neg q2, decide_eq_false q2]; simp
    · rw [if_neg q1, decide_eq_false (by omega : ¬ 0 ≤ t)]; simp
  · rw [if_neg h3, if_neg (by omega)]
theorem sized_bl {a b : Int} (h : sizedB a b = true) : blB a = true := by
  unfold sizedB at h; unfold blB
  simp at h ⊢
  omega
abbrev WF (k : Nat) (x : S43) (n : Int) : Option Bool := spec_l7Wire.f k x.f0 x.f1 x.f2.f0 x.f2.f1 x.f2.f2.f0 x.f2.f2.f1 x.f2.f3 x.f3.f0 x.f3.f1 x.f3.f2.f0 x.f3.f2.f1 x.f3.f3 n
theorem wireT (k : Nat) (x : S43) (n : Int) : WF (k + 1) x n = some (wOk x n) := by
  have hj : ∀ q : Bool, spec_l7Wire.j0 (k + 1) n q x.f0 x.f1 x.f2.f0 x.f2.f1 x.f2.f2.f0 x.f2.f2.f1 x.f2.f3 x.f3.f0 x.f3.f1 x.f3.f2.f0 x.f3.f2.f1 x.f3.f3 = some (!q && (if twB x.f0 = true then sOkS x.f3 n else z46B x.f3)) := by
    intro q
    rw [spec_l7Wire.j0]
    cases q with
    | true => rfl
    | false =>
      rw [if_neg (by simp), twoT]
      simp only [Option.bind_some]
      cases twB x.f0 with
      | true =>
        rw [if_pos rfl, srcT]; rfl
      | false =>
        rw [if_neg (by simp)]
        unfold z46B
        cases x.f3.f3 <;> rfl
  show spec_l7Wire.f (k + 1) _ _ _ _ _ _ _ _ _ _ _ _ _ = _
  unfold spec_l7Wire.f
  have hlast : (!((insL x).any fun s => !(sOkS s n)) && !(!(twB x.f0) && !(z46B x.f3))) = (sOkS x.f2 n && (if twB x.f0 = true then sOkS x.f3 n else z46B x.f3)) := by
    unfold insL
    cases twB x.f0 with
    | true => simp
    | false => simp
  have hw : ∀ p : Bool, (p && (!(!(twB x.f0) && !(z46B x.f3)) && !((insL x).any fun s => !(sOkS s n)))) = (p && (sOkS x.f2 n && (if twB x.f0 = true then sOkS x.f3 n else z46B x.f3))) := by
    intro p; rw [← hlast]; cases p <;> simp [Bool.and_comm]
  have hwd : wOk x n = (!((gB x.f0 && x.f1 != 0) || (blB x.f0 && !(sizedB x.f0 x.f1)) || (!(gB x.f0) && !(blB x.f0))) && (sOkS x.f2 n && (if twB x.f0 = true then sOkS x.f3 n else z46B x.f3))) := by
    unfold wOk; exact hw _
  rw [hwd, gateT]
  simp only [Option.bind_some]
  cases hg : gB x.f0 with
  | true =>
    have hb : blB x.f0 = false := by
      unfold gB at hg; unfold blB
      simp only [Bool.and_eq_true, decide_eq_true_eq] at hg
      rw [decide_eq_false (by omega : ¬ x.f0 ≤ 5), Bool.and_false]
    rw [if_pos rfl, hb]
    by_cases hn : x.f1 = 0
    · rw [if_pos hn, if_pos rfl, srcT]
      simp only [Option.bind_some]
      rw [hj, hn]; simp [sOkS]
    · rw [if_neg hn, hj, show (x.f1 != 0) = true by simpa using hn]; simp
  | false =>
    rw [if_neg (by simp), if_neg (by simp), l6NT]
    simp only [Option.bind_some]
    cases hs : sizedB x.f0 x.f1 with
    | true =>
      rw [if_pos rfl, srcT, sized_bl hs]
      simp only [Option.bind_some]
      rw [hj]; simp [sOkS]
    | false =>
      rw [if_neg (by simp), hj]
      cases blB x.f0 <;> simp
def dA (l : List S43) (m : List S66) : Nat → Nat → Bool
  | 0, _ => true
  | d + 1, i => dOk l m i && dA l m d (i + 1)
theorem dA_iff (l : List S43) (m : List S66) : ∀ (d i : Nat), dA l m d i = true ↔ ∀ j, i ≤ j → j < i + d → dOk l m j = true
  | 0, i => ⟨fun _ j h1 h2 => by omega, fun _ => rfl⟩
  | d + 1, i => by
    rw [dA, Bool.and_eq_true, dA_iff l m d (i + 1)]
    constructor
    · rintro ⟨h1, h2⟩ j h3 h4
      by_cases e : j = i
      · subst e; exact h1
      · exact h2 j (by omega) (by omega)
    · intro h
      exact ⟨h i (by omega) (by omega), fun j h1 h2 => h j (by omega) (by omega)⟩
theorem l2T (l : List S43) (m : List S66) (e : S66) (i : Nat) (hi : i < m.length) (h4 : m.length ≤ 4) : ∀ (d j k : Nat), j + d = i →
    spec_NetOk.l2 (k + d + 1) (i : Int) (j : Int) l m e.f0.f0 e.f0.f1 e.f1 = if ((m.take i).drop j).any (fun x => toB x e) = true then some false else spec_NetOk.l1 k ((i + 1 : Nat) : Int) l m
  | 0, j, k, hj => by
    have hw : wrap64 ((i : Int) + 1) = ((i + 1 : Nat) : Int) := wrap_id (by omega) (by omega)
    rw [spec_NetOk.l2, if_neg (by omega), hw, List.drop_of_length_le (by rw [List.length_take]; omega), if_neg (by simp)]
  | d + 1, j, k, hj => by
    have hw : wrap64 ((j : Int) + 1) = ((j + 1 : Nat) : Int) := wrap_id (by omega) (by omega)
    have hjm : j < m.length := by omega
    have hjt : j < (m.take i).length := by rw [List.length_take]; omega
    rw [show k + (d + 1) + 1 = (k + d + 1) + 1 by omega, spec_NetOk.l2, if_pos (by omega), if_pos (by omega), if_pos (by omega), rd62 m j hjm, hw, List.drop_eq_getElem_cons hjt, List.any_cons, List.getElem_take]
    have hrec := l2T l m e i hi h4 d (j + 1) k (by omega)
    have hT : (m[j].f0.f0 == e.f0.f0 && m[j].f0.f1 == e.f0.f1) = toB m[j] e := rfl
    rw [hT]
    by_cases c : toB m[j] e = true
    · rw [if_pos c, c]; rfl
    · rw [if_neg c, show toB m[j] e = false by simpa using c, Bool.false_or, hrec]
theorem l1T (l : List S43) (m : List S66) (hw : okW l) (h8 : l.length ≤ 8) (h4 : m.length ≤ 4) : ∀ (d i k : Nat), i + d = m.length → 20 * d + 1000 ≤ k →
    spec_NetOk.l1 k (i : Int) l m = some (dA l m d i && (((orD l).length : Int) == (l.length : Int)))
  | 0, i, k, hi, hk => by
    obtain ⟨k, rfl⟩ : ∃ q, k = q + 1 := ⟨k - 1, by omega⟩
    rw [spec_NetOk.l1, if_neg (by omega), spec_orderS l hw h8 k (by omega)]
    rfl
  | d + 1, i, k, hi, hk => by
    have him : i < m.length := by omega
    obtain ⟨q, rfl⟩ : ∃ q, k = (q + i + 1) + 1 + 1 := ⟨k - i - 3, by omega⟩
    rw [spec_NetOk.l1, if_pos (by omega), if_pos (by omega), rd62 m i him, aOkT]
    simp only [Option.bind_some]
    have hd : dOk l m i = (ncl m[i] l && !((m.take i).any fun x => toB x m[i])) := by unfold dOk; rw [List.getElem?_eq_getElem him]
    have jt : spec_NetOk.j3 (q + i + 1 + 1) (i : Int) true l m m[i].f0.f0 m[i].f0.f1 m[i].f1 = some false := by rw [spec_NetOk.j3, if_pos rfl]
    have jf : spec_NetOk.j3 (q + i + 1 + 1) (i : Int) false l m m[i].f0.f0 m[i].f0.f1 m[i].f1 = if (m.take i).any (fun x => toB x m[i]) = true then some false else spec_NetOk.l1 q ((i + 1 : Nat) : Int) l m := by
      rw [spec_NetOk.j3, if_neg (by simp)]
      have := l2T l m m[i] i him h4 i 0 q (by omega)
      rw [List.drop_zero] at this
      exact this
    have hbad : ncl m[i] l = false → some (dA l m (d + 1) i && (((orD l).length : Int) == (l.length : Int))) = some false := by
      intro h; rw [dA, hd, h]; rfl
    cases ha : aOk m[i].f0.f0 m[i].f0.f1 with
    | false => rw [if_neg (by simp), jt, hbad (by unfold ncl pB; rw [ha]; rfl)]
    | true =>
      rw [if_pos rfl]
      by_cases c1 : m[i].f0.f0 = 1
      · rw [if_pos c1, jt, hbad (by unfold ncl pB; rw [ha, c1]; rfl)]
      rw [if_neg c1]
      have hp : pB m[i].f0.f0 m[i].f0.f1 = true := by unfold pB; rw [ha, show (m[i].f0.f0 != 1) = true by simpa using c1]; rfl
      by_cases c2 : m[i].f1 < 0
      · rw [if_pos c2, jt, hbad (by unfold ncl; rw [hp, decide_eq_false (by omega : ¬ 0 ≤ m[i].f1)]; rfl)]
      rw [if_neg c2]
      by_cases c3 : m[i].f1 ≥ (l.length : Int)
      · rw [decide_eq_true c3, jt, hbad (by unfold ncl; rw [hp, decide_eq_false (by omega : ¬ m[i].f1 < (l.length : Int)), Bool.and_false]; rfl)]
      rw [decide_eq_false c3, jf]
      have hn : ncl m[i] l = true := by unfold ncl; rw [hp, decide_eq_true (by omega : 0 ≤ m[i].f1), decide_eq_true (by omega : m[i].f1 < (l.length : Int))]; rfl
      rw [hn, Bool.true_and] at hd
      cases hany : (m.take i).any fun x => toB x m[i] with
      | true =>
        rw [if_pos rfl, dA, hd, hany]; rfl
      | false =>
        rw [if_neg (by simp), l1T l m hw h8 h4 d (i + 1) q (by omega) (by omega), dA, hd, hany]; rfl
def nOk (l : List S43) (m : List S66) : Bool := decide (l.length ≤ 8) && (decide (m.length ≤ 4) && (l.all (fun x => wOk x l.length) && (dA l m m.length 0 && (((orD l).length : Int) == (l.length : Int)))))
theorem okW_of (l : List S43) (h : l.all (fun x => wOk x l.length) = true) : okW l := by
  intro i hi
  rw [rd48 l i hi]
  exact inR_of _ _ (List.all_eq_true.1 h _ (List.getElem_mem hi))
theorem l0T (l : List S43) (m : List S66) (h8 : l.length ≤ 8) (h4 : m.length ≤ 4) : ∀ (d i k : Nat), i + d = l.length → 1200 + d ≤ k →
    spec_NetOk.l0 k (i : Int) l m = if (l.drop i).all (fun x => wOk x l.length) = true then spec_NetOk.l1 (k - d - 1) 0 l m else some false
  | 0, i, k, hi, hk => by
    obtain ⟨k, rfl⟩ : ∃ q, k = q + 1 := ⟨k - 1, by omega⟩
    rw [spec_NetOk.l0, if_neg (by omega), List.drop_of_length_le (by omega), if_pos (by rfl)]
    rfl
  | d + 1, i, k, hi, hk => by
    have hil : i < l.length := by omega
    have hw : wrap64 ((i : Int) + 1) = ((i + 1 : Nat) : Int) := wrap_id (by omega) (by omega)
    obtain ⟨k, rfl⟩ : ∃ q, k = q + 1 + 1 := ⟨k - 2, by omega⟩
    have hwt := wireT k (rd_T43 l (i : Int)) (l.length : Int)
    rw [spec_NetOk.l0, if_pos (by omega), if_pos (by omega), show spec_l7Wire.f (k + 1) (rd_T43 l (i : Int)).f0 (rd_T43 l (i : Int)).f1 (rd_T43 l (i : Int)).f2.f0 (rd_T43 l (i : Int)).f2.f1 (rd_T43 l (i : Int)).f2.f2.f0 (rd_T43 l (i : Int)).f2.f2.f1 (rd_T43 l (i : Int)).f2.f3 (rd_T43 l (i : Int)).f3.f0 (rd_T43 l (i : Int)).f3.f1 (rd_T43 l (i : Int)).f3.f2.f0 (rd_T43 l (i : Int)).f3.f2.f1 (rd_T43 l (i : Int)).f3.f3 (l.length : Int) = some (wOk (rd_T43 l (i : Int)) (l.length : Int)) from hwt]
    simp only [Option.bind_some]
    rw [rd48 l i hil, hw, List.drop_eq_getElem_cons hil, List.all_cons]
    cases hq : wOk l[i] (l.length : Int) with
    | false => rw [if_neg (by simp), if_neg (by simp)]
    | true =>
      rw [if_pos rfl, l0T l m h8 h4 d (i + 1) (k + 1) (by omega) (by omega), Bool.true_and]
      have e : k + 1 - d - 1 = k + 1 + 1 - (d + 1) - 1 := by omega
      rw [e]
theorem netOkT (l : List S43) (m : List S66) (k : Nat) (hk : 2000 ≤ k) : spec_NetOk.f k l m = some (nOk l m) := by
  have jt : ∀ q, spec_NetOk.j0 (q + 1) true l m = some false := fun q => by rw [spec_NetOk.j0, if_pos rfl]
  obtain ⟨k, rfl⟩ : ∃ q, k = q + 1 := ⟨k - 1, by omega⟩
  unfold spec_NetOk.f nOk
  by_cases h8 : l.length ≤ 8
  · rw [if_neg (by omega), decide_eq_true h8, Bool.true_and]
    by_cases h4 : m.length ≤ 4
    · rw [decide_eq_true h4, decide_eq_false (by omega : ¬ (m.length : Int) > 4), Bool.true_and, spec_NetOk.j0, if_neg (by simp)]
      have h := l0T l m h8 h4 l.length 0 k (by omega) (by omega)
      rw [show ((0 : Nat) : Int) = 0 from rfl, List.drop_zero] at h
      rw [h]
      cases ha : l.all (fun x => wOk x l.length) with
      | true =>
        rw [if_pos rfl, Bool.true_and]
        exact l1T l m (okW_of l ha) h8 h4 m.length 0 _ (by omega) (by omega)
      | false => rw [if_neg (by simp), Bool.false_and]
    · rw [decide_eq_true (by omega : (m.length : Int) > 4), jt, decide_eq_false h4]; rfl
  · rw [if_pos (by omega), jt, decide_eq_false h8]; rfl
theorem netOkC (l : List S43) (m : List S66) (A B : Option Addr) (c d : Nat) (w : World) (hc : l.length ≤ c) (hd : m.length ≤ d) (hC : Kd.C k43 w A l.length l) (hD : Kd.C k66 w B m.length m) :
    Calls Tryz.prog 23 #[.agg #[.slice A l.length c, .slice B m.length d]] w fun e w' => e = .returned (.bool (nOk l m)) ∧ Below w.heap.size w w' := by
  refine (netOk_any l m A B c d 900 (orD l) w hc hd hC hD (fun h8 ha => impl_orderS l m (okW_of l ha) h8 900 (Nat.le_refl _))).mono ?_
  rintro e w' ⟨r, rfl, hr, hb⟩
  have e : r = nOk l m := by
    rw [Bool.eq_iff_iff, hr.out]
    unfold nOk
    simp only [Bool.and_eq_true, decide_eq_true_eq, dA_iff, beq_iff_eq]
    constructor
    · rintro ⟨h1, h2, h3, h4, h5⟩
      exact ⟨h1, h2, h3, fun j _ hj => h4 j (by omega), by omega⟩
    · rintro ⟨h1, h2, h3, h4, h5⟩
      exact ⟨h1, h2, h3, fun j hj => h4 j (by omega) (by omega), by omega⟩
  exact ⟨by rw [e], hb⟩
end Go.Proofs.YtphblfmjdiigkaaGreatDoor.Hu8
namespace Go.Proofs.YtphblfmjdiigkaaGreatDoor.Hu9
open Go.RowKit Go.Proofs.YtphblfmjdiigkaaGreatDoor.Hu8 Go.Proofs.YtphblfmjdiigkaaGreatDoor.Hb Go.Proofs.YtphblfmjdiigkaaGreatDoor.Hu1 Go.Proofs.YtphblfmjdiigkaaGreatDoor.Hu2 Go.Proofs.YtphblfmjdiigkaaGreatDoor.Hu3 Go.Proofs.YtphblfmjdiigkaaGreatDoor.Hu4 Go.Proofs.YtphblfmjdiigkaaGreatDoor.Hu5 Go.Proofs.YtphblfmjdiigkaaGreatDoor.Hu6 Go.Proofs.YtphblfmjdiigkaaGreatDoor.Hu7 Go.Proofs.YtphblfmjdiigkaaGreatDoor.HFnNetSame Go.Proofs.YtphblfmjdiigkaaGreatDoorW.PrintWords Go.Proofs.YtphblfmjdiigkaaGreatDoorW.PrintLast Go.Proofs.YtphblfmjdiigkaaGreatDoorW.PrintMore
set_option linter.unusedVariables false
set_option linter.unusedSimpArgs false
end Go.Proofs.YtphblfmjdiigkaaGreatDoor.Hu9
namespace Go.Proofs.YtphblfmjdiigkaaGreatDoor.Hv1
open Go.RowKit Go.Proofs.YtphblfmjdiigkaaGreatDoor.Hu8 Go.Proofs.YtphblfmjdiigkaaGreatDoor.HFnNetSame Go.Proofs.YtphblfmjdiigkaaGreatDoorW.PrintWords Go.Proofs.YtphblfmjdiigkaaGreatDoorW.PrintLast Go.Proofs.YtphblfmjdiigkaaGreatDoorW.PrintMore
set_option linter.unusedVariables false
set_option linter.unusedSimpArgs false
theorem wrap_id {x : Int} (h1 : -9223372036854775808 ≤ x) (h2 : x ≤ 9223372036854775807) : wrap64 x = x := by
  unfold wrap64; omega
theorem xor_i64_nat (a b : Nat) (ha : a < 9223372036854775808) (hb : b < 9223372036854775808) :
    Go.bits .xor .i64 (a : Int) (b : Int) = ((a ^^^ b : Nat) : Int) := by
  have hx : a ^^^ b < 2 ^ 63 := Nat.xor_lt_two_pow (by omega) (by omega)
  have h1 : (BitVec.ofInt 64 (a : Int)).toNat = a := by
    rw [BitVec.ofInt_natCast, BitVec.toNat_ofNat]; exact Nat.mod_eq_of_lt (by omega)
  have h2 : (BitVec.ofInt 64 (b : Int)).toNat = b := by
    rw [BitVec.ofInt_natCast, BitVec.toNat_ofNat]; exact Nat.mod_eq_of_lt (by omega)
  show IntKind.i64.wrap ((BitVec.ofInt 64 (a : Int) ^^^ BitVec.ofInt 64 (b : Int)).toNat : Int) = _
  rw [BitVec.toNat_xor, h1, h2, IntKind.wrap_i64]
  omega
theorem xor_i64_nonneg (x y : Int) (hx : 0 ≤ x) (hx' : x < 9223372036854775808) (hy : 0 ≤ y) (hy' : y < 9223372036854775808) :
    0 ≤ Go.bits .xor .i64 x y := by
  obtain ⟨a, rfl⟩ := Int.eq_ofNat_of_zero_le hx
  obtain ⟨b, rfl⟩ := Int.eq_ofNat_of_zero_le hy
  rw [xor_i64_nat a b (by omega) (by omega)]
  exact Int.natCast_nonneg _
def Byt (l : List Int) : Prop := ∀ x ∈ l, 0 ≤ x ∧ x ≤ 255
theorem rd_byt {l : List Int} (h : Byt l) (i : Int) : 0 ≤ rd l i ∧ rd l i ≤ 255 := by
  unfold rd
  by_cases hi : i.toNat < l.length
  · rw [List.getD_eq_getElem?_getD, List.getElem?_eq_getElem hi]; exact h _ (List.getElem_mem hi)
  · rw [List.getD_eq_getElem?_getD, List.getElem?_eq_none (by omega)]; simp
theorem tmod_bd {a b : Int} (ha : 0 ≤ a) (hb : 0 < b) : 0 ≤ Int.tmod a b ∧ Int.tmod a b < b := by
  rw [Int.tmod_eq_emod_of_nonneg ha]
  exact ⟨Int.emod_nonneg _ (by omega), Int.emod_lt_of_pos _ hb⟩
theorem tdiv_bd {a b : Int} (ha : 0 ≤ a) (hb : 0 < b) : 0 ≤ Int.tdiv a b ∧ Int.tdiv a b ≤ a := by
  rw [Int.tdiv_eq_ediv_of_nonneg ha]
  exact ⟨Int.ediv_nonneg ha (by omega), Int.ediv_le_self _ ha⟩
theorem pick_some {l : List Int} (h : Byt l) (k : Nat) (p n : Int) (hp : 0 ≤ p) (hp' : p ≤ 1000000000000) :
    ∃ r, spec_l12Rd_pick.f (k + 1) l p n = some (r, p + 1) ∧ 0 ≤ r ∧ (r < n ∨ (n < 1 ∧ r = 0)) := by
  have hw : wrap64 (p + 1) = p + 1 := wrap_id (by omega) (by omega)
  have hw2 : wrap64 (p + 1 - 1) = p := by rw [wrap_id (by omega) (by omega)]; omega
  unfold spec_l12Rd_pick.f
  by_cases hn : n < 1
  · refine ⟨0, ?_, by omega, .inr ⟨hn, rfl⟩⟩
    rw [if_pos hn]; simp only [spec_l12Rd_pick.j0, if_true]; rw [hw]
  · rw [if_neg hn]
    by_cases hl : (l.length : Int) = 0
    · refine ⟨0, ?_, by omega, .inl (by omega)⟩
      have e : ((l.length : Int) == 0) = true := by simpa using hl
      rw [e]; simp only [spec_l12Rd_pick.j0, if_true]; rw [hw]
    · have e : ((l.length : Int) == 0) = false := by simpa using hl
      have hn0 : ¬ n = 0 := by omega
      rw [e]; simp only [spec_l12Rd_pick.j0]
      rw [if_neg (by simp), hw, hw2]
      by_cases hlt : p < (l.length : Int)
      · rw [if_pos hlt, if_pos hp, if_neg hn0]
        have hb := rd_byt h p
        rw [wrap_id (x := rd l p) (by omega) (by omega)]
        have ht := tmod_bd (a := rd l p) (b := n) hb.1 (by omega)
        exact ⟨_, rfl, ht.1, .inl ht.2⟩
      · have hL : 0 < (l.length : Int) := by omega
        have ht1 := tmod_bd (a := p) (b := (l.length : Int)) hp hL
        have e7 : wrap64 (p * 7) = p * 7 := wrap_id (by omega) (by omega)
        have e73 : wrap64 (p * 7 + 3) = p * 7 + 3 := wrap_id (by omega) (by omega)
        have ht2 := tmod_bd (a := p * 7 + 3) (b := (l.length : Int)) (by omega) hL
        rw [if_neg hlt, if_neg hl, if_pos ht1.1, if_pos ht1.2, e7, e73, if_pos ht2.1, if_pos ht2.2, if_neg hn0]
        have hb1 := rd_byt h (Int.tmod p (l.length : Int))
        have hb2 := rd_byt h (Int.tmod (p * 7 + 3) (l.length : Int))
        have hd := tdiv_bd (a := p) (b := (l.length : Int)) hp hL
        generalize rd l (Int.tmod p (l.length : Int)) = A at hb1 ⊢
        generalize rd l (Int.tmod (p * 7 + 3) (l.length : Int)) = B at hb2 ⊢
        generalize Int.tdiv p (l.length : Int) = D at hd ⊢
        rw [wrap_id (x := A) (by omega) (by omega), wrap_id (x := B) (by omega) (by omega), wrap_id (x := D) (by omega) (by omega), wrap_id (x := A * 131) (by omega) (by omega), wrap_id (x := B * 1117) (by omega) (by omega), wrap_id (x := p * 29) (by omega) (by omega), wrap_id (x := D * 53) (by omega) (by omega), wrap_id (x := A * 131 + B * 1117) (by omega) (by omega), wrap_id (x := A * 131 + B * 1117 + p * 29) (by omega) (by omega), wrap_id (x := A * 131 + B * 1117 + p * 29 + D * 53) (by omega) (by omega)]
        have hx0 : 0 ≤ A * 131 + B * 1117 + p * 29 + D * 53 := by omega
        have hx1 : A * 131 + B * 1117 + p * 29 + D * 53 < 9223372036854775807 := by omega
        generalize A * 131 + B * 1117 + p * 29 + D * 53 = X at hx0 hx1 ⊢
        have hd2 := tdiv_bd (a := X) (b := 64) hx0 (by omega)
        rw [wrap_id (x := Int.tdiv X 64) (by omega) (by omega)]
        have hnn := xor_i64_nonneg X (Int.tdiv X 64) hx0 (by omega) hd2.1 (by omega)
        have ht := tmod_bd (a := Go.bits .xor .i64 X (Int.tdiv X 64)) (b := n) hnn (by omega)
        exact ⟨_, rfl, ht.1, .inl ht.2⟩
theorem rd_mem {l : List Int} {i : Int} (h0 : 0 ≤ i) (h1 : i < (l.length : Int)) : rd l i ∈ l := by
  unfold rd
  rw [List.getD_eq_getElem?_getD, List.getElem?_eq_getElem (by omega)]; exact List.getElem_mem _
theorem num_some {l : List Int} (h : Byt l) (k : Nat) (p : Int) (xs : List Int) (hx : 0 < xs.length) (hp : 0 ≤ p) (hp' : p ≤ 1000000000000) :
    ∃ r, spec_l12Rd_num.f (k + 1) l p xs = some (r, p + 1) ∧ r ∈ xs := by
  obtain ⟨i, hi, h0, h1⟩ := pick_some h k p (xs.length : Int) hp hp'
  have h1' : i < (xs.length : Int) := by omega
  refine ⟨rd xs i, ?_, rd_mem h0 h1'⟩
  unfold spec_l12Rd_num.f
  rw [hi]; simp only [Option.bind_some]
  rw [if_pos h0, if_pos h1']
theorem byt_of {l : List Int} (h : ∀ x ∈ l, (Lit.int .u8 x).wf = true) : Byt l := by
  intro x hx
  have := h x hx
  simp [Lit.wf, IntKind.min, IntKind.max, IntKind.bits, IntKind.signed] at this
  omega
theorem open_some {l : List Int} (h : Byt l) : ∃ l', spec_l12Open.f l = some (l', 0) ∧ Byt l' := by
  unfold spec_l12Open.f
  by_cases hl : (l.length : Int) > 2000
  · rw [if_pos hl, if_pos (by omega)]
    exact ⟨_, rfl, fun x hx => h x (List.mem_of_mem_take hx)⟩
  · rw [if_neg hl]; exact ⟨l, rfl, h⟩
theorem kind_some {l : List Int} (h : Byt l) (k : Nat) (p : Int) (hp : 0 ≤ p) (hp' : p ≤ 100000000) :
    ∃ a n q, spec_l6Kind.f (k + 1) l p = some (a, n, q) ∧ p ≤ q ∧ q ≤ p + 2 ∧ 1 ≤ a ∧ a ≤ 5 ∧ 0 ≤ n ∧ n ≤ 1000 ∧ (3 < a → n = 0) := by
  obtain ⟨a, ha, a0, a1⟩ := pick_some h k p 5 hp (by omega)
  unfold spec_l6Kind.f
  rw [ha]; simp only [Option.bind_some]
  rw [wrap_id (x := 1 + a) (by omega) (by omega)]
  by_cases h3 : 1 + a > 3
  · rw [if_pos h3]; exact ⟨_, _, _, rfl, by omega, by omega, by omega, by omega, by omega, by omega, fun _ => rfl⟩
  · rw [if_neg h3]
    obtain ⟨n, hn, hm⟩ := num_some h k (p + 1) [0, 1, 2, 3, 5, 1000] (by simp) (by omega) (by omega)
    rw [hn]
    refine ⟨_, _, _, rfl, by omega, by omega, by omega, by omega, ?_, ?_, fun h => by omega⟩
    · simp only [List.mem_cons, List.not_mem_nil, or_false] at hm; omega
    · simp only [List.mem_cons, List.not_mem_nil, or_false] at hm; omega
theorem l2Addr_some {l : List Int} (h : Byt l) (k : Nat) (p : Int) (hp : 0 ≤ p) (hp' : p ≤ 100000000) : ∃ a i, spec_l2Addr.f (k + 1) l p = some (a, i, p + 2) := by
  unfold spec_l2Addr.f
  obtain ⟨a, ha, _⟩ := pick_some h k p 3 hp (by omega)
  obtain ⟨b, hb, _⟩ := pick_some h k (p + 1) 3 (by omega) (by omega)
  rw [ha]; simp only [Option.bind_some]
  rw [hb]; simp only [Option.bind_some]
  exact ⟨_, _, by rw [show p + 1 + 1 = p + 2 by omega]⟩
theorem src_j0 {l : List Int} (h : Byt l) (k : Nat) (n : Int) (b : Bool) (p : Int) (hp : 0 ≤ p) (hp' : p ≤ 100000000) (e : Bool) :
    ∃ r1 r2 r3 r4 r5 q, spec_l7SrcDraw.j0 (k + 2) n b l p 0 0 0 0 e = some (r1, r2, r3, r4, r5, q) ∧ p ≤ q ∧ q ≤ p + 2 := by
  rw [show k + 2 = (k + 1) + 1 from rfl]
  simp only [spec_l7SrcDraw.j0]
  obtain ⟨a, i, ha⟩ := l2Addr_some h k p hp hp'
  obtain ⟨c, hc, _⟩ := pick_some h k p n hp (by omega)
  rw [ha, hc]; simp only [Option.bind_some]
  split
  · split
    · exact ⟨_, _, _, _, _, _, rfl, by omega, by omega⟩
    · exact ⟨_, _, _, _, _, _, rfl, by omega, by omega⟩
  · exact ⟨_, _, _, _, _, _, rfl, by omega, by omega⟩
theorem src_some {l : List Int} (h : Byt l) (k : Nat) (p a b : Int) (hp : 0 ≤ p) (hp' : p ≤ 10000000) :
    ∃ r1 r2 r3 r4 r5 q, spec_l7SrcDraw.f (k + 2) l p a b = some (r1, r2, r3, r4, r5, q) ∧ p ≤ q ∧ q ≤ p + 4 := by
  unfold spec_l7SrcDraw.f
  obtain ⟨x, hx, _⟩ := pick_some h (k + 1) p 4 hp (by omega)
  obtain ⟨y, hy, _⟩ := pick_some h (k + 1) (p + 1) 5 (by omega) (by omega)
  obtain ⟨z, hz, _⟩ := pick_some h (k + 1) (p + 1 + 1) a (by omega) (by omega)
  rw [hx]; simp only [Option.bind_some]
  rw [hy]; simp only [Option.bind_some]
  rw [hz]; simp only [Option.bind_some]
  split
  · exact ⟨_, _, _, _, _, _, rfl, by omega, by omega⟩
  · split
    · obtain ⟨r1, r2, r3, r4, r5, q, e, h1, h2⟩ := src_j0 h k b (y == 1) (p + 1 + 1) (by omega) (by omega) (x == 0)
      exact ⟨r1, r2, r3, r4, r5, q, e, by omega, by omega⟩
    · obtain ⟨r1, r2, r3, r4, r5, q, e, h1, h2⟩ := src_j0 h k b (y == 2) (p + 1 + 1) (by omega) (by omega) (x == 0)
      exact ⟨r1, r2, r3, r4, r5, q, e, by omega, by omega⟩
theorem l1_some {l : List Int} (h : Byt l) (x4 : Int) (xs : List S43) : ∀ (d kf : Nat) (p : Int) (ys : List S66), 2 * d + 3 ≤ kf → 0 ≤ p → p + 10 * d ≤ 1000000 → ys.length + d ≤ 100 →
    ∃ ys' q, spec_l7Net.l1 kf x4 (d : Int) l p xs ys = some (xs, ys', q) ∧ ys'.length ≤ ys.length + d ∧ 0 ≤ q ∧ q ≤ p + 10 * d
  | 0, kf, p, ys, hk, hp, hp', hy => by
    obtain ⟨k, rfl⟩ : ∃ q, kf = q + 1 + 1 := ⟨kf - 2, by omega⟩
    simp only [spec_l7Net.l1]
    rw [if_neg (by omega)]
    simp only [spec_l7Net.j3]
    rw [if_neg (by simp)]
    exact ⟨ys, p, rfl, by omega, hp, by omega⟩
  | d + 1, kf, p, ys, hk, hp, hp', hy => by
    obtain ⟨k, rfl⟩ : ∃ q, kf = q + 1 + 1 + 1 := ⟨kf - 3, by omega⟩
    simp only [spec_l7Net.l1]
    rw [if_pos (by omega)]
    simp only [spec_l7Net.j3]
    by_cases hx : x4 > 0
    · rw [dT_ hx, if_pos rfl]
      obtain ⟨a, ha, _⟩ := pick_some h k p 2 hp (by omega)
      obtain ⟨b, hb, _⟩ := pick_some h k (p + 1) x4 (by omega) (by omega)
      rw [ha]; simp only [Option.bind_some]
      rw [hb]; simp only [Option.bind_some]
      rw [if_pos (by omega), show wrap64 (((d + 1 : Nat) : Int) - 1) = (d : Int) by rw [wrap_id (by omega) (by omega)]; omega]
      obtain ⟨ys', q, e, h1, h2, h3⟩ := l1_some h x4 xs d (k + 1) (p + 1 + 1) (ys ++ [⟨⟨wrap64 (2 + a), ((d + 1 : Nat) : Int)⟩, b⟩]) (by omega) (by omega) (by omega) (by simp; omega)
      refine ⟨ys', q, e, ?_, h2, by omega⟩
      simp at h1; omega
    · rw [dF_ hx, if_neg (by simp)]
      exact ⟨ys, p, rfl, by omega, hp, by omega⟩
theorem j1_some {l : List Int} (h : Byt l) (kf : Nat) (x4 i p : Int) (xs : List S43) (a b : Int) (d : Nat) (hk : 3 ≤ kf) (hp : 0 ≤ p) (hp' : p ≤ 1000000) (hxl : xs.length ≤ 100)
    (IH : ∀ (q : Int) (zs : List S43), p ≤ q → q ≤ p + 8 → zs.length = xs.length + 1 → ∃ xs' ys' r, spec_l7Net.l0 kf x4 (wrap64 (i + 1)) l q zs = some (xs', ys', r) ∧ xs'.length ≤ xs.length + 1 + d ∧ ys'.length ≤ 3 ∧ 0 ≤ r ∧ r ≤ p + 8 + 20 * d + 31) :
    ∃ xs' ys' r, spec_l7Net.j1 (kf + 1) x4 i l p xs a b 0 0 0 0 false 0 0 0 0 false = some (xs', ys', r) ∧ xs'.length ≤ xs.length + 1 + d ∧ ys'.length ≤ 3 ∧ 0 ≤ r ∧ r ≤ p + 8 + 20 * d + 31 := by
  obtain ⟨k, rfl⟩ : ∃ q, kf = q + 2 := ⟨kf - 2, by omega⟩
  simp only [spec_l7Net.j1]
  obtain ⟨s1, s2, s3, s4, s5, q1, e1, h1, h2⟩ := src_some h k p x4 i hp (by omega)
  obtain ⟨z1, z2, z3, z4, z5, q2, e2, h3, h4⟩ := src_some h k q1 x4 i (by omega) (by omega)
  rw [e1]; simp only [Option.bind_some]
  rw [twoT]; simp only [Option.bind_some]
  rw [e2]; simp only [Option.bind_some]
  split
  · rw [if_pos (by omega)]
    exact IH q2 _ (by omega) (by omega) (by simp)
  · rw [if_pos (by omega)]
    exact IH q1 _ (by omega) (by omega) (by simp)
theorem l0_some {l : List Int} (h : Byt l) (x4 : Int) (h10 : x4 ≤ 10) : ∀ (d kf : Nat) (i p : Int) (xs : List S43), x4 = i + d → 0 ≤ i → 3 * d + 20 ≤ kf → 0 ≤ p → p + 20 * d + 100 ≤ 1000000 → xs.length + d ≤ 100 →
    ∃ xs' ys' q, spec_l7Net.l0 kf x4 i l p xs = some (xs', ys', q) ∧ xs'.length ≤ xs.length + d ∧ ys'.length ≤ 3 ∧ 0 ≤ q ∧ q ≤ p + 20 * d + 31
  | 0, kf, i, p, xs, hx, hi, hk, hp, hp', hl => by
    obtain ⟨k, rfl⟩ : ∃ q, kf = q + 1 + 1 := ⟨kf - 2, by omega⟩
    simp only [spec_l7Net.l0]
    rw [if_neg (by omega)]
    obtain ⟨a, ha, a0, a1⟩ := pick_some h k p 4 hp (by omega)
    rw [ha]; simp only [Option.bind_some]
    obtain ⟨n, rfl⟩ := Int.eq_ofNat_of_zero_le a0
    obtain ⟨ys', q, e, h1, h2, h3⟩ := l1_some h x4 xs n (k + 1) (p + 1) [] (by omega) (by omega) (by omega) (by simp; omega)
    refine ⟨xs, ys', q, e, by omega, ?_, h2, by omega⟩
    simp at h1; omega
  | d + 1, kf, i, p, xs, hx, hi, hk, hp, hp', hl => by
    obtain ⟨k, rfl⟩ : ∃ q, kf = q + 1 + 1 + 1 := ⟨kf - 3, by omega⟩
    simp only [spec_l7Net.l0]
    rw [if_pos (by omega)]
    obtain ⟨a, ha, a0, a1⟩ := pick_some h (k + 1) p 3 hp (by omega)
    obtain ⟨b, hb, b0, b1⟩ := pick_some h (k + 1) (p + 1) 2 (by omega) (by omega)
    obtain ⟨c, n, q, hc, c0, c1, _⟩ := kind_some h (k + 1) (p + 1 + 1) (by omega) (by omega)
    rw [ha]; simp only [Option.bind_some]
    rw [hb]; simp only [Option.bind_some]
    rw [hc]; simp only [Option.bind_some]
    have hwi : wrap64 (i + 1) = i + 1 := wrap_id (by omega) (by omega)
    split
    · obtain ⟨xs', ys', r, e, h1, h2, h3, h4⟩ := j1_some h (k + 1) x4 i q xs c n d (by omega) (by omega) (by omega) (by omega) (fun q' zs g1 g2 g3 => by
        rw [hwi]
        obtain ⟨xs', ys', r, e, h1, h2, h3, h4⟩ := l0_some h x4 h10 d (k + 1) (i + 1) q' zs (by omega) (by omega) (by omega) (by omega) (by omega) (by omega)
        exact ⟨xs', ys', r, e, by omega, h2, h3, by omega⟩)
      exact ⟨xs', ys', r, e, by omega, h2, h3, by omega⟩
    · obtain ⟨xs', ys', r, e, h1, h2, h3, h4⟩ := j1_some h (k + 1) x4 i (p + 1 + 1) xs (wrap64 (11 + a)) 0 d (by omega) (by omega) (by omega) (by omega) (fun q' zs g1 g2 g3 => by
        rw [hwi]
        obtain ⟨xs', ys', r, e, h1, h2, h3, h4⟩ := l0_some h x4 h10 d (k + 1) (i + 1) q' zs (by omega) (by omega) (by omega) (by omega) (by omega) (by omega)
        exact ⟨xs', ys', r, e, by omega, h2, h3, by omega⟩)
      exact ⟨xs', ys', r, e, by omega, h2, h3, by omega⟩
theorem net_some {l : List Int} (h : Byt l) (k : Nat) (hk : 100 ≤ k) : ∃ xs ys q, spec_l7Net.f k l 0 = some (xs, ys, q) ∧ xs.length ≤ 10 ∧ ys.length ≤ 3 ∧ 0 ≤ q ∧ q ≤ 1000 := by
  unfold spec_l7Net.f
  obtain ⟨k, rfl⟩ : ∃ q, k = q + 1 := ⟨k - 1, by omega⟩
  obtain ⟨a, ha, a0, a1⟩ := pick_some h k 0 6 (by omega) (by omega)
  rw [ha]; simp only [Option.bind_some]
  obtain ⟨n, rfl⟩ := Int.eq_ofNat_of_zero_le a0
  obtain ⟨xs, ys, q, e, h1, h2, h3, h4⟩ := l0_some h (n : Int) (by omega) n (k + 1) 0 (0 + 1) [] (by omega) (by omega) (by omega) (by omega) (by omega) (by simp; omega)
  refine ⟨xs, ys, q, e, ?_, h2, h3, by omega⟩
  simp at h1; omega
theorem bent_j0 {l : List Int} (h : Byt l) (k : Nat) (p : Int) (xs : List S43) (ys : List S66) (hp : 0 ≤ p) (hp' : p ≤ 10000) (hx : xs.length ≤ 10) (hy : ys.length ≤ 3) : ∃ xs' ys' q, spec_l7Bent.j0 (k + 2) l p xs ys = some (xs', ys', q) := by
  rw [show k + 2 = (k + 1) + 1 from rfl]
  simp only [spec_l7Bent.j0]
  by_cases h0 : (xs.length : Int) = 0
  · rw [if_pos h0]; exact ⟨_, _, _, rfl⟩
  rw [if_neg h0]
  obtain ⟨a, ha, a0, a1⟩ := pick_some h k p (xs.length : Int) hp (by omega)
  obtain ⟨b, hb, _⟩ := pick_some h k (p + 1) 40 (by omega) (by omega)
  rw [ha]; simp only [Option.bind_some]
  rw [hb]; simp only [Option.bind_some]
  have ax : a < (xs.length : Int) := by omega
  rw [if_pos a0, if_pos ax]
  split
  · exact ⟨_, _, _, rfl⟩
  split
  · obtain ⟨c, hc, _⟩ := num_some h k (p + 1 + 1) [0, 6, 14, 4] (by simp) (by omega) (by omega)
    rw [hc]; simp only [Option.bind_some]
    exact ⟨_, _, _, rfl⟩
  split
  · obtain ⟨c, hc, _⟩ := num_some h k (p + 1 + 1) [(-1), 1, 1001] (by simp) (by omega) (by omega)
    rw [hc]; simp only [Option.bind_some]
    exact ⟨_, _, _, rfl⟩
  split
  · obtain ⟨c, hc, _⟩ := pick_some h k (p + 1 + 1) 5 (by omega) (by omega)
    obtain ⟨e, he, _⟩ := pick_some h k (p + 1 + 1 + 1) 9 (by omega) (by omega)
    rw [hc]; simp only [Option.bind_some]
    rw [he]; simp only [Option.bind_some]
    rw [if_pos (by omega)]
    exact ⟨_, _, _, rfl⟩
  · exact ⟨_, _, _, rfl⟩
theorem bent_some {l : List Int} (h : Byt l) : ∃ xs ys q, spec_l7Bent.f 1000 l 0 = some (xs, ys, q) := by
  unfold spec_l7Bent.f
  obtain ⟨xs, ys, q, e, h1, h2, h3, h4⟩ := net_some h 1000 (by omega)
  rw [e]; simp only [Option.bind_some]
  obtain ⟨a, ha, a0, a1⟩ := pick_some h 999 q 3 h3 (by omega)
  rw [ha]; simp only [Option.bind_some]
  split
  · have et : spec_l7Turned.f 1000 xs ys = some (xs.reverse.map (turnW ((xs.length : Int) - 1)), ys.map (turnD ((xs.length : Int) - 1))) := by
      unfold spec_l7Turned.f; rw [if_pos ⟨by omega, by omega⟩]
    rw [et]; simp only [Option.bind_some]
    exact bent_j0 h 998 (q + 1) _ _ (by omega) (by omega) (by simpa using h1) (by simpa using h2)
  · exact bent_j0 h 998 (q + 1) _ _ (by omega) (by omega) h1 h2
theorem draw_some {l : List Int} (h : Byt l) : ∃ xs ys, spec_DrawNetText.f 1000 l = some (xs, ys) := by
  unfold spec_DrawNetText.f
  obtain ⟨l', ho, h'⟩ := open_some h
  rw [ho]; simp only [Option.bind_some]
  obtain ⟨xs, ys, q, e⟩ := bent_some h'
  rw [e]; simp only [Option.bind_some]
  exact ⟨_, _, rfl⟩
end Go.Proofs.YtphblfmjdiigkaaGreatDoor.Hv1
