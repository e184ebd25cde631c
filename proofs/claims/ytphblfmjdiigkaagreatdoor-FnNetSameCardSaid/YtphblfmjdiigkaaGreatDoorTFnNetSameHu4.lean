/- impl.Wire.ok: what it answers, for every argument. No condition. -/
import Derived.Test.YtphblfmjdiigkaaGreatDoorTFnNetSameHu3
namespace Go.Proofs.YtphblfmjdiigkaaGreatDoor.Hu4
open Go.RowKit Go.Proofs.YtphblfmjdiigkaaGreatDoor.Hu3 Go.Proofs.YtphblfmjdiigkaaGreatDoor.Hu2 Go.Proofs.YtphblfmjdiigkaaGreatDoor.Hu1 Go.Proofs.YtphblfmjdiigkaaGreatDoor.Hb Go.Proofs.YtphblfmjdiigkaaGreatDoor.HFnNetSame Go.Proofs.YtphblfmjdiigkaaGreatDoorW.PrintWords Go.Proofs.YtphblfmjdiigkaaGreatDoorW.PrintLast Go.Proofs.YtphblfmjdiigkaaGreatDoorW.PrintMore
set_option linter.unusedVariables false
set_option linter.unusedSimpArgs false
theorem cells12 {w : World} {g : Nat} {t : TypeId} {v0 v1 v2 v3 v4 v5 v6 v7 v8 v9 v10 v11 : Value} (h : w.heap[g]? = some (.cells #[v0, v1, v2, v3, v4, v5, v6, v7, v8, v9, v10, v11] t (0, 0))) : w.cell? ⟨g, 0, none⟩ = some v0 ∧ w.cell? ⟨g, 1, none⟩ = some v1 ∧ w.cell? ⟨g, 2, none⟩ = some v2 ∧ w.cell? ⟨g, 3, none⟩ = some v3 ∧ w.cell? ⟨g, 4, none⟩ = some v4 ∧ w.cell? ⟨g, 5, none⟩ = some v5 ∧ w.cell? ⟨g, 6, none⟩ = some v6 ∧ w.cell? ⟨g, 7, none⟩ = some v7 ∧ w.cell? ⟨g, 8, none⟩ = some v8 ∧ w.cell? ⟨g, 9, none⟩ = some v9 ∧ w.cell? ⟨g, 10, none⟩ = some v10 ∧ w.cell? ⟨g, 11, none⟩ = some v11 := ⟨(kC_ h 0).trans rfl, (kC_ h 1).trans rfl, (kC_ h 2).trans rfl, (kC_ h 3).trans rfl, (kC_ h 4).trans rfl, (kC_ h 5).trans rfl, (kC_ h 6).trans rfl, (kC_ h 7).trans rfl, (kC_ h 8).trans rfl, (kC_ h 9).trans rfl, (kC_ h 10).trans rfl, (kC_ h 11).trans rfl⟩
attribute [local go_sem] max2_int min2_int max_two min_two
attribute [local go_sem high] eqA39
attribute [local go_sem high] eqA41
def gB (k : Int) : Bool := decide (11 ≤ k) && decide (k ≤ 13)
def blB (k : Int) : Bool := decide (1 ≤ k) && decide (k ≤ 5)
def twB (k : Int) : Bool := gB k || (k == 3 || k == 5)
def sOkS (x : S41) (n : Int) : Bool := sOk x.f0 x.f1 x.f2.f0 x.f2.f1 n
def z46B (x : S41) : Bool := x.f0 == 0 && (x.f1 == 0 && ((x.f2.f0 == 0 && (x.f2.f1 == 0)) && (x.f3 == false)))
def insL (x : S43) : List S41 := if twB x.f0 = true then [x.f2, x.f3] else [x.f2]
def wOk (x : S43) (n : Int) : Bool := !((gB x.f0 && x.f1 != 0) || (blB x.f0 && !(sizedB x.f0 x.f1)) || (!(gB x.f0) && !(blB x.f0))) && (!(!(twB x.f0) && !(z46B x.f3)) && !((insL x).any fun s => !(sOkS s n)))
theorem gateS (x : S43) : impl_Wire_isGate.f x.f0 x.f1 x.f2.f0 x.f2.f1 x.f2.f2.f0 x.f2.f2.f1 x.f2.f3 x.f3.f0 x.f3.f1 x.f3.f2.f0 x.f3.f2.f1 x.f3.f3 = some (gB x.f0) := by
  unfold impl_Wire_isGate.f gB
  by_cases h : x.f0 ≥ 11
  · rw [if_pos h, dT_ (by omega : 11 ≤ x.f0), Bool.true_and]
  · rw [if_neg h, dF_ (by omega : ¬ 11 ≤ x.f0), Bool.false_and]
theorem twS (x : S43) : impl_Wire_twofold.f x.f0 x.f1 x.f2.f0 x.f2.f1 x.f2.f2.f0 x.f2.f2.f1 x.f2.f3 x.f3.f0 x.f3.f1 x.f3.f2.f0 x.f3.f2.f1 x.f3.f3 = some (twB x.f0) := by
  unfold impl_Wire_twofold.f twB
  rw [gateS]; simp only [Option.bind_some]
  cases gB x.f0
  · by_cases h : x.f0 = 3
    · rw [if_neg (by simp), if_pos h]; simp [h]
    · rw [if_neg (by simp), if_neg h]; simp [h]
  · rfl
theorem insS (x : S43) : impl_Wire_inputs.f x.f0 x.f1 x.f2.f0 x.f2.f1 x.f2.f2.f0 x.f2.f2.f1 x.f2.f3 x.f3.f0 x.f3.f1 x.f3.f2.f0 x.f3.f2.f1 x.f3.f3 = some (insL x) := by
  unfold impl_Wire_inputs.f insL
  rw [twS]; simp only [Option.bind_some]
  cases twB x.f0 <;> rfl
theorem gateC (x : S43) (W : World) : Calls Tryz.prog 77 #[.agg #[.int .i64 x.f0, .int .i64 x.f1, .int .i64 x.f2.f0, .int .i64 x.f2.f1, .int .i64 x.f2.f2.f0, .int .i64 x.f2.f2.f1, .bool x.f2.f3, .int .i64 x.f3.f0, .int .i64 x.f3.f1, .int .i64 x.f3.f2.f0, .int .i64 x.f3.f2.f1, .bool x.f3.f3]] W fun e w' => e = .returned (.bool (gB x.f0)) ∧ Below W.heap.size W w' := impl_Wire_isGate.calls x.f0 x.f1 x.f2.f0 x.f2.f1 x.f2.f2.f0 x.f2.f2.f1 x.f2.f3 x.f3.f0 x.f3.f1 x.f3.f2.f0 x.f3.f2.f1 x.f3.f3 _ W (gateS x)
theorem twC (x : S43) (W : World) : Calls Tryz.prog 54 #[.agg #[.int .i64 x.f0, .int .i64 x.f1, .int .i64 x.f2.f0, .int .i64 x.f2.f1, .int .i64 x.f2.f2.f0, .int .i64 x.f2.f2.f1, .bool x.f2.f3, .int .i64 x.f3.f0, .int .i64 x.f3.f1, .int .i64 x.f3.f2.f0, .int .i64 x.f3.f2.f1, .bool x.f3.f3]] W fun e w' => e = .returned (.bool (twB x.f0)) ∧ Below W.heap.size W w' := impl_Wire_twofold.calls x.f0 x.f1 x.f2.f0 x.f2.f1 x.f2.f2.f0 x.f2.f2.f1 x.f2.f3 x.f3.f0 x.f3.f1 x.f3.f2.f0 x.f3.f2.f1 x.f3.f3 _ W (twS x)
theorem insC (x : S43) (W : World) : Calls Tryz.prog 28 #[.agg #[.int .i64 x.f0, .int .i64 x.f1, .int .i64 x.f2.f0, .int .i64 x.f2.f1, .int .i64 x.f2.f2.f0, .int .i64 x.f2.f2.f1, .bool x.f2.f3, .int .i64 x.f3.f0, .int .i64 x.f3.f1, .int .i64 x.f3.f2.f0, .int .i64 x.f3.f2.f1, .bool x.f3.f3]] W fun e w' => ∃ P p, e = .returned (.slice P (insL x).length p) ∧ (insL x).length ≤ p ∧ Kd.C k41 w' P (insL x).length (insL x) ∧ Below W.heap.size W w' := by
  refine (impl_Wire_inputs.calls x.f0 x.f1 x.f2.f0 x.f2.f1 x.f2.f2.f0 x.f2.f2.f1 x.f2.f3 x.f3.f0 x.f3.f1 x.f3.f2.f0 x.f3.f2.f1 x.f3.f3 _ W (insS x)).mono ?_
  rintro e w' ⟨v, rfl, hR, hb⟩
  obtain ⟨P, p, rfl, hl, hC⟩ := Kd.R_reads hR
  exact ⟨P, p, rfl, hl, hC, hb⟩
set_option maxRecDepth 100000 in
theorem blockC (x : S43) (w : World) : Calls Tryz.prog 25 #[.agg #[.int .i64 x.f0, .int .i64 x.f1, .int .i64 x.f2.f0, .int .i64 x.f2.f1, .int .i64 x.f2.f2.f0, .int .i64 x.f2.f2.f1, .bool x.f2.f3, .int .i64 x.f3.f0, .int .i64 x.f3.f1, .int .i64 x.f3.f2.f0, .int .i64 x.f3.f2.f1, .bool x.f3.f3]] w fun e w' => e = .returned (.bool (blB x.f0)) ∧ Below w.heap.size w w' := by
  have hu48 := Tryz.underlying43
  by_cases h : 1 ≤ x.f0
  · have e : blB x.f0 = decide (x.f0 ≤ 5) := by unfold blB; rw [dT_ h, Bool.true_and]
    rw [e]
    have d1 : decide (x.f0 ≥ 1) = true := dT_ h
    have d2 : decide (1 ≤ x.f0) = true := dT_ h
    clear e h
    go_enter Tryz.func25, Tryz.ntmps25
    go_wp2
    go_ret
    exact ⟨rfl, al w _⟩
  · have e : blB x.f0 = false := by unfold blB; rw [dF_ h, Bool.false_and]
    rw [e]
    have d1 : decide (x.f0 ≥ 1) = false := dF_ h
    have d2 : decide (1 ≤ x.f0) = false := dF_ h
    clear e h
    go_enter Tryz.func25, Tryz.ntmps25
    go_wp2
    go_ret
    exact ⟨rfl, al w _⟩
set_option maxRecDepth 100000 in
theorem clo63 (x : S41) (n : Int) (g : Nat) (w : World) (hg : w.heap[g]? = some (.cells #[.int .i64 n] 3 (0, 0))) : Calls Tryz.prog 80 #[.agg #[.int .i64 x.f0, .int .i64 x.f1, .int .i64 x.f2.f0, .int .i64 x.f2.f1, .bool x.f3], .pointer (some ⟨g, 0, none⟩)] w fun e w' => e = .returned (.bool (!(sOkS x n))) ∧ Below w.heap.size w w' := by
  have hu46 := Tryz.underlying41
  have hu44 := Tryz.underlying39
  have h := fun W => src_ok x.f0 x.f1 x.f2.f0 x.f2.f1 n x.f3 W
  have i0 : w.cell? ⟨g, 0, none⟩ = some (.int .i64 n) := (kC_ hg 0).trans rfl
  have hb1 := al w (.cells #[.int .i64 x.f0, .int .i64 x.f1, .int .i64 x.f2.f0, .int .i64 x.f2.f1, .bool x.f3] 41)
  have hlt := bL_ _ _ i0
  have i1 : (w.alloc (.cells #[.int .i64 x.f0, .int .i64 x.f1, .int .i64 x.f2.f0, .int .i64 x.f2.f1, .bool x.f3] 41)).cell? ⟨g, 0, none⟩ = some (.int .i64 n) := (hb1.cell hlt).trans i0
  show Calls Tryz.prog 80 _ w fun e w' => e = .returned (.bool (!(sOk x.f0 x.f1 x.f2.f0 x.f2.f1 n))) ∧ _
  generalize sOk x.f0 x.f1 x.f2.f0 x.f2.f1 n = r at h ⊢
  clear hg hlt
  go_enter Tryz.func80, Tryz.ntmps80
  go_wp2_with fail
  refine (h _).mono ?_
  rintro e w2 ⟨rfl, hb⟩
  clear h i0 i1
  go_wp2
  go_ret
  exact ⟨rfl, hb1.trans (hb.mono hb1.size)⟩
structure Tw (w : World) (g1 g3 : Nat) (X : Array Value) (n : Int) (W : World) : Prop where
  h1 : W.heap[g1]? = some (.cells X 43 (0, 0))
  h3 : W.heap[g3]? = some (.cells #[.int .i64 n] 3 (0, 0))
  bel : Below w.heap.size w W
theorem Tw.below {w W W' : World} {g1 g3 : Nat} {X : Array Value} {n : Int} (h : Tw w g1 g3 X n W) (k : Below W.heap.size W W') : Tw w g1 g3 X n W' := ⟨blk_below h.h1 k, blk_below h.h3 k, h.bel.trans (k.mono h.bel.size)⟩
theorem Tw.two (w : World) (X : Array Value) (n : Int) : Tw w w.heap.size (w.heap.size + 1) X n ((w.alloc (.cells X 43)).alloc (.cells #[.int .i64 n] 3)) := by
  have e1 : (w.alloc (.cells X 43)).heap.size = w.heap.size + 1 := Array.size_push ..
  refine ⟨blk_alloc (heap_alloc_new _ _) _, ?_, al2 w _ _⟩
  have h := heap_alloc_new (w.alloc (.cells X 43)) (.cells #[.int .i64 n] 3)
  rw [e1] at h
  exact h
set_option maxRecDepth 100000 in
set_option maxHeartbeats 3200000 in
theorem ok_gn (x : S43) (n : Int) (w : World) (hg : gB x.f0 = true) (hn : (x.f1 != 0) = true) : Calls Tryz.prog 48 #[.agg #[.int .i64 x.f0, .int .i64 x.f1, .int .i64 x.f2.f0, .int .i64 x.f2.f1, .int .i64 x.f2.f2.f0, .int .i64 x.f2.f2.f1, .bool x.f2.f3, .int .i64 x.f3.f0, .int .i64 x.f3.f1, .int .i64 x.f3.f2.f0, .int .i64 x.f3.f2.f1, .bool x.f3.f3], .int .i64 n] w fun e w' => e = .returned (.bool (false)) ∧ Below w.heap.size w w' := by
  have hu48 := Tryz.underlying43
  have hu46 := Tryz.underlying41
  have hu44 := Tryz.underlying39
  have gC := gateC x
  have bC := blockC x
  have sC := sized_any x.f0 x.f1
  have tC := twC x
  rw [hg] at gC
  clear bC sC tC hg
  have hT := Tw.two w #[.int .i64 x.f0, .int .i64 x.f1, .int .i64 x.f2.f0, .int .i64 x.f2.f1, .int .i64 x.f2.f2.f0, .int .i64 x.f2.f2.f1, .bool x.f2.f3, .int .i64 x.f3.f0, .int .i64 x.f3.f1, .int .i64 x.f3.f2.f0, .int .i64 x.f3.f2.f1, .bool x.f3.f3] n
  go_enter Tryz.func48, Tryz.ntmps48
  go_upto_region 1 with (fail)
  generalize (w.alloc (Obj.cells _ 43)).alloc (Obj.cells _ 3) = w0 at hT ⊢
  obtain ⟨g1, hg1⟩ : ∃ g, w.heap.size = g := ⟨_, rfl⟩
  obtain ⟨g3, hg3⟩ : ∃ g, g1 + 1 = g := ⟨_, rfl⟩
  rw [hg1, hg3] at hT ⊢
  clear hg1 hg3
  obtain ⟨i0, i1, i2, i3, i4, i5, i6, i7, i8, i9, i10, i11⟩ := cells12 hT.h1
  go_wp2_with fail
  refine (gC _).mono ?_
  rintro e w1 ⟨rfl, hb⟩
  replace hT := hT.below hb
  clear i0 i1 i2 i3 i4 i5 i6 i7 i8 i9 i10 i11 hb
  obtain ⟨i0, i1, i2, i3, i4, i5, i6, i7, i8, i9, i10, i11⟩ := cells12 hT.h1
  have hB := hT.bel
  go_wp2
  go_ret
  exact ⟨rfl, hB⟩
set_option maxRecDepth 100000 in
set_option maxHeartbeats 3200000 in
theorem ok_none (x : S43) (n : Int) (w : World) (hg : gB x.f0 = false) (hb : blB x.f0 = false) : Calls Tryz.prog 48 #[.agg #[.int .i64 x.f0, .int .i64 x.f1, .int .i64 x.f2.f0, .int .i64 x.f2.f1, .int .i64 x.f2.f2.f0, .int .i64 x.f2.f2.f1, .bool x.f2.f3, .int .i64 x.f3.f0, .int .i64 x.f3.f1, .int .i64 x.f3.f2.f0, .int .i64 x.f3.f2.f1, .bool x.f3.f3], .int .i64 n] w fun e w' => e = .returned (.bool (false)) ∧ Below w.heap.size w w' := by
  have hu48 := Tryz.underlying43
  have hu46 := Tryz.underlying41
  have hu44 := Tryz.underlying39
  have gC := gateC x
  have bC := blockC x
  have sC := sized_any x.f0 x.f1
  have tC := twC x
  rw [hg] at gC
  rw [hb] at bC
  clear sC tC hg hb
  have hT := Tw.two w #[.int .i64 x.f0, .int .i64 x.f1, .int .i64 x.f2.f0, .int .i64 x.f2.f1, .int .i64 x.f2.f2.f0, .int .i64 x.f2.f2.f1, .bool x.f2.f3, .int .i64 x.f3.f0, .int .i64 x.f3.f1, .int .i64 x.f3.f2.f0, .int .i64 x.f3.f2.f1, .bool x.f3.f3] n
  go_enter Tryz.func48, Tryz.ntmps48
  go_upto_region 1 with (fail)
  generalize (w.alloc (Obj.cells _ 43)).alloc (Obj.cells _ 3) = w0 at hT ⊢
  obtain ⟨g1, hg1⟩ : ∃ g, w.heap.size = g := ⟨_, rfl⟩
  obtain ⟨g3, hg3⟩ : ∃ g, g1 + 1 = g := ⟨_, rfl⟩
  rw [hg1, hg3] at hT ⊢
  clear hg1 hg3
  obtain ⟨i0, i1, i2, i3, i4, i5, i6, i7, i8, i9, i10, i11⟩ := cells12 hT.h1
  go_wp2_with fail
  refine (gC _).mono ?_
  rintro e w1 ⟨rfl, hb⟩
  replace hT := hT.below hb
  clear i0 i1 i2 i3 i4 i5 i6 i7 i8 i9 i10 i11 hb
  obtain ⟨i0, i1, i2, i3, i4, i5, i6, i7, i8, i9, i10, i11⟩ := cells12 hT.h1
  go_wp2_with fail
  refine (bC _).mono ?_
  rintro e w2 ⟨rfl, hb⟩
  replace hT := hT.below hb
  clear i0 i1 i2 i3 i4 i5 i6 i7 i8 i9 i10 i11 hb
  obtain ⟨i0, i1, i2, i3, i4, i5, i6, i7, i8, i9, i10, i11⟩ := cells12 hT.h1
  go_wp2_with fail
  refine (gC _).mono ?_
  rintro e w3 ⟨rfl, hb⟩
  replace hT := hT.below hb
  clear i0 i1 i2 i3 i4 i5 i6 i7 i8 i9 i10 i11 hb
  obtain ⟨i0, i1, i2, i3, i4, i5, i6, i7, i8, i9, i10, i11⟩ := cells12 hT.h1
  go_wp2_with fail
  refine (bC _).mono ?_
  rintro e w4 ⟨rfl, hb⟩
  replace hT := hT.below hb
  clear i0 i1 i2 i3 i4 i5 i6 i7 i8 i9 i10 i11 hb
  obtain ⟨i0, i1, i2, i3, i4, i5, i6, i7, i8, i9, i10, i11⟩ := cells12 hT.h1
  have hB := hT.bel
  go_wp2
  go_ret
  exact ⟨rfl, hB⟩
set_option maxRecDepth 100000 in
set_option maxHeartbeats 3200000 in
theorem ok_unsized (x : S43) (n : Int) (w : World) (hg : gB x.f0 = false) (hb : blB x.f0 = true) (hs : sizedB x.f0 x.f1 = false) : Calls Tryz.prog 48 #[.agg #[.int .i64 x.f0, .int .i64 x.f1, .int .i64 x.f2.f0, .int .i64 x.f2.f1, .int .i64 x.f2.f2.f0, .int .i64 x.f2.f2.f1, .bool x.f2.f3, .int .i64 x.f3.f0, .int .i64 x.f3.f1, .int .i64 x.f3.f2.f0, .int .i64 x.f3.f2.f1, .bool x.f3.f3], .int .i64 n] w fun e w' => e = .returned (.bool (false)) ∧ Below w.heap.size w w' := by
  have hu48 := Tryz.underlying43
  have hu46 := Tryz.underlying41
  have hu44 := Tryz.underlying39
  have gC := gateC x
  have bC := blockC x
  have sC := sized_any x.f0 x.f1
  have tC := twC x
  rw [hg] at gC
  rw [hb] at bC
  rw [hs] at sC
  clear tC hg hb hs
  have hT := Tw.two w #[.int .i64 x.f0, .int .i64 x.f1, .int .i64 x.f2.f0, .int .i64 x.f2.f1, .int .i64 x.f2.f2.f0, .int .i64 x.f2.f2.f1, .bool x.f2.f3, .int .i64 x.f3.f0, .int .i64 x.f3.f1, .int .i64 x.f3.f2.f0, .int .i64 x.f3.f2.f1, .bool x.f3.f3] n
  go_enter Tryz.func48, Tryz.ntmps48
  go_upto_region 1 with (fail)
  generalize (w.alloc (Obj.cells _ 43)).alloc (Obj.cells _ 3) = w0 at hT ⊢
  obtain ⟨g1, hg1⟩ : ∃ g, w.heap.size = g := ⟨_, rfl⟩
  obtain ⟨g3, hg3⟩ : ∃ g, g1 + 1 = g := ⟨_, rfl⟩
  rw [hg1, hg3] at hT ⊢
  clear hg1 hg3
  obtain ⟨i0, i1, i2, i3, i4, i5, i6, i7, i8, i9, i10, i11⟩ := cells12 hT.h1
  go_wp2_with fail
  refine (gC _).mono ?_
  rintro e w1 ⟨rfl, hb⟩
  replace hT := hT.below hb
  clear i0 i1 i2 i3 i4 i5 i6 i7 i8 i9 i10 i11 hb
  obtain ⟨i0, i1, i2, i3, i4, i5, i6, i7, i8, i9, i10, i11⟩ := cells12 hT.h1
  go_wp2_with fail
  refine (bC _).mono ?_
  rintro e w2 ⟨rfl, hb⟩
  replace hT := hT.below hb
  clear i0 i1 i2 i3 i4 i5 i6 i7 i8 i9 i10 i11 hb
  obtain ⟨i0, i1, i2, i3, i4, i5, i6, i7, i8, i9, i10, i11⟩ := cells12 hT.h1
  go_wp2_with fail
  refine (sC _).mono ?_
  rintro e w3 ⟨rfl, hb⟩
  replace hT := hT.below hb
  clear i0 i1 i2 i3 i4 i5 i6 i7 i8 i9 i10 i11 hb
  obtain ⟨i0, i1, i2, i3, i4, i5, i6, i7, i8, i9, i10, i11⟩ := cells12 hT.h1
  have hB := hT.bel
  go_wp2
  go_ret
  exact ⟨rfl, hB⟩
set_option maxRecDepth 100000 in
set_option maxHeartbeats 3200000 in
theorem ok_gate (x : S43) (n : Int) (w : World) (hg : gB x.f0 = true) (hb : blB x.f0 = false) (hn : (x.f1 != 0) = false) (ht : twB x.f0 = true) : Calls Tryz.prog 48 #[.agg #[.int .i64 x.f0, .int .i64 x.f1, .int .i64 x.f2.f0, .int .i64 x.f2.f1, .int .i64 x.f2.f2.f0, .int .i64 x.f2.f2.f1, .bool x.f2.f3, .int .i64 x.f3.f0, .int .i64 x.f3.f1, .int .i64 x.f3.f2.f0, .int .i64 x.f3.f2.f1, .bool x.f3.f3], .int .i64 n] w fun e w' => e = .returned (.bool (!((insL x).any fun s => !(sOkS s n)))) ∧ Below w.heap.size w w' := by
  have hu48 := Tryz.underlying43
  have hu46 := Tryz.underlying41
  have hu44 := Tryz.underlying39
  have gC := gateC x
  have bC := blockC x
  have sC := sized_any x.f0 x.f1
  have tC := twC x
  rw [hg] at gC
  rw [hb] at bC
  rw [ht] at tC
  clear sC hg hb ht
  have iC := insC x
  have cC := fun (g : Nat) W (h : W.heap[g]? = some (.cells #[.int .i64 n] 3 (0, 0))) P pp h1 h2 => contains41 g 3 #[.int .i64 n] (fun s => !(sOkS s n)) (insL x) P pp W h h1 h2 (fun y W' h' => clo63 y n _ W' h')
  generalize insL x = m at iC cC ⊢
  generalize (m.any fun s => !(sOkS s n)) = r at cC ⊢
  have hT := Tw.two w #[.int .i64 x.f0, .int .i64 x.f1, .int .i64 x.f2.f0, .int .i64 x.f2.f1, .int .i64 x.f2.f2.f0, .int .i64 x.f2.f2.f1, .bool x.f2.f3, .int .i64 x.f3.f0, .int .i64 x.f3.f1, .int .i64 x.f3.f2.f0, .int .i64 x.f3.f2.f1, .bool x.f3.f3] n
  go_enter Tryz.func48, Tryz.ntmps48
  go_upto_region 1 with (fail)
  generalize (w.alloc (Obj.cells _ 43)).alloc (Obj.cells _ 3) = w0 at hT ⊢
  obtain ⟨g1, hg1⟩ : ∃ g, w.heap.size = g := ⟨_, rfl⟩
  obtain ⟨g3, hg3⟩ : ∃ g, g1 + 1 = g := ⟨_, rfl⟩
  rw [hg1, hg3] at hT ⊢
  clear hg1 hg3
  obtain ⟨i0, i1, i2, i3, i4, i5, i6, i7, i8, i9, i10, i11⟩ := cells12 hT.h1
  go_wp2_with fail
  refine (gC _).mono ?_
  rintro e w1 ⟨rfl, hb⟩
  replace hT := hT.below hb
  clear i0 i1 i2 i3 i4 i5 i6 i7 i8 i9 i10 i11 hb
  obtain ⟨i0, i1, i2, i3, i4, i5, i6, i7, i8, i9, i10, i11⟩ := cells12 hT.h1
  go_wp2_with fail
  refine (bC _).mono ?_
  rintro e w2 ⟨rfl, hb⟩
  replace hT := hT.below hb
  clear i0 i1 i2 i3 i4 i5 i6 i7 i8 i9 i10 i11 hb
  obtain ⟨i0, i1, i2, i3, i4, i5, i6, i7, i8, i9, i10, i11⟩ := cells12 hT.h1
  go_wp2_with fail
  refine (gC _).mono ?_
  rintro e w3 ⟨rfl, hb⟩
  replace hT := hT.below hb
  clear i0 i1 i2 i3 i4 i5 i6 i7 i8 i9 i10 i11 hb
  obtain ⟨i0, i1, i2, i3, i4, i5, i6, i7, i8, i9, i10, i11⟩ := cells12 hT.h1
  go_wp2_with fail
  refine (tC _).mono ?_
  rintro e w4 ⟨rfl, hb⟩
  replace hT := hT.below hb
  clear i0 i1 i2 i3 i4 i5 i6 i7 i8 i9 i10 i11 hb
  obtain ⟨i0, i1, i2, i3, i4, i5, i6, i7, i8, i9, i10, i11⟩ := cells12 hT.h1
  go_wp2_with fail
  refine (iC _).mono ?_
  rintro e w5 ⟨P, pp, rfl, hp, hC, hb⟩
  replace hT := hT.below hb
  clear i0 i1 i2 i3 i4 i5 i6 i7 i8 i9 i10 i11 hb
  have hC0 := cC g3 _ hT.h3 P pp hp hC
  clear hC
  go_wp2_with fail
  refine hC0.mono ?_
  rintro e w6 ⟨rfl, hb⟩
  replace hT := hT.below hb
  clear hb hC0 cC
  have hB := hT.bel
  go_wp2
  go_ret
  exact ⟨rfl, hB⟩
set_option maxRecDepth 100000 in
set_option maxHeartbeats 3200000 in
theorem ok_two (x : S43) (n : Int) (w : World) (hg : gB x.f0 = false) (hb : blB x.f0 = true) (hs : sizedB x.f0 x.f1 = true) (ht : twB x.f0 = true) : Calls Tryz.prog 48 #[.agg #[.int .i64 x.f0, .int .i64 x.f1, .int .i64 x.f2.f0, .int .i64 x.f2.f1, .int .i64 x.f2.f2.f0, .int .i64 x.f2.f2.f1, .bool x.f2.f3, .int .i64 x.f3.f0, .int .i64 x.f3.f1, .int .i64 x.f3.f2.f0, .int .i64 x.f3.f2.f1, .bool x.f3.f3], .int .i64 n] w fun e w' => e = .returned (.bool (!((insL x).any fun s => !(sOkS s n)))) ∧ Below w.heap.size w w' := by
  have hu48 := Tryz.underlying43
  have hu46 := Tryz.underlying41
  have hu44 := Tryz.underlying39
  have gC := gateC x
  have bC := blockC x
  have sC := sized_any x.f0 x.f1
  have tC := twC x
  rw [hg] at gC
  rw [hb] at bC
  rw [hs] at sC
  rw [ht] at tC
  clear hg hb hs ht
  have iC := insC x
  have cC := fun (g : Nat) W (h : W.heap[g]? = some (.cells #[.int .i64 n] 3 (0, 0))) P pp h1 h2 => contains41 g 3 #[.int .i64 n] (fun s => !(sOkS s n)) (insL x) P pp W h h1 h2 (fun y W' h' => clo63 y n _ W' h')
  generalize insL x = m at iC cC ⊢
  generalize (m.any fun s => !(sOkS s n)) = r at cC ⊢
  have hT := Tw.two w #[.int .i64 x.f0, .int .i64 x.f1, .int .i64 x.f2.f0, .int .i64 x.f2.f1, .int .i64 x.f2.f2.f0, .int .i64 x.f2.f2.f1, .bool x.f2.f3, .int .i64 x.f3.f0, .int .i64 x.f3.f1, .int .i64 x.f3.f2.f0, .int .i64 x.f3.f2.f1, .bool x.f3.f3] n
  go_enter Tryz.func48, Tryz.ntmps48
  go_upto_region 1 with (fail)
  generalize (w.alloc (Obj.cells _ 43)).alloc (Obj.cells _ 3) = w0 at hT ⊢
  obtain ⟨g1, hg1⟩ : ∃ g, w.heap.size = g := ⟨_, rfl⟩
  obtain ⟨g3, hg3⟩ : ∃ g, g1 + 1 = g := ⟨_, rfl⟩
  rw [hg1, hg3] at hT ⊢
  clear hg1 hg3
  obtain ⟨i0, i1, i2, i3, i4, i5, i6, i7, i8, i9, i10, i11⟩ := cells12 hT.h1
  go_wp2_with fail
  refine (gC _).mono ?_
  rintro e w1 ⟨rfl, hb⟩
  replace hT := hT.below hb
  clear i0 i1 i2 i3 i4 i5 i6 i7 i8 i9 i10 i11 hb
  obtain ⟨i0, i1, i2, i3, i4, i5, i6, i7, i8, i9, i10, i11⟩ := cells12 hT.h1
  go_wp2_with fail
  refine (bC _).mono ?_
  rintro e w2 ⟨rfl, hb⟩
  replace hT := hT.below hb
  clear i0 i1 i2 i3 i4 i5 i6 i7 i8 i9 i10 i11 hb
  obtain ⟨i0, i1, i2, i3, i4, i5, i6, i7, i8, i9, i10, i11⟩ := cells12 hT.h1
  go_wp2_with fail
  refine (sC _).mono ?_
  rintro e w3 ⟨rfl, hb⟩
  replace hT := hT.below hb
  clear i0 i1 i2 i3 i4 i5 i6 i7 i8 i9 i10 i11 hb
  obtain ⟨i0, i1, i2, i3, i4, i5, i6, i7, i8, i9, i10, i11⟩ := cells12 hT.h1
  go_wp2_with fail
  refine (gC _).mono ?_
  rintro e w4 ⟨rfl, hb⟩
  replace hT := hT.below hb
  clear i0 i1 i2 i3 i4 i5 i6 i7 i8 i9 i10 i11 hb
  obtain ⟨i0, i1, i2, i3, i4, i5, i6, i7, i8, i9, i10, i11⟩ := cells12 hT.h1
  go_wp2_with fail
  refine (bC _).mono ?_
  rintro e w5 ⟨rfl, hb⟩
  replace hT := hT.below hb
  clear i0 i1 i2 i3 i4 i5 i6 i7 i8 i9 i10 i11 hb
  obtain ⟨i0, i1, i2, i3, i4, i5, i6, i7, i8, i9, i10, i11⟩ := cells12 hT.h1
  go_wp2_with fail
  refine (tC _).mono ?_
  rintro e w6 ⟨rfl, hb⟩
  replace hT := hT.below hb
  clear i0 i1 i2 i3 i4 i5 i6 i7 i8 i9 i10 i11 hb
  obtain ⟨i0, i1, i2, i3, i4, i5, i6, i7, i8, i9, i10, i11⟩ := cells12 hT.h1
  go_wp2_with fail
  refine (iC _).mono ?_
  rintro e w7 ⟨P, pp, rfl, hp, hC, hb⟩
  replace hT := hT.below hb
  clear i0 i1 i2 i3 i4 i5 i6 i7 i8 i9 i10 i11 hb
  have hC0 := cC g3 _ hT.h3 P pp hp hC
  clear hC
  go_wp2_with fail
  refine hC0.mono ?_
  rintro e w8 ⟨rfl, hb⟩
  replace hT := hT.below hb
  clear hb hC0 cC
  have hB := hT.bel
  go_wp2
  go_ret
  exact ⟨rfl, hB⟩
set_option maxRecDepth 100000 in
set_option maxHeartbeats 3200000 in
theorem ok_oneB0 (x : S43) (n : Int) (w : World) (hg : gB x.f0 = false) (hb : blB x.f0 = true) (hs : sizedB x.f0 x.f1 = true) (ht : twB x.f0 = false) (hz0 : (x.f3.f0 == 0) = false) : Calls Tryz.prog 48 #[.agg #[.int .i64 x.f0, .int .i64 x.f1, .int .i64 x.f2.f0, .int .i64 x.f2.f1, .int .i64 x.f2.f2.f0, .int .i64 x.f2.f2.f1, .bool x.f2.f3, .int .i64 x.f3.f0, .int .i64 x.f3.f1, .int .i64 x.f3.f2.f0, .int .i64 x.f3.f2.f1, .bool x.f3.f3], .int .i64 n] w fun e w' => e = .returned (.bool (false)) ∧ Below w.heap.size w w' := by
  have hu48 := Tryz.underlying43
  have hu46 := Tryz.underlying41
  have hu44 := Tryz.underlying39
  have gC := gateC x
  have bC := blockC x
  have sC := sized_any x.f0 x.f1
  have tC := twC x
  rw [hg] at gC
  rw [hb] at bC
  rw [hs] at sC
  rw [ht] at tC
  clear hg hb hs ht
  have hT := Tw.two w #[.int .i64 x.f0, .int .i64 x.f1, .int .i64 x.f2.f0, .int .i64 x.f2.f1, .int .i64 x.f2.f2.f0, .int .i64 x.f2.f2.f1, .bool x.f2.f3, .int .i64 x.f3.f0, .int .i64 x.f3.f1, .int .i64 x.f3.f2.f0, .int .i64 x.f3.f2.f1, .bool x.f3.f3] n
  go_enter Tryz.func48, Tryz.ntmps48
  go_upto_region 1 with (fail)
  generalize (w.alloc (Obj.cells _ 43)).alloc (Obj.cells _ 3) = w0 at hT ⊢
  obtain ⟨g1, hg1⟩ : ∃ g, w.heap.size = g := ⟨_, rfl⟩
  obtain ⟨g3, hg3⟩ : ∃ g, g1 + 1 = g := ⟨_, rfl⟩
  rw [hg1, hg3] at hT ⊢
  clear hg1 hg3
  obtain ⟨i0, i1, i2, i3, i4, i5, i6, i7, i8, i9, i10, i11⟩ := cells12 hT.h1
  go_wp2_with fail
  refine (gC _).mono ?_
  rintro e w1 ⟨rfl, hb⟩
  replace hT := hT.below hb
  clear i0 i1 i2 i3 i4 i5 i6 i7 i8 i9 i10 i11 hb
  obtain ⟨i0, i1, i2, i3, i4, i5, i6, i7, i8, i9, i10, i11⟩ := cells12 hT.h1
  go_wp2_with fail
  refine (bC _).mono ?_
  rintro e w2 ⟨rfl, hb⟩
  replace hT := hT.below hb
  clear i0 i1 i2 i3 i4 i5 i6 i7 i8 i9 i10 i11 hb
  obtain ⟨i0, i1, i2, i3, i4, i5, i6, i7, i8, i9, i10, i11⟩ := cells12 hT.h1
  go_wp2_with fail
  refine (sC _).mono ?_
  rintro e w3 ⟨rfl, hb⟩
  replace hT := hT.below hb
  clear i0 i1 i2 i3 i4 i5 i6 i7 i8 i9 i10 i11 hb
  obtain ⟨i0, i1, i2, i3, i4, i5, i6, i7, i8, i9, i10, i11⟩ := cells12 hT.h1
  go_wp2_with fail
  refine (gC _).mono ?_
  rintro e w4 ⟨rfl, hb⟩
  replace hT := hT.below hb
  clear i0 i1 i2 i3 i4 i5 i6 i7 i8 i9 i10 i11 hb
  obtain ⟨i0, i1, i2, i3, i4, i5, i6, i7, i8, i9, i10, i11⟩ := cells12 hT.h1
  go_wp2_with fail
  refine (bC _).mono ?_
  rintro e w5 ⟨rfl, hb⟩
  replace hT := hT.below hb
  clear i0 i1 i2 i3 i4 i5 i6 i7 i8 i9 i10 i11 hb
  obtain ⟨i0, i1, i2, i3, i4, i5, i6, i7, i8, i9, i10, i11⟩ := cells12 hT.h1
  go_wp2_with fail
  refine (tC _).mono ?_
  rintro e w6 ⟨rfl, hb⟩
  replace hT := hT.below hb
  clear i0 i1 i2 i3 i4 i5 i6 i7 i8 i9 i10 i11 hb
  obtain ⟨i0, i1, i2, i3, i4, i5, i6, i7, i8, i9, i10, i11⟩ := cells12 hT.h1
  have hB := hT.bel
  go_wp2
  go_ret
  exact ⟨rfl, hB⟩
set_option maxRecDepth 100000 in
set_option maxHeartbeats 3200000 in
theorem ok_oneB1 (x : S43) (n : Int) (w : World) (hg : gB x.f0 = false) (hb : blB x.f0 = true) (hs : sizedB x.f0 x.f1 = true) (ht : twB x.f0 = false) (hz0 : (x.f3.f0 == 0) = true) (hz1 : (x.f3.f1 == 0) = false) : Calls Tryz.prog 48 #[.agg #[.int .i64 x.f0, .int .i64 x.f1, .int .i64 x.f2.f0, .int .i64 x.f2.f1, .int .i64 x.f2.f2.f0, .int .i64 x.f2.f2.f1, .bool x.f2.f3, .int .i64 x.f3.f0, .int .i64 x.f3.f1, .int .i64 x.f3.f2.f0, .int .i64 x.f3.f2.f1, .bool x.f3.f3], .int .i64 n] w fun e w' => e = .returned (.bool (false)) ∧ Below w.heap.size w w' := by
  have hu48 := Tryz.underlying43
  have hu46 := Tryz.underlying41
  have hu44 := Tryz.underlying39
  have gC := gateC x
  have bC := blockC x
  have sC := sized_any x.f0 x.f1
  have tC := twC x
  rw [hg] at gC
  rw [hb] at bC
  rw [hs] at sC
  rw [ht] at tC
  clear hg hb hs ht
  have hT := Tw.two w #[.int .i64 x.f0, .int .i64 x.f1, .int .i64 x.f2.f0, .int .i64 x.f2.f1, .int .i64 x.f2.f2.f0, .int .i64 x.f2.f2.f1, .bool x.f2.f3, .int .i64 x.f3.f0, .int .i64 x.f3.f1, .int .i64 x.f3.f2.f0, .int .i64 x.f3.f2.f1, .bool x.f3.f3] n
  go_enter Tryz.func48, Tryz.ntmps48
  go_upto_region 1 with (fail)
  generalize (w.alloc (Obj.cells _ 43)).alloc (Obj.cells _ 3) = w0 at hT ⊢
  obtain ⟨g1, hg1⟩ : ∃ g, w.heap.size = g := ⟨_, rfl⟩
  obtain ⟨g3, hg3⟩ : ∃ g, g1 + 1 = g := ⟨_, rfl⟩
  rw [hg1, hg3] at hT ⊢
  clear hg1 hg3
  obtain ⟨i0, i1, i2, i3, i4, i5, i6, i7, i8, i9, i10, i11⟩ := cells12 hT.h1
  go_wp2_with fail
  refine (gC _).mono ?_
  rintro e w1 ⟨rfl, hb⟩
  replace hT := hT.below hb
  clear i0 i1 i2 i3 i4 i5 i6 i7 i8 i9 i10 i11 hb
  obtain ⟨i0, i1, i2, i3, i4, i5, i6, i7, i8, i9, i10, i11⟩ := cells12 hT.h1
  go_wp2_with fail
  refine (bC _).mono ?_
  rintro e w2 ⟨rfl, hb⟩
  replace hT := hT.below hb
  clear i0 i1 i2 i3 i4 i5 i6 i7 i8 i9 i10 i11 hb
  obtain ⟨i0, i1, i2, i3, i4, i5, i6, i7, i8, i9, i10, i11⟩ := cells12 hT.h1
  go_wp2_with fail
  refine (sC _).mono ?_
  rintro e w3 ⟨rfl, hb⟩
  replace hT := hT.below hb
  clear i0 i1 i2 i3 i4 i5 i6 i7 i8 i9 i10 i11 hb
  obtain ⟨i0, i1, i2, i3, i4, i5, i6, i7, i8, i9, i10, i11⟩ := cells12 hT.h1
  go_wp2_with fail
  refine (gC _).mono ?_
  rintro e w4 ⟨rfl, hb⟩
  replace hT := hT.below hb
  clear i0 i1 i2 i3 i4 i5 i6 i7 i8 i9 i10 i11 hb
  obtain ⟨i0, i1, i2, i3, i4, i5, i6, i7, i8, i9, i10, i11⟩ := cells12 hT.h1
  go_wp2_with fail
  refine (bC _).mono ?_
  rintro e w5 ⟨rfl, hb⟩
  replace hT := hT.below hb
  clear i0 i1 i2 i3 i4 i5 i6 i7 i8 i9 i10 i11 hb
  obtain ⟨i0, i1, i2, i3, i4, i5, i6, i7, i8, i9, i10, i11⟩ := cells12 hT.h1
  go_wp2_with fail
  refine (tC _).mono ?_
  rintro e w6 ⟨rfl, hb⟩
  replace hT := hT.below hb
  clear i0 i1 i2 i3 i4 i5 i6 i7 i8 i9 i10 i11 hb
  obtain ⟨i0, i1, i2, i3, i4, i5, i6, i7, i8, i9, i10, i11⟩ := cells12 hT.h1
  have hB := hT.bel
  go_wp2
  go_ret
  exact ⟨rfl, hB⟩
set_option maxRecDepth 100000 in
set_option maxHeartbeats 3200000 in
theorem ok_oneB2 (x : S43) (n : Int) (w : World) (hg : gB x.f0 = false) (hb : blB x.f0 = true) (hs : sizedB x.f0 x.f1 = true) (ht : twB x.f0 = false) (hz0 : (x.f3.f0 == 0) = true) (hz1 : (x.f3.f1 == 0) = true) (hz2 : (x.f3.f2.f0 == 0) = false) : Calls Tryz.prog 48 #[.agg #[.int .i64 x.f0, .int .i64 x.f1, .int .i64 x.f2.f0, .int .i64 x.f2.f1, .int .i64 x.f2.f2.f0, .int .i64 x.f2.f2.f1, .bool x.f2.f3, .int .i64 x.f3.f0, .int .i64 x.f3.f1, .int .i64 x.f3.f2.f0, .int .i64 x.f3.f2.f1, .bool x.f3.f3], .int .i64 n] w fun e w' => e = .returned (.bool (false)) ∧ Below w.heap.size w w' := by
  have hu48 := Tryz.underlying43
  have hu46 := Tryz.underlying41
  have hu44 := Tryz.underlying39
  have gC := gateC x
  have bC := blockC x
  have sC := sized_any x.f0 x.f1
  have tC := twC x
  rw [hg] at gC
  rw [hb] at bC
  rw [hs] at sC
  rw [ht] at tC
  clear hg hb hs ht
  have hT := Tw.two w #[.int .i64 x.f0, .int .i64 x.f1, .int .i64 x.f2.f0, .int .i64 x.f2.f1, .int .i64 x.f2.f2.f0, .int .i64 x.f2.f2.f1, .bool x.f2.f3, .int .i64 x.f3.f0, .int .i64 x.f3.f1, .int .i64 x.f3.f2.f0, .int .i64 x.f3.f2.f1, .bool x.f3.f3] n
  go_enter Tryz.func48, Tryz.ntmps48
  go_upto_region 1 with (fail)
  generalize (w.alloc (Obj.cells _ 43)).alloc (Obj.cells _ 3) = w0 at hT ⊢
  obtain ⟨g1, hg1⟩ : ∃ g, w.heap.size = g := ⟨_, rfl⟩
  obtain ⟨g3, hg3⟩ : ∃ g, g1 + 1 = g := ⟨_, rfl⟩
  rw [hg1, hg3] at hT ⊢
  clear hg1 hg3
  obtain ⟨i0, i1, i2, i3, i4, i5, i6, i7, i8, i9, i10, i11⟩ := cells12 hT.h1
  go_wp2_with fail
  refine (gC _).mono ?_
  rintro e w1 ⟨rfl, hb⟩
  replace hT := hT.below hb
  clear i0 i1 i2 i3 i4 i5 i6 i7 i8 i9 i10 i11 hb
  obtain ⟨i0, i1, i2, i3, i4, i5, i6, i7, i8, i9, i10, i11⟩ := cells12 hT.h1
  go_wp2_with fail
  refine (bC _).mono ?_
  rintro e w2 ⟨rfl, hb⟩
  replace hT := hT.below hb
  clear i0 i1 i2 i3 i4 i5 i6 i7 i8 i9 i10 i11 hb
  obtain ⟨i0, i1, i2, i3, i4, i5, i6, i7, i8, i9, i10, i11⟩ := cells12 hT.h1
  go_wp2_with fail
  refine (sC _).mono ?_
  rintro e w3 ⟨rfl, hb⟩
  replace hT := hT.below hb
  clear i0 i1 i2 i3 i4 i5 i6 i7 i8 i9 i10 i11 hb
  obtain ⟨i0, i1, i2, i3, i4, i5, i6, i7, i8, i9, i10, i11⟩ := cells12 hT.h1
  go_wp2_with fail
  refine (gC _).mono ?_
  rintro e w4 ⟨rfl, hb⟩
  replace hT := hT.below hb
  clear i0 i1 i2 i3 i4 i5 i6 i7 i8 i9 i10 i11 hb
  obtain ⟨i0, i1, i2, i3, i4, i5, i6, i7, i8, i9, i10, i11⟩ := cells12 hT.h1
  go_wp2_with fail
  refine (bC _).mono ?_
  rintro e w5 ⟨rfl, hb⟩
  replace hT := hT.below hb
  clear i0 i1 i2 i3 i4 i5 i6 i7 i8 i9 i10 i11 hb
  obtain ⟨i0, i1, i2, i3, i4, i5, i6, i7, i8, i9, i10, i11⟩ := cells12 hT.h1
  go_wp2_with fail
  refine (tC _).mono ?_
  rintro e w6 ⟨rfl, hb⟩
  replace hT := hT.below hb
  clear i0 i1 i2 i3 i4 i5 i6 i7 i8 i9 i10 i11 hb
  obtain ⟨i0, i1, i2, i3, i4, i5, i6, i7, i8, i9, i10, i11⟩ := cells12 hT.h1
  have hB := hT.bel
  go_wp2
  go_ret
  exact ⟨rfl, hB⟩
set_option maxRecDepth 100000 in
set_option maxHeartbeats 3200000 in
theorem ok_oneB3 (x : S43) (n : Int) (w : World) (hg : gB x.f0 = false) (hb : blB x.f0 = true) (hs : sizedB x.f0 x.f1 = true) (ht : twB x.f0 = false) (hz0 : (x.f3.f0 == 0) = true) (hz1 : (x.f3.f1 == 0) = true) (hz2 : (x.f3.f2.f0 == 0) = true) (hz3 : (x.f3.f2.f1 == 0) = false) : Calls Tryz.prog 48 #[.agg #[.int .i64 x.f0, .int .i64 x.f1, .int .i64 x.f2.f0, .int .i64 x.f2.f1, .int .i64 x.f2.f2.f0, .int .i64 x.f2.f2.f1, .bool x.f2.f3, .int .i64 x.f3.f0, .int .i64 x.f3.f1, .int .i64 x.f3.f2.f0, .int .i64 x.f3.f2.f1, .bool x.f3.f3], .int .i64 n] w fun e w' => e = .returned (.bool (false)) ∧ Below w.heap.size w w' := by
  have hu48 := Tryz.underlying43
  have hu46 := Tryz.underlying41
  have hu44 := Tryz.underlying39
  have gC := gateC x
  have bC := blockC x
  have sC := sized_any x.f0 x.f1
  have tC := twC x
  rw [hg] at gC
  rw [hb] at bC
  rw [hs] at sC
  rw [ht] at tC
  clear hg hb hs ht
  have hT := Tw.two w #[.int .i64 x.f0, .int .i64 x.f1, .int .i64 x.f2.f0, .int .i64 x.f2.f1, .int .i64 x.f2.f2.f0, .int .i64 x.f2.f2.f1, .bool x.f2.f3, .int .i64 x.f3.f0, .int .i64 x.f3.f1, .int .i64 x.f3.f2.f0, .int .i64 x.f3.f2.f1, .bool x.f3.f3] n
  go_enter Tryz.func48, Tryz.ntmps48
  go_upto_region 1 with (fail)
  generalize (w.alloc (Obj.cells _ 43)).alloc (Obj.cells _ 3) = w0 at hT ⊢
  obtain ⟨g1, hg1⟩ : ∃ g, w.heap.size = g := ⟨_, rfl⟩
  obtain ⟨g3, hg3⟩ : ∃ g, g1 + 1 = g := ⟨_, rfl⟩
  rw [hg1, hg3] at hT ⊢
  clear hg1 hg3
  obtain ⟨i0, i1, i2, i3, i4, i5, i6, i7, i8, i9, i10, i11⟩ := cells12 hT.h1
  go_wp2_with fail
  refine (gC _).mono ?_
  rintro e w1 ⟨rfl, hb⟩
  replace hT := hT.below hb
  clear i0 i1 i2 i3 i4 i5 i6 i7 i8 i9 i10 i11 hb
  obtain ⟨i0, i1, i2, i3, i4, i5, i6, i7, i8, i9, i10, i11⟩ := cells12 hT.h1
  go_wp2_with fail
  refine (bC _).mono ?_
  rintro e w2 ⟨rfl, hb⟩
  replace hT := hT.below hb
  clear i0 i1 i2 i3 i4 i5 i6 i7 i8 i9 i10 i11 hb
  obtain ⟨i0, i1, i2, i3, i4, i5, i6, i7, i8, i9, i10, i11⟩ := cells12 hT.h1
  go_wp2_with fail
  refine (sC _).mono ?_
  rintro e w3 ⟨rfl, hb⟩
  replace hT := hT.below hb
  clear i0 i1 i2 i3 i4 i5 i6 i7 i8 i9 i10 i11 hb
  obtain ⟨i0, i1, i2, i3, i4, i5, i6, i7, i8, i9, i10, i11⟩ := cells12 hT.h1
  go_wp2_with fail
  refine (gC _).mono ?_
  rintro e w4 ⟨rfl, hb⟩
  replace hT := hT.below hb
  clear i0 i1 i2 i3 i4 i5 i6 i7 i8 i9 i10 i11 hb
  obtain ⟨i0, i1, i2, i3, i4, i5, i6, i7, i8, i9, i10, i11⟩ := cells12 hT.h1
  go_wp2_with fail
  refine (bC _).mono ?_
  rintro e w5 ⟨rfl, hb⟩
  replace hT := hT.below hb
  clear i0 i1 i2 i3 i4 i5 i6 i7 i8 i9 i10 i11 hb
  obtain ⟨i0, i1, i2, i3, i4, i5, i6, i7, i8, i9, i10, i11⟩ := cells12 hT.h1
  go_wp2_with fail
  refine (tC _).mono ?_
  rintro e w6 ⟨rfl, hb⟩
  replace hT := hT.below hb
  clear i0 i1 i2 i3 i4 i5 i6 i7 i8 i9 i10 i11 hb
  obtain ⟨i0, i1, i2, i3, i4, i5, i6, i7, i8, i9, i10, i11⟩ := cells12 hT.h1
  have hB := hT.bel
  go_wp2
  go_ret
  exact ⟨rfl, hB⟩
set_option maxRecDepth 100000 in
set_option maxHeartbeats 3200000 in
theorem ok_oneB4 (x : S43) (n : Int) (w : World) (hg : gB x.f0 = false) (hb : blB x.f0 = true) (hs : sizedB x.f0 x.f1 = true) (ht : twB x.f0 = false) (hz0 : (x.f3.f0 == 0) = true) (hz1 : (x.f3.f1 == 0) = true) (hz2 : (x.f3.f2.f0 == 0) = true) (hz3 : (x.f3.f2.f1 == 0) = true) (hz4 : (x.f3.f3 == false) = false) : Calls Tryz.prog 48 #[.agg #[.int .i64 x.f0, .int .i64 x.f1, .int .i64 x.f2.f0, .int .i64 x.f2.f1, .int .i64 x.f2.f2.f0, .int .i64 x.f2.f2.f1, .bool x.f2.f3, .int .i64 x.f3.f0, .int .i64 x.f3.f1, .int .i64 x.f3.f2.f0, .int .i64 x.f3.f2.f1, .bool x.f3.f3], .int .i64 n] w fun e w' => e = .returned (.bool (false)) ∧ Below w.heap.size w w' := by
  have hu48 := Tryz.underlying43
  have hu46 := Tryz.underlying41
  have hu44 := Tryz.underlying39
  have gC := gateC x
  have bC := blockC x
  have sC := sized_any x.f0 x.f1
  have tC := twC x
  rw [hg] at gC
  rw [hb] at bC
  rw [hs] at sC
  rw [ht] at tC
  clear hg hb hs ht
  have hT := Tw.two w #[.int .i64 x.f0, .int .i64 x.f1, .int .i64 x.f2.f0, .int .i64 x.f2.f1, .int .i64 x.f2.f2.f0, .int .i64 x.f2.f2.f1, .bool x.f2.f3, .int .i64 x.f3.f0, .int .i64 x.f3.f1, .int .i64 x.f3.f2.f0, .int .i64 x.f3.f2.f1, .bool x.f3.f3] n
  go_enter Tryz.func48, Tryz.ntmps48
  go_upto_region 1 with (fail)
  generalize (w.alloc (Obj.cells _ 43)).alloc (Obj.cells _ 3) = w0 at hT ⊢
  obtain ⟨g1, hg1⟩ : ∃ g, w.heap.size = g := ⟨_, rfl⟩
  obtain ⟨g3, hg3⟩ : ∃ g, g1 + 1 = g := ⟨_, rfl⟩
  rw [hg1, hg3] at hT ⊢
  clear hg1 hg3
  obtain ⟨i0, i1, i2, i3, i4, i5, i6, i7, i8, i9, i10, i11⟩ := cells12 hT.h1
  go_wp2_with fail
  refine (gC _).mono ?_
  rintro e w1 ⟨rfl, hb⟩
  replace hT := hT.below hb
  clear i0 i1 i2 i3 i4 i5 i6 i7 i8 i9 i10 i11 hb
  obtain ⟨i0, i1, i2, i3, i4, i5, i6, i7, i8, i9, i10, i11⟩ := cells12 hT.h1
  go_wp2_with fail
  refine (bC _).mono ?_
  rintro e w2 ⟨rfl, hb⟩
  replace hT := hT.below hb
  clear i0 i1 i2 i3 i4 i5 i6 i7 i8 i9 i10 i11 hb
  obtain ⟨i0, i1, i2, i3, i4, i5, i6, i7, i8, i9, i10, i11⟩ := cells12 hT.h1
  go_wp2_with fail
  refine (sC _).mono ?_
  rintro e w3 ⟨rfl, hb⟩
  replace hT := hT.below hb
  clear i0 i1 i2 i3 i4 i5 i6 i7 i8 i9 i10 i11 hb
  obtain ⟨i0, i1, i2, i3, i4, i5, i6, i7, i8, i9, i10, i11⟩ := cells12 hT.h1
  go_wp2_with fail
  refine (gC _).mono ?_
  rintro e w4 ⟨rfl, hb⟩
  replace hT := hT.below hb
  clear i0 i1 i2 i3 i4 i5 i6 i7 i8 i9 i10 i11 hb
  obtain ⟨i0, i1, i2, i3, i4, i5, i6, i7, i8, i9, i10, i11⟩ := cells12 hT.h1
  go_wp2_with fail
  refine (bC _).mono ?_
  rintro e w5 ⟨rfl, hb⟩
  replace hT := hT.below hb
  clear i0 i1 i2 i3 i4 i5 i6 i7 i8 i9 i10 i11 hb
  obtain ⟨i0, i1, i2, i3, i4, i5, i6, i7, i8, i9, i10, i11⟩ := cells12 hT.h1
  go_wp2_with fail
  refine (tC _).mono ?_
  rintro e w6 ⟨rfl, hb⟩
  replace hT := hT.below hb
  clear i0 i1 i2 i3 i4 i5 i6 i7 i8 i9 i10 i11 hb
  obtain ⟨i0, i1, i2, i3, i4, i5, i6, i7, i8, i9, i10, i11⟩ := cells12 hT.h1
  have hB := hT.bel
  go_wp2
  go_ret
  exact ⟨rfl, hB⟩
set_option maxRecDepth 100000 in
set_option maxHeartbeats 3200000 in
theorem ok_one (x : S43) (n : Int) (w : World) (hg : gB x.f0 = false) (hb : blB x.f0 = true) (hs : sizedB x.f0 x.f1 = true) (ht : twB x.f0 = false) (hz0 : (x.f3.f0 == 0) = true) (hz1 : (x.f3.f1 == 0) = true) (hz2 : (x.f3.f2.f0 == 0) = true) (hz3 : (x.f3.f2.f1 == 0) = true) (hz4 : (x.f3.f3 == false) = true) : Calls Tryz.prog 48 #[.agg #[.int .i64 x.f0, .int .i64 x.f1, .int .i64 x.f2.f0, .int .i64 x.f2.f1, .int .i64 x.f2.f2.f0, .int .i64 x.f2.f2.f1, .bool x.f2.f3, .int .i64 x.f3.f0, .int .i64 x.f3.f1, .int .i64 x.f3.f2.f0, .int .i64 x.f3.f2.f1, .bool x.f3.f3], .int .i64 n] w fun e w' => e = .returned (.bool (!((insL x).any fun s => !(sOkS s n)))) ∧ Below w.heap.size w w' := by
  have hu48 := Tryz.underlying43
  have hu46 := Tryz.underlying41
  have hu44 := Tryz.underlying39
  have gC := gateC x
  have bC := blockC x
  have sC := sized_any x.f0 x.f1
  have tC := twC x
  rw [hg] at gC
  rw [hb] at bC
  rw [hs] at sC
  rw [ht] at tC
  clear hg hb hs ht
  have iC := insC x
  have cC := fun (g : Nat) W (h : W.heap[g]? = some (.cells #[.int .i64 n] 3 (0, 0))) P pp h1 h2 => contains41 g 3 #[.int .i64 n] (fun s => !(sOkS s n)) (insL x) P pp W h h1 h2 (fun y W' h' => clo63 y n _ W' h')
  generalize insL x = m at iC cC ⊢
  generalize (m.any fun s => !(sOkS s n)) = r at cC ⊢
  have hT := Tw.two w #[.int .i64 x.f0, .int .i64 x.f1, .int .i64 x.f2.f0, .int .i64 x.f2.f1, .int .i64 x.f2.f2.f0, .int .i64 x.f2.f2.f1, .bool x.f2.f3, .int .i64 x.f3.f0, .int .i64 x.f3.f1, .int .i64 x.f3.f2.f0, .int .i64 x.f3.f2.f1, .bool x.f3.f3] n
  go_enter Tryz.func48, Tryz.ntmps48
  go_upto_region 1 with (fail)
  generalize (w.alloc (Obj.cells _ 43)).alloc (Obj.cells _ 3) = w0 at hT ⊢
  obtain ⟨g1, hg1⟩ : ∃ g, w.heap.size = g := ⟨_, rfl⟩
  obtain ⟨g3, hg3⟩ : ∃ g, g1 + 1 = g := ⟨_, rfl⟩
  rw [hg1, hg3] at hT ⊢
  clear hg1 hg3
  obtain ⟨i0, i1, i2, i3, i4, i5, i6, i7, i8, i9, i10, i11⟩ := cells12 hT.h1
  go_wp2_with fail
  refine (gC _).mono ?_
  rintro e w1 ⟨rfl, hb⟩
  replace hT := hT.below hb
  clear i0 i1 i2 i3 i4 i5 i6 i7 i8 i9 i10 i11 hb
  obtain ⟨i0, i1, i2, i3, i4, i5, i6, i7, i8, i9, i10, i11⟩ := cells12 hT.h1
  go_wp2_with fail
  refine (bC _).mono ?_
  rintro e w2 ⟨rfl, hb⟩
  replace hT := hT.below hb
  clear i0 i1 i2 i3 i4 i5 i6 i7 i8 i9 i10 i11 hb
  obtain ⟨i0, i1, i2, i3, i4, i5, i6, i7, i8, i9, i10, i11⟩ := cells12 hT.h1
  go_wp2_with fail
  refine (sC _).mono ?_
  rintro e w3 ⟨rfl, hb⟩
  replace hT := hT.below hb
  clear i0 i1 i2 i3 i4 i5 i6 i7 i8 i9 i10 i11 hb
  obtain ⟨i0, i1, i2, i3, i4, i5, i6, i7, i8, i9, i10, i11⟩ := cells12 hT.h1
  go_wp2_with fail
  refine (gC _).mono ?_
  rintro e w4 ⟨rfl, hb⟩
  replace hT := hT.below hb
  clear i0 i1 i2 i3 i4 i5 i6 i7 i8 i9 i10 i11 hb
  obtain ⟨i0, i1, i2, i3, i4, i5, i6, i7, i8, i9, i10, i11⟩ := cells12 hT.h1
  go_wp2_with fail
  refine (bC _).mono ?_
  rintro e w5 ⟨rfl, hb⟩
  replace hT := hT.below hb
  clear i0 i1 i2 i3 i4 i5 i6 i7 i8 i9 i10 i11 hb
  obtain ⟨i0, i1, i2, i3, i4, i5, i6, i7, i8, i9, i10, i11⟩ := cells12 hT.h1
  go_wp2_with fail
  refine (tC _).mono ?_
  rintro e w6 ⟨rfl, hb⟩
  replace hT := hT.below hb
  clear i0 i1 i2 i3 i4 i5 i6 i7 i8 i9 i10 i11 hb
  obtain ⟨i0, i1, i2, i3, i4, i5, i6, i7, i8, i9, i10, i11⟩ := cells12 hT.h1
  go_wp2_with fail
  refine (iC _).mono ?_
  rintro e w7 ⟨P, pp, rfl, hp, hC, hb⟩
  replace hT := hT.below hb
  clear i0 i1 i2 i3 i4 i5 i6 i7 i8 i9 i10 i11 hb
  have hC0 := cC g3 _ hT.h3 P pp hp hC
  clear hC
  go_wp2_with fail
  refine hC0.mono ?_
  rintro e w8 ⟨rfl, hb⟩
  replace hT := hT.below hb
  clear hb hC0 cC
  have hB := hT.bel
  go_wp2
  go_ret
  exact ⟨rfl, hB⟩
theorem wire_ok (x : S43) (n : Int) (w : World) : Calls Tryz.prog 48 #[.agg #[.int .i64 x.f0, .int .i64 x.f1, .int .i64 x.f2.f0, .int .i64 x.f2.f1, .int .i64 x.f2.f2.f0, .int .i64 x.f2.f2.f1, .bool x.f2.f3, .int .i64 x.f3.f0, .int .i64 x.f3.f1, .int .i64 x.f3.f2.f0, .int .i64 x.f3.f2.f1, .bool x.f3.f3], .int .i64 n] w fun e w' => e = .returned (.bool (wOk x n)) ∧ Below w.heap.size w w' := by
  cases hg : gB x.f0 with
  | true =>
    have hb : blB x.f0 = false := by
      unfold gB at hg; unfold blB
      simp only [Bool.and_eq_true, decide_eq_true_eq] at hg
      rw [dF_ (by omega : ¬ x.f0 ≤ 5), Bool.and_false]
    have ht : twB x.f0 = true := by unfold twB; rw [hg]; rfl
    cases hn : (x.f1 != 0) with
    | true =>
      have e : wOk x n = false := by unfold wOk; rw [hg, hn]; rfl
      rw [e]; exact ok_gn x n w hg hn
    | false =>
      have e : wOk x n = !((insL x).any fun s => !(sOkS s n)) := by unfold wOk; rw [hg, hb, hn, ht]; simp
      rw [e]; exact ok_gate x n w hg hb hn ht
  | false =>
    cases hb : blB x.f0 with
    | false =>
      have e : wOk x n = false := by unfold wOk; rw [hg, hb]; simp
      rw [e]; exact ok_none x n w hg hb
    | true =>
      cases hs : sizedB x.f0 x.f1 with
      | false =>
        have e : wOk x n = false := by unfold wOk; rw [hg, hb, hs]; simp
        rw [e]; exact ok_unsized x n w hg hb hs
      | true =>
        cases ht : twB x.f0 with
        | true =>
          have e : wOk x n = !((insL x).any fun s => !(sOkS s n)) := by unfold wOk; rw [hg, hb, hs, ht]; simp
          rw [e]; exact ok_two x n w hg hb hs ht
        | false =>
          cases hz : z46B x.f3 with
          | true =>
            have e : wOk x n = !((insL x).any fun s => !(sOkS s n)) := by unfold wOk; rw [hg, hb, hs, ht, hz]; simp
            rw [e]
            unfold z46B at hz
            simp only [Bool.and_eq_true] at hz
            exact ok_one x n w hg hb hs ht hz.1 hz.2.1 hz.2.2.1.1 hz.2.2.1.2 hz.2.2.2
          | false =>
            have e : wOk x n = false := by unfold wOk; rw [hg, hb, hs, ht, hz]; simp
            rw [e]
            unfold z46B at hz
            cases h0 : (x.f3.f0 == 0) with
            | false => exact ok_oneB0 x n w hg hb hs ht h0
            | true =>
              cases h1 : (x.f3.f1 == 0) with
              | false => exact ok_oneB1 x n w hg hb hs ht h0 h1
              | true =>
                cases h2 : (x.f3.f2.f0 == 0) with
                | false => exact ok_oneB2 x n w hg hb hs ht h0 h1 h2
                | true =>
                  cases h3 : (x.f3.f2.f1 == 0) with
                  | false => exact ok_oneB3 x n w hg hb hs ht h0 h1 h2 h3
                  | true =>
                    cases h4 : (x.f3.f3 == false) with
                    | false => exact ok_oneB4 x n w hg hb hs ht h0 h1 h2 h3 h4
                    | true => rw [h0, h1, h2, h3, h4] at hz; cases hz
end Go.Proofs.YtphblfmjdiigkaaGreatDoor.Hu4
