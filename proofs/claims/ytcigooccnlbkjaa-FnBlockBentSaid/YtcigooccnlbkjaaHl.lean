/- The walk of the reference's step of a block, over what it calls by kind. No condition. -/
import Derived.Test.YtcigooccnlbkjaaProg
import Derived.Test.YtcigooccnlbkjaaWMore
import Derived.WalkKit
import Derived.KernelRfl
import Derived.Deep.DeepCutAuto
import Derived.Deep.CutBlock
namespace Go.Proofs.Ytcigooccnlbkjaa.Hl
open Go.RowKit Go.Proofs.YtcigooccnlbkjaaW.PrintWords Go.Proofs.YtcigooccnlbkjaaW.PrintLast Go.Proofs.YtcigooccnlbkjaaW.PrintMore
set_option linter.unusedVariables false
set_option linter.unusedSimpArgs false
def B2 (w : World) (c r : Array Value) (W : World) : Prop := W.heap[w.heap.size]? = some (.cells c 25 (0, 0)) ∧ W.heap[w.heap.size + 1]? = some (.cells r 25 (0, 0)) ∧ Below w.heap.size w W
theorem B2.below {w W W' : World} {c r : Array Value} (h : B2 w c r W) (hb : Below W.heap.size W W') : B2 w c r W' := ⟨blk_below h.1 hb, blk_below h.2.1 hb, h.2.2.trans (hb.mono h.2.2.size)⟩
set_option maxRecDepth 100000 in
set_option maxHeartbeats 3200000 in
theorem l6step1 (n t dt : Int) (o s x y : Bool) (r1 r2 : Int) (r3 r4 : Bool) (r5 : Int) (w : World) (hc : ∀ W, Calls Try.prog 77 #[.agg #[.int .i64 1, .int .i64 n, .bool o, .bool s, .int .i64 t], .bool x, .int .i64 dt] W fun e w' => e = .returned (.agg #[.int .i64 r1, .int .i64 r2, .bool r3, .bool r4, .int .i64 r5]) ∧ Below W.heap.size W w') :
    Calls Try.prog 71 #[.agg #[.int .i64 1, .int .i64 n, .bool o, .bool s, .int .i64 t], .bool x, .bool y, .int .i64 dt] w fun e w' => e = .returned (.agg #[.int .i64 r1, .int .i64 r2, .bool r3, .bool x, .int .i64 r5]) ∧ Below w.heap.size w w' := by
  have hu := Try.underlying25
  go_enter Try.func71, Try.ntmps71
  go_wp2_with fail
  refine (hc _).mono ?_
  rintro e w' ⟨rfl, hb⟩
  have hB : B2 w #[.int .i64 1, .int .i64 n, .bool o, .bool s, .int .i64 t] #[.int .i64 0, .int .i64 0, .bool false, .bool false, .int .i64 0] w' := by
    refine B2.below ⟨?_, ?_, ?_⟩ hb
    · exact blk_alloc (heap_alloc_new w _) _
    · have e := heap_alloc_new (w.alloc (.cells #[.int .i64 1, .int .i64 n, .bool o, .bool s, .int .i64 t] 25)) (.cells #[.int .i64 0, .int .i64 0, .bool false, .bool false, .int .i64 0] 25)
      simpa using e
    · exact ((Below.refl _ _).alloc (Nat.le_refl _) _).alloc (by simp) _
  clear hb hc
  have e0 : w'.cell? ⟨w.heap.size, 0, none⟩ = some (.int .i64 1) := (blk_cell hB.1 0).trans rfl
  have f0 := blk_frozen hB.1 0
  have i0 : w'.cell? ⟨w.heap.size + 1, 0, none⟩ = some (.int .i64 0) := (blk_cell hB.2.1 0).trans rfl
  have j0 := blk_frozen hB.2.1 0
  have e1 : w'.cell? ⟨w.heap.size, 1, none⟩ = some (.int .i64 n) := (blk_cell hB.1 1).trans rfl
  have f1 := blk_frozen hB.1 1
  have i1 : w'.cell? ⟨w.heap.size + 1, 1, none⟩ = some (.int .i64 0) := (blk_cell hB.2.1 1).trans rfl
  have j1 := blk_frozen hB.2.1 1
  have e2 : w'.cell? ⟨w.heap.size, 2, none⟩ = some (.bool o) := (blk_cell hB.1 2).trans rfl
  have f2 := blk_frozen hB.1 2
  have i2 : w'.cell? ⟨w.heap.size + 1, 2, none⟩ = some (.bool false) := (blk_cell hB.2.1 2).trans rfl
  have j2 := blk_frozen hB.2.1 2
  have e3 : w'.cell? ⟨w.heap.size, 3, none⟩ = some (.bool s) := (blk_cell hB.1 3).trans rfl
  have f3 := blk_frozen hB.1 3
  have i3 : w'.cell? ⟨w.heap.size + 1, 3, none⟩ = some (.bool false) := (blk_cell hB.2.1 3).trans rfl
  have j3 := blk_frozen hB.2.1 3
  have e4 : w'.cell? ⟨w.heap.size, 4, none⟩ = some (.int .i64 t) := (blk_cell hB.1 4).trans rfl
  have f4 := blk_frozen hB.1 4
  have i4 : w'.cell? ⟨w.heap.size + 1, 4, none⟩ = some (.int .i64 0) := (blk_cell hB.2.1 4).trans rfl
  have j4 := blk_frozen hB.2.1 4
  go_upto_region 11 with fail
  have hB1 : B2 w #[.int .i64 r1, .int .i64 r2, .bool r3, .bool r4, .int .i64 r5] #[.int .i64 0, .int .i64 0, .bool false, .bool false, .int .i64 0] (((((w'.setCell ⟨w.heap.size, 0, none⟩ (.int .i64 r1)).setCell ⟨w.heap.size, 1, none⟩ (.int .i64 r2)).setCell ⟨w.heap.size, 2, none⟩ (.bool r3)).setCell ⟨w.heap.size, 3, none⟩ (.bool r4)).setCell ⟨w.heap.size, 4, none⟩ (.int .i64 r5)) := ⟨(blk_put (blk_put (blk_put (blk_put (blk_put hB.1 0 _ rfl) 1 _ rfl) 2 _ rfl) 3 _ rfl) 4 _ rfl), (blk_far (blk_far (blk_far (blk_far (blk_far hB.2.1 (by simp) _) (by simp) _) (by simp) _) (by simp) _) (by simp) _), (below_set (below_set (below_set (below_set (below_set hB.2.2 (by omega)) (by omega)) (by omega)) (by omega)) (by omega))⟩
  clear hB e0 f0 i0 j0 e1 f1 i1 j1 e2 f2 i2 j2 e3 f3 i3 j3 e4 f4 i4 j4
  generalize (((((w'.setCell ⟨w.heap.size, 0, none⟩ (.int .i64 r1)).setCell ⟨w.heap.size, 1, none⟩ (.int .i64 r2)).setCell ⟨w.heap.size, 2, none⟩ (.bool r3)).setCell ⟨w.heap.size, 3, none⟩ (.bool r4)).setCell ⟨w.heap.size, 4, none⟩ (.int .i64 r5)) = w1 at hB1 ⊢
  have e3 : w1.cell? ⟨w.heap.size, 3, none⟩ = some (.bool r4) := (blk_cell hB1.1 3).trans rfl
  have f3 := blk_frozen hB1.1 3
  go_upto_region 12 with fail
  have hB2 : B2 w #[.int .i64 r1, .int .i64 r2, .bool r3, .bool x, .int .i64 r5] #[.int .i64 0, .int .i64 0, .bool false, .bool false, .int .i64 0] (w1.setCell ⟨w.heap.size, 3, none⟩ (.bool x)) := ⟨blk_put hB1.1 3 _ rfl, blk_far hB1.2.1 (by simp) _, below_set hB1.2.2 (by omega)⟩
  clear hB1 e3 f3
  generalize w1.setCell ⟨w.heap.size, 3, none⟩ (.bool x) = w2 at hB2 ⊢
  have e0 : w2.cell? ⟨w.heap.size, 0, none⟩ = some (.int .i64 r1) := (blk_cell hB2.1 0).trans rfl
  have i0 : w2.cell? ⟨w.heap.size + 1, 0, none⟩ = some (.int .i64 0) := (blk_cell hB2.2.1 0).trans rfl
  have j0 := blk_frozen hB2.2.1 0
  have e1 : w2.cell? ⟨w.heap.size, 1, none⟩ = some (.int .i64 r2) := (blk_cell hB2.1 1).trans rfl
  have i1 : w2.cell? ⟨w.heap.size + 1, 1, none⟩ = some (.int .i64 0) := (blk_cell hB2.2.1 1).trans rfl
  have j1 := blk_frozen hB2.2.1 1
  have e2 : w2.cell? ⟨w.heap.size, 2, none⟩ = some (.bool r3) := (blk_cell hB2.1 2).trans rfl
  have i2 : w2.cell? ⟨w.heap.size + 1, 2, none⟩ = some (.bool false) := (blk_cell hB2.2.1 2).trans rfl
  have j2 := blk_frozen hB2.2.1 2
  have e3 : w2.cell? ⟨w.heap.size, 3, none⟩ = some (.bool x) := (blk_cell hB2.1 3).trans rfl
  have i3 : w2.cell? ⟨w.heap.size + 1, 3, none⟩ = some (.bool false) := (blk_cell hB2.2.1 3).trans rfl
  have j3 := blk_frozen hB2.2.1 3
  have e4 : w2.cell? ⟨w.heap.size, 4, none⟩ = some (.int .i64 r5) := (blk_cell hB2.1 4).trans rfl
  have i4 : w2.cell? ⟨w.heap.size + 1, 4, none⟩ = some (.int .i64 0) := (blk_cell hB2.2.1 4).trans rfl
  have j4 := blk_frozen hB2.2.1 4
  go_wp2
  exact bodyPost_ret (results_cell_row rfl _ _ (w.heap.size + 1) 25 #[.int .i64 r1, .int .i64 r2, .bool r3, .bool x, .int .i64 r5] (0, 0) _ rfl (blk_put (blk_put (blk_put (blk_put (blk_put hB2.2.1 0 _ rfl) 1 _ rfl) 2 _ rfl) 3 _ rfl) 4 _ rfl) Try.underlying25 rfl (by kernel_rfl)) rfl ⟨rfl, (below_set (below_set (below_set (below_set (below_set hB2.2.2 (by omega)) (by omega)) (by omega)) (by omega)) (by omega))⟩
set_option maxRecDepth 100000 in
set_option maxHeartbeats 3200000 in
theorem l6step2 (n t dt : Int) (o s x y : Bool) (r1 r2 : Int) (r3 r4 : Bool) (r5 : Int) (w : World) (hc : ∀ W, Calls Try.prog 78 #[.agg #[.int .i64 2, .int .i64 n, .bool o, .bool s, .int .i64 t], .bool x, .int .i64 dt] W fun e w' => e = .returned (.agg #[.int .i64 r1, .int .i64 r2, .bool r3, .bool r4, .int .i64 r5]) ∧ Below W.heap.size W w') :
    Calls Try.prog 71 #[.agg #[.int .i64 2, .int .i64 n, .bool o, .bool s, .int .i64 t], .bool x, .bool y, .int .i64 dt] w fun e w' => e = .returned (.agg #[.int .i64 r1, .int .i64 r2, .bool r3, .bool x, .int .i64 r5]) ∧ Below w.heap.size w w' := by
  have hu := Try.underlying25
  go_enter Try.func71, Try.ntmps71
  go_wp2_with fail
  refine (hc _).mono ?_
  rintro e w' ⟨rfl, hb⟩
  have hB : B2 w #[.int .i64 2, .int .i64 n, .bool o, .bool s, .int .i64 t] #[.int .i64 0, .int .i64 0, .bool false, .bool false, .int .i64 0] w' := by
    refine B2.below ⟨?_, ?_, ?_⟩ hb
    · exact blk_alloc (heap_alloc_new w _) _
    · have e := heap_alloc_new (w.alloc (.cells #[.int .i64 2, .int .i64 n, .bool o, .bool s, .int .i64 t] 25)) (.cells #[.int .i64 0, .int .i64 0, .bool false, .bool false, .int .i64 0] 25)
      simpa using e
    · exact ((Below.refl _ _).alloc (Nat.le_refl _) _).alloc (by simp) _
  clear hb hc
  have e0 : w'.cell? ⟨w.heap.size, 0, none⟩ = some (.int .i64 2) := (blk_cell hB.1 0).trans rfl
  have f0 := blk_frozen hB.1 0
  have i0 : w'.cell? ⟨w.heap.size + 1, 0, none⟩ = some (.int .i64 0) := (blk_cell hB.2.1 0).trans rfl
  have j0 := blk_frozen hB.2.1 0
  have e1 : w'.cell? ⟨w.heap.size, 1, none⟩ = some (.int .i64 n) := (blk_cell hB.1 1).trans rfl
  have f1 := blk_frozen hB.1 1
  have i1 : w'.cell? ⟨w.heap.size + 1, 1, none⟩ = some (.int .i64 0) := (blk_cell hB.2.1 1).trans rfl
  have j1 := blk_frozen hB.2.1 1
  have e2 : w'.cell? ⟨w.heap.size, 2, none⟩ = some (.bool o) := (blk_cell hB.1 2).trans rfl
  have f2 := blk_frozen hB.1 2
  have i2 : w'.cell? ⟨w.heap.size + 1, 2, none⟩ = some (.bool false) := (blk_cell hB.2.1 2).trans rfl
  have j2 := blk_frozen hB.2.1 2
  have e3 : w'.cell? ⟨w.heap.size, 3, none⟩ = some (.bool s) := (blk_cell hB.1 3).trans rfl
  have f3 := blk_frozen hB.1 3
  have i3 : w'.cell? ⟨w.heap.size + 1, 3, none⟩ = some (.bool false) := (blk_cell hB.2.1 3).trans rfl
  have j3 := blk_frozen hB.2.1 3
  have e4 : w'.cell? ⟨w.heap.size, 4, none⟩ = some (.int .i64 t) := (blk_cell hB.1 4).trans rfl
  have f4 := blk_frozen hB.1 4
  have i4 : w'.cell? ⟨w.heap.size + 1, 4, none⟩ = some (.int .i64 0) := (blk_cell hB.2.1 4).trans rfl
  have j4 := blk_frozen hB.2.1 4
  go_upto_region 11 with fail
  have hB1 : B2 w #[.int .i64 r1, .int .i64 r2, .bool r3, .bool r4, .int .i64 r5] #[.int .i64 0, .int .i64 0, .bool false, .bool false, .int .i64 0] (((((w'.setCell ⟨w.heap.size, 0, none⟩ (.int .i64 r1)).setCell ⟨w.heap.size, 1, none⟩ (.int .i64 r2)).setCell ⟨w.heap.size, 2, none⟩ (.bool r3)).setCell ⟨w.heap.size, 3, none⟩ (.bool r4)).setCell ⟨w.heap.size, 4, none⟩ (.int .i64 r5)) := ⟨(blk_put (blk_put (blk_put (blk_put (blk_put hB.1 0 _ rfl) 1 _ rfl) 2 _ rfl) 3 _ rfl) 4 _ rfl), (blk_far (blk_far (blk_far (blk_far (blk_far hB.2.1 (by simp) _) (by simp) _) (by simp) _) (by simp) _) (by simp) _), (below_set (below_set (below_set (below_set (below_set hB.2.2 (by omega)) (by omega)) (by omega)) (by omega)) (by omega))⟩
  clear hB e0 f0 i0 j0 e1 f1 i1 j1 e2 f2 i2 j2 e3 f3 i3 j3 e4 f4 i4 j4
  generalize (((((w'.setCell ⟨w.heap.size, 0, none⟩ (.int .i64 r1)).setCell ⟨w.heap.size, 1, none⟩ (.int .i64 r2)).setCell ⟨w.heap.size, 2, none⟩ (.bool r3)).setCell ⟨w.heap.size, 3, none⟩ (.bool r4)).setCell ⟨w.heap.size, 4, none⟩ (.int .i64 r5)) = w1 at hB1 ⊢
  have e3 : w1.cell? ⟨w.heap.size, 3, none⟩ = some (.bool r4) := (blk_cell hB1.1 3).trans rfl
  have f3 := blk_frozen hB1.1 3
  go_upto_region 12 with fail
  have hB2 : B2 w #[.int .i64 r1, .int .i64 r2, .bool r3, .bool x, .int .i64 r5] #[.int .i64 0, .int .i64 0, .bool false, .bool false, .int .i64 0] (w1.setCell ⟨w.heap.size, 3, none⟩ (.bool x)) := ⟨blk_put hB1.1 3 _ rfl, blk_far hB1.2.1 (by simp) _, below_set hB1.2.2 (by omega)⟩
  clear hB1 e3 f3
  generalize w1.setCell ⟨w.heap.size, 3, none⟩ (.bool x) = w2 at hB2 ⊢
  have e0 : w2.cell? ⟨w.heap.size, 0, none⟩ = some (.int .i64 r1) := (blk_cell hB2.1 0).trans rfl
  have i0 : w2.cell? ⟨w.heap.size + 1, 0, none⟩ = some (.int .i64 0) := (blk_cell hB2.2.1 0).trans rfl
  have j0 := blk_frozen hB2.2.1 0
  have e1 : w2.cell? ⟨w.heap.size, 1, none⟩ = some (.int .i64 r2) := (blk_cell hB2.1 1).trans rfl
  have i1 : w2.cell? ⟨w.heap.size + 1, 1, none⟩ = some (.int .i64 0) := (blk_cell hB2.2.1 1).trans rfl
  have j1 := blk_frozen hB2.2.1 1
  have e2 : w2.cell? ⟨w.heap.size, 2, none⟩ = some (.bool r3) := (blk_cell hB2.1 2).trans rfl
  have i2 : w2.cell? ⟨w.heap.size + 1, 2, none⟩ = some (.bool false) := (blk_cell hB2.2.1 2).trans rfl
  have j2 := blk_frozen hB2.2.1 2
  have e3 : w2.cell? ⟨w.heap.size, 3, none⟩ = some (.bool x) := (blk_cell hB2.1 3).trans rfl
  have i3 : w2.cell? ⟨w.heap.size + 1, 3, none⟩ = some (.bool false) := (blk_cell hB2.2.1 3).trans rfl
  have j3 := blk_frozen hB2.2.1 3
  have e4 : w2.cell? ⟨w.heap.size, 4, none⟩ = some (.int .i64 r5) := (blk_cell hB2.1 4).trans rfl
  have i4 : w2.cell? ⟨w.heap.size + 1, 4, none⟩ = some (.int .i64 0) := (blk_cell hB2.2.1 4).trans rfl
  have j4 := blk_frozen hB2.2.1 4
  go_wp2
  exact bodyPost_ret (results_cell_row rfl _ _ (w.heap.size + 1) 25 #[.int .i64 r1, .int .i64 r2, .bool r3, .bool x, .int .i64 r5] (0, 0) _ rfl (blk_put (blk_put (blk_put (blk_put (blk_put hB2.2.1 0 _ rfl) 1 _ rfl) 2 _ rfl) 3 _ rfl) 4 _ rfl) Try.underlying25 rfl (by kernel_rfl)) rfl ⟨rfl, (below_set (below_set (below_set (below_set (below_set hB2.2.2 (by omega)) (by omega)) (by omega)) (by omega)) (by omega))⟩
set_option maxRecDepth 100000 in
set_option maxHeartbeats 3200000 in
theorem l6step3 (n t dt : Int) (o s x y : Bool) (r1 r2 : Int) (r3 r4 : Bool) (r5 : Int) (w : World) (hc : ∀ W, Calls Try.prog 79 #[.agg #[.int .i64 3, .int .i64 n, .bool o, .bool s, .int .i64 t], .bool x, .bool y] W fun e w' => e = .returned (.agg #[.int .i64 r1, .int .i64 r2, .bool r3, .bool r4, .int .i64 r5]) ∧ Below W.heap.size W w') :
    Calls Try.prog 71 #[.agg #[.int .i64 3, .int .i64 n, .bool o, .bool s, .int .i64 t], .bool x, .bool y, .int .i64 dt] w fun e w' => e = .returned (.agg #[.int .i64 r1, .int .i64 r2, .bool r3, .bool x, .int .i64 r5]) ∧ Below w.heap.size w w' := by
  have hu := Try.underlying25
  go_enter Try.func71, Try.ntmps71
  go_wp2_with fail
  refine (hc _).mono ?_
  rintro e w' ⟨rfl, hb⟩
  have hB : B2 w #[.int .i64 3, .int .i64 n, .bool o, .bool s, .int .i64 t] #[.int .i64 0, .int .i64 0, .bool false, .bool false, .int .i64 0] w' := by
    refine B2.below ⟨?_, ?_, ?_⟩ hb
    · exact blk_alloc (heap_alloc_new w _) _
    · have e := heap_alloc_new (w.alloc (.cells #[.int .i64 3, .int .i64 n, .bool o, .bool s, .int .i64 t] 25)) (.cells #[.int .i64 0, .int .i64 0, .bool false, .bool false, .int .i64 0] 25)
      simpa using e
    · exact ((Below.refl _ _).alloc (Nat.le_refl _) _).alloc (by simp) _
  clear hb hc
  have e0 : w'.cell? ⟨w.heap.size, 0, none⟩ = some (.int .i64 3) := (blk_cell hB.1 0).trans rfl
  have f0 := blk_frozen hB.1 0
  have i0 : w'.cell? ⟨w.heap.size + 1, 0, none⟩ = some (.int .i64 0) := (blk_cell hB.2.1 0).trans rfl
  have j0 := blk_frozen hB.2.1 0
  have e1 : w'.cell? ⟨w.heap.size, 1, none⟩ = some (.int .i64 n) := (blk_cell hB.1 1).trans rfl
  have f1 := blk_frozen hB.1 1
  have i1 : w'.cell? ⟨w.heap.size + 1, 1, none⟩ = some (.int .i64 0) := (blk_cell hB.2.1 1).trans rfl
  have j1 := blk_frozen hB.2.1 1
  have e2 : w'.cell? ⟨w.heap.size, 2, none⟩ = some (.bool o) := (blk_cell hB.1 2).trans rfl
  have f2 := blk_frozen hB.1 2
  have i2 : w'.cell? ⟨w.heap.size + 1, 2, none⟩ = some (.bool false) := (blk_cell hB.2.1 2).trans rfl
  have j2 := blk_frozen hB.2.1 2
  have e3 : w'.cell? ⟨w.heap.size, 3, none⟩ = some (.bool s) := (blk_cell hB.1 3).trans rfl
  have f3 := blk_frozen hB.1 3
  have i3 : w'.cell? ⟨w.heap.size + 1, 3, none⟩ = some (.bool false) := (blk_cell hB.2.1 3).trans rfl
  have j3 := blk_frozen hB.2.1 3
  have e4 : w'.cell? ⟨w.heap.size, 4, none⟩ = some (.int .i64 t) := (blk_cell hB.1 4).trans rfl
  have f4 := blk_frozen hB.1 4
  have i4 : w'.cell? ⟨w.heap.size + 1, 4, none⟩ = some (.int .i64 0) := (blk_cell hB.2.1 4).trans rfl
  have j4 := blk_frozen hB.2.1 4
  go_upto_region 11 with fail
  have hB1 : B2 w #[.int .i64 r1, .int .i64 r2, .bool r3, .bool r4, .int .i64 r5] #[.int .i64 0, .int .i64 0, .bool false, .bool false, .int .i64 0] (((((w'.setCell ⟨w.heap.size, 0, none⟩ (.int .i64 r1)).setCell ⟨w.heap.size, 1, none⟩ (.int .i64 r2)).setCell ⟨w.heap.size, 2, none⟩ (.bool r3)).setCell ⟨w.heap.size, 3, none⟩ (.bool r4)).setCell ⟨w.heap.size, 4, none⟩ (.int .i64 r5)) := ⟨(blk_put (blk_put (blk_put (blk_put (blk_put hB.1 0 _ rfl) 1 _ rfl) 2 _ rfl) 3 _ rfl) 4 _ rfl), (blk_far (blk_far (blk_far (blk_far (blk_far hB.2.1 (by simp) _) (by simp) _) (by simp) _) (by simp) _) (by simp) _), (below_set (below_set (below_set (below_set (below_set hB.2.2 (by omega)) (by omega)) (by omega)) (by omega)) (by omega))⟩
  clear hB e0 f0 i0 j0 e1 f1 i1 j1 e2 f2 i2 j2 e3 f3 i3 j3 e4 f4 i4 j4
  generalize (((((w'.setCell ⟨w.heap.size, 0, none⟩ (.int .i64 r1)).setCell ⟨w.heap.size, 1, none⟩ (.int .i64 r2)).setCell ⟨w.heap.size, 2, none⟩ (.bool r3)).setCell ⟨w.heap.size, 3, none⟩ (.bool r4)).setCell ⟨w.heap.size, 4, none⟩ (.int .i64 r5)) = w1 at hB1 ⊢
  have e3 : w1.cell? ⟨w.heap.size, 3, none⟩ = some (.bool r4) := (blk_cell hB1.1 3).trans rfl
  have f3 := blk_frozen hB1.1 3
  go_upto_region 12 with fail
  have hB2 : B2 w #[.int .i64 r1, .int .i64 r2, .bool r3, .bool x, .int .i64 r5] #[.int .i64 0, .int .i64 0, .bool false, .bool false, .int .i64 0] (w1.setCell ⟨w.heap.size, 3, none⟩ (.bool x)) := ⟨blk_put hB1.1 3 _ rfl, blk_far hB1.2.1 (by simp) _, below_set hB1.2.2 (by omega)⟩
  clear hB1 e3 f3
  generalize w1.setCell ⟨w.heap.size, 3, none⟩ (.bool x) = w2 at hB2 ⊢
  have e0 : w2.cell? ⟨w.heap.size, 0, none⟩ = some (.int .i64 r1) := (blk_cell hB2.1 0).trans rfl
  have i0 : w2.cell? ⟨w.heap.size + 1, 0, none⟩ = some (.int .i64 0) := (blk_cell hB2.2.1 0).trans rfl
  have j0 := blk_frozen hB2.2.1 0
  have e1 : w2.cell? ⟨w.heap.size, 1, none⟩ = some (.int .i64 r2) := (blk_cell hB2.1 1).trans rfl
  have i1 : w2.cell? ⟨w.heap.size + 1, 1, none⟩ = some (.int .i64 0) := (blk_cell hB2.2.1 1).trans rfl
  have j1 := blk_frozen hB2.2.1 1
  have e2 : w2.cell? ⟨w.heap.size, 2, none⟩ = some (.bool r3) := (blk_cell hB2.1 2).trans rfl
  have i2 : w2.cell? ⟨w.heap.size + 1, 2, none⟩ = some (.bool false) := (blk_cell hB2.2.1 2).trans rfl
  have j2 := blk_frozen hB2.2.1 2
  have e3 : w2.cell? ⟨w.heap.size, 3, none⟩ = some (.bool x) := (blk_cell hB2.1 3).trans rfl
  have i3 : w2.cell? ⟨w.heap.size + 1, 3, none⟩ = some (.bool false) := (blk_cell hB2.2.1 3).trans rfl
  have j3 := blk_frozen hB2.2.1 3
  have e4 : w2.cell? ⟨w.heap.size, 4, none⟩ = some (.int .i64 r5) := (blk_cell hB2.1 4).trans rfl
  have i4 : w2.cell? ⟨w.heap.size + 1, 4, none⟩ = some (.int .i64 0) := (blk_cell hB2.2.1 4).trans rfl
  have j4 := blk_frozen hB2.2.1 4
  go_wp2
  exact bodyPost_ret (results_cell_row rfl _ _ (w.heap.size + 1) 25 #[.int .i64 r1, .int .i64 r2, .bool r3, .bool x, .int .i64 r5] (0, 0) _ rfl (blk_put (blk_put (blk_put (blk_put (blk_put hB2.2.1 0 _ rfl) 1 _ rfl) 2 _ rfl) 3 _ rfl) 4 _ rfl) Try.underlying25 rfl (by kernel_rfl)) rfl ⟨rfl, (below_set (below_set (below_set (below_set (below_set hB2.2.2 (by omega)) (by omega)) (by omega)) (by omega)) (by omega))⟩
set_option maxRecDepth 100000 in
set_option maxHeartbeats 3200000 in
theorem l6step4 (n t dt : Int) (o s x y : Bool) (w : World)  : Calls Try.prog 71 #[.agg #[.int .i64 4, .int .i64 n, .bool o, .bool s, .int .i64 t], .bool x, .bool y, .int .i64 dt] w fun e w' => e = .returned (.agg #[.int .i64 4, .int .i64 n, .bool (x && !s), .bool x, .int .i64 t]) ∧ Below w.heap.size w w' := by
  have hu := Try.underlying25
  cases x <;> cases y <;> cases o <;> cases s
  all_goals
    go_enter Try.func71, Try.ntmps71
    go_wp2
    refine bodyPost_ret (v := .agg #[.int .i64 _, .int .i64 _, .bool _, .bool _, .int .i64 _]) (by simp [results, Try.results71, go_sem] <;> rfl) rfl ⟨rfl, ?_⟩
    exact ((Below.refl _ _).alloc (Nat.le_refl _) _).alloc (by simp) _
set_option maxRecDepth 100000 in
set_option maxHeartbeats 3200000 in
theorem l6step5 (k n t dt : Int) (o s x y : Bool) (w : World) (h1 : (k == 1) = false) (h2 : (k == 2) = false) (h3 : (k == 3) = false) (h4 : (k == 4) = false) : Calls Try.prog 71 #[.agg #[.int .i64 k, .int .i64 n, .bool o, .bool s, .int .i64 t], .bool x, .bool y, .int .i64 dt] w fun e w' => e = .returned (.agg #[.int .i64 k, .int .i64 n, .bool (!y && (x || o)), .bool x, .int .i64 t]) ∧ Below w.heap.size w w' := by
  have hu := Try.underlying25
  cases x <;> cases y <;> cases o <;> cases s
  all_goals
    go_enter Try.func71, Try.ntmps71
    go_wp2
    refine bodyPost_ret (v := .agg #[.int .i64 _, .int .i64 _, .bool _, .bool _, .int .i64 _]) (by simp [results, Try.results71, go_sem] <;> rfl) rfl ⟨rfl, ?_⟩
    exact ((Below.refl _ _).alloc (Nat.le_refl _) _).alloc (by simp) _
end Go.Proofs.Ytcigooccnlbkjaa.Hl
