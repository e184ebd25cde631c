/- Part of the walks of BlockStep: what it answers, for every argument. No condition. -/
import Derived.Test.YtcigooccnlbkjaaHs1
import Derived.Test.YtcigooccnlbkjaaHs2
import Derived.Test.YtcigooccnlbkjaaHs3
import Derived.Test.YtcigooccnlbkjaaHs4
import Derived.Test.YtcigooccnlbkjaaHs5
namespace Go.Proofs.Ytcigooccnlbkjaa.Hb
open Go.RowKit Go.Proofs.YtcigooccnlbkjaaW.PrintWords Go.Proofs.YtcigooccnlbkjaaW.PrintLast Go.Proofs.YtcigooccnlbkjaaW.PrintMore
attribute [local go_sem] max2_int min2_int
set_option linter.unusedVariables false
set_option linter.unusedSimpArgs false
set_option maxRecDepth 100000 in
set_option maxHeartbeats 6400000 in
theorem step_no_ok (k n t dt : Int) (o s x y : Bool) (w : World) (h : blockOkB k n t = false) : Calls Try.prog 18 #[.agg #[.int .i64 k, .int .i64 n, .bool o, .bool s, .int .i64 t], .bool x, .bool y, .int .i64 dt] w fun e w' => e = .returned (.tuple #[.agg #[.int .i64 0, .int .i64 0, .bool false, .bool false, .int .i64 0], .bool false]) ∧ Below w.heap.size w w' := by
  have hs : ∀ W : World, Calls Try.prog 13 #[.agg #[.int .i64 k, .int .i64 n, .bool o, .bool s, .int .i64 t]] W fun e w' => e = .returned (.bool false) ∧ Below W.heap.size W w' := fun W => by have := blockOk_any k n t o s W; rw [h] at this; exact this
  clear h
  go_enter Try.func18, Try.ntmps18
  go_wp2_with fail
  refine (hs _).mono ?_
  rintro e w' ⟨rfl, hb⟩
  have hB : B2 w (.int .i64 k) (.int .i64 n) (.bool o) (.bool s) (.int .i64 t) #[.int .i64 0, .int .i64 0, .bool false, .bool false, .int .i64 0] w' := by
    refine B2.below ⟨?_, ?_, ?_⟩ hb
    · exact blk_alloc (heap_alloc_new w _) _
    · have e := heap_alloc_new (w.alloc (.cells #[.int .i64 k, .int .i64 n, .bool o, .bool s, .int .i64 t] 25)) (.cells #[.int .i64 0, .int .i64 0, .bool false, .bool false, .int .i64 0] 25)
      simpa using e
    · exact ((Below.refl _ _).alloc (Nat.le_refl _) _).alloc (by simp) _
  clear hb
  have hu1 := Try.underlying25
  have i0 := (blk_cell hB.2.1 0).trans rfl
  have j0 := blk_frozen hB.2.1 0
  have i1 := (blk_cell hB.2.1 1).trans rfl
  have j1 := blk_frozen hB.2.1 1
  have i2 := (blk_cell hB.2.1 2).trans rfl
  have j2 := blk_frozen hB.2.1 2
  have i3 := (blk_cell hB.2.1 3).trans rfl
  have j3 := blk_frozen hB.2.1 3
  have i4 := (blk_cell hB.2.1 4).trans rfl
  have j4 := blk_frozen hB.2.1 4
  go_wp2
  exact bodyPost_ret (results_ct rfl _ _ (w.heap.size + 1) 25 #[.int .i64 0, .int .i64 0, .bool false, .bool false, .int .i64 0] (0, 0) _ rfl (blk_put (blk_put (blk_put (blk_put (blk_put hB.2.1 0 _ rfl) 1 _ rfl) 2 _ rfl) 3 _ rfl) 4 _ rfl) Try.underlying25 rfl (by kernel_rfl)) rfl ⟨rfl, (below_set (below_set (below_set (below_set (below_set hB.2.2 (by omega)) (by omega)) (by omega)) (by omega)) (by omega))⟩
set_option maxRecDepth 100000 in
set_option maxHeartbeats 6400000 in
theorem step_no_time (k n t dt : Int) (o s x y : Bool) (w : World) (h : blockOkB k n t = true) (h2 : isTimeB dt = false) : Calls Try.prog 18 #[.agg #[.int .i64 k, .int .i64 n, .bool o, .bool s, .int .i64 t], .bool x, .bool y, .int .i64 dt] w fun e w' => e = .returned (.tuple #[.agg #[.int .i64 0, .int .i64 0, .bool false, .bool false, .int .i64 0], .bool false]) ∧ Below w.heap.size w w' := by
  have hs : ∀ W : World, Calls Try.prog 13 #[.agg #[.int .i64 k, .int .i64 n, .bool o, .bool s, .int .i64 t]] W fun e w' => e = .returned (.bool true) ∧ Below W.heap.size W w' := fun W => by have := blockOk_any k n t o s W; rw [h] at this; exact this
  have ht : ∀ W : World, Calls Try.prog 42 #[.int .i64 dt] W fun e w' => e = .returned (.bool false) ∧ W = w' := fun W => by have := isTime_any dt W; rw [h2] at this; exact this
  clear h h2
  go_enter Try.func18, Try.ntmps18
  go_wp2_with fail
  refine (hs _).mono ?_
  rintro e w' ⟨rfl, hb⟩
  have hB : B2 w (.int .i64 k) (.int .i64 n) (.bool o) (.bool s) (.int .i64 t) #[.int .i64 0, .int .i64 0, .bool false, .bool false, .int .i64 0] w' := by
    refine B2.below ⟨?_, ?_, ?_⟩ hb
    · exact blk_alloc (heap_alloc_new w _) _
    · have e := heap_alloc_new (w.alloc (.cells #[.int .i64 k, .int .i64 n, .bool o, .bool s, .int .i64 t] 25)) (.cells #[.int .i64 0, .int .i64 0, .bool false, .bool false, .int .i64 0] 25)
      simpa using e
    · exact ((Below.refl _ _).alloc (Nat.le_refl _) _).alloc (by simp) _
  clear hb
  have hu1 := Try.underlying25
  have i0 := (blk_cell hB.2.1 0).trans rfl
  have j0 := blk_frozen hB.2.1 0
  have i1 := (blk_cell hB.2.1 1).trans rfl
  have j1 := blk_frozen hB.2.1 1
  have i2 := (blk_cell hB.2.1 2).trans rfl
  have j2 := blk_frozen hB.2.1 2
  have i3 := (blk_cell hB.2.1 3).trans rfl
  have j3 := blk_frozen hB.2.1 3
  have i4 := (blk_cell hB.2.1 4).trans rfl
  have j4 := blk_frozen hB.2.1 4
  go_wp2_with fail
  refine (ht _).mono ?_
  rintro e w'' ⟨rfl, rfl⟩
  go_wp2
  exact bodyPost_ret (results_ct rfl _ _ (w.heap.size + 1) 25 #[.int .i64 0, .int .i64 0, .bool false, .bool false, .int .i64 0] (0, 0) _ rfl (blk_put (blk_put (blk_put (blk_put (blk_put hB.2.1 0 _ rfl) 1 _ rfl) 2 _ rfl) 3 _ rfl) 4 _ rfl) Try.underlying25 rfl (by kernel_rfl)) rfl ⟨rfl, (below_set (below_set (below_set (below_set (below_set hB.2.2 (by omega)) (by omega)) (by omega)) (by omega)) (by omega))⟩
def stepT (k t dt : Int) (s x y : Bool) : Int := if k = 1 then mn (if x && s then t + dt else 0) 1000 else if k = 2 then mn (if x || s then 0 else t + dt) 1000 else if k = 3 then mn (if y then 0 else if x && !s then t + 1 else t) 1000 else 0
def stepOn (k n T : Int) (o s x y : Bool) : Bool := if k = 1 then x && decide (n ≤ T) else if k = 2 then x || (o && decide (T < n)) else if k = 3 then decide (n ≤ T) else if k = 4 then x && !s else !y && (x || o)
def goB (k n t dt : Int) : Bool := blockOkB k n t && isTimeB dt
theorem blockStep_no (k n t dt : Int) (o s x y : Bool) (w : World) (h : goB k n t dt = false) : Calls Try.prog 18 #[.agg #[.int .i64 k, .int .i64 n, .bool o, .bool s, .int .i64 t], .bool x, .bool y, .int .i64 dt] w fun e w' => e = .returned (.tuple #[.agg #[.int .i64 0, .int .i64 0, .bool false, .bool false, .int .i64 0], .bool false]) ∧ Below w.heap.size w w' := by
  cases h1 : blockOkB k n t with
  | false => exact step_no_ok k n t dt o s x y w h1
  | true =>
    have h2 : isTimeB dt = false := by simpa [goB, h1] using h
    exact step_no_time k n t dt o s x y w h1 h2
theorem blockStep_yes (k n t dt : Int) (o s x y : Bool) (w : World) (h : goB k n t dt = true) : Calls Try.prog 18 #[.agg #[.int .i64 k, .int .i64 n, .bool o, .bool s, .int .i64 t], .bool x, .bool y, .int .i64 dt] w fun e w' => e = .returned (.tuple #[.agg #[.int .i64 k, .int .i64 n, .bool (stepOn k n (stepT k t dt s x y) o s x y), .bool x, .int .i64 (stepT k t dt s x y)], .bool (stepOn k n (stepT k t dt s x y) o s x y)]) ∧ Below w.heap.size w w' := by
  have h1 : blockOkB k n t = true := by simp [goB] at h; exact h.1
  have h2 : isTimeB dt = true := by simp [goB] at h; exact h.2
  have hk : 1 ≤ k ∧ k ≤ 5 := by simp [blockOkB, sizedB] at h1; omega
  rcases (by omega : k = 1 ∨ k = 2 ∨ k = 3 ∨ k = 4 ∨ k = 5) with rfl | rfl | rfl | rfl | rfl
  · exact step1 n t dt o s x y w h1 h2 _ rfl
  · exact step2 n t dt o s x y w h1 h2 _ rfl
  · exact step3 n t dt o s x y w h1 h2 _ rfl
  · exact step4 n t dt o s x y w h1 h2 _ rfl
  · exact step5 n t dt o s x y w h1 h2 _ rfl
end Go.Proofs.Ytcigooccnlbkjaa.Hb
