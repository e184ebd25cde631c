/- impl.Src.ok: what it answers, for every argument. No condition. -/
import Derived.Test.YtphblfmjdiigkaaGreatDoorTFnExactNetTextHFnExactNetTextx6
import Derived.Test.YtphblfmjdiigkaaGreatDoorTFnExactNetTextHFnExactNetTextx11
import Derived.Test.YtphblfmjdiigkaaGreatDoorTFnExactNetTextHj1
namespace Go.Proofs.YtphblfmjdiigkaaGreatDoor.Hj2
open Go.RowKit Go.Proofs.YtphblfmjdiigkaaGreatDoor.Hb Go.Proofs.YtphblfmjdiigkaaGreatDoor.Hj1 Go.Proofs.YtphblfmjdiigkaaGreatDoor.HFnExactNetText Go.Proofs.YtphblfmjdiigkaaGreatDoorW.PrintWords Go.Proofs.YtphblfmjdiigkaaGreatDoorW.PrintLast Go.Proofs.YtphblfmjdiigkaaGreatDoorW.PrintMore
set_option linter.unusedVariables false
set_option linter.unusedSimpArgs false
attribute [local go_sem] max2_int min2_int max_two min_two
attribute [local go_sem high] eqA39
attribute [local go_sem high] eqA41
def sOk (a t c d n : Int) : Bool := if a = 1 then t == 0 && aOk c d else if a = 2 ∨ a = 3 then (c == 0 && d == 0) && inB t n else false
structure Tp (w : World) (g : Nat) (Y : Array Value) (W : World) : Prop where
  h1 : W.heap[g]? = some (.cells Y 41 (0, 0))
  bel : Below w.heap.size w W
theorem Tp.below {w W W' : World} {g : Nat} {Y : Array Value} (h : Tp w g Y W) (k : Below W.heap.size W W') : Tp w g Y W' := ⟨blk_below h.h1 k, h.bel.trans (k.mono h.bel.size)⟩
theorem m_src1 (v : Value) (w : World) : (method 297 132 v "loop.example/stopgate/impl.src").run Tryz.prog w = .ok (142, v) w := by kernel_rfl
theorem m_ok1 (v : Value) (w : World) : (method 297 132 v "loop.example/stopgate/impl.ok").run Tryz.prog w = .ok (140, v) w := by kernel_rfl
theorem m_src2 (v : Value) (w : World) : (method 297 134 v "loop.example/stopgate/impl.src").run Tryz.prog w = .ok (146, v) w := by kernel_rfl
theorem m_ok2 (v : Value) (w : World) : (method 297 134 v "loop.example/stopgate/impl.ok").run Tryz.prog w = .ok (144, v) w := by kernel_rfl
theorem m_src3 (v : Value) (w : World) : (method 297 135 v "loop.example/stopgate/impl.src").run Tryz.prog w = .ok (150, v) w := by kernel_rfl
theorem m_ok3 (v : Value) (w : World) : (method 297 135 v "loop.example/stopgate/impl.ok").run Tryz.prog w = .ok (148, v) w := by kernel_rfl
set_option maxRecDepth 100000 in
set_option maxHeartbeats 3200000 in
theorem src_ok1_true (t c d n : Int) (b : Bool) (w : World) (hq : ((0 : Int) == t) = true) : Calls Tryz.prog 81 #[.agg #[.int .i64 1, .int .i64 t, .int .i64 c, .int .i64 d, .bool b], .int .i64 n] w fun e w' => e = .returned (.bool (aOk c d)) ∧ Below w.heap.size w w' := by
  have hu46 := Tryz.underlying41
  have hu44 := Tryz.underlying39
  have hrd := fun W => reading1 t c d b W
  have hms := m_src1
  have hmo := m_ok1
  have hok := fun W => ok1 c d n W
  generalize aOk c d = rr at hok ⊢
  have q1 := heap_alloc_new w (.cells #[.int .i64 1, .int .i64 t, .int .i64 c, .int .i64 d, .bool b] 41)
  have hB := al w (.cells #[.int .i64 1, .int .i64 t, .int .i64 c, .int .i64 d, .bool b] 41)
  go_enter Tryz.func81, Tryz.ntmps81
  go_wp2_with fail
  refine (hrd _).mono ?_
  rintro e w2 ⟨rfl, hb⟩
  replace q1 := blk_below q1 hb
  replace hB := hB.trans (hb.mono hB.size)
  clear hrd hb
  obtain ⟨g1, hg1⟩ : ∃ g, w.heap.size = g := ⟨_, rfl⟩
  rw [hg1] at q1
  try rw [hg1]
  clear hg1
  have i0 : w2.cell? ⟨g1, 0, none⟩ = some (.int .i64 1) := (blk_cell q1 0).trans rfl
  have i1 : w2.cell? ⟨g1, 1, none⟩ = some (.int .i64 t) := (blk_cell q1 1).trans rfl
  have i2 : w2.cell? ⟨g1, 2, none⟩ = some (.int .i64 c) := (blk_cell q1 2).trans rfl
  have i3 : w2.cell? ⟨g1, 3, none⟩ = some (.int .i64 d) := (blk_cell q1 3).trans rfl
  have i4 : w2.cell? ⟨g1, 4, none⟩ = some (.bool b) := (blk_cell q1 4).trans rfl
  go_upto_region 5 with (fail)
  have hT : Tp w w2.heap.size #[.int .i64 1, .int .i64 t, .int .i64 c, .int .i64 d, .bool b] (w2.alloc (.cells #[.int .i64 1, .int .i64 t, .int .i64 c, .int .i64 d, .bool b] 41)) := ⟨heap_alloc_new _ _, hB.trans ((al w2 _).mono hB.size)⟩
  clear q1 i0 i1 i2 i3 i4
  have hsz := hB.size
  generalize w2.alloc (Obj.cells _ 41) = w3 at hT ⊢
  obtain ⟨g6, hg6⟩ : ∃ g, w2.heap.size = g := ⟨_, rfl⟩
  rw [hg6] at hT hsz ⊢
  clear hg6 hB
  have i4 : w3.cell? ⟨g6, 4, none⟩ = some (.bool b) := (blk_cell hT.h1 4).trans rfl
  have f4 : w3.frozen? ⟨g6, 4, none⟩ = false := blk_frozen hT.h1 4
  go_upto_region 6 with (fail)
  have hT2 : Tp w g6 #[.int .i64 1, .int .i64 t, .int .i64 c, .int .i64 d, .bool false] (w3.setCell ⟨g6, 4, none⟩ (.bool false)).drew := Tp.below ⟨blk_put hT.h1 4 _ rfl, below_set hT.bel hsz⟩ (below_drew1 (Below.refl _ _))
  clear hT i4 f4
  have hT := hT2
  clear hT2
  refine start_ (n := 10) (S := fun w' => w'.cell? ⟨g6, 0, none⟩ = some (.int .i64 1) ∧ w'.cell? ⟨g6, 1, none⟩ = some (.int .i64 t) ∧ w'.cell? ⟨g6, 2, none⟩ = some (.int .i64 c) ∧ w'.cell? ⟨g6, 3, none⟩ = some (.int .i64 d) ∧ w'.cell? ⟨g6, 4, none⟩ = some (.bool false) ∧ Tp w g6 #[.int .i64 1, .int .i64 t, .int .i64 c, .int .i64 d, .bool false] w') (ds := []) #[false, false, false, false, false, false, false, false, false, false] (by kernel_rfl) rfl rfl ⟨(blk_cell hT.h1 0).trans rfl, (blk_cell hT.h1 1).trans rfl, (blk_cell hT.h1 2).trans rfl, (blk_cell hT.h1 3).trans rfl, (blk_cell hT.h1 4).trans rfl, hT⟩ (fun hHeld => ?_)
  refine pure_ (i := 0) (N := some 13) (v := ?_) (a' := ?_) #[true, false, false, false, false, false, false, false, false, false] rfl rfl (by kernel_rfl) (fun _ _ _ h => h) (Or.inl ⟨by rfl, ?_⟩) ?_ ?_
  rotate_left
  · intro w'
    go_simp
    with_reducible rfl
  rotate_left
  · simp only [Act.put, List.setIfInBounds_toArray, List.set_cons_zero, List.set_cons_succ, i64_w, i32_w]
    rfl
  refine take_ (i := 2) (N := some 15) (v := ?_) (a' := ?_) #[true, false, true, false, false, false, false, false, false, false] rfl rfl (by kernel_rfl) (fun _ _ _ h => h) (Or.inl ⟨by rfl, ?_⟩) hHeld ?_ ?_
  rotate_left
  · rintro w' ⟨s0, s1, s2, s3, s4, s5⟩
    go_simp
    with_reducible rfl
  rotate_left
  · simp only [Act.put, List.setIfInBounds_toArray, List.set_cons_zero, List.set_cons_succ, i64_w, i32_w]
    rfl
  refine one_ (i := 1) (N := some 14) #[true, true, true, false, false, false, false, false, false, false] rfl rfl (by kernel_rfl) (by decide) (fun K hK => ?_)
  refine call_ (N := some 14) 142 #[.agg #[.int .i64 c, .int .i64 d]] (by rfl) rfl ?_ ?_
  · first | (go_simp; done) | (go_simp; rfl)
  refine (src1 c d _).mono ?_
  rintro e w3 ⟨rfl, hb⟩
  refine ⟨_, rfl, ?_⟩
  have hb1 := Tp.below hHeld.2.2.2.2.2 hb
  refine hK.out _ _ ⟨(blk_cell hb1.h1 0).trans rfl, (blk_cell hb1.h1 1).trans rfl, (blk_cell hb1.h1 2).trans rfl, (blk_cell hb1.h1 3).trans rfl, (blk_cell hb1.h1 4).trans rfl, hb1⟩ (fun hHeld => ?_)
  clear hK K
  refine norm_ (a' := ?_) ?_ ?_
  rotate_left
  · show Act.put _ (some 14) _ = _
    simp only [Act.put, List.setIfInBounds_toArray, List.set_cons_zero, List.set_cons_succ, i64_w, i32_w]
    rfl
  refine pure_ (i := 3) (N := some 16) (v := ?_) (a' := ?_) #[true, true, true, true, false, false, false, false, false, false] rfl rfl (by kernel_rfl) (fun _ _ _ h => h) (Or.inl ⟨by rfl, ?_⟩) ?_ ?_
  rotate_left
  · intro w'
    go_simp
    with_reducible rfl
  rotate_left
  · simp only [Act.put, List.setIfInBounds_toArray, List.set_cons_zero, List.set_cons_succ, i64_w, i32_w]
    rfl
  refine pure_ (i := 4) (N := some 17) (v := ?_) (a' := ?_) #[true, true, true, true, true, false, false, false, false, false] rfl rfl (by kernel_rfl) (fun _ _ _ h => h) (Or.inl ⟨by rfl, ?_⟩) ?_ ?_
  rotate_left
  · intro w'
    go_simp
    with_reducible rfl
  rotate_left
  · simp only [Act.put, List.setIfInBounds_toArray, List.set_cons_zero, List.set_cons_succ, i64_w, i32_w]
    rfl
  refine pure_ (i := 5) (N := some 18) (v := ?_) (a' := ?_) #[true, true, true, true, true, true, false, false, false, false] rfl rfl (by kernel_rfl) (fun _ _ _ h => h) (Or.inl ⟨by rfl, ?_⟩) ?_ ?_
  rotate_left
  · intro w'
    go_simp
    with_reducible rfl
  rotate_left
  · simp only [Act.put, List.setIfInBounds_toArray, List.set_cons_zero, List.set_cons_succ, i64_w, i32_w]
    rfl
  refine pure_ (i := 6) (N := some 19) (v := ?_) (a' := ?_) #[true, true, true, true, true, true, true, false, false, false] rfl rfl (by kernel_rfl) (fun _ _ _ h => h) (Or.inl ⟨by rfl, ?_⟩) ?_ ?_
  rotate_left
  · intro w'
    go_simp
    with_reducible rfl
  rotate_left
  · simp only [Act.put, List.setIfInBounds_toArray, List.set_cons_zero, List.set_cons_succ, i64_w, i32_w]
    rfl
  refine one_ (i := 7) (N := some 20) #[true, true, true, true, true, true, true, true, false, false] rfl rfl (by kernel_rfl) (by decide) (fun K hK => ?_)
  refine call_ (N := some 20) 140 #[.agg #[.int .i64 c, .int .i64 d], .int .i64 n] (by rfl) rfl ?_ ?_
  · first | (go_simp; done) | (go_simp; rfl)
  refine (hok _).mono ?_
  rintro e w4 ⟨rfl, hb⟩
  refine ⟨_, rfl, ?_⟩
  have hb2 := Tp.below hHeld.2.2.2.2.2 hb
  refine hK.out _ _ ⟨(blk_cell hb2.h1 0).trans rfl, (blk_cell hb2.h1 1).trans rfl, (blk_cell hb2.h1 2).trans rfl, (blk_cell hb2.h1 3).trans rfl, (blk_cell hb2.h1 4).trans rfl, hb2⟩ (fun hHeld => ?_)
  clear hK K
  refine norm_ (a' := ?_) ?_ ?_
  rotate_left
  · show Act.put _ (some 20) _ = _
    simp only [Act.put, List.setIfInBounds_toArray, List.set_cons_zero, List.set_cons_succ, i64_w, i32_w]
    rfl
  refine pure_ (i := 8) (N := some 21) (v := ?_) (a' := ?_) #[true, true, true, true, true, true, true, true, true, false] rfl rfl (by kernel_rfl) (fun _ _ _ h => h) (Or.inl ⟨by rfl, ?_⟩) ?_ ?_
  rotate_left
  · intro w'
    go_simp
    with_reducible rfl
  rotate_left
  · simp only [Act.put, List.setIfInBounds_toArray, List.set_cons_zero, List.set_cons_succ, i64_w, i32_w]
    rfl
  refine pure_ (i := 9) (N := some 4) (v := ?_) (a' := ?_) #[true, true, true, true, true, true, true, true, true, true] rfl rfl (by kernel_rfl) (fun _ _ _ h => h) (Or.inl ⟨by rfl, ?_⟩) ?_ ?_
  rotate_left
  · intro w'
    go_simp
    with_reducible rfl
  rotate_left
  · simp only [Act.put, List.setIfInBounds_toArray, List.set_cons_zero, List.set_cons_succ, i64_w, i32_w]
    rfl
  refine done_ (by kernel_rfl) ?_
  have hB := Tp.bel hHeld.2.2.2.2.2
  clear hHeld
  go_wp2
  go_ret
  exact ⟨rfl, hB⟩
set_option maxRecDepth 100000 in
set_option maxHeartbeats 3200000 in
theorem src_ok1_false (t c d n : Int) (b : Bool) (w : World) (hq : ((0 : Int) == t) = false) : Calls Tryz.prog 81 #[.agg #[.int .i64 1, .int .i64 t, .int .i64 c, .int .i64 d, .bool b], .int .i64 n] w fun e w' => e = .returned (.bool (false)) ∧ Below w.heap.size w w' := by
  have hu46 := Tryz.underlying41
  have hu44 := Tryz.underlying39
  have hrd := fun W => reading1 t c d b W
  have hms := m_src1
  have hmo := m_ok1
  have hx : True := trivial
  have q1 := heap_alloc_new w (.cells #[.int .i64 1, .int .i64 t, .int .i64 c, .int .i64 d, .bool b] 41)
  have hB := al w (.cells #[.int .i64 1, .int .i64 t, .int .i64 c, .int .i64 d, .bool b] 41)
  go_enter Tryz.func81, Tryz.ntmps81
  go_wp2_with fail
  refine (hrd _).mono ?_
  rintro e w2 ⟨rfl, hb⟩
  replace q1 := blk_below q1 hb
  replace hB := hB.trans (hb.mono hB.size)
  clear hrd hb
  obtain ⟨g1, hg1⟩ : ∃ g, w.heap.size = g := ⟨_, rfl⟩
  rw [hg1] at q1
  try rw [hg1]
  clear hg1
  have i0 : w2.cell? ⟨g1, 0, none⟩ = some (.int .i64 1) := (blk_cell q1 0).trans rfl
  have i1 : w2.cell? ⟨g1, 1, none⟩ = some (.int .i64 t) := (blk_cell q1 1).trans rfl
  have i2 : w2.cell? ⟨g1, 2, none⟩ = some (.int .i64 c) := (blk_cell q1 2).trans rfl
  have i3 : w2.cell? ⟨g1, 3, none⟩ = some (.int .i64 d) := (blk_cell q1 3).trans rfl
  have i4 : w2.cell? ⟨g1, 4, none⟩ = some (.bool b) := (blk_cell q1 4).trans rfl
  go_upto_region 5 with (fail)
  have hT : Tp w w2.heap.size #[.int .i64 1, .int .i64 t, .int .i64 c, .int .i64 d, .bool b] (w2.alloc (.cells #[.int .i64 1, .int .i64 t, .int .i64 c, .int .i64 d, .bool b] 41)) := ⟨heap_alloc_new _ _, hB.trans ((al w2 _).mono hB.size)⟩
  clear q1 i0 i1 i2 i3 i4
  have hsz := hB.size
  generalize w2.alloc (Obj.cells _ 41) = w3 at hT ⊢
  obtain ⟨g6, hg6⟩ : ∃ g, w2.heap.size = g := ⟨_, rfl⟩
  rw [hg6] at hT hsz ⊢
  clear hg6 hB
  have i4 : w3.cell? ⟨g6, 4, none⟩ = some (.bool b) := (blk_cell hT.h1 4).trans rfl
  have f4 : w3.frozen? ⟨g6, 4, none⟩ = false := blk_frozen hT.h1 4
  go_upto_region 6 with (fail)
  have hT2 : Tp w g6 #[.int .i64 1, .int .i64 t, .int .i64 c, .int .i64 d, .bool false] (w3.setCell ⟨g6, 4, none⟩ (.bool false)).drew := Tp.below ⟨blk_put hT.h1 4 _ rfl, below_set hT.bel hsz⟩ (below_drew1 (Below.refl _ _))
  clear hT i4 f4
  have hT := hT2
  clear hT2
  refine start_ (n := 10) (S := fun w' => w'.cell? ⟨g6, 0, none⟩ = some (.int .i64 1) ∧ w'.cell? ⟨g6, 1, none⟩ = some (.int .i64 t) ∧ w'.cell? ⟨g6, 2, none⟩ = some (.int .i64 c) ∧ w'.cell? ⟨g6, 3, none⟩ = some (.int .i64 d) ∧ w'.cell? ⟨g6, 4, none⟩ = some (.bool false) ∧ Tp w g6 #[.int .i64 1, .int .i64 t, .int .i64 c, .int .i64 d, .bool false] w') (ds := []) #[false, false, false, false, false, false, false, false, false, false] (by kernel_rfl) rfl rfl ⟨(blk_cell hT.h1 0).trans rfl, (blk_cell hT.h1 1).trans rfl, (blk_cell hT.h1 2).trans rfl, (blk_cell hT.h1 3).trans rfl, (blk_cell hT.h1 4).trans rfl, hT⟩ (fun hHeld => ?_)
  refine pure_ (i := 0) (N := some 13) (v := ?_) (a' := ?_) #[true, false, false, false, false, false, false, false, false, false] rfl rfl (by kernel_rfl) (fun _ _ _ h => h) (Or.inl ⟨by rfl, ?_⟩) ?_ ?_
  rotate_left
  · intro w'
    go_simp
    with_reducible rfl
  rotate_left
  · simp only [Act.put, List.setIfInBounds_toArray, List.set_cons_zero, List.set_cons_succ, i64_w, i32_w]
    rfl
  refine take_ (i := 2) (N := some 15) (v := ?_) (a' := ?_) #[true, false, true, false, false, false, false, false, false, false] rfl rfl (by kernel_rfl) (fun _ _ _ h => h) (Or.inl ⟨by rfl, ?_⟩) hHeld ?_ ?_
  rotate_left
  · rintro w' ⟨s0, s1, s2, s3, s4, s5⟩
    go_simp
    with_reducible rfl
  rotate_left
  · simp only [Act.put, List.setIfInBounds_toArray, List.set_cons_zero, List.set_cons_succ, i64_w, i32_w]
    rfl
  refine one_ (i := 1) (N := some 14) #[true, true, true, false, false, false, false, false, false, false] rfl rfl (by kernel_rfl) (by decide) (fun K hK => ?_)
  refine call_ (N := some 14) 142 #[.agg #[.int .i64 c, .int .i64 d]] (by rfl) rfl ?_ ?_
  · first | (go_simp; done) | (go_simp; rfl)
  refine (src1 c d _).mono ?_
  rintro e w3 ⟨rfl, hb⟩
  refine ⟨_, rfl, ?_⟩
  have hb1 := Tp.below hHeld.2.2.2.2.2 hb
  refine hK.out _ _ ⟨(blk_cell hb1.h1 0).trans rfl, (blk_cell hb1.h1 1).trans rfl, (blk_cell hb1.h1 2).trans rfl, (blk_cell hb1.h1 3).trans rfl, (blk_cell hb1.h1 4).trans rfl, hb1⟩ (fun hHeld => ?_)
  clear hK K
  refine norm_ (a' := ?_) ?_ ?_
  rotate_left
  · show Act.put _ (some 14) _ = _
    simp only [Act.put, List.setIfInBounds_toArray, List.set_cons_zero, List.set_cons_succ, i64_w, i32_w]
    rfl
  refine pure_ (i := 3) (N := some 16) (v := ?_) (a' := ?_) #[true, true, true, true, false, false, false, false, false, false] rfl rfl (by kernel_rfl) (fun _ _ _ h => h) (Or.inl ⟨by rfl, ?_⟩) ?_ ?_
  rotate_left
  · intro w'
    go_simp
    with_reducible rfl
  rotate_left
  · simp only [Act.put, List.setIfInBounds_toArray, List.set_cons_zero, List.set_cons_succ, i64_w, i32_w]
    rfl
  refine pure_ (i := 4) (N := some 17) (v := ?_) (a' := ?_) #[true, true, true, true, true, false, false, false, false, false] rfl rfl (by kernel_rfl) (fun _ _ _ h => h) (Or.inl ⟨by rfl, ?_⟩) ?_ ?_
  rotate_left
  · intro w'
    go_simp
    with_reducible rfl
  rotate_left
  · simp only [Act.put, List.setIfInBounds_toArray, List.set_cons_zero, List.set_cons_succ, i64_w, i32_w]
    rfl
  refine pure_ (i := 5) (N := some 18) (v := undef) (a' := ?_) #[true, true, true, true, true, true, false, false, false, false] rfl rfl (by kernel_rfl) (fun _ _ _ h => h) (Or.inr ⟨by rfl, rfl⟩) ?_ ?_
  rotate_left
  · simp only [Act.put, List.setIfInBounds_toArray, List.set_cons_zero, List.set_cons_succ, i64_w, i32_w]
    rfl
  refine pure_ (i := 6) (N := some 19) (v := undef) (a' := ?_) #[true, true, true, true, true, true, true, false, false, false] rfl rfl (by kernel_rfl) (fun _ _ _ h => h) (Or.inr ⟨by rfl, rfl⟩) ?_ ?_
  rotate_left
  · simp only [Act.put, List.setIfInBounds_toArray, List.set_cons_zero, List.set_cons_succ, i64_w, i32_w]
    rfl
  refine pure_ (i := 7) (N := some 20) (v := undef) (a' := ?_) #[true, true, true, true, true, true, true, true, false, false] rfl rfl (by kernel_rfl) (fun _ _ _ h => h) (Or.inr ⟨by rfl, rfl⟩) ?_ ?_
  rotate_left
  · simp only [Act.put, List.setIfInBounds_toArray, List.set_cons_zero, List.set_cons_succ, i64_w, i32_w]
    rfl
  refine pure_ (i := 8) (N := some 21) (v := ?_) (a' := ?_) #[true, true, true, true, true, true, true, true, true, false] rfl rfl (by kernel_rfl) (fun _ _ _ h => h) (Or.inl ⟨by rfl, ?_⟩) ?_ ?_
  rotate_left
  · intro w'
    go_simp
    with_reducible rfl
  rotate_left
  · simp only [Act.put, List.setIfInBounds_toArray, List.set_cons_zero, List.set_cons_succ, i64_w, i32_w]
    rfl
  refine pure_ (i := 9) (N := some 4) (v := ?_) (a' := ?_) #[true, true, true, true, true, true, true, true, true, true] rfl rfl (by kernel_rfl) (fun _ _ _ h => h) (Or.inl ⟨by rfl, ?_⟩) ?_ ?_
  rotate_left
  · intro w'
    go_simp
    with_reducible rfl
  rotate_left
  · simp only [Act.put, List.setIfInBounds_toArray, List.set_cons_zero, List.set_cons_succ, i64_w, i32_w]
    rfl
  refine done_ (by kernel_rfl) ?_
  have hB := Tp.bel hHeld.2.2.2.2.2
  clear hHeld
  go_wp2
  go_ret
  exact ⟨rfl, hB⟩
set_option maxRecDepth 100000 in
set_option maxHeartbeats 3200000 in
theorem src_ok2_true (t c d n : Int) (b : Bool) (w : World) (hq : ((0 : Int) == c && (0 : Int) == d) = true) : Calls Tryz.prog 81 #[.agg #[.int .i64 2, .int .i64 t, .int .i64 c, .int .i64 d, .bool b], .int .i64 n] w fun e w' => e = .returned (.bool (inB t n)) ∧ Below w.heap.size w w' := by
  have hu46 := Tryz.underlying41
  have hu44 := Tryz.underlying39
  have hrd := fun W => reading2 t c d b W
  have hms := m_src2
  have hmo := m_ok2
  have hok := fun W => ok2 t n W
  generalize inB t n = rr at hok ⊢
  have q1 := heap_alloc_new w (.cells #[.int .i64 2, .int .i64 t, .int .i64 c, .int .i64 d, .bool b] 41)
  have hB := al w (.cells #[.int .i64 2, .int .i64 t, .int .i64 c, .int .i64 d, .bool b] 41)
  go_enter Tryz.func81, Tryz.ntmps81
  go_wp2_with fail
  refine (hrd _).mono ?_
  rintro e w2 ⟨rfl, hb⟩
  replace q1 := blk_below q1 hb
  replace hB := hB.trans (hb.mono hB.size)
  clear hrd hb
  obtain ⟨g1, hg1⟩ : ∃ g, w.heap.size = g := ⟨_, rfl⟩
  rw [hg1] at q1
  try rw [hg1]
  clear hg1
  have i0 : w2.cell? ⟨g1, 0, none⟩ = some (.int .i64 2) := (blk_cell q1 0).trans rfl
  have i1 : w2.cell? ⟨g1, 1, none⟩ = some (.int .i64 t) := (blk_cell q1 1).trans rfl
  have i2 : w2.cell? ⟨g1, 2, none⟩ = some (.int .i64 c) := (blk_cell q1 2).trans rfl
  have i3 : w2.cell? ⟨g1, 3, none⟩ = some (.int .i64 d) := (blk_cell q1 3).trans rfl
  have i4 : w2.cell? ⟨g1, 4, none⟩ = some (.bool b) := (blk_cell q1 4).trans rfl
  go_upto_region 5 with (fail)
  have hT : Tp w w2.heap.size #[.int .i64 2, .int .i64 t, .int .i64 c, .int .i64 d, .bool b] (w2.alloc (.cells #[.int .i64 2, .int .i64 t, .int .i64 c, .int .i64 d, .bool b] 41)) := ⟨heap_alloc_new _ _, hB.trans ((al w2 _).mono hB.size)⟩
  clear q1 i0 i1 i2 i3 i4
  have hsz := hB.size
  generalize w2.alloc (Obj.cells _ 41) = w3 at hT ⊢
  obtain ⟨g6, hg6⟩ : ∃ g, w2.heap.size = g := ⟨_, rfl⟩
  rw [hg6] at hT hsz ⊢
  clear hg6 hB
  have i4 : w3.cell? ⟨g6, 4, none⟩ = some (.bool b) := (blk_cell hT.h1 4).trans rfl
  have f4 : w3.frozen? ⟨g6, 4, none⟩ = false := blk_frozen hT.h1 4
  go_upto_region 6 with (fail)
  have hT2 : Tp w g6 #[.int .i64 2, .int .i64 t, .int .i64 c, .int .i64 d, .bool false] (w3.setCell ⟨g6, 4, none⟩ (.bool false)).drew := Tp.below ⟨blk_put hT.h1 4 _ rfl, below_set hT.bel hsz⟩ (below_drew1 (Below.refl _ _))
  clear hT i4 f4
  have hT := hT2
  clear hT2
  refine start_ (n := 10) (S := fun w' => w'.cell? ⟨g6, 0, none⟩ = some (.int .i64 2) ∧ w'.cell? ⟨g6, 1, none⟩ = some (.int .i64 t) ∧ w'.cell? ⟨g6, 2, none⟩ = some (.int .i64 c) ∧ w'.cell? ⟨g6, 3, none⟩ = some (.int .i64 d) ∧ w'.cell? ⟨g6, 4, none⟩ = some (.bool false) ∧ Tp w g6 #[.int .i64 2, .int .i64 t, .int .i64 c, .int .i64 d, .bool false] w') (ds := []) #[false, false, false, false, false, false, false, false, false, false] (by kernel_rfl) rfl rfl ⟨(blk_cell hT.h1 0).trans rfl, (blk_cell hT.h1 1).trans rfl, (blk_cell hT.h1 2).trans rfl, (blk_cell hT.h1 3).trans rfl, (blk_cell hT.h1 4).trans rfl, hT⟩ (fun hHeld => ?_)
  refine pure_ (i := 0) (N := some 13) (v := ?_) (a' := ?_) #[true, false, false, false, false, false, false, false, false, false] rfl rfl (by kernel_rfl) (fun _ _ _ h => h) (Or.inl ⟨by rfl, ?_⟩) ?_ ?_
  rotate_left
  · intro w'
    go_simp
    with_reducible rfl
  rotate_left
  · simp only [Act.put, List.setIfInBounds_toArray, List.set_cons_zero, List.set_cons_succ, i64_w, i32_w]
    rfl
  refine take_ (i := 2) (N := some 15) (v := ?_) (a' := ?_) #[true, false, true, false, false, false, false, false, false, false] rfl rfl (by kernel_rfl) (fun _ _ _ h => h) (Or.inl ⟨by rfl, ?_⟩) hHeld ?_ ?_
  rotate_left
  · rintro w' ⟨s0, s1, s2, s3, s4, s5⟩
    go_simp
    with_reducible rfl
  rotate_left
  · simp only [Act.put, List.setIfInBounds_toArray, List.set_cons_zero, List.set_cons_succ, i64_w, i32_w]
    rfl
  refine one_ (i := 1) (N := some 14) #[true, true, true, false, false, false, false, false, false, false] rfl rfl (by kernel_rfl) (by decide) (fun K hK => ?_)
  refine call_ (N := some 14) 146 #[.agg #[.int .i64 t]] (by rfl) rfl ?_ ?_
  · first | (go_simp; done) | (go_simp; rfl)
  refine (src2 t _).mono ?_
  rintro e w3 ⟨rfl, hb⟩
  refine ⟨_, rfl, ?_⟩
  have hb1 := Tp.below hHeld.2.2.2.2.2 hb
  refine hK.out _ _ ⟨(blk_cell hb1.h1 0).trans rfl, (blk_cell hb1.h1 1).trans rfl, (blk_cell hb1.h1 2).trans rfl, (blk_cell hb1.h1 3).trans rfl, (blk_cell hb1.h1 4).trans rfl, hb1⟩ (fun hHeld => ?_)
  clear hK K
  refine norm_ (a' := ?_) ?_ ?_
  rotate_left
  · show Act.put _ (some 14) _ = _
    simp only [Act.put, List.setIfInBounds_toArray, List.set_cons_zero, List.set_cons_succ, i64_w, i32_w]
    rfl
  refine pure_ (i := 3) (N := some 16) (v := ?_) (a' := ?_) #[true, true, true, true, false, false, false, false, false, false] rfl rfl (by kernel_rfl) (fun _ _ _ h => h) (Or.inl ⟨by rfl, ?_⟩) ?_ ?_
  rotate_left
  · intro w'
    go_simp
    with_reducible rfl
  rotate_left
  · simp only [Act.put, List.setIfInBounds_toArray, List.set_cons_zero, List.set_cons_succ, i64_w, i32_w]
    rfl
  refine pure_ (i := 4) (N := some 17) (v := ?_) (a' := ?_) #[true, true, true, true, true, false, false, false, false, false] rfl rfl (by kernel_rfl) (fun _ _ _ h => h) (Or.inl ⟨by rfl, ?_⟩) ?_ ?_
  rotate_left
  · intro w'
    go_simp
    with_reducible rfl
  rotate_left
  · simp only [Act.put, List.setIfInBounds_toArray, List.set_cons_zero, List.set_cons_succ, i64_w, i32_w]
    rfl
  refine pure_ (i := 5) (N := some 18) (v := ?_) (a' := ?_) #[true, true, true, true, true, true, false, false, false, false] rfl rfl (by kernel_rfl) (fun _ _ _ h => h) (Or.inl ⟨by rfl, ?_⟩) ?_ ?_
  rotate_left
  · intro w'
    go_simp
    with_reducible rfl
  rotate_left
  · simp only [Act.put, List.setIfInBounds_toArray, List.set_cons_zero, List.set_cons_succ, i64_w, i32_w]
    rfl
  refine pure_ (i := 6) (N := some 19) (v := ?_) (a' := ?_) #[true, true, true, true, true, true, true, false, false, false] rfl rfl (by kernel_rfl) (fun _ _ _ h => h) (Or.inl ⟨by rfl, ?_⟩) ?_ ?_
  rotate_left
  · intro w'
    go_simp
    with_reducible rfl
  rotate_left
  · simp only [Act.put, List.setIfInBounds_toArray, List.set_cons_zero, List.set_cons_succ, i64_w, i32_w]
    rfl
  refine one_ (i := 7) (N := some 20) #[true, true, true, true, true, true, true, true, false, false] rfl rfl (by kernel_rfl) (by decide) (fun K hK => ?_)
  refine call_ (N := some 20) 144 #[.agg #[.int .i64 t], .int .i64 n] (by rfl) rfl ?_ ?_
  · first | (go_simp; done) | (go_simp; rfl)
  refine (hok _).mono ?_
  rintro e w4 ⟨rfl, hb⟩
  refine ⟨_, rfl, ?_⟩
  have hb2 := Tp.below hHeld.2.2.2.2.2 hb
  refine hK.out _ _ ⟨(blk_cell hb2.h1 0).trans rfl, (blk_cell hb2.h1 1).trans rfl, (blk_cell hb2.h1 2).trans rfl, (blk_cell hb2.h1 3).trans rfl, (blk_cell hb2.h1 4).trans rfl, hb2⟩ (fun hHeld => ?_)
  clear hK K
  refine norm_ (a' := ?_) ?_ ?_
  rotate_left
  · show Act.put _ (some 20) _ = _
    simp only [Act.put, List.setIfInBounds_toArray, List.set_cons_zero, List.set_cons_succ, i64_w, i32_w]
    rfl
  refine pure_ (i := 8) (N := some 21) (v := ?_) (a' := ?_) #[true, true, true, true, true, true, true, true, true, false] rfl rfl (by kernel_rfl) (fun _ _ _ h => h) (Or.inl ⟨by rfl, ?_⟩) ?_ ?_
  rotate_left
  · intro w'
    go_simp
    with_reducible rfl
  rotate_left
  · simp only [Act.put, List.setIfInBounds_toArray, List.set_cons_zero, List.set_cons_succ, i64_w, i32_w]
    rfl
  refine pure_ (i := 9) (N := some 4) (v := ?_) (a' := ?_) #[true, true, true, true, true, true, true, true, true, true] rfl rfl (by kernel_rfl) (fun _ _ _ h => h) (Or.inl ⟨by rfl, ?_⟩) ?_ ?_
  rotate_left
  · intro w'
    go_simp
    with_reducible rfl
  rotate_left
  · simp only [Act.put, List.setIfInBounds_toArray, List.set_cons_zero, List.set_cons_succ, i64_w, i32_w]
    rfl
  refine done_ (by kernel_rfl) ?_
  have hB := Tp.bel hHeld.2.2.2.2.2
  clear hHeld
  go_wp2
  go_ret
  exact ⟨rfl, hB⟩
set_option maxRecDepth 100000 in
set_option maxHeartbeats 3200000 in
theorem src_ok2_false (t c d n : Int) (b : Bool) (w : World) (hq : ((0 : Int) == c && (0 : Int) == d) = false) : Calls Tryz.prog 81 #[.agg #[.int .i64 2, .int .i64 t, .int .i64 c, .int .i64 d, .bool b], .int .i64 n] w fun e w' => e = .returned (.bool (false)) ∧ Below w.heap.size w w' := by
  have hu46 := Tryz.underlying41
  have hu44 := Tryz.underlying39
  have hrd := fun W => reading2 t c d b W
  have hms := m_src2
  have hmo := m_ok2
  have hx : True := trivial
  have q1 := heap_alloc_new w (.cells #[.int .i64 2, .int .i64 t, .int .i64 c, .int .i64 d, .bool b] 41)
  have hB := al w (.cells #[.int .i64 2, .int .i64 t, .int .i64 c, .int .i64 d, .bool b] 41)
  go_enter Tryz.func81, Tryz.ntmps81
  go_wp2_with fail
  refine (hrd _).mono ?_
  rintro e w2 ⟨rfl, hb⟩
  replace q1 := blk_below q1 hb
  replace hB := hB.trans (hb.mono hB.size)
  clear hrd hb
  obtain ⟨g1, hg1⟩ : ∃ g, w.heap.size = g := ⟨_, rfl⟩
  rw [hg1] at q1
  try rw [hg1]
  clear hg1
  have i0 : w2.cell? ⟨g1, 0, none⟩ = some (.int .i64 2) := (blk_cell q1 0).trans rfl
  have i1 : w2.cell? ⟨g1, 1, none⟩ = some (.int .i64 t) := (blk_cell q1 1).trans rfl
  have i2 : w2.cell? ⟨g1, 2, none⟩ = some (.int .i64 c) := (blk_cell q1 2).trans rfl
  have i3 : w2.cell? ⟨g1, 3, none⟩ = some (.int .i64 d) := (blk_cell q1 3).trans rfl
  have i4 : w2.cell? ⟨g1, 4, none⟩ = some (.bool b) := (blk_cell q1 4).trans rfl
  go_upto_region 5 with (fail)
  have hT : Tp w w2.heap.size #[.int .i64 2, .int .i64 t, .int .i64 c, .int .i64 d, .bool b] (w2.alloc (.cells #[.int .i64 2, .int .i64 t, .int .i64 c, .int .i64 d, .bool b] 41)) := ⟨heap_alloc_new _ _, hB.trans ((al w2 _).mono hB.size)⟩
  clear q1 i0 i1 i2 i3 i4
  have hsz := hB.size
  generalize w2.alloc (Obj.cells _ 41) = w3 at hT ⊢
  obtain ⟨g6, hg6⟩ : ∃ g, w2.heap.size = g := ⟨_, rfl⟩
  rw [hg6] at hT hsz ⊢
  clear hg6 hB
  have i4 : w3.cell? ⟨g6, 4, none⟩ = some (.bool b) := (blk_cell hT.h1 4).trans rfl
  have f4 : w3.frozen? ⟨g6, 4, none⟩ = false := blk_frozen hT.h1 4
  go_upto_region 6 with (fail)
  have hT2 : Tp w g6 #[.int .i64 2, .int .i64 t, .int .i64 c, .int .i64 d, .bool false] (w3.setCell ⟨g6, 4, none⟩ (.bool false)).drew := Tp.below ⟨blk_put hT.h1 4 _ rfl, below_set hT.bel hsz⟩ (below_drew1 (Below.refl _ _))
  clear hT i4 f4
  have hT := hT2
  clear hT2
  refine start_ (n := 10) (S := fun w' => w'.cell? ⟨g6, 0, none⟩ = some (.int .i64 2) ∧ w'.cell? ⟨g6, 1, none⟩ = some (.int .i64 t) ∧ w'.cell? ⟨g6, 2, none⟩ = some (.int .i64 c) ∧ w'.cell? ⟨g6, 3, none⟩ = some (.int .i64 d) ∧ w'.cell? ⟨g6, 4, none⟩ = some (.bool false) ∧ Tp w g6 #[.int .i64 2, .int .i64 t, .int .i64 c, .int .i64 d, .bool false] w') (ds := []) #[false, false, false, false, false, false, false, false, false, false] (by kernel_rfl) rfl rfl ⟨(blk_cell hT.h1 0).trans rfl, (blk_cell hT.h1 1).trans rfl, (blk_cell hT.h1 2).trans rfl, (blk_cell hT.h1 3).trans rfl, (blk_cell hT.h1 4).trans rfl, hT⟩ (fun hHeld => ?_)
  refine pure_ (i := 0) (N := some 13) (v := ?_) (a' := ?_) #[true, false, false, false, false, false, false, false, false, false] rfl rfl (by kernel_rfl) (fun _ _ _ h => h) (Or.inl ⟨by rfl, ?_⟩) ?_ ?_
  rotate_left
  · intro w'
    go_simp
    with_reducible rfl
  rotate_left
  · simp only [Act.put, List.setIfInBounds_toArray, List.set_cons_zero, List.set_cons_succ, i64_w, i32_w]
    rfl
  refine take_ (i := 2) (N := some 15) (v := ?_) (a' := ?_) #[true, false, true, false, false, false, false, false, false, false] rfl rfl (by kernel_rfl) (fun _ _ _ h => h) (Or.inl ⟨by rfl, ?_⟩) hHeld ?_ ?_
  rotate_left
  · rintro w' ⟨s0, s1, s2, s3, s4, s5⟩
    go_simp
    with_reducible rfl
  rotate_left
  · simp only [Act.put, List.setIfInBounds_toArray, List.set_cons_zero, List.set_cons_succ, i64_w, i32_w]
    rfl
  refine one_ (i := 1) (N := some 14) #[true, true, true, false, false, false, false, false, false, false] rfl rfl (by kernel_rfl) (by decide) (fun K hK => ?_)
  refine call_ (N := some 14) 146 #[.agg #[.int .i64 t]] (by rfl) rfl ?_ ?_
  · first | (go_simp; done) | (go_simp; rfl)
  refine (src2 t _).mono ?_
  rintro e w3 ⟨rfl, hb⟩
  refine ⟨_, rfl, ?_⟩
  have hb1 := Tp.below hHeld.2.2.2.2.2 hb
  refine hK.out _ _ ⟨(blk_cell hb1.h1 0).trans rfl, (blk_cell hb1.h1 1).trans rfl, (blk_cell hb1.h1 2).trans rfl, (blk_cell hb1.h1 3).trans rfl, (blk_cell hb1.h1 4).trans rfl, hb1⟩ (fun hHeld => ?_)
  clear hK K
  refine norm_ (a' := ?_) ?_ ?_
  rotate_left
  · show Act.put _ (some 14) _ = _
    simp only [Act.put, List.setIfInBounds_toArray, List.set_cons_zero, List.set_cons_succ, i64_w, i32_w]
    rfl
  refine pure_ (i := 3) (N := some 16) (v := ?_) (a' := ?_) #[true, true, true, true, false, false, false, false, false, false] rfl rfl (by kernel_rfl) (fun _ _ _ h => h) (Or.inl ⟨by rfl, ?_⟩) ?_ ?_
  rotate_left
  · intro w'
    go_simp
    with_reducible rfl
  rotate_left
  · simp only [Act.put, List.setIfInBounds_toArray, List.set_cons_zero, List.set_cons_succ, i64_w, i32_w]
    rfl
  refine pure_ (i := 4) (N := some 17) (v := ?_) (a' := ?_) #[true, true, true, true, true, false, false, false, false, false] rfl rfl (by kernel_rfl) (fun _ _ _ h => h) (Or.inl ⟨by rfl, ?_⟩) ?_ ?_
  rotate_left
  · intro w'
    go_simp
    with_reducible rfl
  rotate_left
  · simp only [Act.put, List.setIfInBounds_toArray, List.set_cons_zero, List.set_cons_succ, i64_w, i32_w]
    rfl
  refine pure_ (i := 5) (N := some 18) (v := undef) (a' := ?_) #[true, true, true, true, true, true, false, false, false, false] rfl rfl (by kernel_rfl) (fun _ _ _ h => h) (Or.inr ⟨by rfl, rfl⟩) ?_ ?_
  rotate_left
  · simp only [Act.put, List.setIfInBounds_toArray, List.set_cons_zero, List.set_cons_succ, i64_w, i32_w]
    rfl
  refine pure_ (i := 6) (N := some 19) (v := undef) (a' := ?_) #[true, true, true, true, true, true, true, false, false, false] rfl rfl (by kernel_rfl) (fun _ _ _ h => h) (Or.inr ⟨by rfl, rfl⟩) ?_ ?_
  rotate_left
  · simp only [Act.put, List.setIfInBounds_toArray, List.set_cons_zero, List.set_cons_succ, i64_w, i32_w]
    rfl
  refine pure_ (i := 7) (N := some 20) (v := undef) (a' := ?_) #[true, true, true, true, true, true, true, true, false, false] rfl rfl (by kernel_rfl) (fun _ _ _ h => h) (Or.inr ⟨by rfl, rfl⟩) ?_ ?_
  rotate_left
  · simp only [Act.put, List.setIfInBounds_toArray, List.set_cons_zero, List.set_cons_succ, i64_w, i32_w]
    rfl
  refine pure_ (i := 8) (N := some 21) (v := ?_) (a' := ?_) #[true, true, true, true, true, true, true, true, true, false] rfl rfl (by kernel_rfl) (fun _ _ _ h => h) (Or.inl ⟨by rfl, ?_⟩) ?_ ?_
  rotate_left
  · intro w'
    go_simp
    with_reducible rfl
  rotate_left
  · simp only [Act.put, List.setIfInBounds_toArray, List.set_cons_zero, List.set_cons_succ, i64_w, i32_w]
    rfl
  refine pure_ (i := 9) (N := some 4) (v := ?_) (a' := ?_) #[true, true, true, true, true, true, true, true, true, true] rfl rfl (by kernel_rfl) (fun _ _ _ h => h) (Or.inl ⟨by rfl, ?_⟩) ?_ ?_
  rotate_left
  · intro w'
    go_simp
    with_reducible rfl
  rotate_left
  · simp only [Act.put, List.setIfInBounds_toArray, List.set_cons_zero, List.set_cons_succ, i64_w, i32_w]
    rfl
  refine done_ (by kernel_rfl) ?_
  have hB := Tp.bel hHeld.2.2.2.2.2
  clear hHeld
  go_wp2
  go_ret
  exact ⟨rfl, hB⟩
set_option maxRecDepth 100000 in
set_option maxHeartbeats 3200000 in
theorem src_ok3_true (t c d n : Int) (b : Bool) (w : World) (hq : ((0 : Int) == c && (0 : Int) == d) = true) : Calls Tryz.prog 81 #[.agg #[.int .i64 3, .int .i64 t, .int .i64 c, .int .i64 d, .bool b], .int .i64 n] w fun e w' => e = .returned (.bool (inB t n)) ∧ Below w.heap.size w w' := by
  have hu46 := Tryz.underlying41
  have hu44 := Tryz.underlying39
  have hrd := fun W => reading3 t c d b W
  have hms := m_src3
  have hmo := m_ok3
  have hok := fun W => ok3 t n W
  generalize inB t n = rr at hok ⊢
  have q1 := heap_alloc_new w (.cells #[.int .i64 3, .int .i64 t, .int .i64 c, .int .i64 d, .bool b] 41)
  have hB := al w (.cells #[.int .i64 3, .int .i64 t, .int .i64 c, .int .i64 d, .bool b] 41)
  go_enter Tryz.func81, Tryz.ntmps81
  go_wp2_with fail
  refine (hrd _).mono ?_
  rintro e w2 ⟨rfl, hb⟩
  replace q1 := blk_below q1 hb
  replace hB := hB.trans (hb.mono hB.size)
  clear hrd hb
  obtain ⟨g1, hg1⟩ : ∃ g, w.heap.size = g := ⟨_, rfl⟩
  rw [hg1] at q1
  try rw [hg1]
  clear hg1
  have i0 : w2.cell? ⟨g1, 0, none⟩ = some (.int .i64 3) := (blk_cell q1 0).trans rfl
  have i1 : w2.cell? ⟨g1, 1, none⟩ = some (.int .i64 t) := (blk_cell q1 1).trans rfl
  have i2 : w2.cell? ⟨g1, 2, none⟩ = some (.int .i64 c) := (blk_cell q1 2).trans rfl
  have i3 : w2.cell? ⟨g1, 3, none⟩ = some (.int .i64 d) := (blk_cell q1 3).trans rfl
  have i4 : w2.cell? ⟨g1, 4, none⟩ = some (.bool b) := (blk_cell q1 4).trans rfl
  go_upto_region 5 with (fail)
  have hT : Tp w w2.heap.size #[.int .i64 3, .int .i64 t, .int .i64 c, .int .i64 d, .bool b] (w2.alloc (.cells #[.int .i64 3, .int .i64 t, .int .i64 c, .int .i64 d, .bool b] 41)) := ⟨heap_alloc_new _ _, hB.trans ((al w2 _).mono hB.size)⟩
  clear q1 i0 i1 i2 i3 i4
  have hsz := hB.size
  generalize w2.alloc (Obj.cells _ 41) = w3 at hT ⊢
  obtain ⟨g6, hg6⟩ : ∃ g, w2.heap.size = g := ⟨_, rfl⟩
  rw [hg6] at hT hsz ⊢
  clear hg6 hB
  have i4 : w3.cell? ⟨g6, 4, none⟩ = some (.bool b) := (blk_cell hT.h1 4).trans rfl
  have f4 : w3.frozen? ⟨g6, 4, none⟩ = false := blk_frozen hT.h1 4
  go_upto_region 6 with (fail)
  have hT2 : Tp w g6 #[.int .i64 3, .int .i64 t, .int .i64 c, .int .i64 d, .bool false] (w3.setCell ⟨g6, 4, none⟩ (.bool false)).drew := Tp.below ⟨blk_put hT.h1 4 _ rfl, below_set hT.bel hsz⟩ (below_drew1 (Below.refl _ _))
  clear hT i4 f4
  have hT := hT2
  clear hT2
  refine start_ (n := 10) (S := fun w' => w'.cell? ⟨g6, 0, none⟩ = some (.int .i64 3) ∧ w'.cell? ⟨g6, 1, none⟩ = some (.int .i64 t) ∧ w'.cell? ⟨g6, 2, none⟩ = some (.int .i64 c) ∧ w'.cell? ⟨g6, 3, none⟩ = some (.int .i64 d) ∧ w'.cell? ⟨g6, 4, none⟩ = some (.bool false) ∧ Tp w g6 #[.int .i64 3, .int .i64 t, .int .i64 c, .int .i64 d, .bool false] w') (ds := []) #[false, false, false, false, false, false, false, false, false, false] (by kernel_rfl) rfl rfl ⟨(blk_cell hT.h1 0).trans rfl, (blk_cell hT.h1 1).trans rfl, (blk_cell hT.h1 2).trans rfl, (blk_cell hT.h1 3).trans rfl, (blk_cell hT.h1 4).trans rfl, hT⟩ (fun hHeld => ?_)
  refine pure_ (i := 0) (N := some 13) (v := ?_) (a' := ?_) #[true, false, false, false, false, false, false, false, false, false] rfl rfl (by kernel_rfl) (fun _ _ _ h => h) (Or.inl ⟨by rfl, ?_⟩) ?_ ?_
  rotate_left
  · intro w'
    go_simp
    with_reducible rfl
  rotate_left
  · simp only [Act.put, List.setIfInBounds_toArray, List.set_cons_zero, List.set_cons_succ, i64_w, i32_w]
    rfl
  refine take_ (i := 2) (N := some 15) (v := ?_) (a' := ?_) #[true, false, true, false, false, false, false, false, false, false] rfl rfl (by kernel_rfl) (fun _ _ _ h => h) (Or.inl ⟨by rfl, ?_⟩) hHeld ?_ ?_
  rotate_left
  · rintro w' ⟨s0, s1, s2, s3, s4, s5⟩
    go_simp
    with_reducible rfl
  rotate_left
  · simp only [Act.put, List.setIfInBounds_toArray, List.set_cons_zero, List.set_cons_succ, i64_w, i32_w]
    rfl
  refine one_ (i := 1) (N := some 14) #[true, true, true, false, false, false, false, false, false, false] rfl rfl (by kernel_rfl) (by decide) (fun K hK => ?_)
  refine call_ (N := some 14) 150 #[.agg #[.int .i64 t]] (by rfl) rfl ?_ ?_
  · first | (go_simp; done) | (go_simp; rfl)
  refine (src3 t _).mono ?_
  rintro e w3 ⟨rfl, hb⟩
  refine ⟨_, rfl, ?_⟩
  have hb1 := Tp.below hHeld.2.2.2.2.2 hb
  refine hK.out _ _ ⟨(blk_cell hb1.h1 0).trans rfl, (blk_cell hb1.h1 1).trans rfl, (blk_cell hb1.h1 2).trans rfl, (blk_cell hb1.h1 3).trans rfl, (blk_cell hb1.h1 4).trans rfl, hb1⟩ (fun hHeld => ?_)
  clear hK K
  refine norm_ (a' := ?_) ?_ ?_
  rotate_left
  · show Act.put _ (some 14) _ = _
    simp only [Act.put, List.setIfInBounds_toArray, List.set_cons_zero, List.set_cons_succ, i64_w, i32_w]
    rfl
  refine pure_ (i := 3) (N := some 16) (v := ?_) (a' := ?_) #[true, true, true, true, false, false, false, false, false, false] rfl rfl (by kernel_rfl) (fun _ _ _ h => h) (Or.inl ⟨by rfl, ?_⟩) ?_ ?_
  rotate_left
  · intro w'
    go_simp
    with_reducible rfl
  rotate_left
  · simp only [Act.put, List.setIfInBounds_toArray, List.set_cons_zero, List.set_cons_succ, i64_w, i32_w]
    rfl
  refine pure_ (i := 4) (N := some 17) (v := ?_) (a' := ?_) #[true, true, true, true, true, false, false, false, false, false] rfl rfl (by kernel_rfl) (fun _ _ _ h => h) (Or.inl ⟨by rfl, ?_⟩) ?_ ?_
  rotate_left
  · intro w'
    go_simp
    with_reducible rfl
  rotate_left
  · simp only [Act.put, List.setIfInBounds_toArray, List.set_cons_zero, List.set_cons_succ, i64_w, i32_w]
    rfl
  refine pure_ (i := 5) (N := some 18) (v := ?_) (a' := ?_) #[true, true, true, true, true, true, false, false, false, false] rfl rfl (by kernel_rfl) (fun _ _ _ h => h) (Or.inl ⟨by rfl, ?_⟩) ?_ ?_
  rotate_left
  · intro w'
    go_simp
    with_reducible rfl
  rotate_left
  · simp only [Act.put, List.setIfInBounds_toArray, List.set_cons_zero, List.set_cons_succ, i64_w, i32_w]
    rfl
  refine pure_ (i := 6) (N := some 19) (v := ?_) (a' := ?_) #[true, true, true, true, true, true, true, false, false, false] rfl rfl (by kernel_rfl) (fun _ _ _ h => h) (Or.inl ⟨by rfl, ?_⟩) ?_ ?_
  rotate_left
  · intro w'
    go_simp
    with_reducible rfl
  rotate_left
  · simp only [Act.put, List.setIfInBounds_toArray, List.set_cons_zero, List.set_cons_succ, i64_w, i32_w]
    rfl
  refine one_ (i := 7) (N := some 20) #[true, true, true, true, true, true, true, true, false, false] rfl rfl (by kernel_rfl) (by decide) (fun K hK => ?_)
  refine call_ (N := some 20) 148 #[.agg #[.int .i64 t], .int .i64 n] (by rfl) rfl ?_ ?_
  · first | (go_simp; done) | (go_simp; rfl)
  refine (hok _).mono ?_
  rintro e w4 ⟨rfl, hb⟩
  refine ⟨_, rfl, ?_⟩
  have hb2 := Tp.below hHeld.2.2.2.2.2 hb
  refine hK.out _ _ ⟨(blk_cell hb2.h1 0).trans rfl, (blk_cell hb2.h1 1).trans rfl, (blk_cell hb2.h1 2).trans rfl, (blk_cell hb2.h1 3).trans rfl, (blk_cell hb2.h1 4).trans rfl, hb2⟩ (fun hHeld => ?_)
  clear hK K
  refine norm_ (a' := ?_) ?_ ?_
  rotate_left
  · show Act.put _ (some 20) _ = _
    simp only [Act.put, List.setIfInBounds_toArray, List.set_cons_zero, List.set_cons_succ, i64_w, i32_w]
    rfl
  refine pure_ (i := 8) (N := some 21) (v := ?_) (a' := ?_) #[true, true, true, true, true, true, true, true, true, false] rfl rfl (by kernel_rfl) (fun _ _ _ h => h) (Or.inl ⟨by rfl, ?_⟩) ?_ ?_
  rotate_left
  · intro w'
    go_simp
    with_reducible rfl
  rotate_left
  · simp only [Act.put, List.setIfInBounds_toArray, List.set_cons_zero, List.set_cons_succ, i64_w, i32_w]
    rfl
  refine pure_ (i := 9) (N := some 4) (v := ?_) (a' := ?_) #[true, true, true, true, true, true, true, true, true, true] rfl rfl (by kernel_rfl) (fun _ _ _ h => h) (Or.inl ⟨by rfl, ?_⟩) ?_ ?_
  rotate_left
  · intro w'
    go_simp
    with_reducible rfl
  rotate_left
  · simp only [Act.put, List.setIfInBounds_toArray, List.set_cons_zero, List.set_cons_succ, i64_w, i32_w]
    rfl
  refine done_ (by kernel_rfl) ?_
  have hB := Tp.bel hHeld.2.2.2.2.2
  clear hHeld
  go_wp2
  go_ret
  exact ⟨rfl, hB⟩
set_option maxRecDepth 100000 in
set_option maxHeartbeats 3200000 in
theorem src_ok3_false (t c d n : Int) (b : Bool) (w : World) (hq : ((0 : Int) == c && (0 : Int) == d) = false) : Calls Tryz.prog 81 #[.agg #[.int .i64 3, .int .i64 t, .int .i64 c, .int .i64 d, .bool b], .int .i64 n] w fun e w' => e = .returned (.bool (false)) ∧ Below w.heap.size w w' := by
  have hu46 := Tryz.underlying41
  have hu44 := Tryz.underlying39
  have hrd := fun W => reading3 t c d b W
  have hms := m_src3
  have hmo := m_ok3
  have hx : True := trivial
  have q1 := heap_alloc_new w (.cells #[.int .i64 3, .int .i64 t, .int .i64 c, .int .i64 d, .bool b] 41)
  have hB := al w (.cells #[.int .i64 3, .int .i64 t, .int .i64 c, .int .i64 d, .bool b] 41)
  go_enter Tryz.func81, Tryz.ntmps81
  go_wp2_with fail
  refine (hrd _).mono ?_
  rintro e w2 ⟨rfl, hb⟩
  replace q1 := blk_below q1 hb
  replace hB := hB.trans (hb.mono hB.size)
  clear hrd hb
  obtain ⟨g1, hg1⟩ : ∃ g, w.heap.size = g := ⟨_, rfl⟩
  rw [hg1] at q1
  try rw [hg1]
  clear hg1
  have i0 : w2.cell? ⟨g1, 0, none⟩ = some (.int .i64 3) := (blk_cell q1 0).trans rfl
  have i1 : w2.cell? ⟨g1, 1, none⟩ = some (.int .i64 t) := (blk_cell q1 1).trans rfl
  have i2 : w2.cell? ⟨g1, 2, none⟩ = some (.int .i64 c) := (blk_cell q1 2).trans rfl
  have i3 : w2.cell? ⟨g1, 3, none⟩ = some (.int .i64 d) := (blk_cell q1 3).trans rfl
  have i4 : w2.cell? ⟨g1, 4, none⟩ = some (.bool b) := (blk_cell q1 4).trans rfl
  go_upto_region 5 with (fail)
  have hT : Tp w w2.heap.size #[.int .i64 3, .int .i64 t, .int .i64 c, .int .i64 d, .bool b] (w2.alloc (.cells #[.int .i64 3, .int .i64 t, .int .i64 c, .int .i64 d, .bool b] 41)) := ⟨heap_alloc_new _ _, hB.trans ((al w2 _).mono hB.size)⟩
  clear q1 i0 i1 i2 i3 i4
  have hsz := hB.size
  generalize w2.alloc (Obj.cells _ 41) = w3 at hT ⊢
  obtain ⟨g6, hg6⟩ : ∃ g, w2.heap.size = g := ⟨_, rfl⟩
  rw [hg6] at hT hsz ⊢
  clear hg6 hB
  have i4 : w3.cell? ⟨g6, 4, none⟩ = some (.bool b) := (blk_cell hT.h1 4).trans rfl
  have f4 : w3.frozen? ⟨g6, 4, none⟩ = false := blk_frozen hT.h1 4
  go_upto_region 6 with (fail)
  have hT2 : Tp w g6 #[.int .i64 3, .int .i64 t, .int .i64 c, .int .i64 d, .bool false] (w3.setCell ⟨g6, 4, none⟩ (.bool false)).drew := Tp.below ⟨blk_put hT.h1 4 _ rfl, below_set hT.bel hsz⟩ (below_drew1 (Below.refl _ _))
  clear hT i4 f4
  have hT := hT2
  clear hT2
  refine start_ (n := 10) (S := fun w' => w'.cell? ⟨g6, 0, none⟩ = some (.int .i64 3) ∧ w'.cell? ⟨g6, 1, none⟩ = some (.int .i64 t) ∧ w'.cell? ⟨g6, 2, none⟩ = some (.int .i64 c) ∧ w'.cell? ⟨g6, 3, none⟩ = some (.int .i64 d) ∧ w'.cell? ⟨g6, 4, none⟩ = some (.bool false) ∧ Tp w g6 #[.int .i64 3, .int .i64 t, .int .i64 c, .int .i64 d, .bool false] w') (ds := []) #[false, false, false, false, false, false, false, false, false, false] (by kernel_rfl) rfl rfl ⟨(blk_cell hT.h1 0).trans rfl, (blk_cell hT.h1 1).trans rfl, (blk_cell hT.h1 2).trans rfl, (blk_cell hT.h1 3).trans rfl, (blk_cell hT.h1 4).trans rfl, hT⟩ (fun hHeld => ?_)
  refine pure_ (i := 0) (N := some 13) (v := ?_) (a' := ?_) #[true, false, false, false, false, false, false, false, false, false] rfl rfl (by kernel_rfl) (fun _ _ _ h => h) (Or.inl ⟨by rfl, ?_⟩) ?_ ?_
  rotate_left
  · intro w'
    go_simp
    with_reducible rfl
  rotate_left
  · simp only [Act.put, List.setIfInBounds_toArray, List.set_cons_zero, List.set_cons_succ, i64_w, i32_w]
    rfl
  refine take_ (i := 2) (N := some 15) (v := ?_) (a' := ?_) #[true, false, true, false, false, false, false, false, false, false] rfl rfl (by kernel_rfl) (fun _ _ _ h => h) (Or.inl ⟨by rfl, ?_⟩) hHeld ?_ ?_
  rotate_left
  · rintro w' ⟨s0, s1, s2, s3, s4, s5⟩
    go_simp
    with_reducible rfl
  rotate_left
  · simp only [Act.put, List.setIfInBounds_toArray, List.set_cons_zero, List.set_cons_succ, i64_w, i32_w]
    rfl
  refine one_ (i := 1) (N := some 14) #[true, true, true, false, false, false, false, false, false, false] rfl rfl (by kernel_rfl) (by decide) (fun K hK => ?_)
  refine call_ (N := some 14) 150 #[.agg #[.int .i64 t]] (by rfl) rfl ?_ ?_
  · first | (go_simp; done) | (go_simp; rfl)
  refine (src3 t _).mono ?_
  rintro e w3 ⟨rfl, hb⟩
  refine ⟨_, rfl, ?_⟩
  have hb1 := Tp.below hHeld.2.2.2.2.2 hb
  refine hK.out _ _ ⟨(blk_cell hb1.h1 0).trans rfl, (blk_cell hb1.h1 1).trans rfl, (blk_cell hb1.h1 2).trans rfl, (blk_cell hb1.h1 3).trans rfl, (blk_cell hb1.h1 4).trans rfl, hb1⟩ (fun hHeld => ?_)
  clear hK K
  refine norm_ (a' := ?_) ?_ ?_
  rotate_left
  · show Act.put _ (some 14) _ = _
    simp only [Act.put, List.setIfInBounds_toArray, List.set_cons_zero, List.set_cons_succ, i64_w, i32_w]
    rfl
  refine pure_ (i := 3) (N := some 16) (v := ?_) (a' := ?_) #[true, true, true, true, false, false, false, false, false, false] rfl rfl (by kernel_rfl) (fun _ _ _ h => h) (Or.inl ⟨by rfl, ?_⟩) ?_ ?_
  rotate_left
  · intro w'
    go_simp
    with_reducible rfl
  rotate_left
  · simp only [Act.put, List.setIfInBounds_toArray, List.set_cons_zero, List.set_cons_succ, i64_w, i32_w]
    rfl
  refine pure_ (i := 4) (N := some 17) (v := ?_) (a' := ?_) #[true, true, true, true, true, false, false, false, false, false] rfl rfl (by kernel_rfl) (fun _ _ _ h => h) (Or.inl ⟨by rfl, ?_⟩) ?_ ?_
  rotate_left
  · intro w'
    go_simp
    with_reducible rfl
  rotate_left
  · simp only [Act.put, List.setIfInBounds_toArray, List.set_cons_zero, List.set_cons_succ, i64_w, i32_w]
    rfl
  refine pure_ (i := 5) (N := some 18) (v := undef) (a' := ?_) #[true, true, true, true, true, true, false, false, false, false] rfl rfl (by kernel_rfl) (fun _ _ _ h => h) (Or.inr ⟨by rfl, rfl⟩) ?_ ?_
  rotate_left
  · simp only [Act.put, List.setIfInBounds_toArray, List.set_cons_zero, List.set_cons_succ, i64_w, i32_w]
    rfl
  refine pure_ (i := 6) (N := some 19) (v := undef) (a' := ?_) #[true, true, true, true, true, true, true, false, false, false] rfl rfl (by kernel_rfl) (fun _ _ _ h => h) (Or.inr ⟨by rfl, rfl⟩) ?_ ?_
  rotate_left
  · simp only [Act.put, List.setIfInBounds_toArray, List.set_cons_zero, List.set_cons_succ, i64_w, i32_w]
    rfl
  refine pure_ (i := 7) (N := some 20) (v := undef) (a' := ?_) #[true, true, true, true, true, true, true, true, false, false] rfl rfl (by kernel_rfl) (fun _ _ _ h => h) (Or.inr ⟨by rfl, rfl⟩) ?_ ?_
  rotate_left
  · simp only [Act.put, List.setIfInBounds_toArray, List.set_cons_zero, List.set_cons_succ, i64_w, i32_w]
    rfl
  refine pure_ (i := 8) (N := some 21) (v := ?_) (a' := ?_) #[true, true, true, true, true, true, true, true, true, false] rfl rfl (by kernel_rfl) (fun _ _ _ h => h) (Or.inl ⟨by rfl, ?_⟩) ?_ ?_
  rotate_left
  · intro w'
    go_simp
    with_reducible rfl
  rotate_left
  · simp only [Act.put, List.setIfInBounds_toArray, List.set_cons_zero, List.set_cons_succ, i64_w, i32_w]
    rfl
  refine pure_ (i := 9) (N := some 4) (v := ?_) (a' := ?_) #[true, true, true, true, true, true, true, true, true, true] rfl rfl (by kernel_rfl) (fun _ _ _ h => h) (Or.inl ⟨by rfl, ?_⟩) ?_ ?_
  rotate_left
  · intro w'
    go_simp
    with_reducible rfl
  rotate_left
  · simp only [Act.put, List.setIfInBounds_toArray, List.set_cons_zero, List.set_cons_succ, i64_w, i32_w]
    rfl
  refine done_ (by kernel_rfl) ?_
  have hB := Tp.bel hHeld.2.2.2.2.2
  clear hHeld
  go_wp2
  go_ret
  exact ⟨rfl, hB⟩
set_option maxRecDepth 100000 in
theorem src_ok0 (a t c d n : Int) (b : Bool) (w : World) (h1 : (a == 1) = false) (h2 : (a == 2) = false) (h3 : (a == 3) = false) : Calls Tryz.prog 81 #[.agg #[.int .i64 a, .int .i64 t, .int .i64 c, .int .i64 d, .bool b], .int .i64 n] w fun e w' => e = .returned (.bool false) ∧ Below w.heap.size w w' := by
  have hu46 := Tryz.underlying41
  have hu44 := Tryz.underlying39
  have hrd := fun W => reading0 a t c d b W h1 h2 h3
  have hB := al w (.cells #[.int .i64 a, .int .i64 t, .int .i64 c, .int .i64 d, .bool b] 41)
  go_enter Tryz.func81, Tryz.ntmps81
  go_wp2_with fail
  refine (hrd _).mono ?_
  rintro e w2 ⟨rfl, hb⟩
  replace hB := hB.trans (hb.mono hB.size)
  clear hrd hb
  go_wp2
  go_ret
  exact ⟨rfl, hB⟩
theorem bz (t : Int) : (t == 0) = ((0 : Int) == t) := by rw [Bool.eq_iff_iff, beq_iff_eq, beq_iff_eq]; exact eq_comm
theorem src_ok (a t c d n : Int) (b : Bool) (w : World) : Calls Tryz.prog 81 #[.agg #[.int .i64 a, .int .i64 t, .int .i64 c, .int .i64 d, .bool b], .int .i64 n] w fun e w' => e = .returned (.bool (sOk a t c d n)) ∧ Below w.heap.size w w' := by
  unfold sOk
  by_cases h1 : a = 1
  · subst h1
    rw [if_pos rfl, bz t]
    cases hq : (0 : Int) == t with
    | true => exact src_ok1_true t c d n b w hq
    | false => exact src_ok1_false t c d n b w hq
  by_cases h2 : a = 2
  · subst h2
    rw [if_neg (by omega), if_pos (.inl rfl), bz c, bz d]
    cases hq : ((0 : Int) == c && (0 : Int) == d) with
    | true => exact src_ok2_true t c d n b w hq
    | false => exact src_ok2_false t c d n b w hq
  by_cases h3 : a = 3
  · subst h3
    rw [if_neg (by omega), if_pos (.inr rfl), bz c, bz d]
    cases hq : ((0 : Int) == c && (0 : Int) == d) with
    | true => exact src_ok3_true t c d n b w hq
    | false => exact src_ok3_false t c d n b w hq
  rw [if_neg h1, if_neg (by omega)]
  exact src_ok0 a t c d n b w (by simpa using h1) (by simpa using h2) (by simpa using h3)
end Go.Proofs.YtphblfmjdiigkaaGreatDoor.Hj2
