import Derived.Test.YtlgogdpnakbhiaaDoorHm
namespace Go.Proofs.YtlgogdpnakbhiaaDoor.Hn
open Go.RowKit Go.Proofs.YtlgogdpnakbhiaaDoorW.PrintWords Go.Proofs.YtlgogdpnakbhiaaDoorW.PrintLast Go.Proofs.YtlgogdpnakbhiaaDoorW.PrintMore Hm
attribute [local go_sem] max2_int min2_int max_two min_two
set_option linter.unusedVariables false
set_option linter.unusedSimpArgs false
def aOk (k i : Int) : Bool := decide (1 ≤ k) && (decide (k ≤ 3) && (decide (0 ≤ i) && decide (i < 6)))
set_option maxRecDepth 100000 in
theorem addrOk_any (k i : Int) (w : World) : Calls Tryd.prog 9 #[.agg #[.int .i64 k, .int .i64 i]] w fun e w' => e = .returned (.bool (aOk k i)) ∧ Below w.heap.size w w' := by
  have hu := Tryd.underlying28
  have al : ∀ o : Obj, Below w.heap.size w (w.alloc o) := fun o => (Below.refl _ _).alloc (Nat.le_refl _) _
  obtain ⟨p1, h1⟩ : ∃ q, decide (1 ≤ k) = q := ⟨_, rfl⟩
  obtain ⟨p2, h2⟩ : ∃ q, decide (k ≤ 3) = q := ⟨_, rfl⟩
  obtain ⟨p3, h3⟩ : ∃ q, decide (0 ≤ i) = q := ⟨_, rfl⟩
  obtain ⟨p4, h4⟩ : ∃ q, decide (i < 6) = q := ⟨_, rfl⟩
  have e : aOk k i = (p1 && (p2 && (p3 && p4))) := by unfold aOk; rw [h1, h2, h3, h4]
  rw [e]; clear e
  cases p1 <;> cases p2 <;> cases p3 <;> cases p4
  all_goals
    go_enter Tryd.func9, Tryd.ntmps9
    go_wp2
    go_ret
    exact ⟨rfl, al _⟩
set_option maxRecDepth 100000 in
set_option maxHeartbeats 6400000 in
theorem place_1 (g : Nat) (i : Int) (w : World) (hi : 0 ≤ i) (hi2 : i < 6) : Calls Tryd.prog 44 #[.pointer (some ⟨g, 0, none⟩), .agg #[.int .i64 1, .int .i64 i]] w fun e w' => e = .returned (.pointer (some ⟨g, 0 + i.toNat, none⟩)) ∧ Below w.heap.size w w' := by
  have hu := Tryd.underlying28
  have hu56 := Tryd.underlying61
  have hu54 := Tryd.underlying59
  have hu53 := Tryd.underlying58
  have hwj : wrap64 0 = 0 := by unfold wrap64; omega
  have d1 : decide (0 ≤ i) = true := by simpa using hi
  have d2 : decide (i < 6) = true := by simpa using hi2
  go_enter Tryd.func44, Tryd.ntmps44
  go_wp2_with fail
  have n0 : (w.alloc (Obj.cells #[Value.int IntKind.i64 1, Value.int IntKind.i64 i] 28)).heap[w.heap.size]? = some (.cells #[.int .i64 1, .int .i64 i] 28 (0, 0)) := heap_alloc_new _ _
  have n1 : Below w.heap.size w (w.alloc (Obj.cells #[Value.int IntKind.i64 1, Value.int IntKind.i64 i] 28)) := (Below.refl _ _).alloc (Nat.le_refl _) _
  generalize w.alloc (Obj.cells #[Value.int IntKind.i64 1, Value.int IntKind.i64 i] 28) = w1 at n0 n1 ⊢
  generalize hz : w.heap.size = z at n0 ⊢
  have c0 : w1.drew.cell? ⟨z, 0, none⟩ = some (.int .i64 1) := (blk_cell n0 0).trans rfl
  have c1 : w1.drew.cell? ⟨z, 1, none⟩ = some (.int .i64 i) := (blk_cell n0 1).trans rfl
  have c2 := below_drew1 n1
  refine start_ (n := 11) (S := fun w' => w'.cell? ⟨z, 0, none⟩ = some (.int .i64 1) ∧ w'.cell? ⟨z, 1, none⟩ = some (.int .i64 i) ∧ Below w.heap.size w w') (ds := []) #[false, false, false, false, false, false, false, false, false, false, false] (by kernel_rfl) rfl rfl ⟨c0, c1, c2⟩ (fun hHeld => ?_)
  refine pure_ (i := 0) (N := some 5) (v := ?_) (a' := ?_) #[true, false, false, false, false, false, false, false, false, false, false] rfl rfl (by kernel_rfl) (fun _ _ _ h => h) (Or.inl ⟨by rfl, ?_⟩) ?_ ?_
  rotate_left
  · intro w'
    go_simp
    with_reducible rfl
  rotate_left
  · simp only [Act.put, List.setIfInBounds_toArray, List.set_cons_zero, List.set_cons_succ, i64_w, i32_w]
    rfl
  refine pure_ (i := 1) (N := some 6) (v := ?_) (a' := ?_) #[true, true, false, false, false, false, false, false, false, false, false] rfl rfl (by kernel_rfl) (fun _ _ _ h => h) (Or.inl ⟨by rfl, ?_⟩) ?_ ?_
  rotate_left
  · intro w'
    go_simp
    with_reducible rfl
  rotate_left
  · simp only [Act.put, List.setIfInBounds_toArray, List.set_cons_zero, List.set_cons_succ, i64_w, i32_w]
    rfl
  refine pure_ (i := 4) (N := some 9) (v := ?_) (a' := ?_) #[true, true, false, false, true, false, false, false, false, false, false] rfl rfl (by kernel_rfl) (fun _ _ _ h => h) (Or.inl ⟨by rfl, ?_⟩) ?_ ?_
  rotate_left
  · intro w'
    go_simp
    with_reducible rfl
  rotate_left
  · simp only [Act.put, List.setIfInBounds_toArray, List.set_cons_zero, List.set_cons_succ, i64_w, i32_w]
    rfl
  refine pure_ (i := 6) (N := some 11) (v := ?_) (a' := ?_) #[true, true, false, false, true, false, true, false, false, false, false] rfl rfl (by kernel_rfl) (fun _ _ _ h => h) (Or.inl ⟨by rfl, ?_⟩) ?_ ?_
  rotate_left
  · intro w'
    go_simp
    with_reducible rfl
  rotate_left
  · simp only [Act.put, List.setIfInBounds_toArray, List.set_cons_zero, List.set_cons_succ, i64_w, i32_w]
    rfl
  refine pure_ (i := 7) (N := some 12) (v := ?_) (a' := ?_) #[true, true, false, false, true, false, true, true, false, false, false] rfl rfl (by kernel_rfl) (fun _ _ _ h => h) (Or.inl ⟨by rfl, ?_⟩) ?_ ?_
  rotate_left
  · intro w'
    go_simp
    with_reducible rfl
  rotate_left
  · simp only [Act.put, List.setIfInBounds_toArray, List.set_cons_zero, List.set_cons_succ, i64_w, i32_w]
    rfl
  refine take_ (i := 2) (N := some 7) (v := ?_) (a' := ?_) #[true, true, true, false, true, false, true, true, false, false, false] rfl rfl (by kernel_rfl) (fun _ _ _ h => h) (Or.inl ⟨by rfl, ?_⟩) hHeld ?_ ?_
  rotate_left
  · rintro w' ⟨s0, s1, s2⟩
    go_simp
    with_reducible rfl
  rotate_left
  · simp only [Act.put, List.setIfInBounds_toArray, List.set_cons_zero, List.set_cons_succ, i64_w, i32_w]
    rfl
  refine pure_ (i := 3) (N := some 8) (v := ?_) (a' := ?_) #[true, true, true, true, true, false, true, true, false, false, false] rfl rfl (by kernel_rfl) (fun _ _ _ h => h) (Or.inl ⟨by rfl, ?_⟩) ?_ ?_
  rotate_left
  · intro w'
    go_simp
    with_reducible rfl
  rotate_left
  · simp only [Act.put, List.setIfInBounds_toArray, List.set_cons_zero, List.set_cons_succ, i64_w, i32_w]
    rfl
  refine pure_ (i := 8) (N := some 13) (v := ?_) (a' := ?_) #[true, true, true, true, true, false, true, true, true, false, false] rfl rfl (by kernel_rfl) (fun _ _ _ h => h) (Or.inl ⟨by rfl, ?_⟩) ?_ ?_
  rotate_left
  · intro w'
    go_simp
    with_reducible rfl
  rotate_left
  · simp only [Act.put, List.setIfInBounds_toArray, List.set_cons_zero, List.set_cons_succ, i64_w, i32_w]
    rfl
  refine take_ (i := 5) (N := some 10) (v := ?_) (a' := ?_) #[true, true, true, true, true, true, true, true, true, false, false] rfl rfl (by kernel_rfl) (fun _ _ _ h => h) (Or.inl ⟨by rfl, ?_⟩) hHeld ?_ ?_
  rotate_left
  · rintro w' ⟨s0, s1, s2⟩
    go_simp
    with_reducible rfl
  rotate_left
  · simp only [Act.put, List.setIfInBounds_toArray, List.set_cons_zero, List.set_cons_succ, i64_w, i32_w]
    rfl
  refine pure_ (i := 9) (N := some 14) (v := ?_) (a' := ?_) #[true, true, true, true, true, true, true, true, true, true, false] rfl rfl (by kernel_rfl) (fun _ _ _ h => h) (Or.inl ⟨by rfl, ?_⟩) ?_ ?_
  rotate_left
  · intro w'
    go_simp
    with_reducible rfl
  rotate_left
  · simp only [Act.put, List.setIfInBounds_toArray, List.set_cons_zero, List.set_cons_succ, i64_w, i32_w]
    rfl
  refine pure_ (i := 10) (N := some 4) (v := ?_) (a' := ?_) #[true, true, true, true, true, true, true, true, true, true, true] rfl rfl (by kernel_rfl) (fun _ _ _ h => h) (Or.inl ⟨by rfl, ?_⟩) ?_ ?_
  rotate_left
  · intro w'
    go_simp
    with_reducible rfl
  rotate_left
  · simp only [Act.put, List.setIfInBounds_toArray, List.set_cons_zero, List.set_cons_succ, i64_w, i32_w]
    rfl
  refine done_ (by kernel_rfl) ?_
  have hl := hHeld.2.2
  go_wp2
  go_ret
  exact ⟨by first | rfl | (rw [Nat.zero_add]; rfl), hz ▸ hl⟩
set_option maxRecDepth 100000 in
set_option maxHeartbeats 6400000 in
theorem place_2 (g : Nat) (i : Int) (w : World) (hi : 0 ≤ i) (hi2 : i < 6) : Calls Tryd.prog 44 #[.pointer (some ⟨g, 0, none⟩), .agg #[.int .i64 2, .int .i64 i]] w fun e w' => e = .returned (.pointer (some ⟨g, 6 + i.toNat, none⟩)) ∧ Below w.heap.size w w' := by
  have hu := Tryd.underlying28
  have hu56 := Tryd.underlying61
  have hu54 := Tryd.underlying59
  have hu53 := Tryd.underlying58
  have hwj : wrap64 1 = 1 := by unfold wrap64; omega
  have d1 : decide (0 ≤ i) = true := by simpa using hi
  have d2 : decide (i < 6) = true := by simpa using hi2
  go_enter Tryd.func44, Tryd.ntmps44
  go_wp2_with fail
  have n0 : (w.alloc (Obj.cells #[Value.int IntKind.i64 2, Value.int IntKind.i64 i] 28)).heap[w.heap.size]? = some (.cells #[.int .i64 2, .int .i64 i] 28 (0, 0)) := heap_alloc_new _ _
  have n1 : Below w.heap.size w (w.alloc (Obj.cells #[Value.int IntKind.i64 2, Value.int IntKind.i64 i] 28)) := (Below.refl _ _).alloc (Nat.le_refl _) _
  generalize w.alloc (Obj.cells #[Value.int IntKind.i64 2, Value.int IntKind.i64 i] 28) = w1 at n0 n1 ⊢
  generalize hz : w.heap.size = z at n0 ⊢
  have c0 : w1.drew.cell? ⟨z, 0, none⟩ = some (.int .i64 2) := (blk_cell n0 0).trans rfl
  have c1 : w1.drew.cell? ⟨z, 1, none⟩ = some (.int .i64 i) := (blk_cell n0 1).trans rfl
  have c2 := below_drew1 n1
  refine start_ (n := 11) (S := fun w' => w'.cell? ⟨z, 0, none⟩ = some (.int .i64 2) ∧ w'.cell? ⟨z, 1, none⟩ = some (.int .i64 i) ∧ Below w.heap.size w w') (ds := []) #[false, false, false, false, false, false, false, false, false, false, false] (by kernel_rfl) rfl rfl ⟨c0, c1, c2⟩ (fun hHeld => ?_)
  refine pure_ (i := 0) (N := some 5) (v := ?_) (a' := ?_) #[true, false, false, false, false, false, false, false, false, false, false] rfl rfl (by kernel_rfl) (fun _ _ _ h => h) (Or.inl ⟨by rfl, ?_⟩) ?_ ?_
  rotate_left
  · intro w'
    go_simp
    with_reducible rfl
  rotate_left
  · simp only [Act.put, List.setIfInBounds_toArray, List.set_cons_zero, List.set_cons_succ, i64_w, i32_w]
    rfl
  refine pure_ (i := 1) (N := some 6) (v := ?_) (a' := ?_) #[true, true, false, false, false, false, false, false, false, false, false] rfl rfl (by kernel_rfl) (fun _ _ _ h => h) (Or.inl ⟨by rfl, ?_⟩) ?_ ?_
  rotate_left
  · intro w'
    go_simp
    with_reducible rfl
  rotate_left
  · simp only [Act.put, List.setIfInBounds_toArray, List.set_cons_zero, List.set_cons_succ, i64_w, i32_w]
    rfl
  refine pure_ (i := 4) (N := some 9) (v := ?_) (a' := ?_) #[true, true, false, false, true, false, false, false, false, false, false] rfl rfl (by kernel_rfl) (fun _ _ _ h => h) (Or.inl ⟨by rfl, ?_⟩) ?_ ?_
  rotate_left
  · intro w'
    go_simp
    with_reducible rfl
  rotate_left
  · simp only [Act.put, List.setIfInBounds_toArray, List.set_cons_zero, List.set_cons_succ, i64_w, i32_w]
    rfl
  refine pure_ (i := 6) (N := some 11) (v := ?_) (a' := ?_) #[true, true, false, false, true, false, true, false, false, false, false] rfl rfl (by kernel_rfl) (fun _ _ _ h => h) (Or.inl ⟨by rfl, ?_⟩) ?_ ?_
  rotate_left
  · intro w'
    go_simp
    with_reducible rfl
  rotate_left
  · simp only [Act.put, List.setIfInBounds_toArray, List.set_cons_zero, List.set_cons_succ, i64_w, i32_w]
    rfl
  refine pure_ (i := 7) (N := some 12) (v := ?_) (a' := ?_) #[true, true, false, false, true, false, true, true, false, false, false] rfl rfl (by kernel_rfl) (fun _ _ _ h => h) (Or.inl ⟨by rfl, ?_⟩) ?_ ?_
  rotate_left
  · intro w'
    go_simp
    with_reducible rfl
  rotate_left
  · simp only [Act.put, List.setIfInBounds_toArray, List.set_cons_zero, List.set_cons_succ, i64_w, i32_w]
    rfl
  refine take_ (i := 2) (N := some 7) (v := ?_) (a' := ?_) #[true, true, true, false, true, false, true, true, false, false, false] rfl rfl (by kernel_rfl) (fun _ _ _ h => h) (Or.inl ⟨by rfl, ?_⟩) hHeld ?_ ?_
  rotate_left
  · rintro w' ⟨s0, s1, s2⟩
    go_simp
    with_reducible rfl
  rotate_left
  · simp only [Act.put, List.setIfInBounds_toArray, List.set_cons_zero, List.set_cons_succ, i64_w, i32_w]
    rfl
  refine pure_ (i := 3) (N := some 8) (v := ?_) (a' := ?_) #[true, true, true, true, true, false, true, true, false, false, false] rfl rfl (by kernel_rfl) (fun _ _ _ h => h) (Or.inl ⟨by rfl, ?_⟩) ?_ ?_
  rotate_left
  · intro w'
    go_simp
    with_reducible rfl
  rotate_left
  · simp only [Act.put, List.setIfInBounds_toArray, List.set_cons_zero, List.set_cons_succ, i64_w, i32_w]
    rfl
  refine pure_ (i := 8) (N := some 13) (v := ?_) (a' := ?_) #[true, true, true, true, true, false, true, true, true, false, false] rfl rfl (by kernel_rfl) (fun _ _ _ h => h) (Or.inl ⟨by rfl, ?_⟩) ?_ ?_
  rotate_left
  · intro w'
    go_simp
    with_reducible rfl
  rotate_left
  · simp only [Act.put, List.setIfInBounds_toArray, List.set_cons_zero, List.set_cons_succ, i64_w, i32_w]
    rfl
  refine take_ (i := 5) (N := some 10) (v := ?_) (a' := ?_) #[true, true, true, true, true, true, true, true, true, false, false] rfl rfl (by kernel_rfl) (fun _ _ _ h => h) (Or.inl ⟨by rfl, ?_⟩) hHeld ?_ ?_
  rotate_left
  · rintro w' ⟨s0, s1, s2⟩
    go_simp
    with_reducible rfl
  rotate_left
  · simp only [Act.put, List.setIfInBounds_toArray, List.set_cons_zero, List.set_cons_succ, i64_w, i32_w]
    rfl
  refine pure_ (i := 9) (N := some 14) (v := ?_) (a' := ?_) #[true, true, true, true, true, true, true, true, true, true, false] rfl rfl (by kernel_rfl) (fun _ _ _ h => h) (Or.inl ⟨by rfl, ?_⟩) ?_ ?_
  rotate_left
  · intro w'
    go_simp
    with_reducible rfl
  rotate_left
  · simp only [Act.put, List.setIfInBounds_toArray, List.set_cons_zero, List.set_cons_succ, i64_w, i32_w]
    rfl
  refine pure_ (i := 10) (N := some 4) (v := ?_) (a' := ?_) #[true, true, true, true, true, true, true, true, true, true, true] rfl rfl (by kernel_rfl) (fun _ _ _ h => h) (Or.inl ⟨by rfl, ?_⟩) ?_ ?_
  rotate_left
  · intro w'
    go_simp
    with_reducible rfl
  rotate_left
  · simp only [Act.put, List.setIfInBounds_toArray, List.set_cons_zero, List.set_cons_succ, i64_w, i32_w]
    rfl
  refine done_ (by kernel_rfl) ?_
  have hl := hHeld.2.2
  go_wp2
  go_ret
  exact ⟨by first | rfl | (rw [Nat.zero_add]; rfl), hz ▸ hl⟩
set_option maxRecDepth 100000 in
set_option maxHeartbeats 6400000 in
theorem place_3 (g : Nat) (i : Int) (w : World) (hi : 0 ≤ i) (hi2 : i < 6) : Calls Tryd.prog 44 #[.pointer (some ⟨g, 0, none⟩), .agg #[.int .i64 3, .int .i64 i]] w fun e w' => e = .returned (.pointer (some ⟨g, 12 + i.toNat, none⟩)) ∧ Below w.heap.size w w' := by
  have hu := Tryd.underlying28
  have hu56 := Tryd.underlying61
  have hu54 := Tryd.underlying59
  have hu53 := Tryd.underlying58
  have hwj : wrap64 2 = 2 := by unfold wrap64; omega
  have d1 : decide (0 ≤ i) = true := by simpa using hi
  have d2 : decide (i < 6) = true := by simpa using hi2
  go_enter Tryd.func44, Tryd.ntmps44
  go_wp2_with fail
  have n0 : (w.alloc (Obj.cells #[Value.int IntKind.i64 3, Value.int IntKind.i64 i] 28)).heap[w.heap.size]? = some (.cells #[.int .i64 3, .int .i64 i] 28 (0, 0)) := heap_alloc_new _ _
  have n1 : Below w.heap.size w (w.alloc (Obj.cells #[Value.int IntKind.i64 3, Value.int IntKind.i64 i] 28)) := (Below.refl _ _).alloc (Nat.le_refl _) _
  generalize w.alloc (Obj.cells #[Value.int IntKind.i64 3, Value.int IntKind.i64 i] 28) = w1 at n0 n1 ⊢
  generalize hz : w.heap.size = z at n0 ⊢
  have c0 : w1.drew.cell? ⟨z, 0, none⟩ = some (.int .i64 3) := (blk_cell n0 0).trans rfl
  have c1 : w1.drew.cell? ⟨z, 1, none⟩ = some (.int .i64 i) := (blk_cell n0 1).trans rfl
  have c2 := below_drew1 n1
  refine start_ (n := 11) (S := fun w' => w'.cell? ⟨z, 0, none⟩ = some (.int .i64 3) ∧ w'.cell? ⟨z, 1, none⟩ = some (.int .i64 i) ∧ Below w.heap.size w w') (ds := []) #[false, false, false, false, false, false, false, false, false, false, false] (by kernel_rfl) rfl rfl ⟨c0, c1, c2⟩ (fun hHeld => ?_)
  refine pure_ (i := 0) (N := some 5) (v := ?_) (a' := ?_) #[true, false, false, false, false, false, false, false, false, false, false] rfl rfl (by kernel_rfl) (fun _ _ _ h => h) (Or.inl ⟨by rfl, ?_⟩) ?_ ?_
  rotate_left
  · intro w'
    go_simp
    with_reducible rfl
  rotate_left
  · simp only [Act.put, List.setIfInBounds_toArray, List.set_cons_zero, List.set_cons_succ, i64_w, i32_w]
    rfl
  refine pure_ (i := 1) (N := some 6) (v := ?_) (a' := ?_) #[true, true, false, false, false, false, false, false, false, false, false] rfl rfl (by kernel_rfl) (fun _ _ _ h => h) (Or.inl ⟨by rfl, ?_⟩) ?_ ?_
  rotate_left
  · intro w'
    go_simp
    with_reducible rfl
  rotate_left
  · simp only [Act.put, List.setIfInBounds_toArray, List.set_cons_zero, List.set_cons_succ, i64_w, i32_w]
    rfl
  refine pure_ (i := 4) (N := some 9) (v := ?_) (a' := ?_) #[true, true, false, false, true, false, false, false, false, false, false] rfl rfl (by kernel_rfl) (fun _ _ _ h => h) (Or.inl ⟨by rfl, ?_⟩) ?_ ?_
  rotate_left
  · intro w'
    go_simp
    with_reducible rfl
  rotate_left
  · simp only [Act.put, List.setIfInBounds_toArray, List.set_cons_zero, List.set_cons_succ, i64_w, i32_w]
    rfl
  refine pure_ (i := 6) (N := some 11) (v := ?_) (a' := ?_) #[true, true, false, false, true, false, true, false, false, false, false] rfl rfl (by kernel_rfl) (fun _ _ _ h => h) (Or.inl ⟨by rfl, ?_⟩) ?_ ?_
  rotate_left
  · intro w'
    go_simp
    with_reducible rfl
  rotate_left
  · simp only [Act.put, List.setIfInBounds_toArray, List.set_cons_zero, List.set_cons_succ, i64_w, i32_w]
    rfl
  refine pure_ (i := 7) (N := some 12) (v := ?_) (a' := ?_) #[true, true, false, false, true, false, true, true, false, false, false] rfl rfl (by kernel_rfl) (fun _ _ _ h => h) (Or.inl ⟨by rfl, ?_⟩) ?_ ?_
  rotate_left
  · intro w'
    go_simp
    with_reducible rfl
  rotate_left
  · simp only [Act.put, List.setIfInBounds_toArray, List.set_cons_zero, List.set_cons_succ, i64_w, i32_w]
    rfl
  refine take_ (i := 2) (N := some 7) (v := ?_) (a' := ?_) #[true, true, true, false, true, false, true, true, false, false, false] rfl rfl (by kernel_rfl) (fun _ _ _ h => h) (Or.inl ⟨by rfl, ?_⟩) hHeld ?_ ?_
  rotate_left
  · rintro w' ⟨s0, s1, s2⟩
    go_simp
    with_reducible rfl
  rotate_left
  · simp only [Act.put, List.setIfInBounds_toArray, List.set_cons_zero, List.set_cons_succ, i64_w, i32_w]
    rfl
  refine pure_ (i := 3) (N := some 8) (v := ?_) (a' := ?_) #[true, true, true, true, true, false, true, true, false, false, false] rfl rfl (by kernel_rfl) (fun _ _ _ h => h) (Or.inl ⟨by rfl, ?_⟩) ?_ ?_
  rotate_left
  · intro w'
    go_simp
    with_reducible rfl
  rotate_left
  · simp only [Act.put, List.setIfInBounds_toArray, List.set_cons_zero, List.set_cons_succ, i64_w, i32_w]
    rfl
  refine pure_ (i := 8) (N := some 13) (v := ?_) (a' := ?_) #[true, true, true, true, true, false, true, true, true, false, false] rfl rfl (by kernel_rfl) (fun _ _ _ h => h) (Or.inl ⟨by rfl, ?_⟩) ?_ ?_
  rotate_left
  · intro w'
    go_simp
    with_reducible rfl
  rotate_left
  · simp only [Act.put, List.setIfInBounds_toArray, List.set_cons_zero, List.set_cons_succ, i64_w, i32_w]
    rfl
  refine take_ (i := 5) (N := some 10) (v := ?_) (a' := ?_) #[true, true, true, true, true, true, true, true, true, false, false] rfl rfl (by kernel_rfl) (fun _ _ _ h => h) (Or.inl ⟨by rfl, ?_⟩) hHeld ?_ ?_
  rotate_left
  · rintro w' ⟨s0, s1, s2⟩
    go_simp
    with_reducible rfl
  rotate_left
  · simp only [Act.put, List.setIfInBounds_toArray, List.set_cons_zero, List.set_cons_succ, i64_w, i32_w]
    rfl
  refine pure_ (i := 9) (N := some 14) (v := ?_) (a' := ?_) #[true, true, true, true, true, true, true, true, true, true, false] rfl rfl (by kernel_rfl) (fun _ _ _ h => h) (Or.inl ⟨by rfl, ?_⟩) ?_ ?_
  rotate_left
  · intro w'
    go_simp
    with_reducible rfl
  rotate_left
  · simp only [Act.put, List.setIfInBounds_toArray, List.set_cons_zero, List.set_cons_succ, i64_w, i32_w]
    rfl
  refine pure_ (i := 10) (N := some 4) (v := ?_) (a' := ?_) #[true, true, true, true, true, true, true, true, true, true, true] rfl rfl (by kernel_rfl) (fun _ _ _ h => h) (Or.inl ⟨by rfl, ?_⟩) ?_ ?_
  rotate_left
  · intro w'
    go_simp
    with_reducible rfl
  rotate_left
  · simp only [Act.put, List.setIfInBounds_toArray, List.set_cons_zero, List.set_cons_succ, i64_w, i32_w]
    rfl
  refine done_ (by kernel_rfl) ?_
  have hl := hHeld.2.2
  go_wp2
  go_ret
  exact ⟨by first | rfl | (rw [Nat.zero_add]; rfl), hz ▸ hl⟩
theorem place_any (g : Nat) (k i : Int) (w : World) (hk : 1 ≤ k) (hk2 : k ≤ 3) (hi : 0 ≤ i) (hi2 : i < 6) : Calls Tryd.prog 44 #[.pointer (some ⟨g, 0, none⟩), .agg #[.int .i64 k, .int .i64 i]] w fun e w' => e = .returned (.pointer (some ⟨g, 6 * (k - 1).toNat + i.toNat, none⟩)) ∧ Below w.heap.size w w' := by
  rcases (by omega : k = 1 ∨ k = 2 ∨ k = 3) with rfl | rfl | rfl
  · exact place_1 g i w hi hi2
  · exact place_2 g i w hi hi2
  · exact place_3 g i w hi hi2
set_option maxRecDepth 100000 in
theorem get_no (g : Nat) (k i : Int) (w : World) (h : aOk k i = false) : Calls Tryd.prog 29 #[.pointer (some ⟨g, 0, none⟩), .agg #[.int .i64 k, .int .i64 i]] w fun e w' => e = .returned (.int .i64 0) ∧ Below w.heap.size w w' := by
  have hu := Tryd.underlying28
  have al : ∀ o : Obj, Below w.heap.size w (w.alloc o) := fun o => (Below.refl _ _).alloc (Nat.le_refl _) _
  have hc := fun W => addrOk_any k i W
  rw [h] at hc
  clear h
  go_enter Tryd.func29, Tryd.ntmps29
  go_wp2_with fail
  refine (hc _).mono ?_
  rintro e w2 ⟨rfl, hb⟩
  go_wp2
  go_ret
  exact ⟨rfl, (al _).trans (hb.mono (al _).size)⟩
set_option maxRecDepth 100000 in
theorem get_yes (g : Nat) (k i v : Int) (M : Array Value) (t : TypeId) (w : World) (h : aOk k i = true) (hg : w.heap[g]? = some (.cells M t (0, 0))) (hv : M[6 * (k - 1).toNat + i.toNat]? = some (.int .i64 v)) : Calls Tryd.prog 29 #[.pointer (some ⟨g, 0, none⟩), .agg #[.int .i64 k, .int .i64 i]] w fun e w' => e = .returned (.int .i64 v) ∧ Below w.heap.size w w' := by
  have hu := Tryd.underlying28
  have al : ∀ o : Obj, Below w.heap.size w (w.alloc o) := fun o => (Below.refl _ _).alloc (Nat.le_refl _) _
  have hc := fun W => addrOk_any k i W
  rw [h] at hc
  have hp : ∀ W, Calls Tryd.prog 44 #[.pointer (some ⟨g, 0, none⟩), .agg #[.int .i64 k, .int .i64 i]] W fun e w' => e = .returned (.pointer (some ⟨g, 6 * (k - 1).toNat + i.toNat, none⟩)) ∧ Below W.heap.size W w' := fun W => by
    simp only [aOk, Bool.and_eq_true, decide_eq_true_eq] at h
    exact place_any g k i W h.1 h.2.1 h.2.2.1 h.2.2.2
  clear h
  generalize 6 * (k - 1).toNat + i.toNat = n at hv hp
  go_enter Tryd.func29, Tryd.ntmps29
  go_wp2_with fail
  refine (hc _).mono ?_
  rintro e w2 ⟨rfl, hb⟩
  have z1 : w2.cell? ⟨w.heap.size, 0, none⟩ = some (.int .i64 k) := (blk_cell (blk_below (heap_alloc_new w _) hb) 0).trans rfl
  have z2 : w2.cell? ⟨w.heap.size, 1, none⟩ = some (.int .i64 i) := (blk_cell (blk_below (heap_alloc_new w _) hb) 1).trans rfl
  go_wp2_with fail
  refine (hp _).mono ?_
  rintro e w3 ⟨rfl, hb2⟩
  have q : w3.cell? ⟨g, n, none⟩ = some (.int .i64 v) := (blk_cell (blk_below (blk_below (blk_alloc hg _) hb) hb2) n).trans hv
  go_wp2
  go_ret
  exact ⟨rfl, ((al _).trans (hb.mono (al _).size)).trans (hb2.mono ((al _).trans (hb.mono (al _).size)).size)⟩
def pk (l0 l1 l2 : List Int) (k : Int) : List Int := if k = 1 then l0 else if k = 2 then l1 else l2
def gM (l0 l1 l2 : List Int) (k i : Int) : Int := if (okM l0 l1 l2 && aOk k i) = true then rd (pk l0 l1 l2 k) i else 0
theorem mM_at (l0 l1 l2 : List Int) (k i : Int) (h : aOk k i = true) : (mM 3 l0 l1 l2)[6 * (k - 1).toNat + i.toNat]? = some (.int .i64 (rd (pk l0 l1 l2 k) i)) := by
  simp only [aOk, Bool.and_eq_true, decide_eq_true_eq] at h
  obtain ⟨h1, h2, h3, h4⟩ := h
  rcases (by omega : k = 1 ∨ k = 2 ∨ k = 3) with rfl | rfl | rfl <;> rcases (by omega : i = 0 ∨ i = 1 ∨ i = 2 ∨ i = 3 ∨ i = 4 ∨ i = 5) with rfl | rfl | rfl | rfl | rfl | rfl <;> rfl
set_option maxRecDepth 100000 in
theorem memGet_any (A0 A1 A2 : Option Addr) (c0 c1 c2 : Nat) (l0 l1 l2 : List Int) (k i : Int) (w : World) (hr0 : Kd.C (Kd.int .i64) w A0 l0.length l0) (hr1 : Kd.C (Kd.int .i64) w A1 l1.length l1) (hr2 : Kd.C (Kd.int .i64) w A2 l2.length l2) :
    Calls Tryd.prog 12 #[.agg #[.slice A0 l0.length c0, .slice A1 l1.length c1, .slice A2 l2.length c2], .agg #[.int .i64 k, .int .i64 i]] w fun e w' => e = .returned (.int .i64 (gM l0 l1 l2 k i)) ∧ Below w.heap.size w w' := by
  have hu := Tryd.underlying25
  have hu38 := Tryd.underlying28
  have al : ∀ o o2 : Obj, Below w.heap.size w ((w.alloc o).alloc o2) := fun o o2 => ((Below.refl _ _).alloc (Nat.le_refl _) _).alloc (by rw [alloc_size]; exact Nat.le_succ _) _
  obtain ⟨v, hv⟩ : ∃ v, gM l0 l1 l2 k i = v := ⟨_, rfl⟩
  rw [hv]
  go_enter Tryd.func12, Tryd.ntmps12
  go_wp2_with fail
  refine (readMem_any _ _ _ _ _ _ l0 l1 l2 _ (Kd.C_below hr0 (al _ _)) (Kd.C_below hr1 (al _ _)) (Kd.C_below hr2 (al _ _))).mono ?_
  rintro e w2 ⟨h1, h2, hb⟩
  have hb2 := (al (.cells #[.slice A0 l0.length c0, .slice A1 l1.length c1, .slice A2 l2.length c2] 25) (.cells #[.int .i64 k, .int .i64 i] 28)).trans (hb.mono (al (.cells #[.slice A0 l0.length c0, .slice A1 l1.length c1, .slice A2 l2.length c2] 25) (.cells #[.int .i64 k, .int .i64 i] 28)).size)
  have n1 : w2.heap[w.heap.size + 1]? = some (.cells #[.int .i64 k, .int .i64 i] 28 (0, 0)) := blk_below (by rw [← alloc_size w (.cells #[.slice A0 l0.length c0, .slice A1 l1.length c1, .slice A2 l2.length c2] 25)]; exact heap_alloc_new _ _) hb
  have z0 : w2.cell? ⟨w.heap.size + 1, 0, none⟩ = some (.int .i64 k) := (blk_cell n1 0).trans rfl
  have z1 : w2.cell? ⟨w.heap.size + 1, 1, none⟩ = some (.int .i64 i) := (blk_cell n1 1).trans rfl
  cases hk : okM l0 l1 l2 with
  | true =>
    obtain ⟨g, rfl, hg, _⟩ := h1 hk
    cases ha : aOk k i with
    | true =>
      obtain rfl : rd (pk l0 l1 l2 k) i = v := by rw [← hv]; unfold gM; rw [hk, ha]; rfl
      have hc := fun W hW => get_yes g k i _ (mM 3 l0 l1 l2) 61 W ha hW (mM_at l0 l1 l2 k i ha)
      go_wp2_with fail
      refine (hc _ hg).mono ?_
      rintro e w3 ⟨rfl, hb3⟩
      go_wp2
      go_ret
      exact ⟨rfl, hb2.trans (hb3.mono hb2.size)⟩
    | false =>
      obtain rfl : (0 : Int) = v := by rw [← hv]; unfold gM; rw [hk, ha]; rfl
      have hc := fun W => get_no g k i W ha
      go_wp2_with fail
      refine (hc _).mono ?_
      rintro e w3 ⟨rfl, hb3⟩
      go_wp2
      go_ret
      exact ⟨rfl, hb2.trans (hb3.mono hb2.size)⟩
  | false =>
    obtain rfl : (0 : Int) = v := by rw [← hv]; unfold gM; rw [hk]; rfl
    obtain rfl := h2 hk
    go_wp2
    go_ret
    exact ⟨rfl, hb2⟩
end Go.Proofs.YtlgogdpnakbhiaaDoor.Hn
