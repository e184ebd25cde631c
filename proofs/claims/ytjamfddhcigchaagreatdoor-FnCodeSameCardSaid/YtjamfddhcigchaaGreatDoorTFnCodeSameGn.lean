import Derived.Test.YtjamfddhcigchaaGreatDoorTFnCodeSameGm
namespace Go.Proofs.YtjamfddhcigchaaGreatDoor.Gn
open Go.RowKit Go.Proofs.YtjamfddhcigchaaGreatDoorW.PrintWords Go.Proofs.YtjamfddhcigchaaGreatDoorW.PrintLast Go.Proofs.YtjamfddhcigchaaGreatDoorW.PrintMore Gm
attribute [local go_sem] max2_int min2_int max_two min_two
set_option linter.unusedVariables false
set_option linter.unusedSimpArgs false
def aOk (k i : Int) : Bool := decide (1 ≤ k) && (decide (k ≤ 3) && (decide (0 ≤ i) && decide (i < 6)))
set_option maxRecDepth 100000 in
theorem addrOk_any (k i : Int) (w : World) : Calls Tryz.prog 110 #[.agg #[.int .i64 k, .int .i64 i]] w fun e w' => e = .returned (.bool (aOk k i)) ∧ Below w.heap.size w w' := by
 have hu := Tryz.underlying28
 have al : ∀ o : Obj, Below w.heap.size w (w.alloc o) := fun o => (Below.refl _ _).alloc (Nat.le_refl _) _
 obtain ⟨p1, h1⟩ : ∃ q, decide (1 ≤ k) = q := ⟨_, rfl⟩
 obtain ⟨p2, h2⟩ : ∃ q, decide (k ≤ 3) = q := ⟨_, rfl⟩
 obtain ⟨p3, h3⟩ : ∃ q, decide (0 ≤ i) = q := ⟨_, rfl⟩
 obtain ⟨p4, h4⟩ : ∃ q, decide (i < 6) = q := ⟨_, rfl⟩
 have e : aOk k i = (p1 && (p2 && (p3 && p4))) := by unfold aOk; rw [h1, h2, h3, h4]
 rw [e]; clear e
 cases p1 <;> cases p2 <;> cases p3 <;> cases p4
 all_goals
  go_enter Tryz.func110, Tryz.ntmps110
  go_wp2
  go_ret
  exact ⟨rfl, al _⟩
set_option maxRecDepth 100000 in
set_option maxHeartbeats 6400000 in
theorem place_1 (g : Nat) (i : Int) (w : World) (hi : 0 ≤ i) (hi2 : i < 6) : Calls Tryz.prog 123 #[.pointer (some ⟨g, 0, none⟩), .agg #[.int .i64 1, .int .i64 i]] w fun e w' => e = .returned (.pointer (some ⟨g, 0 + i.toNat, none⟩)) ∧ Below w.heap.size w w' := by
 have hu := Tryz.underlying28
 have hu56 := Tryz.underlying82
 have hu54 := Tryz.underlying80
 have hu53 := Tryz.underlying79
 have hwj : wrap64 0 = 0 := by unfold wrap64; omega
 have d1 : decide (0 ≤ i) = true := by simpa using hi
 have d2 : decide (i < 6) = true := by simpa using hi2
 go_enter Tryz.func123, Tryz.ntmps123
 go_wp2_with fail
 have n0 : (w.alloc (Obj.cells #[Value.int IntKind.i64 1, Value.int IntKind.i64 i] 28)).heap[w.heap.size]? = some (.cells #[.int .i64 1, .int .i64 i] 28 (0, 0)) := heap_alloc_new _ _
 have n1 : Below w.heap.size w (w.alloc (Obj.cells #[Value.int IntKind.i64 1, Value.int IntKind.i64 i] 28)) := (Below.refl _ _).alloc (Nat.le_refl _) _
 generalize w.alloc (Obj.cells #[Value.int IntKind.i64 1, Value.int IntKind.i64 i] 28) = w1 at n0 n1 ⊢
 generalize hz : w.heap.size = z at n0 ⊢
 have c0 : w1.drew.cell? ⟨z, 0, none⟩ = some (.int .i64 1) := (blk_cell n0 0).trans rfl
 have c1 : w1.drew.cell? ⟨z, 1, none⟩ = some (.int .i64 i) := (blk_cell n0 1).trans rfl
 have c2 := below_drew1 n1
 refine start_ (n := 11) (S := fun w' => w'.cell? ⟨z, 0, none⟩ = some (.int .i64 1) ∧ w'.cell? ⟨z, 1, none⟩ = some (.int .i64 i) ∧ Below w.heap.size w w') (ds := []) #[F_, F_, F_, F_, F_, F_, F_, F_, F_, F_, F_] (by kernel_rfl) rfl rfl ⟨c0, c1, c2⟩ (fun hHeld => ?_)
 refine pure_ (i := 0) (N := some 5) (v := ?_) (a' := ?_) #[T_, F_, F_, F_, F_, F_, F_, F_, F_, F_, F_] rfl rfl (by kernel_rfl) (fun _ _ _ h => h) (Or.inl ⟨by rfl, ?_⟩) ?_ ?_
 rotate_left
 ·intro w'
  go_simp
  with_reducible rfl
 rotate_left
 ·simp only [Act.put, sA_, sB_, sC_, i64_w, i32_w]
  rfl
 refine pure_ (i := 1) (N := some 6) (v := ?_) (a' := ?_) #[T_, T_, F_, F_, F_, F_, F_, F_, F_, F_, F_] rfl rfl (by kernel_rfl) (fun _ _ _ h => h) (Or.inl ⟨by rfl, ?_⟩) ?_ ?_
 rotate_left
 ·intro w'
  go_simp
  with_reducible rfl
 rotate_left
 ·simp only [Act.put, sA_, sB_, sC_, i64_w, i32_w]
  rfl
 refine pure_ (i := 4) (N := some 9) (v := ?_) (a' := ?_) #[T_, T_, F_, F_, T_, F_, F_, F_, F_, F_, F_] rfl rfl (by kernel_rfl) (fun _ _ _ h => h) (Or.inl ⟨by rfl, ?_⟩) ?_ ?_
 rotate_left
 ·intro w'
  go_simp
  with_reducible rfl
 rotate_left
 ·simp only [Act.put, sA_, sB_, sC_, i64_w, i32_w]
  rfl
 refine pure_ (i := 6) (N := some 11) (v := ?_) (a' := ?_) #[T_, T_, F_, F_, T_, F_, T_, F_, F_, F_, F_] rfl rfl (by kernel_rfl) (fun _ _ _ h => h) (Or.inl ⟨by rfl, ?_⟩) ?_ ?_
 rotate_left
 ·intro w'
  go_simp
  with_reducible rfl
 rotate_left
 ·simp only [Act.put, sA_, sB_, sC_, i64_w, i32_w]
  rfl
 refine pure_ (i := 7) (N := some 12) (v := ?_) (a' := ?_) #[T_, T_, F_, F_, T_, F_, T_, T_, F_, F_, F_] rfl rfl (by kernel_rfl) (fun _ _ _ h => h) (Or.inl ⟨by rfl, ?_⟩) ?_ ?_
 rotate_left
 ·intro w'
  go_simp
  with_reducible rfl
 rotate_left
 ·simp only [Act.put, sA_, sB_, sC_, i64_w, i32_w]
  rfl
 refine take_ (i := 2) (N := some 7) (v := ?_) (a' := ?_) #[T_, T_, T_, F_, T_, F_, T_, T_, F_, F_, F_] rfl rfl (by kernel_rfl) (fun _ _ _ h => h) (Or.inl ⟨by rfl, ?_⟩) hHeld ?_ ?_
 rotate_left
 ·rintro w' ⟨s0, s1, s2⟩
  go_simp
  with_reducible rfl
 rotate_left
 ·simp only [Act.put, sA_, sB_, sC_, i64_w, i32_w]
  rfl
 refine pure_ (i := 3) (N := some 8) (v := ?_) (a' := ?_) #[T_, T_, T_, T_, T_, F_, T_, T_, F_, F_, F_] rfl rfl (by kernel_rfl) (fun _ _ _ h => h) (Or.inl ⟨by rfl, ?_⟩) ?_ ?_
 rotate_left
 ·intro w'
  go_simp
  with_reducible rfl
 rotate_left
 ·simp only [Act.put, sA_, sB_, sC_, i64_w, i32_w]
  rfl
 refine pure_ (i := 8) (N := some 13) (v := ?_) (a' := ?_) #[T_, T_, T_, T_, T_, F_, T_, T_, T_, F_, F_] rfl rfl (by kernel_rfl) (fun _ _ _ h => h) (Or.inl ⟨by rfl, ?_⟩) ?_ ?_
 rotate_left
 ·intro w'
  go_simp
  with_reducible rfl
 rotate_left
 ·simp only [Act.put, sA_, sB_, sC_, i64_w, i32_w]
  rfl
 refine take_ (i := 5) (N := some 10) (v := ?_) (a' := ?_) #[T_, T_, T_, T_, T_, T_, T_, T_, T_, F_, F_] rfl rfl (by kernel_rfl) (fun _ _ _ h => h) (Or.inl ⟨by rfl, ?_⟩) hHeld ?_ ?_
 rotate_left
 ·rintro w' ⟨s0, s1, s2⟩
  go_simp
  with_reducible rfl
 rotate_left
 ·simp only [Act.put, sA_, sB_, sC_, i64_w, i32_w]
  rfl
 refine pure_ (i := 9) (N := some 14) (v := ?_) (a' := ?_) #[T_, T_, T_, T_, T_, T_, T_, T_, T_, T_, F_] rfl rfl (by kernel_rfl) (fun _ _ _ h => h) (Or.inl ⟨by rfl, ?_⟩) ?_ ?_
 rotate_left
 ·intro w'
  go_simp
  with_reducible rfl
 rotate_left
 ·simp only [Act.put, sA_, sB_, sC_, i64_w, i32_w]
  rfl
 refine pure_ (i := 10) (N := some 4) (v := ?_) (a' := ?_) #[T_, T_, T_, T_, T_, T_, T_, T_, T_, T_, T_] rfl rfl (by kernel_rfl) (fun _ _ _ h => h) (Or.inl ⟨by rfl, ?_⟩) ?_ ?_
 rotate_left
 ·intro w'
  go_simp
  with_reducible rfl
 rotate_left
 ·simp only [Act.put, sA_, sB_, sC_, i64_w, i32_w]
  rfl
 refine done_ (by kernel_rfl) ?_
 have hl := hHeld.2.2
 go_wp2
 go_ret
 exact ⟨by first | rfl | (rw [Nat.zero_add]; rfl), hz ▸ hl⟩
set_option maxRecDepth 100000 in
set_option maxHeartbeats 6400000 in
theorem place_2 (g : Nat) (i : Int) (w : World) (hi : 0 ≤ i) (hi2 : i < 6) : Calls Tryz.prog 123 #[.pointer (some ⟨g, 0, none⟩), .agg #[.int .i64 2, .int .i64 i]] w fun e w' => e = .returned (.pointer (some ⟨g, 6 + i.toNat, none⟩)) ∧ Below w.heap.size w w' := by
 have hu := Tryz.underlying28
 have hu56 := Tryz.underlying82
 have hu54 := Tryz.underlying80
 have hu53 := Tryz.underlying79
 have hwj : wrap64 1 = 1 := by unfold wrap64; omega
 have d1 : decide (0 ≤ i) = true := by simpa using hi
 have d2 : decide (i < 6) = true := by simpa using hi2
 go_enter Tryz.func123, Tryz.ntmps123
 go_wp2_with fail
 have n0 : (w.alloc (Obj.cells #[Value.int IntKind.i64 2, Value.int IntKind.i64 i] 28)).heap[w.heap.size]? = some (.cells #[.int .i64 2, .int .i64 i] 28 (0, 0)) := heap_alloc_new _ _
 have n1 : Below w.heap.size w (w.alloc (Obj.cells #[Value.int IntKind.i64 2, Value.int IntKind.i64 i] 28)) := (Below.refl _ _).alloc (Nat.le_refl _) _
 generalize w.alloc (Obj.cells #[Value.int IntKind.i64 2, Value.int IntKind.i64 i] 28) = w1 at n0 n1 ⊢
 generalize hz : w.heap.size = z at n0 ⊢
 have c0 : w1.drew.cell? ⟨z, 0, none⟩ = some (.int .i64 2) := (blk_cell n0 0).trans rfl
 have c1 : w1.drew.cell? ⟨z, 1, none⟩ = some (.int .i64 i) := (blk_cell n0 1).trans rfl
 have c2 := below_drew1 n1
 refine start_ (n := 11) (S := fun w' => w'.cell? ⟨z, 0, none⟩ = some (.int .i64 2) ∧ w'.cell? ⟨z, 1, none⟩ = some (.int .i64 i) ∧ Below w.heap.size w w') (ds := []) #[F_, F_, F_, F_, F_, F_, F_, F_, F_, F_, F_] (by kernel_rfl) rfl rfl ⟨c0, c1, c2⟩ (fun hHeld => ?_)
 refine pure_ (i := 0) (N := some 5) (v := ?_) (a' := ?_) #[T_, F_, F_, F_, F_, F_, F_, F_, F_, F_, F_] rfl rfl (by kernel_rfl) (fun _ _ _ h => h) (Or.inl ⟨by rfl, ?_⟩) ?_ ?_
 rotate_left
 ·intro w'
  go_simp
  with_reducible rfl
 rotate_left
 ·simp only [Act.put, sA_, sB_, sC_, i64_w, i32_w]
  rfl
 refine pure_ (i := 1) (N := some 6) (v := ?_) (a' := ?_) #[T_, T_, F_, F_, F_, F_, F_, F_, F_, F_, F_] rfl rfl (by kernel_rfl) (fun _ _ _ h => h) (Or.inl ⟨by rfl, ?_⟩) ?_ ?_
 rotate_left
 ·intro w'
  go_simp
  with_reducible rfl
 rotate_left
 ·simp only [Act.put, sA_, sB_, sC_, i64_w, i32_w]
  rfl
 refine pure_ (i := 4) (N := some 9) (v := ?_) (a' := ?_) #[T_, T_, F_, F_, T_, F_, F_, F_, F_, F_, F_] rfl rfl (by kernel_rfl) (fun _ _ _ h => h) (Or.inl ⟨by rfl, ?_⟩) ?_ ?_
 rotate_left
 ·intro w'
  go_simp
  with_reducible rfl
 rotate_left
 ·simp only [Act.put, sA_, sB_, sC_, i64_w, i32_w]
  rfl
 refine pure_ (i := 6) (N := some 11) (v := ?_) (a' := ?_) #[T_, T_, F_, F_, T_, F_, T_, F_, F_, F_, F_] rfl rfl (by kernel_rfl) (fun _ _ _ h => h) (Or.inl ⟨by rfl, ?_⟩) ?_ ?_
 rotate_left
 ·intro w'
  go_simp
  with_reducible rfl
 rotate_left
 ·simp only [Act.put, sA_, sB_, sC_, i64_w, i32_w]
  rfl
 refine pure_ (i := 7) (N := some 12) (v := ?_) (a' := ?_) #[T_, T_, F_, F_, T_, F_, T_, T_, F_, F_, F_] rfl rfl (by kernel_rfl) (fun _ _ _ h => h) (Or.inl ⟨by rfl, ?_⟩) ?_ ?_
 rotate_left
 ·intro w'
  go_simp
  with_reducible rfl
 rotate_left
 ·simp only [Act.put, sA_, sB_, sC_, i64_w, i32_w]
  rfl
 refine take_ (i := 2) (N := some 7) (v := ?_) (a' := ?_) #[T_, T_, T_, F_, T_, F_, T_, T_, F_, F_, F_] rfl rfl (by kernel_rfl) (fun _ _ _ h => h) (Or.inl ⟨by rfl, ?_⟩) hHeld ?_ ?_
 rotate_left
 ·rintro w' ⟨s0, s1, s2⟩
  go_simp
  with_reducible rfl
 rotate_left
 ·simp only [Act.put, sA_, sB_, sC_, i64_w, i32_w]
  rfl
 refine pure_ (i := 3) (N := some 8) (v := ?_) (a' := ?_) #[T_, T_, T_, T_, T_, F_, T_, T_, F_, F_, F_] rfl rfl (by kernel_rfl) (fun _ _ _ h => h) (Or.inl ⟨by rfl, ?_⟩) ?_ ?_
 rotate_left
 ·intro w'
  go_simp
  with_reducible rfl
 rotate_left
 ·simp only [Act.put, sA_, sB_, sC_, i64_w, i32_w]
  rfl
 refine pure_ (i := 8) (N := some 13) (v := ?_) (a' := ?_) #[T_, T_, T_, T_, T_, F_, T_, T_, T_, F_, F_] rfl rfl (by kernel_rfl) (fun _ _ _ h => h) (Or.inl ⟨by rfl, ?_⟩) ?_ ?_
 rotate_left
 ·intro w'
  go_simp
  with_reducible rfl
 rotate_left
 ·simp only [Act.put, sA_, sB_, sC_, i64_w, i32_w]
  rfl
 refine take_ (i := 5) (N := some 10) (v := ?_) (a' := ?_) #[T_, T_, T_, T_, T_, T_, T_, T_, T_, F_, F_] rfl rfl (by kernel_rfl) (fun _ _ _ h => h) (Or.inl ⟨by rfl, ?_⟩) hHeld ?_ ?_
 rotate_left
 ·rintro w' ⟨s0, s1, s2⟩
  go_simp
  with_reducible rfl
 rotate_left
 ·simp only [Act.put, sA_, sB_, sC_, i64_w, i32_w]
  rfl
 refine pure_ (i := 9) (N := some 14) (v := ?_) (a' := ?_) #[T_, T_, T_, T_, T_, T_, T_, T_, T_, T_, F_] rfl rfl (by kernel_rfl) (fun _ _ _ h => h) (Or.inl ⟨by rfl, ?_⟩) ?_ ?_
 rotate_left
 ·intro w'
  go_simp
  with_reducible rfl
 rotate_left
 ·simp only [Act.put, sA_, sB_, sC_, i64_w, i32_w]
  rfl
 refine pure_ (i := 10) (N := some 4) (v := ?_) (a' := ?_) #[T_, T_, T_, T_, T_, T_, T_, T_, T_, T_, T_] rfl rfl (by kernel_rfl) (fun _ _ _ h => h) (Or.inl ⟨by rfl, ?_⟩) ?_ ?_
 rotate_left
 ·intro w'
  go_simp
  with_reducible rfl
 rotate_left
 ·simp only [Act.put, sA_, sB_, sC_, i64_w, i32_w]
  rfl
 refine done_ (by kernel_rfl) ?_
 have hl := hHeld.2.2
 go_wp2
 go_ret
 exact ⟨by first | rfl | (rw [Nat.zero_add]; rfl), hz ▸ hl⟩
set_option maxRecDepth 100000 in
set_option maxHeartbeats 6400000 in
theorem place_3 (g : Nat) (i : Int) (w : World) (hi : 0 ≤ i) (hi2 : i < 6) : Calls Tryz.prog 123 #[.pointer (some ⟨g, 0, none⟩), .agg #[.int .i64 3, .int .i64 i]] w fun e w' => e = .returned (.pointer (some ⟨g, 12 + i.toNat, none⟩)) ∧ Below w.heap.size w w' := by
 have hu := Tryz.underlying28
 have hu56 := Tryz.underlying82
 have hu54 := Tryz.underlying80
 have hu53 := Tryz.underlying79
 have hwj : wrap64 2 = 2 := by unfold wrap64; omega
 have d1 : decide (0 ≤ i) = true := by simpa using hi
 have d2 : decide (i < 6) = true := by simpa using hi2
 go_enter Tryz.func123, Tryz.ntmps123
 go_wp2_with fail
 have n0 : (w.alloc (Obj.cells #[Value.int IntKind.i64 3, Value.int IntKind.i64 i] 28)).heap[w.heap.size]? = some (.cells #[.int .i64 3, .int .i64 i] 28 (0, 0)) := heap_alloc_new _ _
 have n1 : Below w.heap.size w (w.alloc (Obj.cells #[Value.int IntKind.i64 3, Value.int IntKind.i64 i] 28)) := (Below.refl _ _).alloc (Nat.le_refl _) _
 generalize w.alloc (Obj.cells #[Value.int IntKind.i64 3, Value.int IntKind.i64 i] 28) = w1 at n0 n1 ⊢
 generalize hz : w.heap.size = z at n0 ⊢
 have c0 : w1.drew.cell? ⟨z, 0, none⟩ = some (.int .i64 3) := (blk_cell n0 0).trans rfl
 have c1 : w1.drew.cell? ⟨z, 1, none⟩ = some (.int .i64 i) := (blk_cell n0 1).trans rfl
 have c2 := below_drew1 n1
 refine start_ (n := 11) (S := fun w' => w'.cell? ⟨z, 0, none⟩ = some (.int .i64 3) ∧ w'.cell? ⟨z, 1, none⟩ = some (.int .i64 i) ∧ Below w.heap.size w w') (ds := []) #[F_, F_, F_, F_, F_, F_, F_, F_, F_, F_, F_] (by kernel_rfl) rfl rfl ⟨c0, c1, c2⟩ (fun hHeld => ?_)
 refine pure_ (i := 0) (N := some 5) (v := ?_) (a' := ?_) #[T_, F_, F_, F_, F_, F_, F_, F_, F_, F_, F_] rfl rfl (by kernel_rfl) (fun _ _ _ h => h) (Or.inl ⟨by rfl, ?_⟩) ?_ ?_
 rotate_left
 ·intro w'
  go_simp
  with_reducible rfl
 rotate_left
 ·simp only [Act.put, sA_, sB_, sC_, i64_w, i32_w]
  rfl
 refine pure_ (i := 1) (N := some 6) (v := ?_) (a' := ?_) #[T_, T_, F_, F_, F_, F_, F_, F_, F_, F_, F_] rfl rfl (by kernel_rfl) (fun _ _ _ h => h) (Or.inl ⟨by rfl, ?_⟩) ?_ ?_
 rotate_left
 ·intro w'
  go_simp
  with_reducible rfl
 rotate_left
 ·simp only [Act.put, sA_, sB_, sC_, i64_w, i32_w]
  rfl
 refine pure_ (i := 4) (N := some 9) (v := ?_) (a' := ?_) #[T_, T_, F_, F_, T_, F_, F_, F_, F_, F_, F_] rfl rfl (by kernel_rfl) (fun _ _ _ h => h) (Or.inl ⟨by rfl, ?_⟩) ?_ ?_
 rotate_left
 ·intro w'
  go_simp
  with_reducible rfl
 rotate_left
 ·simp only [Act.put, sA_, sB_, sC_, i64_w, i32_w]
  rfl
 refine pure_ (i := 6) (N := some 11) (v := ?_) (a' := ?_) #[T_, T_, F_, F_, T_, F_, T_, F_, F_, F_, F_] rfl rfl (by kernel_rfl) (fun _ _ _ h => h) (Or.inl ⟨by rfl, ?_⟩) ?_ ?_
 rotate_left
 ·intro w'
  go_simp
  with_reducible rfl
 rotate_left
 ·simp only [Act.put, sA_, sB_, sC_, i64_w, i32_w]
  rfl
 refine pure_ (i := 7) (N := some 12) (v := ?_) (a' := ?_) #[T_, T_, F_, F_, T_, F_, T_, T_, F_, F_, F_] rfl rfl (by kernel_rfl) (fun _ _ _ h => h) (Or.inl ⟨by rfl, ?_⟩) ?_ ?_
 rotate_left
 ·intro w'
  go_simp
  with_reducible rfl
 rotate_left
 ·simp only [Act.put, sA_, sB_, sC_, i64_w, i32_w]
  rfl
 refine take_ (i := 2) (N := some 7) (v := ?_) (a' := ?_) #[T_, T_, T_, F_, T_, F_, T_, T_, F_, F_, F_] rfl rfl (by kernel_rfl) (fun _ _ _ h => h) (Or.inl ⟨by rfl, ?_⟩) hHeld ?_ ?_
 rotate_left
 ·rintro w' ⟨s0, s1, s2⟩
  go_simp
  with_reducible rfl
 rotate_left
 ·simp only [Act.put, sA_, sB_, sC_, i64_w, i32_w]
  rfl
 refine pure_ (i := 3) (N := some 8) (v := ?_) (a' := ?_) #[T_, T_, T_, T_, T_, F_, T_, T_, F_, F_, F_] rfl rfl (by kernel_rfl) (fun _ _ _ h => h) (Or.inl ⟨by rfl, ?_⟩) ?_ ?_
 rotate_left
 ·intro w'
  go_simp
  with_reducible rfl
 rotate_left
 ·simp only [Act.put, sA_, sB_, sC_, i64_w, i32_w]
  rfl
 refine pure_ (i := 8) (N := some 13) (v := ?_) (a' := ?_) #[T_, T_, T_, T_, T_, F_, T_, T_, T_, F_, F_] rfl rfl (by kernel_rfl) (fun _ _ _ h => h) (Or.inl ⟨by rfl, ?_⟩) ?_ ?_
 rotate_left
 ·intro w'
  go_simp
  with_reducible rfl
 rotate_left
 ·simp only [Act.put, sA_, sB_, sC_, i64_w, i32_w]
  rfl
 refine take_ (i := 5) (N := some 10) (v := ?_) (a' := ?_) #[T_, T_, T_, T_, T_, T_, T_, T_, T_, F_, F_] rfl rfl (by kernel_rfl) (fun _ _ _ h => h) (Or.inl ⟨by rfl, ?_⟩) hHeld ?_ ?_
 rotate_left
 ·rintro w' ⟨s0, s1, s2⟩
  go_simp
  with_reducible rfl
 rotate_left
 ·simp only [Act.put, sA_, sB_, sC_, i64_w, i32_w]
  rfl
 refine pure_ (i := 9) (N := some 14) (v := ?_) (a' := ?_) #[T_, T_, T_, T_, T_, T_, T_, T_, T_, T_, F_] rfl rfl (by kernel_rfl) (fun _ _ _ h => h) (Or.inl ⟨by rfl, ?_⟩) ?_ ?_
 rotate_left
 ·intro w'
  go_simp
  with_reducible rfl
 rotate_left
 ·simp only [Act.put, sA_, sB_, sC_, i64_w, i32_w]
  rfl
 refine pure_ (i := 10) (N := some 4) (v := ?_) (a' := ?_) #[T_, T_, T_, T_, T_, T_, T_, T_, T_, T_, T_] rfl rfl (by kernel_rfl) (fun _ _ _ h => h) (Or.inl ⟨by rfl, ?_⟩) ?_ ?_
 rotate_left
 ·intro w'
  go_simp
  with_reducible rfl
 rotate_left
 ·simp only [Act.put, sA_, sB_, sC_, i64_w, i32_w]
  rfl
 refine done_ (by kernel_rfl) ?_
 have hl := hHeld.2.2
 go_wp2
 go_ret
 exact ⟨by first | rfl | (rw [Nat.zero_add]; rfl), hz ▸ hl⟩
theorem place_any (g : Nat) (k i : Int) (w : World) (hk : 1 ≤ k) (hk2 : k ≤ 3) (hi : 0 ≤ i) (hi2 : i < 6) : Calls Tryz.prog 123 #[.pointer (some ⟨g, 0, none⟩), .agg #[.int .i64 k, .int .i64 i]] w fun e w' => e = .returned (.pointer (some ⟨g, 6 * (k - 1).toNat + i.toNat, none⟩)) ∧ Below w.heap.size w w' := by
 rcases (by omega : k = 1 ∨ k = 2 ∨ k = 3) with rfl | rfl | rfl
 ·exact place_1 g i w hi hi2
 ·exact place_2 g i w hi hi2
 ·exact place_3 g i w hi hi2
set_option maxRecDepth 100000 in
theorem get_yes (g : Nat) (k i v : Int) (M : Array Value) (t : TypeId) (w : World) (h : aOk k i = true) (hg : w.heap[g]? = some (.cells M t (0, 0))) (hv : M[6 * (k - 1).toNat + i.toNat]? = some (.int .i64 v)) : Calls Tryz.prog 95 #[.pointer (some ⟨g, 0, none⟩), .agg #[.int .i64 k, .int .i64 i]] w fun e w' => e = .returned (.int .i64 v) ∧ Below w.heap.size w w' := by
 have hu := Tryz.underlying28
 have al : ∀ o : Obj, Below w.heap.size w (w.alloc o) := fun o => (Below.refl _ _).alloc (Nat.le_refl _) _
 have hc := fun W => addrOk_any k i W
 rw [h] at hc
 have hp : ∀ W, Calls Tryz.prog 123 #[.pointer (some ⟨g, 0, none⟩), .agg #[.int .i64 k, .int .i64 i]] W fun e w' => e = .returned (.pointer (some ⟨g, 6 * (k - 1).toNat + i.toNat, none⟩)) ∧ Below W.heap.size W w' := fun W => by
  simp only [aOk, Bool.and_eq_true, decide_eq_true_eq] at h
  exact place_any g k i W h.1 h.2.1 h.2.2.1 h.2.2.2
 clear h
 generalize 6 * (k - 1).toNat + i.toNat = n at hv hp
 go_enter Tryz.func95, Tryz.ntmps95
 go_wp2_with fail
 refine (hc _).mono ?_
 rintro e w2 ⟨rfl, hb⟩
 have z1 : w2.cell? ⟨w.heap.size, 0, none⟩ = some (.int .i64 k) := (blk_cell (blk_below (heap_alloc_new w _) hb) 0).trans rfl
 have z2 : w2.cell? ⟨w.heap.size, 1, none⟩ = some (.int .i64 i) := (blk_cell (blk_below (heap_alloc_new w _) hb) 1).trans rfl
 go_wp2_with fail
 refine (hp _).mono ?_
 rintro e w3 ⟨rfl, hb2⟩
 have q : w3.cell? ⟨g, n, none⟩ = some (.int .i64 v) := (blk_cell (blk_below (blk_below (blk_alloc hg _) hb) hb2) n).trans hv
 go_wp2
 go_ret
 exact ⟨rfl, ((al _).trans (hb.mono (al _).size)).trans (hb2.mono ((al _).trans (hb.mono (al _).size)).size)⟩
def pk (l0 l1 l2 : List Int) (k : Int) : List Int := if k = 1 then l0 else if k = 2 then l1 else l2
theorem mM_at (l0 l1 l2 : List Int) (k i : Int) (h : aOk k i = true) : (mM 3 l0 l1 l2)[6 * (k - 1).toNat + i.toNat]? = some (.int .i64 (rd (pk l0 l1 l2 k) i)) := by
 simp only [aOk, Bool.and_eq_true, decide_eq_true_eq] at h
 obtain ⟨h1, h2, h3, h4⟩ := h
 rcases (by omega : k = 1 ∨ k = 2 ∨ k = 3) with rfl | rfl | rfl <;> rcases (by omega : i = 0 ∨ i = 1 ∨ i = 2 ∨ i = 3 ∨ i = 4 ∨ i = 5) with rfl | rfl | rfl | rfl | rfl | rfl <;> rfl
end Go.Proofs.YtjamfddhcigchaaGreatDoor.Gn
