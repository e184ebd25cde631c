/- Part of the walks of BlockStep: what it answers, for every argument. No condition. -/
import Derived.Test.YtcigooccnlbkjaaHb
namespace Go.Proofs.Ytcigooccnlbkjaa.Hb
open Go.RowKit Go.Proofs.YtcigooccnlbkjaaW.PrintWords Go.Proofs.YtcigooccnlbkjaaW.PrintLast Go.Proofs.YtcigooccnlbkjaaW.PrintMore
attribute [local go_sem] max2_int min2_int
set_option linter.unusedVariables false
set_option linter.unusedSimpArgs false
set_option maxRecDepth 100000 in
set_option maxHeartbeats 6400000 in
theorem step3 (n t dt : Int) (o s x y : Bool) (w : World) (h : blockOkB 3 n t = true) (h2 : isTimeB dt = true) (T : Int) (hT : mn (if y then 0 else if x && !s then t + 1 else t) 1000 = T) : Calls Try.prog 18 #[.agg #[.int .i64 3, .int .i64 n, .bool o, .bool s, .int .i64 t], .bool x, .bool y, .int .i64 dt] w fun e w' => e = .returned (.tuple #[.agg #[.int .i64 3, .int .i64 n, .bool (decide (n ≤ T)), .bool x, .int .i64 T], .bool (decide (n ≤ T))]) ∧ Below w.heap.size w w' := by
  have hs : ∀ W : World, Calls Try.prog 13 #[.agg #[.int .i64 3, .int .i64 n, .bool o, .bool s, .int .i64 t]] W fun e w' => e = .returned (.bool true) ∧ Below W.heap.size W w' := fun W => by have := blockOk_any 3 n t o s W; rw [h] at this; exact this
  have ht : ∀ W : World, Calls Try.prog 42 #[.int .i64 dt] W fun e w' => e = .returned (.bool true) ∧ W = w' := fun W => by have := isTime_any dt W; rw [h2] at this; exact this
  have bt : 0 ≤ t ∧ t ≤ 1000 := by simp [blockOkB, isTimeB] at h; omega
  have bd : 0 ≤ dt ∧ dt ≤ 1000 := by simp [isTimeB] at h2; omega
  have ct := fun W => time3 3 n t dt o s x y W bt.1 bt.2 bd.1 bd.2
  have co := fun W => on3 3 n T dt o s x y W
  have mt := m_time3
  have mo := m_on3
  clear h h2 bt bd
  generalize hon : (decide (n ≤ T)) = on1 at co ⊢
  clear hon
  generalize (if y then 0 else if x && !s then t + 1 else t) = T0 at ct hT
  have hcase : (1000 < T0 ∧ T = 1000) ∨ (T0 ≤ 1000 ∧ T = T0) := by unfold mn at hT; split at hT <;> omega
  clear hT
  rcases hcase with ⟨hc, rfl⟩ | ⟨hc, rfl⟩
  · skip
    go_enter Try.func18, Try.ntmps18
    go_wp2_with fail
    refine (hs _).mono ?_
    rintro e w' ⟨rfl, hb⟩
    have hB : B2 w (.int .i64 3) (.int .i64 n) (.bool o) (.bool s) (.int .i64 t) #[.int .i64 0, .int .i64 0, .bool false, .bool false, .int .i64 0] w' := by
      refine B2.below ⟨?_, ?_, ?_⟩ hb
      · exact blk_alloc (heap_alloc_new w _) _
      · have e := heap_alloc_new (w.alloc (.cells #[.int .i64 3, .int .i64 n, .bool o, .bool s, .int .i64 t] 25)) (.cells #[.int .i64 0, .int .i64 0, .bool false, .bool false, .int .i64 0] 25)
        simpa using e
      · exact ((Below.refl _ _).alloc (Nat.le_refl _) _).alloc (by simp) _
    clear hb
    go_wp2_with fail
    refine (ht _).mono ?_
    rintro e w'' ⟨rfl, rfl⟩
    go_wp2_with fail
    have hB0 := hB.drew
    clear hB
    refine start_ (n := 11) (S := fun w' => w'.cell? ⟨w.heap.size, 0, none⟩ = some (.int .i64 3) ∧ B2 w (.int .i64 3) (.int .i64 n) (.bool o) (.bool s) (.int .i64 t) #[.int .i64 0, .int .i64 0, .bool false, .bool false, .int .i64 0] w') (ds := []) #[false, false, false, false, false, false, false, false, false, false, false] (by kernel_rfl) rfl rfl ⟨hB0.c0, hB0⟩ (fun hHeld => ?_)
    refine pure_ (i := 1) (N := some 22) (v := ?_) (a' := ?_) #[false, true, false, false, false, false, false, false, false, false, false] rfl rfl (by kernel_rfl) (fun _ _ _ h => h) (Or.inl ⟨by rfl, ?_⟩) ?_ ?_
    rotate_left
    · intro w'
      go_simp
      with_reducible rfl
    rotate_left
    · simp only [Act.put, List.setIfInBounds_toArray, List.set_cons_zero, List.set_cons_succ, i64_w, i32_w]
      rfl
    refine pure_ (i := 4) (N := some 25) (v := ?_) (a' := ?_) #[false, true, false, false, true, false, false, false, false, false, false] rfl rfl (by kernel_rfl) (fun _ _ _ h => h) (Or.inl ⟨by rfl, ?_⟩) ?_ ?_
    rotate_left
    · intro w'
      go_simp
      with_reducible rfl
    rotate_left
    · simp only [Act.put, List.setIfInBounds_toArray, List.set_cons_zero, List.set_cons_succ, i64_w, i32_w]
      rfl
    refine pure_ (i := 5) (N := some 26) (v := ?_) (a' := ?_) #[false, true, false, false, true, true, false, false, false, false, false] rfl rfl (by kernel_rfl) (fun _ _ _ h => h) (Or.inl ⟨by rfl, ?_⟩) ?_ ?_
    rotate_left
    · intro w'
      go_simp
      with_reducible rfl
    rotate_left
    · simp only [Act.put, List.setIfInBounds_toArray, List.set_cons_zero, List.set_cons_succ, i64_w, i32_w]
      rfl
    refine pure_ (i := 6) (N := some 27) (v := ?_) (a' := ?_) #[false, true, false, false, true, true, true, false, false, false, false] rfl rfl (by kernel_rfl) (fun _ _ _ h => h) (Or.inl ⟨by rfl, ?_⟩) ?_ ?_
    rotate_left
    · intro w'
      go_simp
      with_reducible rfl
    rotate_left
    · simp only [Act.put, List.setIfInBounds_toArray, List.set_cons_zero, List.set_cons_succ, i64_w, i32_w]
      rfl
    refine pure_ (i := 7) (N := some 28) (v := ?_) (a' := ?_) #[false, true, false, false, true, true, true, true, false, false, false] rfl rfl (by kernel_rfl) (fun _ _ _ h => h) (Or.inl ⟨by rfl, ?_⟩) ?_ ?_
    rotate_left
    · intro w'
      go_simp
      with_reducible rfl
    rotate_left
    · simp only [Act.put, List.setIfInBounds_toArray, List.set_cons_zero, List.set_cons_succ, i64_w, i32_w]
      rfl
    refine take_ (i := 2) (N := some 23) (v := ?_) (a' := ?_) #[false, true, true, false, true, true, true, true, false, false, false] rfl rfl (by kernel_rfl) (fun _ _ _ h => h) (Or.inl ⟨by rfl, ?_⟩) hHeld ?_ ?_
    rotate_left
    · rintro w' ⟨s0, s1⟩
      go_simp
      with_reducible rfl
    rotate_left
    · simp only [Act.put, List.setIfInBounds_toArray, List.set_cons_zero, List.set_cons_succ, i64_w, i32_w]
      rfl
    refine join_ (σ := Nat × Nat) 2 #[true, true, true, true, true, true, true, true, true, false, false] (fun z_ => [(21, .map (some z_.1)), (11, .pointer (some ⟨z_.2, 0, none⟩)), (24, .iface 129 (.agg #[]))]) (fun z_ w' => B2 w (.int .i64 3) (.int .i64 n) (.bool o) (.bool s) (.int .i64 t) #[.int .i64 0, .int .i64 0, .bool false, .bool false, .int .i64 0] w' ∧ w'.heap[z_.2]? = some (.cells #[.bool false, .bool false, .int .i64 0] 89 (0, 0)) ∧ w.heap.size + 1 < z_.2) ?_ ?_
    rotate_left
    · intro hCont
      refine two_ (i := 0) (j := 8) (Ni := some 21) (Nj := some 11) #[true, true, true, false, true, true, true, true, false, false, false] #[false, true, true, false, true, true, true, true, true, false, false] rfl rfl rfl rfl (by kernel_rfl) (by decide) (by decide) (fun K hK => ?_) (fun K hK => ?_)
      · skip
        refine goes_ Try.func43 (by kernel_rfl) rfl #[] (by rfl) rfl rfl (by simp only [List.map_toArray, List.map_cons, List.map_nil]) ?_
        with_reducible refine (wk_some _).mono ?_
        rintro e w3 ⟨b, he_, hb1, hb2⟩
        obtain rfl := he_; refine ⟨_, rfl, ?_⟩
        have hk3 := look0 hb2 3 2 129 rfl
        have hk4 := look_al hb2 3 2 129 rfl
        refine hK.out _ _ ⟨(hHeld.2.below hb1).c0, (hHeld.2.below hb1)⟩ (fun hHeld => ?_)
        clear hK K
        refine norm_ (a' := ?_) ?_ ?_
        rotate_left
        · show Act.put _ (some 21) _ = _
          simp only [Act.put, List.setIfInBounds_toArray, List.set_cons_zero, List.set_cons_succ, i64_w, i32_w]
          rfl
        refine two_ (i := 3) (j := 8) (Ni := some 24) (Nj := some 11) #[true, true, true, true, true, true, true, true, false, false, false] #[true, true, true, false, true, true, true, true, true, false, false] rfl rfl rfl rfl (by kernel_rfl) (by decide) (by decide) (fun K hK => ?_) (fun K hK => ?_)
        · skip
          refine value_ (w1 := ?_) (v := ?_) (by rfl) rfl ?_ ?_
          rotate_left 2
          · go_simp
            constructor
            · rfl
            · rfl
          refine hK.out _ _ ⟨hHeld.1, hHeld.2⟩ (fun hHeld => ?_)
          clear hK K
          refine norm_ (a' := ?_) ?_ ?_
          rotate_left
          · show Act.put _ (some 24) _ = _
            simp only [Act.put, List.setIfInBounds_toArray, List.set_cons_zero, List.set_cons_succ, i64_w, i32_w]
            rfl
          refine one_ (i := 8) (N := some 11) #[true, true, true, true, true, true, true, true, true, false, false] rfl rfl (by kernel_rfl) (by decide) (fun K hK => ?_)
          have hB3_ := hHeld.2
          refine value_ (w1 := ?_) (v := ?_) (by rfl) rfl ?_ ?_
          rotate_left 2
          · go_simp
            constructor
            · rfl
            · rfl
          refine hK.out _ _ ⟨(hHeld.2.alloc _).c0, (hHeld.2.alloc _)⟩ (fun hHeld => ?_)
          clear hK K
          refine norm_ (a' := ?_) ?_ ?_
          rotate_left
          · show Act.put _ (some 11) _ = _
            simp only [Act.put, List.setIfInBounds_toArray, List.set_cons_zero, List.set_cons_succ, i64_w, i32_w]
            rfl
          exact norm_ (by simp only [putAll, Act.put, List.setIfInBounds_toArray, List.set_cons_zero, List.set_cons_succ]) (hCont (b, w3.heap.size) _ ⟨hHeld.2, (heap_alloc_new w3 _), (B2.lt hB3_)⟩)
        · skip
          have hB3_ := hHeld.2
          refine value_ (w1 := ?_) (v := ?_) (by rfl) rfl ?_ ?_
          rotate_left 2
          · go_simp
            constructor
            · rfl
            · rfl
          refine hK.out _ _ ⟨(hHeld.2.alloc _).c0, (hHeld.2.alloc _)⟩ (fun hHeld => ?_)
          clear hK K
          refine norm_ (a' := ?_) ?_ ?_
          rotate_left
          · show Act.put _ (some 11) _ = _
            simp only [Act.put, List.setIfInBounds_toArray, List.set_cons_zero, List.set_cons_succ, i64_w, i32_w]
            rfl
          refine one_ (i := 3) (N := some 24) #[true, true, true, true, true, true, true, true, true, false, false] rfl rfl (by kernel_rfl) (by decide) (fun K hK => ?_)
          refine value_ (w1 := ?_) (v := ?_) (by rfl) rfl ?_ ?_
          rotate_left 2
          · go_simp
            constructor
            · rfl
            · rfl
          refine hK.out _ _ ⟨hHeld.1, hHeld.2⟩ (fun hHeld => ?_)
          clear hK K
          refine norm_ (a' := ?_) ?_ ?_
          rotate_left
          · show Act.put _ (some 24) _ = _
            simp only [Act.put, List.setIfInBounds_toArray, List.set_cons_zero, List.set_cons_succ, i64_w, i32_w]
            rfl
          exact norm_ (by simp only [putAll, Act.put, List.setIfInBounds_toArray, List.set_cons_zero, List.set_cons_succ]) (hCont (b, w3.heap.size) _ ⟨hHeld.2, (heap_alloc_new w3 _), (B2.lt hB3_)⟩)
      · skip
        refine value_ (w1 := ?_) (v := ?_) (by rfl) rfl ?_ ?_
        rotate_left 2
        · go_simp
          constructor
          · rfl
          · rfl
        refine hK.out _ _ ⟨(hHeld.2.alloc _).c0, (hHeld.2.alloc _)⟩ (fun hHeld => ?_)
        clear hK K
        refine norm_ (a' := ?_) ?_ ?_
        rotate_left
        · show Act.put _ (some 11) _ = _
          simp only [Act.put, List.setIfInBounds_toArray, List.set_cons_zero, List.set_cons_succ, i64_w, i32_w]
          rfl
        refine one_ (i := 0) (N := some 21) #[true, true, true, false, true, true, true, true, true, false, false] rfl rfl (by kernel_rfl) (by decide) (fun K hK => ?_)
        refine goes_ Try.func43 (by kernel_rfl) rfl #[] (by rfl) rfl rfl (by simp only [List.map_toArray, List.map_cons, List.map_nil]) ?_
        with_reducible refine (wk_some _).mono ?_
        rintro e w3 ⟨b, he_, hb1, hb2⟩
        obtain rfl := he_; refine ⟨_, rfl, ?_⟩
        have hk3 := look0 hb2 3 2 129 rfl
        have hk4 := look_al hb2 3 2 129 rfl
        have hg := blk_below (heap_alloc_new w'.drew (.cells #[.bool false, .bool false, .int .i64 0] 89)) hb1
        refine hK.out _ _ ⟨(hHeld.2.below hb1).c0, (hHeld.2.below hb1)⟩ (fun hHeld => ?_)
        clear hK K
        refine norm_ (a' := ?_) ?_ ?_
        rotate_left
        · show Act.put _ (some 21) _ = _
          simp only [Act.put, List.setIfInBounds_toArray, List.set_cons_zero, List.set_cons_succ, i64_w, i32_w]
          rfl
        refine one_ (i := 3) (N := some 24) #[true, true, true, true, true, true, true, true, true, false, false] rfl rfl (by kernel_rfl) (by decide) (fun K hK => ?_)
        refine value_ (w1 := ?_) (v := ?_) (by rfl) rfl ?_ ?_
        rotate_left 2
        · go_simp
          constructor
          · rfl
          · rfl
        refine hK.out _ _ ⟨hHeld.1, hHeld.2⟩ (fun hHeld => ?_)
        clear hK K
        refine norm_ (a' := ?_) ?_ ?_
        rotate_left
        · show Act.put _ (some 24) _ = _
          simp only [Act.put, List.setIfInBounds_toArray, List.set_cons_zero, List.set_cons_succ, i64_w, i32_w]
          rfl
        exact norm_ (by simp only [putAll, Act.put, List.setIfInBounds_toArray, List.set_cons_zero, List.set_cons_succ]) (hCont (b, w'.heap.size) _ ⟨hHeld.2, hg, hB0.lt⟩)
    rintro ⟨b, gi⟩ w3 ⟨hB3, hI3, hL3⟩
    have hHeld : w3.cell? ⟨w.heap.size, 0, none⟩ = some (.int .i64 3) ∧ B2 w (.int .i64 3) (.int .i64 n) (.bool o) (.bool s) (.int .i64 t) #[.int .i64 0, .int .i64 0, .bool false, .bool false, .int .i64 0] w3 := ⟨hB3.c0, hB3⟩
    refine norm_ (a' := ?_) ?_ ?_
    rotate_left
    · simp only [putAll, Act.put, List.setIfInBounds_toArray, List.set_cons_zero, List.set_cons_succ]
      rfl
    refine pure_ (i := 9) (N := some 10) (v := ?_) (a' := ?_) #[true, true, true, true, true, true, true, true, true, true, false] rfl rfl (by kernel_rfl) (fun _ _ _ h => h) (Or.inl ⟨by rfl, ?_⟩) ?_ ?_
    rotate_left
    · intro w'
      go_simp
      with_reducible rfl
    rotate_left
    · simp only [Act.put, List.setIfInBounds_toArray, List.set_cons_zero, List.set_cons_succ, i64_w, i32_w]
      rfl
    refine one_ (i := 10) (N := none) #[true, true, true, true, true, true, true, true, true, true, true] rfl rfl (by kernel_rfl) (by decide) (fun K hK => ?_)
    refine skip_ (w1 := ?_) (by rfl) rfl ?_ ?_
    rotate_left
    · have hu := Try.underlying89
      have i0 := (blk_cell hI3 0).trans rfl
      have i1 := (blk_cell hI3 1).trans rfl
      have i2 := (blk_cell hI3 2).trans rfl
      have j0 := blk_frozen hI3 0
      have j1 := blk_frozen hI3 1
      have j2 := blk_frozen hI3 2
      go_simp
      rfl
    have hI4 : (((w3.setCell ⟨gi, 0, none⟩ (.bool x)).setCell ⟨gi, 1, none⟩ (.bool y)).setCell ⟨gi, 2, none⟩ (.int .i64 dt)).heap[gi]? = some (.cells #[.bool x, .bool y, .int .i64 dt] 89 (0, 0)) := blk_put (blk_put (blk_put hI3 0 _ rfl) 1 _ rfl) 2 _ rfl
    have hB4 := ((hHeld.2.far hL3 0 (.bool x)).far hL3 1 (.bool y)).far hL3 2 (.int .i64 dt)
    generalize (((w3.setCell ⟨gi, 0, none⟩ (.bool x)).setCell ⟨gi, 1, none⟩ (.bool y)).setCell ⟨gi, 2, none⟩ (.int .i64 dt)) = w4 at hI4 hB4 ⊢
    refine hK.out _ _ ⟨hB4.c0, hB4⟩ (fun hHeld => ?_)
    clear hK K
    refine done_ (by kernel_rfl) ?_
    clear hHeld
    have hu1 := Try.underlying25
    have hu2 := Try.underlying89
    have e0 := hB4.c0
    have e1 := hB4.c1
    have e2 := hB4.c2
    have e3 := hB4.c3
    have e4 := hB4.c4
    have i0 := (blk_cell hI4 0).trans rfl
    have i1 := (blk_cell hI4 1).trans rfl
    have i2 := (blk_cell hI4 2).trans rfl
    have z4 := blk_frozen hB4.1 4
    have z3 := blk_frozen hB4.1 3
    have z2 := blk_frozen hB4.1 2
    go_wp2_with fail
    refine (ct _).mono ?_
    rintro e w5 ⟨rfl, hb5⟩
    have hB5 := hB4.below hb5
    have hI5 := blk_below hI4 hb5
    clear e0 e1 e2 e3 e4 i0 i1 i2 z2 z3 z4
    clear hb5 hB4 hI4
    have e0 := hB5.c0
    have e1 := hB5.c1
    have e2 := hB5.c2
    have e3 := hB5.c3
    have e4 := hB5.c4
    have i0 := (blk_cell hI5 0).trans rfl
    have i1 := (blk_cell hI5 1).trans rfl
    have i2 := (blk_cell hI5 2).trans rfl
    have z4 := blk_frozen hB5.1 4
    have z3 := blk_frozen hB5.1 3
    have z2 := blk_frozen hB5.1 2
    go_wp2_with fail
    refine (co _).mono ?_
    rintro e w6 ⟨rfl, hb6⟩
    have hB6 := (hB5.set4 (.int .i64 1000)).below hb6
    clear e0 e1 e2 e3 e4 i0 i1 i2 z2 z3 z4
    clear hb6 hB5 hI5
    have e2 := hB6.c2
    have e3 := hB6.c3
    have z3 := blk_frozen hB6.1 3
    have z2 := blk_frozen hB6.1 2
    go_wp2_with fail
    have hB9 := (hB6.set2 (.bool on1)).set3 (.bool x)
    clear hB6 e2 e3 z3 z2
    generalize (w6.setCell ⟨w.heap.size, 2, none⟩ (.bool on1)).setCell ⟨w.heap.size, 3, none⟩ (.bool x) = w7 at hB9 ⊢
    have hB7 := hB9.drew
    refine start_ (n := 5) (S := fun w' => w'.cell? ⟨w.heap.size, 0, none⟩ = some (.int .i64 3) ∧ w'.cell? ⟨w.heap.size, 1, none⟩ = some (.int .i64 n) ∧ w'.cell? ⟨w.heap.size, 2, none⟩ = some (.bool on1) ∧ w'.cell? ⟨w.heap.size, 3, none⟩ = some (.bool x) ∧ w'.cell? ⟨w.heap.size, 4, none⟩ = some (.int .i64 1000)) (ds := []) #[false, false, false, false, false] (by kernel_rfl) rfl rfl ⟨hB7.c0, hB7.c1, hB7.c2, hB7.c3, hB7.c4⟩ (fun hHeld => ?_)
    refine pure_ (i := 1) (N := some 43) (v := ?_) (a' := ?_) #[false, true, false, false, false] rfl rfl (by kernel_rfl) (fun _ _ _ h => h) (Or.inl ⟨by rfl, ?_⟩) ?_ ?_
    rotate_left
    · intro w'
      go_simp
      with_reducible rfl
    rotate_left
    · simp only [Act.put, List.setIfInBounds_toArray, List.set_cons_zero, List.set_cons_succ, i64_w, i32_w]
      rfl
    refine take_ (i := 0) (N := some 42) (v := ?_) (a' := ?_) #[true, true, false, false, false] rfl rfl (by kernel_rfl) (fun _ _ _ h => h) (Or.inl ⟨by rfl, ?_⟩) hHeld ?_ ?_
    rotate_left
    · rintro w' ⟨s0, s1, s2, s3, s4⟩
      go_simp
      with_reducible rfl
    rotate_left
    · simp only [Act.put, List.setIfInBounds_toArray, List.set_cons_zero, List.set_cons_succ, i64_w, i32_w]
      rfl
    refine take_ (i := 2) (N := some 44) (v := ?_) (a' := ?_) #[true, true, true, false, false] rfl rfl (by kernel_rfl) (fun _ _ _ h => h) (Or.inl ⟨by rfl, ?_⟩) hHeld ?_ ?_
    rotate_left
    · rintro w' ⟨s0, s1, s2, s3, s4⟩
      go_simp
      with_reducible rfl
    rotate_left
    · simp only [Act.put, List.setIfInBounds_toArray, List.set_cons_zero, List.set_cons_succ, i64_w, i32_w]
      rfl
    refine one_ (i := 3) (N := none) #[true, true, true, true, false] rfl rfl (by kernel_rfl) (by decide) (fun K hK => ?_)
    refine skip_ (w1 := ?_) (by rfl) rfl ?_ ?_
    rotate_left
    · have hu := Try.underlying25
      have i0 := (blk_cell hB9.2.1 0).trans rfl
      have i1 := (blk_cell hB9.2.1 1).trans rfl
      have i2 := (blk_cell hB9.2.1 2).trans rfl
      have i3 := (blk_cell hB9.2.1 3).trans rfl
      have i4 := (blk_cell hB9.2.1 4).trans rfl
      have j0 := blk_frozen hB9.2.1 0
      have j1 := blk_frozen hB9.2.1 1
      have j2 := blk_frozen hB9.2.1 2
      have j3 := blk_frozen hB9.2.1 3
      have j4 := blk_frozen hB9.2.1 4
      go_simp
      rfl
    have hR8 : (((((w7.setCell ⟨w.heap.size + 1, 0, none⟩ (.int .i64 3)).setCell ⟨w.heap.size + 1, 1, none⟩ (.int .i64 n)).setCell ⟨w.heap.size + 1, 2, none⟩ (.bool on1)).setCell ⟨w.heap.size + 1, 3, none⟩ (.bool x)).setCell ⟨w.heap.size + 1, 4, none⟩ (.int .i64 1000)).drew.heap[w.heap.size + 1]? = some (.cells #[.int .i64 3, .int .i64 n, .bool on1, .bool x, .int .i64 1000] 25 (0, 0)) := (blk_put (blk_put (blk_put (blk_put (blk_put hB9.2.1 0 _ rfl) 1 _ rfl) 2 _ rfl) 3 _ rfl) 4 _ rfl)
    have hB8 : Below w.heap.size w (((((w7.setCell ⟨w.heap.size + 1, 0, none⟩ (.int .i64 3)).setCell ⟨w.heap.size + 1, 1, none⟩ (.int .i64 n)).setCell ⟨w.heap.size + 1, 2, none⟩ (.bool on1)).setCell ⟨w.heap.size + 1, 3, none⟩ (.bool x)).setCell ⟨w.heap.size + 1, 4, none⟩ (.int .i64 1000)).drew := below_drew1 (below_set (below_set (below_set (below_set (below_set hB9.2.2 (by omega)) (by omega)) (by omega)) (by omega)) (by omega))
    have hc8 : (((((w7.setCell ⟨w.heap.size + 1, 0, none⟩ (.int .i64 3)).setCell ⟨w.heap.size + 1, 1, none⟩ (.int .i64 n)).setCell ⟨w.heap.size + 1, 2, none⟩ (.bool on1)).setCell ⟨w.heap.size + 1, 3, none⟩ (.bool x)).setCell ⟨w.heap.size + 1, 4, none⟩ (.int .i64 1000)).drew.heap[w.heap.size]? = _ := blk_far (blk_far (blk_far (blk_far (blk_far hB9.1 (p := ⟨w.heap.size + 1, 0, none⟩) (by simp) (.int .i64 3)) (p := ⟨w.heap.size + 1, 1, none⟩) (by simp) (.int .i64 n)) (p := ⟨w.heap.size + 1, 2, none⟩) (by simp) (.bool on1)) (p := ⟨w.heap.size + 1, 3, none⟩) (by simp) (.bool x)) (p := ⟨w.heap.size + 1, 4, none⟩) (by simp) (.int .i64 1000)
    generalize (((((w7.setCell ⟨w.heap.size + 1, 0, none⟩ (.int .i64 3)).setCell ⟨w.heap.size + 1, 1, none⟩ (.int .i64 n)).setCell ⟨w.heap.size + 1, 2, none⟩ (.bool on1)).setCell ⟨w.heap.size + 1, 3, none⟩ (.bool x)).setCell ⟨w.heap.size + 1, 4, none⟩ (.int .i64 1000)).drew = w8 at hR8 hB8 hc8 ⊢
    refine hK.out _ _ ⟨((blk_cell hc8 0).trans rfl), ((blk_cell hc8 1).trans rfl), ((blk_cell hc8 2).trans rfl), ((blk_cell hc8 3).trans rfl), ((blk_cell hc8 4).trans rfl)⟩ (fun hHeld => ?_)
    clear hK K
    refine pure_ (i := 4) (N := some 9) (v := ?_) (a' := ?_) #[true, true, true, true, true] rfl rfl (by kernel_rfl) (fun _ _ _ h => h) (Or.inl ⟨by rfl, ?_⟩) ?_ ?_
    rotate_left
    · intro w'
      go_simp
      with_reducible rfl
    rotate_left
    · simp only [Act.put, List.setIfInBounds_toArray, List.set_cons_zero, List.set_cons_succ, i64_w, i32_w]
      rfl
    refine done_ (by kernel_rfl) ?_
    go_wp2
    exact bodyPost_ret (results_ct rfl _ _ (w.heap.size + 1) 25 #[.int .i64 3, .int .i64 n, .bool on1, .bool x, .int .i64 1000] (0, 0) _ rfl hR8 Try.underlying25 rfl (by kernel_rfl)) rfl ⟨rfl, hB8⟩
  · skip
    go_enter Try.func18, Try.ntmps18
    go_wp2_with fail
    refine (hs _).mono ?_
    rintro e w' ⟨rfl, hb⟩
    have hB : B2 w (.int .i64 3) (.int .i64 n) (.bool o) (.bool s) (.int .i64 t) #[.int .i64 0, .int .i64 0, .bool false, .bool false, .int .i64 0] w' := by
      refine B2.below ⟨?_, ?_, ?_⟩ hb
      · exact blk_alloc (heap_alloc_new w _) _
      · have e := heap_alloc_new (w.alloc (.cells #[.int .i64 3, .int .i64 n, .bool o, .bool s, .int .i64 t] 25)) (.cells #[.int .i64 0, .int .i64 0, .bool false, .bool false, .int .i64 0] 25)
        simpa using e
      · exact ((Below.refl _ _).alloc (Nat.le_refl _) _).alloc (by simp) _
    clear hb
    go_wp2_with fail
    refine (ht _).mono ?_
    rintro e w'' ⟨rfl, rfl⟩
    go_wp2_with fail
    have hB0 := hB.drew
    clear hB
    refine start_ (n := 11) (S := fun w' => w'.cell? ⟨w.heap.size, 0, none⟩ = some (.int .i64 3) ∧ B2 w (.int .i64 3) (.int .i64 n) (.bool o) (.bool s) (.int .i64 t) #[.int .i64 0, .int .i64 0, .bool false, .bool false, .int .i64 0] w') (ds := []) #[false, false, false, false, false, false, false, false, false, false, false] (by kernel_rfl) rfl rfl ⟨hB0.c0, hB0⟩ (fun hHeld => ?_)
    refine pure_ (i := 1) (N := some 22) (v := ?_) (a' := ?_) #[false, true, false, false, false, false, false, false, false, false, false] rfl rfl (by kernel_rfl) (fun _ _ _ h => h) (Or.inl ⟨by rfl, ?_⟩) ?_ ?_
    rotate_left
    · intro w'
      go_simp
      with_reducible rfl
    rotate_left
    · simp only [Act.put, List.setIfInBounds_toArray, List.set_cons_zero, List.set_cons_succ, i64_w, i32_w]
      rfl
    refine pure_ (i := 4) (N := some 25) (v := ?_) (a' := ?_) #[false, true, false, false, true, false, false, false, false, false, false] rfl rfl (by kernel_rfl) (fun _ _ _ h => h) (Or.inl ⟨by rfl, ?_⟩) ?_ ?_
    rotate_left
    · intro w'
      go_simp
      with_reducible rfl
    rotate_left
    · simp only [Act.put, List.setIfInBounds_toArray, List.set_cons_zero, List.set_cons_succ, i64_w, i32_w]
      rfl
    refine pure_ (i := 5) (N := some 26) (v := ?_) (a' := ?_) #[false, true, false, false, true, true, false, false, false, false, false] rfl rfl (by kernel_rfl) (fun _ _ _ h => h) (Or.inl ⟨by rfl, ?_⟩) ?_ ?_
    rotate_left
    · intro w'
      go_simp
      with_reducible rfl
    rotate_left
    · simp only [Act.put, List.setIfInBounds_toArray, List.set_cons_zero, List.set_cons_succ, i64_w, i32_w]
      rfl
    refine pure_ (i := 6) (N := some 27) (v := ?_) (a' := ?_) #[false, true, false, false, true, true, true, false, false, false, false] rfl rfl (by kernel_rfl) (fun _ _ _ h => h) (Or.inl ⟨by rfl, ?_⟩) ?_ ?_
    rotate_left
    · intro w'
      go_simp
      with_reducible rfl
    rotate_left
    · simp only [Act.put, List.setIfInBounds_toArray, List.set_cons_zero, List.set_cons_succ, i64_w, i32_w]
      rfl
    refine pure_ (i := 7) (N := some 28) (v := ?_) (a' := ?_) #[false, true, false, false, true, true, true, true, false, false, false] rfl rfl (by kernel_rfl) (fun _ _ _ h => h) (Or.inl ⟨by rfl, ?_⟩) ?_ ?_
    rotate_left
    · intro w'
      go_simp
      with_reducible rfl
    rotate_left
    · simp only [Act.put, List.setIfInBounds_toArray, List.set_cons_zero, List.set_cons_succ, i64_w, i32_w]
      rfl
    refine take_ (i := 2) (N := some 23) (v := ?_) (a' := ?_) #[false, true, true, false, true, true, true, true, false, false, false] rfl rfl (by kernel_rfl) (fun _ _ _ h => h) (Or.inl ⟨by rfl, ?_⟩) hHeld ?_ ?_
    rotate_left
    · rintro w' ⟨s0, s1⟩
      go_simp
      with_reducible rfl
    rotate_left
    · simp only [Act.put, List.setIfInBounds_toArray, List.set_cons_zero, List.set_cons_succ, i64_w, i32_w]
      rfl
    refine join_ (σ := Nat × Nat) 2 #[true, true, true, true, true, true, true, true, true, false, false] (fun z_ => [(21, .map (some z_.1)), (11, .pointer (some ⟨z_.2, 0, none⟩)), (24, .iface 129 (.agg #[]))]) (fun z_ w' => B2 w (.int .i64 3) (.int .i64 n) (.bool o) (.bool s) (.int .i64 t) #[.int .i64 0, .int .i64 0, .bool false, .bool false, .int .i64 0] w' ∧ w'.heap[z_.2]? = some (.cells #[.bool false, .bool false, .int .i64 0] 89 (0, 0)) ∧ w.heap.size + 1 < z_.2) ?_ ?_
    rotate_left
    · intro hCont
      refine two_ (i := 0) (j := 8) (Ni := some 21) (Nj := some 11) #[true, true, true, false, true, true, true, true, false, false, false] #[false, true, true, false, true, true, true, true, true, false, false] rfl rfl rfl rfl (by kernel_rfl) (by decide) (by decide) (fun K hK => ?_) (fun K hK => ?_)
      · skip
        refine goes_ Try.func43 (by kernel_rfl) rfl #[] (by rfl) rfl rfl (by simp only [List.map_toArray, List.map_cons, List.map_nil]) ?_
        with_reducible refine (wk_some _).mono ?_
        rintro e w3 ⟨b, he_, hb1, hb2⟩
        obtain rfl := he_; refine ⟨_, rfl, ?_⟩
        have hk3 := look0 hb2 3 2 129 rfl
        have hk4 := look_al hb2 3 2 129 rfl
        refine hK.out _ _ ⟨(hHeld.2.below hb1).c0, (hHeld.2.below hb1)⟩ (fun hHeld => ?_)
        clear hK K
        refine norm_ (a' := ?_) ?_ ?_
        rotate_left
        · show Act.put _ (some 21) _ = _
          simp only [Act.put, List.setIfInBounds_toArray, List.set_cons_zero, List.set_cons_succ, i64_w, i32_w]
          rfl
        refine two_ (i := 3) (j := 8) (Ni := some 24) (Nj := some 11) #[true, true, true, true, true, true, true, true, false, false, false] #[true, true, true, false, true, true, true, true, true, false, false] rfl rfl rfl rfl (by kernel_rfl) (by decide) (by decide) (fun K hK => ?_) (fun K hK => ?_)
        · skip
          refine value_ (w1 := ?_) (v := ?_) (by rfl) rfl ?_ ?_
          rotate_left 2
          · go_simp
            constructor
            · rfl
            · rfl
          refine hK.out _ _ ⟨hHeld.1, hHeld.2⟩ (fun hHeld => ?_)
          clear hK K
          refine norm_ (a' := ?_) ?_ ?_
          rotate_left
          · show Act.put _ (some 24) _ = _
            simp only [Act.put, List.setIfInBounds_toArray, List.set_cons_zero, List.set_cons_succ, i64_w, i32_w]
            rfl
          refine one_ (i := 8) (N := some 11) #[true, true, true, true, true, true, true, true, true, false, false] rfl rfl (by kernel_rfl) (by decide) (fun K hK => ?_)
          have hB3_ := hHeld.2
          refine value_ (w1 := ?_) (v := ?_) (by rfl) rfl ?_ ?_
          rotate_left 2
          · go_simp
            constructor
            · rfl
            · rfl
          refine hK.out _ _ ⟨(hHeld.2.alloc _).c0, (hHeld.2.alloc _)⟩ (fun hHeld => ?_)
          clear hK K
          refine norm_ (a' := ?_) ?_ ?_
          rotate_left
          · show Act.put _ (some 11) _ = _
            simp only [Act.put, List.setIfInBounds_toArray, List.set_cons_zero, List.set_cons_succ, i64_w, i32_w]
            rfl
          exact norm_ (by simp only [putAll, Act.put, List.setIfInBounds_toArray, List.set_cons_zero, List.set_cons_succ]) (hCont (b, w3.heap.size) _ ⟨hHeld.2, (heap_alloc_new w3 _), (B2.lt hB3_)⟩)
        · skip
          have hB3_ := hHeld.2
          refine value_ (w1 := ?_) (v := ?_) (by rfl) rfl ?_ ?_
          rotate_left 2
          · go_simp
            constructor
            · rfl
            · rfl
          refine hK.out _ _ ⟨(hHeld.2.alloc _).c0, (hHeld.2.alloc _)⟩ (fun hHeld => ?_)
          clear hK K
          refine norm_ (a' := ?_) ?_ ?_
          rotate_left
          · show Act.put _ (some 11) _ = _
            simp only [Act.put, List.setIfInBounds_toArray, List.set_cons_zero, List.set_cons_succ, i64_w, i32_w]
            rfl
          refine one_ (i := 3) (N := some 24) #[true, true, true, true, true, true, true, true, true, false, false] rfl rfl (by kernel_rfl) (by decide) (fun K hK => ?_)
          refine value_ (w1 := ?_) (v := ?_) (by rfl) rfl ?_ ?_
          rotate_left 2
          · go_simp
            constructor
            · rfl
            · rfl
          refine hK.out _ _ ⟨hHeld.1, hHeld.2⟩ (fun hHeld => ?_)
          clear hK K
          refine norm_ (a' := ?_) ?_ ?_
          rotate_left
          · show Act.put _ (some 24) _ = _
            simp only [Act.put, List.setIfInBounds_toArray, List.set_cons_zero, List.set_cons_succ, i64_w, i32_w]
            rfl
          exact norm_ (by simp only [putAll, Act.put, List.setIfInBounds_toArray, List.set_cons_zero, List.set_cons_succ]) (hCont (b, w3.heap.size) _ ⟨hHeld.2, (heap_alloc_new w3 _), (B2.lt hB3_)⟩)
      · skip
        refine value_ (w1 := ?_) (v := ?_) (by rfl) rfl ?_ ?_
        rotate_left 2
        · go_simp
          constructor
          · rfl
          · rfl
        refine hK.out _ _ ⟨(hHeld.2.alloc _).c0, (hHeld.2.alloc _)⟩ (fun hHeld => ?_)
        clear hK K
        refine norm_ (a' := ?_) ?_ ?_
        rotate_left
        · show Act.put _ (some 11) _ = _
          simp only [Act.put, List.setIfInBounds_toArray, List.set_cons_zero, List.set_cons_succ, i64_w, i32_w]
          rfl
        refine one_ (i := 0) (N := some 21) #[true, true, true, false, true, true, true, true, true, false, false] rfl rfl (by kernel_rfl) (by decide) (fun K hK => ?_)
        refine goes_ Try.func43 (by kernel_rfl) rfl #[] (by rfl) rfl rfl (by simp only [List.map_toArray, List.map_cons, List.map_nil]) ?_
        with_reducible refine (wk_some _).mono ?_
        rintro e w3 ⟨b, he_, hb1, hb2⟩
        obtain rfl := he_; refine ⟨_, rfl, ?_⟩
        have hk3 := look0 hb2 3 2 129 rfl
        have hk4 := look_al hb2 3 2 129 rfl
        have hg := blk_below (heap_alloc_new w'.drew (.cells #[.bool false, .bool false, .int .i64 0] 89)) hb1
        refine hK.out _ _ ⟨(hHeld.2.below hb1).c0, (hHeld.2.below hb1)⟩ (fun hHeld => ?_)
        clear hK K
        refine norm_ (a' := ?_) ?_ ?_
        rotate_left
        · show Act.put _ (some 21) _ = _
          simp only [Act.put, List.setIfInBounds_toArray, List.set_cons_zero, List.set_cons_succ, i64_w, i32_w]
          rfl
        refine one_ (i := 3) (N := some 24) #[true, true, true, true, true, true, true, true, true, false, false] rfl rfl (by kernel_rfl) (by decide) (fun K hK => ?_)
        refine value_ (w1 := ?_) (v := ?_) (by rfl) rfl ?_ ?_
        rotate_left 2
        · go_simp
          constructor
          · rfl
          · rfl
        refine hK.out _ _ ⟨hHeld.1, hHeld.2⟩ (fun hHeld => ?_)
        clear hK K
        refine norm_ (a' := ?_) ?_ ?_
        rotate_left
        · show Act.put _ (some 24) _ = _
          simp only [Act.put, List.setIfInBounds_toArray, List.set_cons_zero, List.set_cons_succ, i64_w, i32_w]
          rfl
        exact norm_ (by simp only [putAll, Act.put, List.setIfInBounds_toArray, List.set_cons_zero, List.set_cons_succ]) (hCont (b, w'.heap.size) _ ⟨hHeld.2, hg, hB0.lt⟩)
    rintro ⟨b, gi⟩ w3 ⟨hB3, hI3, hL3⟩
    have hHeld : w3.cell? ⟨w.heap.size, 0, none⟩ = some (.int .i64 3) ∧ B2 w (.int .i64 3) (.int .i64 n) (.bool o) (.bool s) (.int .i64 t) #[.int .i64 0, .int .i64 0, .bool false, .bool false, .int .i64 0] w3 := ⟨hB3.c0, hB3⟩
    refine norm_ (a' := ?_) ?_ ?_
    rotate_left
    · simp only [putAll, Act.put, List.setIfInBounds_toArray, List.set_cons_zero, List.set_cons_succ]
      rfl
    refine pure_ (i := 9) (N := some 10) (v := ?_) (a' := ?_) #[true, true, true, true, true, true, true, true, true, true, false] rfl rfl (by kernel_rfl) (fun _ _ _ h => h) (Or.inl ⟨by rfl, ?_⟩) ?_ ?_
    rotate_left
    · intro w'
      go_simp
      with_reducible rfl
    rotate_left
    · simp only [Act.put, List.setIfInBounds_toArray, List.set_cons_zero, List.set_cons_succ, i64_w, i32_w]
      rfl
    refine one_ (i := 10) (N := none) #[true, true, true, true, true, true, true, true, true, true, true] rfl rfl (by kernel_rfl) (by decide) (fun K hK => ?_)
    refine skip_ (w1 := ?_) (by rfl) rfl ?_ ?_
    rotate_left
    · have hu := Try.underlying89
      have i0 := (blk_cell hI3 0).trans rfl
      have i1 := (blk_cell hI3 1).trans rfl
      have i2 := (blk_cell hI3 2).trans rfl
      have j0 := blk_frozen hI3 0
      have j1 := blk_frozen hI3 1
      have j2 := blk_frozen hI3 2
      go_simp
      rfl
    have hI4 : (((w3.setCell ⟨gi, 0, none⟩ (.bool x)).setCell ⟨gi, 1, none⟩ (.bool y)).setCell ⟨gi, 2, none⟩ (.int .i64 dt)).heap[gi]? = some (.cells #[.bool x, .bool y, .int .i64 dt] 89 (0, 0)) := blk_put (blk_put (blk_put hI3 0 _ rfl) 1 _ rfl) 2 _ rfl
    have hB4 := ((hHeld.2.far hL3 0 (.bool x)).far hL3 1 (.bool y)).far hL3 2 (.int .i64 dt)
    generalize (((w3.setCell ⟨gi, 0, none⟩ (.bool x)).setCell ⟨gi, 1, none⟩ (.bool y)).setCell ⟨gi, 2, none⟩ (.int .i64 dt)) = w4 at hI4 hB4 ⊢
    refine hK.out _ _ ⟨hB4.c0, hB4⟩ (fun hHeld => ?_)
    clear hK K
    refine done_ (by kernel_rfl) ?_
    clear hHeld
    have hu1 := Try.underlying25
    have hu2 := Try.underlying89
    have e0 := hB4.c0
    have e1 := hB4.c1
    have e2 := hB4.c2
    have e3 := hB4.c3
    have e4 := hB4.c4
    have i0 := (blk_cell hI4 0).trans rfl
    have i1 := (blk_cell hI4 1).trans rfl
    have i2 := (blk_cell hI4 2).trans rfl
    have z4 := blk_frozen hB4.1 4
    have z3 := blk_frozen hB4.1 3
    have z2 := blk_frozen hB4.1 2
    go_wp2_with fail
    refine (ct _).mono ?_
    rintro e w5 ⟨rfl, hb5⟩
    have hB5 := hB4.below hb5
    have hI5 := blk_below hI4 hb5
    clear e0 e1 e2 e3 e4 i0 i1 i2 z2 z3 z4
    clear hb5 hB4 hI4
    have e0 := hB5.c0
    have e1 := hB5.c1
    have e2 := hB5.c2
    have e3 := hB5.c3
    have e4 := hB5.c4
    have i0 := (blk_cell hI5 0).trans rfl
    have i1 := (blk_cell hI5 1).trans rfl
    have i2 := (blk_cell hI5 2).trans rfl
    have z4 := blk_frozen hB5.1 4
    have z3 := blk_frozen hB5.1 3
    have z2 := blk_frozen hB5.1 2
    go_wp2_with fail
    refine (co _).mono ?_
    rintro e w6 ⟨rfl, hb6⟩
    have hB6 := (hB5.set4 (.int .i64 T)).below hb6
    clear e0 e1 e2 e3 e4 i0 i1 i2 z2 z3 z4
    clear hb6 hB5 hI5
    have e2 := hB6.c2
    have e3 := hB6.c3
    have z3 := blk_frozen hB6.1 3
    have z2 := blk_frozen hB6.1 2
    go_wp2_with fail
    have hB9 := (hB6.set2 (.bool on1)).set3 (.bool x)
    clear hB6 e2 e3 z3 z2
    generalize (w6.setCell ⟨w.heap.size, 2, none⟩ (.bool on1)).setCell ⟨w.heap.size, 3, none⟩ (.bool x) = w7 at hB9 ⊢
    have hB7 := hB9.drew
    refine start_ (n := 5) (S := fun w' => w'.cell? ⟨w.heap.size, 0, none⟩ = some (.int .i64 3) ∧ w'.cell? ⟨w.heap.size, 1, none⟩ = some (.int .i64 n) ∧ w'.cell? ⟨w.heap.size, 2, none⟩ = some (.bool on1) ∧ w'.cell? ⟨w.heap.size, 3, none⟩ = some (.bool x) ∧ w'.cell? ⟨w.heap.size, 4, none⟩ = some (.int .i64 T)) (ds := []) #[false, false, false, false, false] (by kernel_rfl) rfl rfl ⟨hB7.c0, hB7.c1, hB7.c2, hB7.c3, hB7.c4⟩ (fun hHeld => ?_)
    refine pure_ (i := 1) (N := some 43) (v := ?_) (a' := ?_) #[false, true, false, false, false] rfl rfl (by kernel_rfl) (fun _ _ _ h => h) (Or.inl ⟨by rfl, ?_⟩) ?_ ?_
    rotate_left
    · intro w'
      go_simp
      with_reducible rfl
    rotate_left
    · simp only [Act.put, List.setIfInBounds_toArray, List.set_cons_zero, List.set_cons_succ, i64_w, i32_w]
      rfl
    refine take_ (i := 0) (N := some 42) (v := ?_) (a' := ?_) #[true, true, false, false, false] rfl rfl (by kernel_rfl) (fun _ _ _ h => h) (Or.inl ⟨by rfl, ?_⟩) hHeld ?_ ?_
    rotate_left
    · rintro w' ⟨s0, s1, s2, s3, s4⟩
      go_simp
      with_reducible rfl
    rotate_left
    · simp only [Act.put, List.setIfInBounds_toArray, List.set_cons_zero, List.set_cons_succ, i64_w, i32_w]
      rfl
    refine take_ (i := 2) (N := some 44) (v := ?_) (a' := ?_) #[true, true, true, false, false] rfl rfl (by kernel_rfl) (fun _ _ _ h => h) (Or.inl ⟨by rfl, ?_⟩) hHeld ?_ ?_
    rotate_left
    · rintro w' ⟨s0, s1, s2, s3, s4⟩
      go_simp
      with_reducible rfl
    rotate_left
    · simp only [Act.put, List.setIfInBounds_toArray, List.set_cons_zero, List.set_cons_succ, i64_w, i32_w]
      rfl
    refine one_ (i := 3) (N := none) #[true, true, true, true, false] rfl rfl (by kernel_rfl) (by decide) (fun K hK => ?_)
    refine skip_ (w1 := ?_) (by rfl) rfl ?_ ?_
    rotate_left
    · have hu := Try.underlying25
      have i0 := (blk_cell hB9.2.1 0).trans rfl
      have i1 := (blk_cell hB9.2.1 1).trans rfl
      have i2 := (blk_cell hB9.2.1 2).trans rfl
      have i3 := (blk_cell hB9.2.1 3).trans rfl
      have i4 := (blk_cell hB9.2.1 4).trans rfl
      have j0 := blk_frozen hB9.2.1 0
      have j1 := blk_frozen hB9.2.1 1
      have j2 := blk_frozen hB9.2.1 2
      have j3 := blk_frozen hB9.2.1 3
      have j4 := blk_frozen hB9.2.1 4
      go_simp
      rfl
    have hR8 : (((((w7.setCell ⟨w.heap.size + 1, 0, none⟩ (.int .i64 3)).setCell ⟨w.heap.size + 1, 1, none⟩ (.int .i64 n)).setCell ⟨w.heap.size + 1, 2, none⟩ (.bool on1)).setCell ⟨w.heap.size + 1, 3, none⟩ (.bool x)).setCell ⟨w.heap.size + 1, 4, none⟩ (.int .i64 T)).drew.heap[w.heap.size + 1]? = some (.cells #[.int .i64 3, .int .i64 n, .bool on1, .bool x, .int .i64 T] 25 (0, 0)) := (blk_put (blk_put (blk_put (blk_put (blk_put hB9.2.1 0 _ rfl) 1 _ rfl) 2 _ rfl) 3 _ rfl) 4 _ rfl)
    have hB8 : Below w.heap.size w (((((w7.setCell ⟨w.heap.size + 1, 0, none⟩ (.int .i64 3)).setCell ⟨w.heap.size + 1, 1, none⟩ (.int .i64 n)).setCell ⟨w.heap.size + 1, 2, none⟩ (.bool on1)).setCell ⟨w.heap.size + 1, 3, none⟩ (.bool x)).setCell ⟨w.heap.size + 1, 4, none⟩ (.int .i64 T)).drew := below_drew1 (below_set (below_set (below_set (below_set (below_set hB9.2.2 (by omega)) (by omega)) (by omega)) (by omega)) (by omega))
    have hc8 : (((((w7.setCell ⟨w.heap.size + 1, 0, none⟩ (.int .i64 3)).setCell ⟨w.heap.size + 1, 1, none⟩ (.int .i64 n)).setCell ⟨w.heap.size + 1, 2, none⟩ (.bool on1)).setCell ⟨w.heap.size + 1, 3, none⟩ (.bool x)).setCell ⟨w.heap.size + 1, 4, none⟩ (.int .i64 T)).drew.heap[w.heap.size]? = _ := blk_far (blk_far (blk_far (blk_far (blk_far hB9.1 (p := ⟨w.heap.size + 1, 0, none⟩) (by simp) (.int .i64 3)) (p := ⟨w.heap.size + 1, 1, none⟩) (by simp) (.int .i64 n)) (p := ⟨w.heap.size + 1, 2, none⟩) (by simp) (.bool on1)) (p := ⟨w.heap.size + 1, 3, none⟩) (by simp) (.bool x)) (p := ⟨w.heap.size + 1, 4, none⟩) (by simp) (.int .i64 T)
    generalize (((((w7.setCell ⟨w.heap.size + 1, 0, none⟩ (.int .i64 3)).setCell ⟨w.heap.size + 1, 1, none⟩ (.int .i64 n)).setCell ⟨w.heap.size + 1, 2, none⟩ (.bool on1)).setCell ⟨w.heap.size + 1, 3, none⟩ (.bool x)).setCell ⟨w.heap.size + 1, 4, none⟩ (.int .i64 T)).drew = w8 at hR8 hB8 hc8 ⊢
    refine hK.out _ _ ⟨((blk_cell hc8 0).trans rfl), ((blk_cell hc8 1).trans rfl), ((blk_cell hc8 2).trans rfl), ((blk_cell hc8 3).trans rfl), ((blk_cell hc8 4).trans rfl)⟩ (fun hHeld => ?_)
    clear hK K
    refine pure_ (i := 4) (N := some 9) (v := ?_) (a' := ?_) #[true, true, true, true, true] rfl rfl (by kernel_rfl) (fun _ _ _ h => h) (Or.inl ⟨by rfl, ?_⟩) ?_ ?_
    rotate_left
    · intro w'
      go_simp
      with_reducible rfl
    rotate_left
    · simp only [Act.put, List.setIfInBounds_toArray, List.set_cons_zero, List.set_cons_succ, i64_w, i32_w]
      rfl
    refine done_ (by kernel_rfl) ?_
    go_wp2
    exact bodyPost_ret (results_ct rfl _ _ (w.heap.size + 1) 25 #[.int .i64 3, .int .i64 n, .bool on1, .bool x, .int .i64 T] (0, 0) _ rfl hR8 Try.underlying25 rfl (by kernel_rfl)) rfl ⟨rfl, hB8⟩
end Go.Proofs.Ytcigooccnlbkjaa.Hb
