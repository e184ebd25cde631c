import Derived.Test.YtlgogdpnakbhiaaDoorWMore
import Derived.Test.YtlgogdpnakbhiaaDoorProg
import Derived.WalkKit
import Derived.KernelRfl
import Derived.WalkLawsBesides
import Derived.WalkSpells
import Derived.Below
namespace Go.Proofs.YtlgogdpnakbhiaaDoor.Ha
open Go.RowKit Go.Proofs.YtlgogdpnakbhiaaDoorW.PrintWords Go.Proofs.YtlgogdpnakbhiaaDoorW.PrintLast Go.Proofs.YtlgogdpnakbhiaaDoorW.PrintMore
attribute [local go_sem] max2_int min2_int max_two min_two
set_option linter.unusedVariables false
set_option linter.unusedSimpArgs false
def digs : ByteArray := ⟨#[48, 49, 50, 51, 52, 53, 54, 55, 56, 57, 97, 98, 99, 100, 101, 102, 103, 104, 105, 106, 107, 108, 109, 110, 111, 112, 113, 114, 115, 116, 117, 118, 119, 120, 121, 122]⟩
def lets : ByteArray := ⟨#[32, 105, 111, 118]⟩
set_option maxRecDepth 100000 in
theorem small_any (i : Int) (h0 : 0 ≤ i) (h1 : i < 10) (w : World) : Calls Tryd.prog 51 #[.int .i64 i] w fun e w' => e = .returned (.string (digs.extract i.toNat (i + 1).toNat)) ∧ Below w.heap.size w w' := by
  have d1 : decide (i < 10) = true := by simpa using h1
  have e1 : wrap64 (i + 1) = i + 1 := by unfold wrap64; omega
  have d2 : (i ≤ i + 1) = True := eq_true (by omega)
  have d3 : (i + 1 ≤ 36) = True := eq_true (by omega)
  have d4 : (0 ≤ i) = True := eq_true h0
  go_enter Tryd.func51, Tryd.ntmps51
  go_wp2
  go_ret
  exact ⟨rfl, Below.refl _ _⟩
set_option maxRecDepth 100000 in
theorem fmt_any (i : Int) (h0 : 0 ≤ i) (h1 : i < 10) (w : World) : Calls Tryd.prog 50 #[.int .i64 i, .int .i64 10] w fun e w' => e = .returned (.string (digs.extract i.toNat (i + 1).toNat)) ∧ Below w.heap.size w w' := by
  have hc := fun W => small_any i h0 h1 W
  have d1 : decide (0 ≤ i) = true := by simpa using h0
  have d2 : decide (i < 100) = true := by simp; omega
  go_enter Tryd.func50, Tryd.ntmps50
  go_wp2_with fail
  refine (hc _).mono ?_
  rintro e w2 ⟨rfl, hb⟩
  go_wp2
  go_ret
  exact ⟨rfl, hb⟩
set_option maxRecDepth 100000 in
theorem itoa2_any (i : Int) (h0 : 0 ≤ i) (h1 : i < 10) (w : World) : Calls Tryd.prog 43 #[.int .i64 i] w fun e w' => e = .returned (.string (digs.extract i.toNat (i + 1).toNat)) ∧ Below w.heap.size w w' := by
  have hc := fun W => fmt_any i h0 h1 W
  go_enter Tryd.func43, Tryd.ntmps43
  go_wp2_with fail
  refine (hc _).mono ?_
  rintro e w2 ⟨rfl, hb⟩
  go_wp2
  go_ret
  exact ⟨rfl, hb⟩
set_option maxRecDepth 100000 in
theorem itoa_any (i : Int) (h0 : 0 ≤ i) (h1 : i < 10) (w : World) : Calls Tryd.prog 28 #[.int .i64 i] w fun e w' => e = .returned (.string (digs.extract i.toNat (i + 1).toNat)) ∧ Below w.heap.size w w' := by
  have hc := fun W => itoa2_any i h0 h1 W
  go_enter Tryd.func28, Tryd.ntmps28
  go_wp2_with fail
  refine (hc _).mono ?_
  rintro e w2 ⟨rfl, hb⟩
  go_wp2
  go_ret
  exact ⟨rfl, hb⟩
def aOk (k i : Int) : Bool := decide (1 ≤ k) && (decide (k ≤ 3) && (decide (0 ≤ i) && decide (i < 6)))
set_option maxRecDepth 100000 in
theorem addrOk_any (k i : Int) (w : World) : Calls Tryd.prog 9 #[.agg #[.int .i64 k, .int .i64 i]] w fun e w' => e = .returned (.bool (aOk k i)) ∧ Below w.heap.size w w' := by
  have hu := Tryd.underlying28
  have al : ∀ o : Obj, Below w.heap.size w (w.alloc o) := fun o => (Below.refl _ _).alloc (Nat.le_refl _) _
  obtain ⟨p1, h1⟩ : ∃ q, decide (1 ≤ k) = q := ⟨_, rfl⟩
  obtain ⟨p2, h2⟩ : ∃ q, decide (k ≤ 3) = q := ⟨_, rfl⟩
  obtain ⟨p3, h3⟩ : ∃ q, decide (0 ≤ i) = q := ⟨_, rfl⟩
  obtain ⟨p4, h4⟩ : ∃ q, decide (i < 6) = q := ⟨_, rfl⟩
  have e : aOk k i = (p1 && (p2 && (p3 && p4))) := by unfold aOk; rw [h1, h2, h3, h4]
  rw [e]; clear e
  cases p1 <;> cases p2 <;> cases p3 <;> cases p4
  all_goals
    go_enter Tryd.func9, Tryd.ntmps9
    go_wp2
    go_ret
    exact ⟨rfl, al _⟩
set_option maxRecDepth 100000 in
theorem letter_any (k i : Int) (h0 : 1 ≤ k) (h1 : k ≤ 3) (w : World) : Calls Tryd.prog 27 #[.agg #[.int .i64 k, .int .i64 i]] w fun e w' => e = .returned (.string (lets.extract k.toNat (k + 1).toNat)) ∧ Below w.heap.size w w' := by
  have hu := Tryd.underlying28
  have al : ∀ o : Obj, Below w.heap.size w (w.alloc o) := fun o => (Below.refl _ _).alloc (Nat.le_refl _) _
  have e1 : wrap64 (k + 1) = k + 1 := by unfold wrap64; omega
  have d2 : (k ≤ k + 1) = True := eq_true (by omega)
  have d3 : (k + 1 ≤ 4) = True := eq_true (by omega)
  have d4 : (0 ≤ k) = True := eq_true (by omega)
  go_enter Tryd.func27, Tryd.ntmps27
  go_wp2
  go_ret
  exact ⟨rfl, al _⟩
def txt (k i : Int) : ByteArray := if aOk k i = true then lets.extract k.toNat (k + 1).toNat ++ digs.extract i.toNat (i + 1).toNat else ⟨#[]⟩
set_option maxRecDepth 100000 in
theorem text_any (k i : Int) (w : World) : Calls Tryd.prog 11 #[.agg #[.int .i64 k, .int .i64 i]] w fun e w' => e = .returned (.string (txt k i)) ∧ Below w.heap.size w w' := by
  have hu := Tryd.underlying28
  have al : ∀ o : Obj, Below w.heap.size w (w.alloc o) := fun o => (Below.refl _ _).alloc (Nat.le_refl _) _
  have hc := fun W => addrOk_any k i W
  unfold txt
  cases ha : aOk k i with
  | false =>
    rw [ha] at hc
    go_enter Tryd.func11, Tryd.ntmps11
    go_wp2_with fail
    refine (hc _).mono ?_
    rintro e w2 ⟨rfl, hb⟩
    go_wp2
    go_ret
    exact ⟨by simp, (al _).trans (hb.mono (al _).size)⟩
  | true =>
    rw [ha] at hc
    simp only [aOk, Bool.and_eq_true, decide_eq_true_eq] at ha
    obtain ⟨h1, h2, h3, h4⟩ := ha
    have hl := fun W => letter_any k i h1 h2 W
    have ht := fun W => itoa_any i h3 (by omega) W
    have hsz : (lets.extract k.toNat (k + 1).toNat).size + (digs.extract i.toNat (i + 1).toNat).size ≤ 9223372036854775807 := by
      rw [ByteArray.size_extract, ByteArray.size_extract]
      have : lets.size = 4 := rfl
      have : digs.size = 36 := rfl
      omega
    rw [if_pos rfl]
    generalize lets.extract k.toNat (k + 1).toNat = X at hl hsz ⊢
    generalize digs.extract i.toNat (i + 1).toNat = Y at ht hsz ⊢
    clear h1 h2 h3 h4
    go_enter Tryd.func11, Tryd.ntmps11
    go_wp2_with fail
    refine (hc _).mono ?_
    rintro e w2 ⟨rfl, hb⟩
    have hb2 := (al (.cells #[.int .i64 k, .int .i64 i] 28)).trans (hb.mono (al (.cells #[.int .i64 k, .int .i64 i] 28)).size)
    have n1 : w2.heap[w.heap.size]? = some (.cells #[.int .i64 k, .int .i64 i] 28 (0, 0)) := blk_below (heap_alloc_new w _) hb
    have z1 : w2.cell? ⟨w.heap.size, 0, none⟩ = some (.int .i64 k) := (blk_cell n1 0).trans rfl
    have z2 : w2.cell? ⟨w.heap.size, 1, none⟩ = some (.int .i64 i) := (blk_cell n1 1).trans rfl
    go_wp2_with fail
    have n3 : w2.drew.heap[w.heap.size]? = some (.cells #[.int .i64 k, .int .i64 i] 28 (0, 0)) := n1
    have z3 : w2.drew.cell? ⟨w.heap.size, 0, none⟩ = some (.int .i64 k) := (blk_cell n3 0).trans rfl
    have z4 : w2.drew.cell? ⟨w.heap.size, 1, none⟩ = some (.int .i64 i) := (blk_cell n3 1).trans rfl
    have hb3 := below_drew1 hb2
    have hszb : (9223372036854775807 < X.size + Y.size) = False := eq_false (by omega)
    refine start_ (n := 7) (S := fun w' => w'.cell? ⟨w.heap.size, 0, none⟩ = some (.int .i64 k) ∧ w'.cell? ⟨w.heap.size, 1, none⟩ = some (.int .i64 i) ∧ w'.heap[w.heap.size]? = some (.cells #[.int .i64 k, .int .i64 i] 28 (0, 0)) ∧ Below w.heap.size w w') (ds := []) #[false, false, false, false, false, false, false] (by kernel_rfl) rfl rfl ⟨z3, z4, n3, hb3⟩ (fun hHeld => ?_)
    refine pure_ (i := 2) (N := some 8) (v := ?_) (a' := ?_) #[false, false, true, false, false, false, false] rfl rfl (by kernel_rfl) (fun _ _ _ h => h) (Or.inl ⟨by rfl, ?_⟩) ?_ ?_
    rotate_left
    · intro w'
      go_simp
      with_reducible rfl
    rotate_left
    · simp only [Act.put, List.setIfInBounds_toArray, List.set_cons_zero, List.set_cons_succ, i64_w, i32_w]
      rfl
    refine take_ (i := 0) (N := some 6) (v := ?_) (a' := ?_) #[true, false, true, false, false, false, false] rfl rfl (by kernel_rfl) (fun _ _ _ h => h) (Or.inl ⟨by rfl, ?_⟩) hHeld ?_ ?_
    rotate_left
    · rintro w' ⟨s0, s1, s2, s3⟩
      go_simp
      with_reducible rfl
    rotate_left
    · simp only [Act.put, List.setIfInBounds_toArray, List.set_cons_zero, List.set_cons_succ, i64_w, i32_w]
      rfl
    refine take_ (i := 3) (N := some 9) (v := ?_) (a' := ?_) #[true, false, true, true, false, false, false] rfl rfl (by kernel_rfl) (fun _ _ _ h => h) (Or.inl ⟨by rfl, ?_⟩) hHeld ?_ ?_
    rotate_left
    · rintro w' ⟨s0, s1, s2, s3⟩
      go_simp
      with_reducible rfl
    rotate_left
    · simp only [Act.put, List.setIfInBounds_toArray, List.set_cons_zero, List.set_cons_succ, i64_w, i32_w]
      rfl
    refine one_ (i := 1) (N := some 7) #[true, true, true, true, false, false, false] rfl rfl (by kernel_rfl) (by decide) (fun K hK => ?_)
    refine goes_ Tryd.func27 (by kernel_rfl) rfl #[.agg #[.int .i64 k, .int .i64 i]] (by rfl) rfl rfl (by simp only [List.map_toArray, List.map_cons, List.map_nil]; rfl) ?_
    with_reducible refine (hl _).mono ?_
    rintro e w4 ⟨rfl, hq⟩
    refine ⟨_, rfl, ?_⟩
    have nn := blk_below hHeld.2.2.1 hq
    refine hK.out _ _ ⟨(blk_cell nn 0).trans rfl, (blk_cell nn 1).trans rfl, nn, (hHeld.2.2.2.trans (hq.mono hHeld.2.2.2.size))⟩ (fun hHeld => ?_)
    clear hK K
    refine norm_ (a' := ?_) ?_ ?_
    rotate_left
    · show Act.put _ (some 7) _ = _
      simp only [Act.put, List.setIfInBounds_toArray, List.set_cons_zero, List.set_cons_succ, i64_w, i32_w]
      rfl
    refine one_ (i := 4) (N := some 10) #[true, true, true, true, true, false, false] rfl rfl (by kernel_rfl) (by decide) (fun K hK => ?_)
    refine goes_ Tryd.func28 (by kernel_rfl) rfl #[.int .i64 i] (by rfl) rfl rfl (by simp only [List.map_toArray, List.map_cons, List.map_nil]; rfl) ?_
    with_reducible refine (ht _).mono ?_
    rintro e w5 ⟨rfl, hq2⟩
    refine ⟨_, rfl, ?_⟩
    have nm := blk_below hHeld.2.2.1 hq2
    refine hK.out _ _ ⟨(blk_cell nm 0).trans rfl, (blk_cell nm 1).trans rfl, nm, (hHeld.2.2.2.trans (hq2.mono hHeld.2.2.2.size))⟩ (fun hHeld => ?_)
    clear hK K
    refine norm_ (a' := ?_) ?_ ?_
    rotate_left
    · show Act.put _ (some 10) _ = _
      simp only [Act.put, List.setIfInBounds_toArray, List.set_cons_zero, List.set_cons_succ, i64_w, i32_w]
      rfl
    refine pure_ (i := 5) (N := some 11) (v := ?_) (a' := ?_) #[true, true, true, true, true, true, false] rfl rfl (by kernel_rfl) (fun _ _ _ h => h) (Or.inl ⟨by rfl, ?_⟩) ?_ ?_
    rotate_left
    · intro w'
      go_simp
      with_reducible rfl
    rotate_left
    · simp only [Act.put, List.setIfInBounds_toArray, List.set_cons_zero, List.set_cons_succ, i64_w, i32_w]
      rfl
    refine pure_ (i := 6) (N := some 2) (v := ?_) (a' := ?_) #[true, true, true, true, true, true, true] rfl rfl (by kernel_rfl) (fun _ _ _ h => h) (Or.inl ⟨by rfl, ?_⟩) ?_ ?_
    rotate_left
    · intro w'
      go_simp
      with_reducible rfl
    rotate_left
    · simp only [Act.put, List.setIfInBounds_toArray, List.set_cons_zero, List.set_cons_succ, i64_w, i32_w]
      rfl
    refine done_ (by kernel_rfl) ?_
    have hl := hHeld.2.2.2
    clear hHeld
    go_wp2
    go_ret
    exact ⟨rfl, hl⟩
end Go.Proofs.YtlgogdpnakbhiaaDoor.Ha
