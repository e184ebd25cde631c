/- The processor of impl.CodeRun: push and pop. No other condition. -/
import Derived.Test.YtjamfddhcigchaaGreatDoorTFnExactCodeRunGw
import Derived.Test.YtjamfddhcigchaaGreatDoorTFnExactCodeRunHFnExactCodeRunx2
namespace Go.Proofs.YtjamfddhcigchaaGreatDoor.Hj
open Go.RowKit  Go.Proofs.YtjamfddhcigchaaGreatDoor.Gm Go.Proofs.YtjamfddhcigchaaGreatDoor.HFnExactCodeRun Go.Proofs.YtjamfddhcigchaaGreatDoorW.PrintWords Go.Proofs.YtjamfddhcigchaaGreatDoorW.PrintLast Go.Proofs.YtjamfddhcigchaaGreatDoorW.PrintMore
set_option linter.unusedVariables false
set_option linter.unusedSimpArgs false
def PC (g : Nat) (hs : List Int) (m a f : Int) : Array Value := (.pointer (some ⟨g, 0, none⟩) :: (hs.map (Value.int .i64) ++ [.int .i64 m, .int .i64 a, .int .i64 f])).toArray
structure Wr (X : Nat) (cs : Array Value) (t : TypeId) (W W' : World) : Prop where
 at_ : W'.heap[X]? = some (.cells cs t (0, 0))
 bl : ∀ base, base ≤ X → base ≤ W.heap.size → Below base W W'
 kp : Kept W W' (fun k => k = X)
theorem Wr.set {X : Nat} {cs cs' : Array Value} {t : TypeId} {W : World} (h : W.heap[X]? = some (.cells cs t (0, 0))) (i : Nat) (v : Value) (e : cs.setIfInBounds i v = cs') : Wr X cs' t W (W.setCell ⟨X, i, none⟩ v) :=
 ⟨blk_put h i v e, fun base h1 _ => (Below.refl _ _).setCell h1 _, (Kept.refl W (fun k => k = X)).setCell (p := ⟨X, i, none⟩) (.inl rfl) v⟩
theorem Wr.trans {X : Nat} {cs cs' : Array Value} {t t' : TypeId} {W W1 W2 : World} (h : Wr X cs t W W1) (k : Wr X cs' t' W1 W2) : Wr X cs' t' W W2 :=
 ⟨k.at_, fun base h1 h2 => (h.bl base h1 h2).trans (k.bl base h1 (Nat.le_trans h2 h.kp.1)), h.kp.then_ k.kp (fun _ e => .inl e)⟩
theorem Wr.drew {X : Nat} {cs : Array Value} {t : TypeId} {W W1 : World} (h : Wr X cs t W W1) : Wr X cs t W W1.drew := ⟨h.at_, fun base h1 h2 => below_drew1 (h.bl base h1 h2), h.kp.drew⟩
theorem PC_at {g : Nat} {hs : List Int} {m a f : Int} (i : Nat) (hi : i < hs.length) : (PC g hs m a f)[1 + i]? = some (.int .i64 hs[i]) := by
 unfold PC
 rw [List.getElem?_toArray, show 1 + i = i + 1 by omega, List.getElem?_cons_succ, List.getElem?_append_left (by simpa using hi), List.getElem?_map, List.getElem?_eq_getElem hi]; rfl
theorem PC_set {g : Nat} {hs : List Int} {m a f : Int} (i : Nat) (hi : i < hs.length) (n : Int) : (PC g hs m a f).setIfInBounds (1 + i) (.int .i64 n) = PC g (hs.set i n) m a f := by
 unfold PC
 rw [List.setIfInBounds_toArray, show 1 + i = i + 1 by omega, List.set_cons_succ, List.set_append_left _ _ (by simpa using hi), List.map_set]
theorem PC_m {g : Nat} {hs : List Int} {m z a f : Int} (hl : hs.length = 12) : (PC g hs m a f).setIfInBounds 13 (.int .i64 z) = PC g hs z a f := by
 unfold PC
 rw [List.setIfInBounds_toArray, List.set_cons_succ, List.set_append_right _ _ (by simp [hl])]
 simp [hl]
theorem PC_a {g : Nat} {hs : List Int} {m z a f : Int} (hl : hs.length = 12) : (PC g hs m a f).setIfInBounds 14 (.int .i64 z) = PC g hs m z f := by
 unfold PC
 rw [List.setIfInBounds_toArray, List.set_cons_succ, List.set_append_right _ _ (by simp [hl])]
 simp [hl]
theorem PC_f {g : Nat} {hs : List Int} {m z a f : Int} (hl : hs.length = 12) : (PC g hs m a f).setIfInBounds 15 (.int .i64 z) = PC g hs m a z := by
 unfold PC
 rw [List.setIfInBounds_toArray, List.set_cons_succ, List.set_append_right _ _ (by simp [hl])]
 simp [hl]
set_option maxRecDepth 100000 in
set_option maxHeartbeats 6400000 in
theorem push_any (X g : Nat) (hs : List Int) (m : Nat) (a f n : Int) (W : World) (h : W.heap[X]? = some (.cells (PC g hs m a f) 65 (0, 0))) (hl : hs.length = 12) (hm : m < 12) :
  Calls Tryz.prog 93 #[.pointer (some ⟨X, 0, none⟩), .int .i64 n] W fun e w' => e = .returned (.tuple #[]) ∧ Wr X (PC g (hs.set m n) ((m + 1 : Nat) : Int) a f) 65 W w' := by
 have hu65 := Tryz.underlying65
 have hu63 := Tryz.underlying63
 have c13 : W.cell? ⟨X, 13, none⟩ = some (.int .i64 (m : Int)) := (blk_cell h 13).trans (by simp [PC, hl])
 have f13 := blk_frozen h 13
 have fm := blk_frozen h (1 + m)
 have cm : W.cell? ⟨X, 1 + m, none⟩ = some (.int .i64 (hs[m]'(by omega))) := (blk_cell h (1 + m)).trans (PC_at m (by omega))
 have hmi : (m : Int) < 12 := by omega
 go_enter Tryz.func93, Tryz.ntmps93
 go_wp2_with fail
 have c13 : W.drew.cell? ⟨X, 13, none⟩ = some (.int .i64 (m : Int)) := c13
 have cm : W.drew.cell? ⟨X, 1 + m, none⟩ = some (.int .i64 (hs[m]'(by omega))) := cm
 have e1 : W.drew.frozen? ⟨X, 1 + m, none⟩ = false := fm
 refine start_ (n := 10) (S := fun w' => w'.cell? ⟨X, 13, none⟩ = some (.int .i64 (m : Int))) (ds := [9]) #[false, false, false, false, false, false, false, false, false, false] (by kernel_rfl) rfl rfl (c13) (fun hHeld => ?_)
 refine pure_ (i := 0) (N := some 4) (v := ?_) (a' := ?_) #[true, false, false, false, false, false, false, false, false, false] rfl rfl (by kernel_rfl) (fun _ _ _ h => h) (Or.inl ⟨by rfl, ?_⟩) ?_ ?_
 rotate_left
 ·intro w'
  go_simp
  with_reducible rfl
 rotate_left
 ·simp only [Act.put, List.setIfInBounds_toArray, List.set_cons_zero, List.set_cons_succ, i64_w, i32_w]
  rfl
 refine pure_ (i := 1) (N := some 5) (v := ?_) (a' := ?_) #[true, true, false, false, false, false, false, false, false, false] rfl rfl (by kernel_rfl) (fun _ _ _ h => h) (Or.inl ⟨by rfl, ?_⟩) ?_ ?_
 rotate_left
 ·intro w'
  go_simp
  with_reducible rfl
 rotate_left
 ·simp only [Act.put, List.setIfInBounds_toArray, List.set_cons_zero, List.set_cons_succ, i64_w, i32_w]
  rfl
 refine pure_ (i := 2) (N := some 6) (v := ?_) (a' := ?_) #[true, true, true, false, false, false, false, false, false, false] rfl rfl (by kernel_rfl) (fun _ _ _ h => h) (Or.inl ⟨by rfl, ?_⟩) ?_ ?_
 rotate_left
 ·intro w'
  go_simp
  with_reducible rfl
 rotate_left
 ·simp only [Act.put, List.setIfInBounds_toArray, List.set_cons_zero, List.set_cons_succ, i64_w, i32_w]
  rfl
 refine pure_ (i := 3) (N := some 7) (v := ?_) (a' := ?_) #[true, true, true, true, false, false, false, false, false, false] rfl rfl (by kernel_rfl) (fun _ _ _ h => h) (Or.inl ⟨by rfl, ?_⟩) ?_ ?_
 rotate_left
 ·intro w'
  go_simp
  with_reducible rfl
 rotate_left
 ·simp only [Act.put, List.setIfInBounds_toArray, List.set_cons_zero, List.set_cons_succ, i64_w, i32_w]
  rfl
 refine pure_ (i := 5) (N := some 9) (v := ?_) (a' := ?_) #[true, true, true, true, false, true, false, false, false, false] rfl rfl (by kernel_rfl) (fun _ _ _ h => h) (Or.inl ⟨by rfl, ?_⟩) ?_ ?_
 rotate_left
 ·intro w'
  go_simp
  with_reducible rfl
 rotate_left
 ·simp only [Act.put, List.setIfInBounds_toArray, List.set_cons_zero, List.set_cons_succ, i64_w, i32_w]
  rfl
 refine pure_ (i := 6) (N := some 10) (v := ?_) (a' := ?_) #[true, true, true, true, false, true, true, false, false, false] rfl rfl (by kernel_rfl) (fun _ _ _ h => h) (Or.inl ⟨by rfl, ?_⟩) ?_ ?_
 rotate_left
 ·intro w'
  go_simp
  with_reducible rfl
 rotate_left
 ·simp only [Act.put, List.setIfInBounds_toArray, List.set_cons_zero, List.set_cons_succ, i64_w, i32_w]
  rfl
 refine pure_ (i := 7) (N := some 11) (v := ?_) (a' := ?_) #[true, true, true, true, false, true, true, true, false, false] rfl rfl (by kernel_rfl) (fun _ _ _ h => h) (Or.inl ⟨by rfl, ?_⟩) ?_ ?_
 rotate_left
 ·intro w'
  go_simp
  with_reducible rfl
 rotate_left
 ·simp only [Act.put, List.setIfInBounds_toArray, List.set_cons_zero, List.set_cons_succ, i64_w, i32_w]
  rfl
 refine take_ (i := 4) (N := some 8) (v := ?_) (a' := ?_) #[true, true, true, true, true, true, true, true, false, false] rfl rfl (by kernel_rfl) (fun _ _ _ h => h) (Or.inl ⟨by rfl, ?_⟩) hHeld ?_ ?_
 rotate_left
 ·intro w' s0
  go_simp
  with_reducible rfl
 rotate_left
 ·simp only [Act.put, List.setIfInBounds_toArray, List.set_cons_zero, List.set_cons_succ, i64_w, i32_w]
  rfl
 refine pure_ (i := 8) (N := some 12) (v := ?_) (a' := ?_) #[true, true, true, true, true, true, true, true, true, false] rfl rfl (by kernel_rfl) (fun _ _ _ h => h) (Or.inl ⟨by rfl, ?_⟩) ?_ ?_
 rotate_left
 ·intro w'
  go_simp
  with_reducible rfl
 rotate_left
 ·simp only [Act.put, List.setIfInBounds_toArray, List.set_cons_zero, List.set_cons_succ, i64_w, i32_w]
  rfl
 refine last_ (i := 9) (N := none) #[true, true, true, true, true, true, true, true, true, true] rfl rfl (by kernel_rfl) (by decide) (fun K hK => ?_)
 refine skip_ (w1 := ?_) (by rfl) rfl ?_ ?_
 rotate_left
 ·go_simp
  rfl
 refine hK.out _ _ ?_
 clear hK K
 refine done_ (by kernel_rfl) ?_
 have h1 : Wr X (PC g (hs.set m n) m a f) 65 W (W.setCell ⟨X, 1 + m, none⟩ (.int .i64 n)).drew := (Wr.set h (1 + m) _ (PC_set m (by omega) n)).drew
 clear hHeld c13 cm e1 fm f13
 generalize (W.setCell ⟨X, 1 + m, none⟩ (.int .i64 n)).drew = W1 at h1 ⊢
 have c13 : W1.cell? ⟨X, 13, none⟩ = some (.int .i64 (m : Int)) := (blk_cell h1.at_ 13).trans (by simp [PC, hl])
 have f13 := blk_frozen h1.at_ 13
 have w1 : wrap64 ((m : Int) + 1) = ((m + 1 : Nat) : Int) := by unfold wrap64; omega
 go_wp2
 go_end0
 refine ⟨rfl, h1.trans (Wr.set h1.at_ 13 _ ?_)⟩
 have e : (.int .i64 ((m : Int) + 1) : Value) = .int .i64 ((m + 1 : Nat) : Int) := by simp
 rw [e]; exact PC_m (by simpa using hl)
set_option maxRecDepth 100000 in
set_option maxHeartbeats 6400000 in
theorem pop_any (X g : Nat) (hs : List Int) (m : Nat) (a f : Int) (W : World) (h : W.heap[X]? = some (.cells (PC g hs ((m + 1 : Nat) : Int) a f) 65 (0, 0))) (hl : hs.length = 12) (hm : m < 12) :
  Calls Tryz.prog 98 #[.pointer (some ⟨X, 0, none⟩)] W fun e w' => e = .returned (.int .i64 (hs[m]'(by omega))) ∧ Wr X (PC g hs (m : Int) a f) 65 W w' := by
 have hu65 := Tryz.underlying65
 have hu63 := Tryz.underlying63
 have c13 : W.cell? ⟨X, 13, none⟩ = some (.int .i64 ((m + 1 : Nat) : Int)) := (blk_cell h 13).trans (by simp [PC, hl])
 have f13 := blk_frozen h 13
 have hmi : (m : Int) < 12 := by omega
 have w1 : wrap64 (((m + 1 : Nat) : Int) - 1) = (m : Int) := by unfold wrap64; omega
 go_enter Tryz.func98, Tryz.ntmps98
 go_upto_region 2 with (fail)
 have h1 : Wr X (PC g hs m a f) 65 W (W.setCell ⟨X, 13, none⟩ (.int .i64 (m : Int))) := Wr.set h 13 _ (PC_m hl)
 clear c13 f13 w1
 generalize W.setCell ⟨X, 13, none⟩ _ = W1 at h1 ⊢
 have c13 : W1.drew.cell? ⟨X, 13, none⟩ = some (.int .i64 (m : Int)) := (blk_cell h1.at_ 13).trans (by simp [PC, hl])
 have cm : W1.drew.cell? ⟨X, 1 + m, none⟩ = some (.int .i64 (hs[m]'(by omega))) := (blk_cell h1.at_ (1 + m)).trans (PC_at m (by omega))
 refine start_ (n := 10) (S := fun w' => w'.cell? ⟨X, 13, none⟩ = some (.int .i64 (m : Int)) ∧ w'.cell? ⟨X, 1 + m, none⟩ = some (.int .i64 (hs[m]'(by omega)))) (ds := []) #[false, false, false, false, false, false, false, false, false, false] (by kernel_rfl) rfl rfl ⟨c13, cm⟩ (fun hHeld => ?_)
 refine pure_ (i := 0) (N := some 10) (v := ?_) (a' := ?_) #[true, false, false, false, false, false, false, false, false, false] rfl rfl (by kernel_rfl) (fun _ _ _ h => h) (Or.inl ⟨by rfl, ?_⟩) ?_ ?_
 rotate_left
 ·intro w'
  go_simp
  with_reducible rfl
 rotate_left
 ·simp only [Act.put, List.setIfInBounds_toArray, List.set_cons_zero, List.set_cons_succ, i64_w, i32_w]
  rfl
 refine pure_ (i := 1) (N := some 11) (v := ?_) (a' := ?_) #[true, true, false, false, false, false, false, false, false, false] rfl rfl (by kernel_rfl) (fun _ _ _ h => h) (Or.inl ⟨by rfl, ?_⟩) ?_ ?_
 rotate_left
 ·intro w'
  go_simp
  with_reducible rfl
 rotate_left
 ·simp only [Act.put, List.setIfInBounds_toArray, List.set_cons_zero, List.set_cons_succ, i64_w, i32_w]
  rfl
 refine pure_ (i := 2) (N := some 12) (v := ?_) (a' := ?_) #[true, true, true, false, false, false, false, false, false, false] rfl rfl (by kernel_rfl) (fun _ _ _ h => h) (Or.inl ⟨by rfl, ?_⟩) ?_ ?_
 rotate_left
 ·intro w'
  go_simp
  with_reducible rfl
 rotate_left
 ·simp only [Act.put, List.setIfInBounds_toArray, List.set_cons_zero, List.set_cons_succ, i64_w, i32_w]
  rfl
 refine pure_ (i := 3) (N := some 13) (v := ?_) (a' := ?_) #[true, true, true, true, false, false, false, false, false, false] rfl rfl (by kernel_rfl) (fun _ _ _ h => h) (Or.inl ⟨by rfl, ?_⟩) ?_ ?_
 rotate_left
 ·intro w'
  go_simp
  with_reducible rfl
 rotate_left
 ·simp only [Act.put, List.setIfInBounds_toArray, List.set_cons_zero, List.set_cons_succ, i64_w, i32_w]
  rfl
 refine pure_ (i := 5) (N := some 15) (v := ?_) (a' := ?_) #[true, true, true, true, false, true, false, false, false, false] rfl rfl (by kernel_rfl) (fun _ _ _ h => h) (Or.inl ⟨by rfl, ?_⟩) ?_ ?_
 rotate_left
 ·intro w'
  go_simp
  with_reducible rfl
 rotate_left
 ·simp only [Act.put, List.setIfInBounds_toArray, List.set_cons_zero, List.set_cons_succ, i64_w, i32_w]
  rfl
 refine pure_ (i := 6) (N := some 16) (v := ?_) (a' := ?_) #[true, true, true, true, false, true, true, false, false, false] rfl rfl (by kernel_rfl) (fun _ _ _ h => h) (Or.inl ⟨by rfl, ?_⟩) ?_ ?_
 rotate_left
 ·intro w'
  go_simp
  with_reducible rfl
 rotate_left
 ·simp only [Act.put, List.setIfInBounds_toArray, List.set_cons_zero, List.set_cons_succ, i64_w, i32_w]
  rfl
 refine take_ (i := 4) (N := some 14) (v := ?_) (a' := ?_) #[true, true, true, true, true, true, true, false, false, false] rfl rfl (by kernel_rfl) (fun _ _ _ h => h) (Or.inl ⟨by rfl, ?_⟩) hHeld ?_ ?_
 rotate_left
 ·rintro w' ⟨s0, s1⟩
  go_simp
  with_reducible rfl
 rotate_left
 ·simp only [Act.put, List.setIfInBounds_toArray, List.set_cons_zero, List.set_cons_succ, i64_w, i32_w]
  rfl
 refine pure_ (i := 7) (N := some 17) (v := ?_) (a' := ?_) #[true, true, true, true, true, true, true, true, false, false] rfl rfl (by kernel_rfl) (fun _ _ _ h => h) (Or.inl ⟨by rfl, ?_⟩) ?_ ?_
 rotate_left
 ·intro w'
  go_simp
  with_reducible rfl
 rotate_left
 ·simp only [Act.put, List.setIfInBounds_toArray, List.set_cons_zero, List.set_cons_succ, i64_w, i32_w]
  rfl
 refine take_ (i := 8) (N := some 18) (v := ?_) (a' := ?_) #[true, true, true, true, true, true, true, true, true, false] rfl rfl (by kernel_rfl) (fun _ _ _ h => h) (Or.inl ⟨by rfl, ?_⟩) hHeld ?_ ?_
 rotate_left
 ·rintro w' ⟨s0, s1⟩
  go_simp
  with_reducible rfl
 rotate_left
 ·simp only [Act.put, List.setIfInBounds_toArray, List.set_cons_zero, List.set_cons_succ, i64_w, i32_w]
  rfl
 refine pure_ (i := 9) (N := some 2) (v := ?_) (a' := ?_) #[true, true, true, true, true, true, true, true, true, true] rfl rfl (by kernel_rfl) (fun _ _ _ h => h) (Or.inl ⟨by rfl, ?_⟩) ?_ ?_
 rotate_left
 ·intro w'
  go_simp
  with_reducible rfl
 rotate_left
 ·simp only [Act.put, List.setIfInBounds_toArray, List.set_cons_zero, List.set_cons_succ, i64_w, i32_w]
  rfl
 refine done_ (by kernel_rfl) ?_
 go_wp2
 go_ret
 exact ⟨rfl, h1.drew⟩
def IB (i : S30) : Array Value := #[.int .i64 i.f0, .int .i64 i.f1, .int .i64 i.f2.f0, .int .i64 i.f2.f1]
set_option maxRecDepth 100000 in
set_option maxHeartbeats 6400000 in
theorem actJump (X g I : Nat) (i : S30) (hs : List Int) (m : Nat) (a f : Int) (W : World) (h : W.heap[X]? = some (.cells (PC g hs m a f) 65 (0, 0))) (hI : W.heap[I]? = some (.cells (IB i) 30 (0, 0))) (hl : hs.length = 12) :
  Calls Tryz.prog 105 #[.pointer (some ⟨X, 0, none⟩), .pointer (some ⟨I, 0, none⟩)] W fun e w' => e = .returned (.tuple #[]) ∧ Wr X (PC g hs m i.f1 f) 65 W w' := by
 have hu30 := Tryz.underlying30
 have hu65 := Tryz.underlying65
 have c1 : W.cell? ⟨I, 1, none⟩ = some (.int .i64 i.f1) := (blk_cell hI 1).trans rfl
 have c14 : W.cell? ⟨X, 14, none⟩ = some (.int .i64 a) := (blk_cell h 14).trans (by simp [PC, hl])
 have f14 := blk_frozen h 14
 go_enter Tryz.func105, Tryz.ntmps105
 go_wp2
 go_end0
 exact ⟨rfl, Wr.set h 14 _ (PC_a hl)⟩
set_option maxRecDepth 100000 in
set_option maxHeartbeats 6400000 in
theorem actBack (X g I : Nat) (i : S30) (hs : List Int) (m : Nat) (a f : Int) (W : World) (h : W.heap[X]? = some (.cells (PC g hs m a f) 65 (0, 0))) (hI : W.heap[I]? = some (.cells (IB i) 30 (0, 0))) (hl : hs.length = 12) (hf0 : 1 ≤ f) (hf1 : f ≤ 100) :
  Calls Tryz.prog 106 #[.pointer (some ⟨X, 0, none⟩), .pointer (some ⟨I, 0, none⟩)] W fun e w' => e = .returned (.bool true) ∧ Wr X (PC g hs m i.f1 (f - 1)) 65 W w' := by
 have hu30 := Tryz.underlying30
 have hu65 := Tryz.underlying65
 have c1 : W.cell? ⟨I, 1, none⟩ = some (.int .i64 i.f1) := (blk_cell hI 1).trans rfl
 have c15 : W.cell? ⟨X, 15, none⟩ = some (.int .i64 f) := (blk_cell h 15).trans (by simp [PC, hl])
 have f15 := blk_frozen h 15
 have d : (f == 0) = false := by simp; omega
 have w1 : wrap64 (f - 1) = f - 1 := by unfold wrap64; omega
 clear hf0 hf1
 go_enter Tryz.func106, Tryz.ntmps106
 go_upto_region 4 with (fail)
 have ne : I ≠ X := fun e => by subst e; rw [h] at hI; injection hI with e1; injection e1 with _ e2; exact absurd e2 (by decide)
 have h1 : Wr X (PC g hs m a (f - 1)) 65 W (W.setCell ⟨X, 15, none⟩ (.int .i64 (f - 1))) := Wr.set h 15 _ (PC_f hl)
 clear c1 c15 f15 d w1
 generalize W.setCell ⟨X, 15, none⟩ _ = W1 at h1 ⊢
 have hI := blk_kept hI h1.kp ne
 have c1 : W1.cell? ⟨I, 1, none⟩ = some (.int .i64 i.f1) := (blk_cell hI 1).trans rfl
 have c14 : W1.cell? ⟨X, 14, none⟩ = some (.int .i64 a) := (blk_cell h1.at_ 14).trans (by simp [PC, hl])
 have f14 := blk_frozen h1.at_ 14
 go_wp2
 go_ret
 exact ⟨rfl, h1.trans (Wr.set h1.at_ 14 _ (PC_a hl))⟩
set_option maxRecDepth 100000 in
set_option maxHeartbeats 6400000 in
theorem actBack0 (X g I : Nat) (hs : List Int) (m : Nat) (a : Int) (W : World) (h : W.heap[X]? = some (.cells (PC g hs m a 0) 65 (0, 0))) (hl : hs.length = 12) :
  Calls Tryz.prog 106 #[.pointer (some ⟨X, 0, none⟩), .pointer (some ⟨I, 0, none⟩)] W fun e w' => e = .returned (.bool false) ∧ w' = W := by
 have hu65 := Tryz.underlying65
 have c15 : W.cell? ⟨X, 15, none⟩ = some (.int .i64 0) := (blk_cell h 15).trans (by simp [PC, hl])
 go_enter Tryz.func106, Tryz.ntmps106
 go_wp2
 go_ret
 exact ⟨rfl, rfl⟩
set_option maxRecDepth 100000 in
theorem on_92 (X B I : Nat) (W : World) (P : World → Prop) (hB : W.heap[B]? = some (.cells #[.func (.func 92) #[] #[.pointer (some ⟨I, 0, none⟩)]] 127 (0, 0))) (hc : Calls Tryz.prog 92 #[.pointer (some ⟨X, 0, none⟩), .pointer (some ⟨I, 0, none⟩)] W fun e w' => e = .returned (.tuple #[]) ∧ P w') :
  Calls Tryz.prog 91 #[.pointer (some ⟨X, 0, none⟩), .pointer (some ⟨B, 0, none⟩)] W fun e w' => e = .returned (.bool true) ∧ P w' := by
 have c0 : W.cell? ⟨B, 0, none⟩ = some (.func (.func 92) #[] #[.pointer (some ⟨I, 0, none⟩)]) := (blk_cell hB 0).trans rfl
 go_enter Tryz.func91, Tryz.ntmps91
 go_wp2_with fail
 refine hc.mono ?_
 rintro e w' ⟨rfl, hp⟩
 go_wp2
 go_ret
 exact ⟨rfl, hp⟩
set_option maxRecDepth 100000 in
theorem on_94 (X B I : Nat) (W : World) (P : World → Prop) (hB : W.heap[B]? = some (.cells #[.func (.func 94) #[] #[.pointer (some ⟨I, 0, none⟩)]] 127 (0, 0))) (hc : Calls Tryz.prog 94 #[.pointer (some ⟨X, 0, none⟩), .pointer (some ⟨I, 0, none⟩)] W fun e w' => e = .returned (.tuple #[]) ∧ P w') :
  Calls Tryz.prog 91 #[.pointer (some ⟨X, 0, none⟩), .pointer (some ⟨B, 0, none⟩)] W fun e w' => e = .returned (.bool true) ∧ P w' := by
 have c0 : W.cell? ⟨B, 0, none⟩ = some (.func (.func 94) #[] #[.pointer (some ⟨I, 0, none⟩)]) := (blk_cell hB 0).trans rfl
 go_enter Tryz.func91, Tryz.ntmps91
 go_wp2_with fail
 refine hc.mono ?_
 rintro e w' ⟨rfl, hp⟩
 go_wp2
 go_ret
 exact ⟨rfl, hp⟩
set_option maxRecDepth 100000 in
theorem on_96 (X B I : Nat) (W : World) (P : World → Prop) (hB : W.heap[B]? = some (.cells #[.func (.func 96) #[] #[.pointer (some ⟨I, 0, none⟩)]] 127 (0, 0))) (hc : Calls Tryz.prog 96 #[.pointer (some ⟨X, 0, none⟩), .pointer (some ⟨I, 0, none⟩)] W fun e w' => e = .returned (.tuple #[]) ∧ P w') :
  Calls Tryz.prog 91 #[.pointer (some ⟨X, 0, none⟩), .pointer (some ⟨B, 0, none⟩)] W fun e w' => e = .returned (.bool true) ∧ P w' := by
 have c0 : W.cell? ⟨B, 0, none⟩ = some (.func (.func 96) #[] #[.pointer (some ⟨I, 0, none⟩)]) := (blk_cell hB 0).trans rfl
 go_enter Tryz.func91, Tryz.ntmps91
 go_wp2_with fail
 refine hc.mono ?_
 rintro e w' ⟨rfl, hp⟩
 go_wp2
 go_ret
 exact ⟨rfl, hp⟩
set_option maxRecDepth 100000 in
theorem on_99 (X B I : Nat) (W : World) (P : World → Prop) (hB : W.heap[B]? = some (.cells #[.func (.func 99) #[] #[.pointer (some ⟨I, 0, none⟩)]] 127 (0, 0))) (hc : Calls Tryz.prog 99 #[.pointer (some ⟨X, 0, none⟩), .pointer (some ⟨I, 0, none⟩)] W fun e w' => e = .returned (.tuple #[]) ∧ P w') :
  Calls Tryz.prog 91 #[.pointer (some ⟨X, 0, none⟩), .pointer (some ⟨B, 0, none⟩)] W fun e w' => e = .returned (.bool true) ∧ P w' := by
 have c0 : W.cell? ⟨B, 0, none⟩ = some (.func (.func 99) #[] #[.pointer (some ⟨I, 0, none⟩)]) := (blk_cell hB 0).trans rfl
 go_enter Tryz.func91, Tryz.ntmps91
 go_wp2_with fail
 refine hc.mono ?_
 rintro e w' ⟨rfl, hp⟩
 go_wp2
 go_ret
 exact ⟨rfl, hp⟩
set_option maxRecDepth 100000 in
theorem on_101 (X B : Nat) (W : World) (P : World → Prop) (hB : W.heap[B]? = some (.cells #[.func (.func 101) #[] #[]] 127 (0, 0))) (hc : Calls Tryz.prog 101 #[.pointer (some ⟨X, 0, none⟩)] W fun e w' => e = .returned (.tuple #[]) ∧ P w') :
  Calls Tryz.prog 91 #[.pointer (some ⟨X, 0, none⟩), .pointer (some ⟨B, 0, none⟩)] W fun e w' => e = .returned (.bool true) ∧ P w' := by
 have c0 : W.cell? ⟨B, 0, none⟩ = some (.func (.func 101) #[] #[]) := (blk_cell hB 0).trans rfl
 go_enter Tryz.func91, Tryz.ntmps91
 go_wp2_with fail
 refine hc.mono ?_
 rintro e w' ⟨rfl, hp⟩
 go_wp2
 go_ret
 exact ⟨rfl, hp⟩
set_option maxRecDepth 100000 in
theorem on_104 (X B I : Nat) (W : World) (P : World → Prop) (hB : W.heap[B]? = some (.cells #[.func (.func 104) #[] #[.pointer (some ⟨I, 0, none⟩)]] 127 (0, 0))) (hc : Calls Tryz.prog 104 #[.pointer (some ⟨X, 0, none⟩), .pointer (some ⟨I, 0, none⟩)] W fun e w' => e = .returned (.tuple #[]) ∧ P w') :
  Calls Tryz.prog 91 #[.pointer (some ⟨X, 0, none⟩), .pointer (some ⟨B, 0, none⟩)] W fun e w' => e = .returned (.bool true) ∧ P w' := by
 have c0 : W.cell? ⟨B, 0, none⟩ = some (.func (.func 104) #[] #[.pointer (some ⟨I, 0, none⟩)]) := (blk_cell hB 0).trans rfl
 go_enter Tryz.func91, Tryz.ntmps91
 go_wp2_with fail
 refine hc.mono ?_
 rintro e w' ⟨rfl, hp⟩
 go_wp2
 go_ret
 exact ⟨rfl, hp⟩
set_option maxRecDepth 100000 in
theorem on_105 (X B I : Nat) (W : World) (P : World → Prop) (hB : W.heap[B]? = some (.cells #[.func (.func 105) #[] #[.pointer (some ⟨I, 0, none⟩)]] 127 (0, 0))) (hc : Calls Tryz.prog 105 #[.pointer (some ⟨X, 0, none⟩), .pointer (some ⟨I, 0, none⟩)] W fun e w' => e = .returned (.tuple #[]) ∧ P w') :
  Calls Tryz.prog 91 #[.pointer (some ⟨X, 0, none⟩), .pointer (some ⟨B, 0, none⟩)] W fun e w' => e = .returned (.bool true) ∧ P w' := by
 have c0 : W.cell? ⟨B, 0, none⟩ = some (.func (.func 105) #[] #[.pointer (some ⟨I, 0, none⟩)]) := (blk_cell hB 0).trans rfl
 go_enter Tryz.func91, Tryz.ntmps91
 go_wp2_with fail
 refine hc.mono ?_
 rintro e w' ⟨rfl, hp⟩
 go_wp2
 go_ret
 exact ⟨rfl, hp⟩
set_option maxRecDepth 100000 in
theorem wrap_any (F : Nat) (cap : Array Value) (W : World) : Calls Tryz.prog 90 #[.func (.func F) #[] cap] W fun e w' => e = .returned (.func (.func 91) #[] #[.pointer (some ⟨W.heap.size, 0, none⟩)]) ∧ w' = W.alloc (.cells #[.func (.func F) #[] cap] 127) := by
 go_enter Tryz.func90, Tryz.ntmps90
 go_wp2
 go_ret
 exact ⟨rfl, rfl⟩
theorem blk2 (W : World) (o o' : Obj) : ((W.alloc o).alloc o').heap[W.heap.size + 1]? = some o' := by
 have := blk_new (W.alloc o) o'
 rwa [alloc_size] at this
theorem al2 (W : World) (o o' : Obj) : Below W.heap.size W ((W.alloc o).alloc o') := below_alloc (below_alloc (Below.refl _ _) o) o'
def ActV (W : World) (v : Value) (i : S30) : Prop :=
 ∃ I, W.heap[I]? = some (.cells (IB i) 30 (0, 0)) ∧ ((¬ (1 ≤ i.f0 ∧ i.f0 ≤ 7) ∧ v = .func (.func 106) #[] #[.pointer (some ⟨I, 0, none⟩)]) ∨
  ∃ B F cap, v = .func (.func 91) #[] #[.pointer (some ⟨B, 0, none⟩)] ∧ W.heap[B]? = some (.cells #[.func (.func F) #[] cap] 127 (0, 0)) ∧
   ((i.f0 = 5 ∧ F = 101 ∧ cap = #[]) ∨ (cap = #[.pointer (some ⟨I, 0, none⟩)] ∧ ((i.f0 = 1 ∧ F = 92) ∨ (i.f0 = 2 ∧ F = 94) ∨ (i.f0 = 3 ∧ F = 96) ∨ (i.f0 = 4 ∧ F = 99) ∨ (i.f0 = 6 ∧ F = 104) ∨ (i.f0 = 7 ∧ F = 105)))))
theorem ActV.kept {W W' : World} {v : Value} {i : S30} {S : Nat → Prop} (h : ActV W v i) (k : Kept W W' S) (hS : ∀ b, b < W.heap.size → (∃ cs, W.heap[b]? = some (.cells cs 30 (0, 0)) ∨ W.heap[b]? = some (.cells cs 127 (0, 0))) → ¬ S b) : ActV W' v i := by
 obtain ⟨I, hI, h⟩ := h
 refine ⟨I, blk_kept hI k (hS I (blk_lt hI) ⟨_, .inl hI⟩), ?_⟩
 rcases h with h | ⟨B, F, cap, e, hB, h⟩
 ·exact .inl h
 ·exact .inr ⟨B, F, cap, e, blk_kept hB k (hS B (blk_lt hB) ⟨_, .inr hB⟩), h⟩
set_option maxRecDepth 100000 in
set_option maxHeartbeats 6400000 in
theorem act_1 (b c d : Int) (W : World) :
  Calls Tryz.prog 64 #[.agg #[.int .i64 1, .int .i64 b, .int .i64 c, .int .i64 d]] W fun e w' => ∃ v, e = .returned v ∧ ActV w' v ⟨1, b, ⟨c, d⟩⟩ ∧ Below W.heap.size W w' := by
 have hu30 := Tryz.underlying30
 have cc := fun W' => wrap_any 92 #[.pointer (some ⟨W.heap.size, 0, none⟩)] W'
 go_enter Tryz.func64, Tryz.ntmps64
 go_wp2_with fail
 refine (cc _).mono ?_
 rintro e w' ⟨rfl, rfl⟩
 go_wp2
 go_ret
 refine ⟨_, rfl, ⟨W.heap.size, blk_alloc (blk_new _ _) _, .inr ⟨_, 92, _, rfl, blk2 _ _ _, ?_⟩⟩, al2 _ _ _⟩
 exact .inr ⟨rfl, by simp⟩
set_option maxRecDepth 100000 in
set_option maxHeartbeats 6400000 in
theorem act_2 (b c d : Int) (W : World) :
  Calls Tryz.prog 64 #[.agg #[.int .i64 2, .int .i64 b, .int .i64 c, .int .i64 d]] W fun e w' => ∃ v, e = .returned v ∧ ActV w' v ⟨2, b, ⟨c, d⟩⟩ ∧ Below W.heap.size W w' := by
 have hu30 := Tryz.underlying30
 have cc := fun W' => wrap_any 94 #[.pointer (some ⟨W.heap.size, 0, none⟩)] W'
 go_enter Tryz.func64, Tryz.ntmps64
 go_wp2_with fail
 refine (cc _).mono ?_
 rintro e w' ⟨rfl, rfl⟩
 go_wp2
 go_ret
 refine ⟨_, rfl, ⟨W.heap.size, blk_alloc (blk_new _ _) _, .inr ⟨_, 94, _, rfl, blk2 _ _ _, ?_⟩⟩, al2 _ _ _⟩
 exact .inr ⟨rfl, by simp⟩
set_option maxRecDepth 100000 in
set_option maxHeartbeats 6400000 in
theorem act_3 (b c d : Int) (W : World) :
  Calls Tryz.prog 64 #[.agg #[.int .i64 3, .int .i64 b, .int .i64 c, .int .i64 d]] W fun e w' => ∃ v, e = .returned v ∧ ActV w' v ⟨3, b, ⟨c, d⟩⟩ ∧ Below W.heap.size W w' := by
 have hu30 := Tryz.underlying30
 have cc := fun W' => wrap_any 96 #[.pointer (some ⟨W.heap.size, 0, none⟩)] W'
 go_enter Tryz.func64, Tryz.ntmps64
 go_wp2_with fail
 refine (cc _).mono ?_
 rintro e w' ⟨rfl, rfl⟩
 go_wp2
 go_ret
 refine ⟨_, rfl, ⟨W.heap.size, blk_alloc (blk_new _ _) _, .inr ⟨_, 96, _, rfl, blk2 _ _ _, ?_⟩⟩, al2 _ _ _⟩
 exact .inr ⟨rfl, by simp⟩
set_option maxRecDepth 100000 in
set_option maxHeartbeats 6400000 in
theorem act_4 (b c d : Int) (W : World) :
  Calls Tryz.prog 64 #[.agg #[.int .i64 4, .int .i64 b, .int .i64 c, .int .i64 d]] W fun e w' => ∃ v, e = .returned v ∧ ActV w' v ⟨4, b, ⟨c, d⟩⟩ ∧ Below W.heap.size W w' := by
 have hu30 := Tryz.underlying30
 have cc := fun W' => wrap_any 99 #[.pointer (some ⟨W.heap.size, 0, none⟩)] W'
 go_enter Tryz.func64, Tryz.ntmps64
 go_wp2_with fail
 refine (cc _).mono ?_
 rintro e w' ⟨rfl, rfl⟩
 go_wp2
 go_ret
 refine ⟨_, rfl, ⟨W.heap.size, blk_alloc (blk_new _ _) _, .inr ⟨_, 99, _, rfl, blk2 _ _ _, ?_⟩⟩, al2 _ _ _⟩
 exact .inr ⟨rfl, by simp⟩
set_option maxRecDepth 100000 in
set_option maxHeartbeats 6400000 in
theorem act_5 (b c d : Int) (W : World) :
  Calls Tryz.prog 64 #[.agg #[.int .i64 5, .int .i64 b, .int .i64 c, .int .i64 d]] W fun e w' => ∃ v, e = .returned v ∧ ActV w' v ⟨5, b, ⟨c, d⟩⟩ ∧ Below W.heap.size W w' := by
 have hu30 := Tryz.underlying30
 have cc := fun W' => wrap_any 101 #[] W'
 go_enter Tryz.func64, Tryz.ntmps64
 go_wp2_with fail
 refine (cc _).mono ?_
 rintro e w' ⟨rfl, rfl⟩
 go_wp2
 go_ret
 refine ⟨_, rfl, ⟨W.heap.size, blk_alloc (blk_new _ _) _, .inr ⟨_, 101, _, rfl, blk2 _ _ _, ?_⟩⟩, al2 _ _ _⟩
 exact .inl ⟨rfl, rfl, rfl⟩
set_option maxRecDepth 100000 in
set_option maxHeartbeats 6400000 in
theorem act_6 (b c d : Int) (W : World) :
  Calls Tryz.prog 64 #[.agg #[.int .i64 6, .int .i64 b, .int .i64 c, .int .i64 d]] W fun e w' => ∃ v, e = .returned v ∧ ActV w' v ⟨6, b, ⟨c, d⟩⟩ ∧ Below W.heap.size W w' := by
 have hu30 := Tryz.underlying30
 have cc := fun W' => wrap_any 104 #[.pointer (some ⟨W.heap.size, 0, none⟩)] W'
 go_enter Tryz.func64, Tryz.ntmps64
 go_wp2_with fail
 refine (cc _).mono ?_
 rintro e w' ⟨rfl, rfl⟩
 go_wp2
 go_ret
 refine ⟨_, rfl, ⟨W.heap.size, blk_alloc (blk_new _ _) _, .inr ⟨_, 104, _, rfl, blk2 _ _ _, ?_⟩⟩, al2 _ _ _⟩
 exact .inr ⟨rfl, by simp⟩
set_option maxRecDepth 100000 in
set_option maxHeartbeats 6400000 in
theorem act_7 (b c d : Int) (W : World) :
  Calls Tryz.prog 64 #[.agg #[.int .i64 7, .int .i64 b, .int .i64 c, .int .i64 d]] W fun e w' => ∃ v, e = .returned v ∧ ActV w' v ⟨7, b, ⟨c, d⟩⟩ ∧ Below W.heap.size W w' := by
 have hu30 := Tryz.underlying30
 have cc := fun W' => wrap_any 105 #[.pointer (some ⟨W.heap.size, 0, none⟩)] W'
 go_enter Tryz.func64, Tryz.ntmps64
 go_wp2_with fail
 refine (cc _).mono ?_
 rintro e w' ⟨rfl, rfl⟩
 go_wp2
 go_ret
 refine ⟨_, rfl, ⟨W.heap.size, blk_alloc (blk_new _ _) _, .inr ⟨_, 105, _, rfl, blk2 _ _ _, ?_⟩⟩, al2 _ _ _⟩
 exact .inr ⟨rfl, by simp⟩
set_option maxRecDepth 100000 in
set_option maxHeartbeats 6400000 in
theorem act_back (a b c d : Int) (W : World) (h : ¬ (1 ≤ a ∧ a ≤ 7)) :
  Calls Tryz.prog 64 #[.agg #[.int .i64 a, .int .i64 b, .int .i64 c, .int .i64 d]] W fun e w' => ∃ v, e = .returned v ∧ ActV w' v ⟨a, b, ⟨c, d⟩⟩ ∧ Below W.heap.size W w' := by
 have hu30 := Tryz.underlying30
 have d1 : (a == 1) = false := by simp; omega
 have d2 : (a == 2) = false := by simp; omega
 have d3 : (a == 3) = false := by simp; omega
 have d4 : (a == 4) = false := by simp; omega
 have d5 : (a == 5) = false := by simp; omega
 have d6 : (a == 6) = false := by simp; omega
 have d7 : (a == 7) = false := by simp; omega
 go_enter Tryz.func64, Tryz.ntmps64
 go_wp2
 go_ret
 exact ⟨_, rfl, ⟨W.heap.size, blk_new _ _, .inl ⟨h, rfl⟩⟩, (Below.refl _ _).alloc (Nat.le_refl _) _⟩
theorem act_any (i : S30) (W : World) :
  Calls Tryz.prog 64 #[.agg #[.int .i64 i.f0, .int .i64 i.f1, .int .i64 i.f2.f0, .int .i64 i.f2.f1]] W fun e w' => ∃ v, e = .returned v ∧ ActV w' v i ∧ Below W.heap.size W w' := by
 obtain ⟨a, b, ⟨c, d⟩⟩ := i
 by_cases h : 1 ≤ a ∧ a ≤ 7
 ·rcases (by omega : a = 1 ∨ a = 2 ∨ a = 3 ∨ a = 4 ∨ a = 5 ∨ a = 6 ∨ a = 7) with rfl | rfl | rfl | rfl | rfl | rfl | rfl
  ·exact act_1 b c d W
  ·exact act_2 b c d W
  ·exact act_3 b c d W
  ·exact act_4 b c d W
  ·exact act_5 b c d W
  ·exact act_6 b c d W
  ·exact act_7 b c d W
 ·exact act_back a b c d W h
end Go.Proofs.YtjamfddhcigchaaGreatDoor.Hj
