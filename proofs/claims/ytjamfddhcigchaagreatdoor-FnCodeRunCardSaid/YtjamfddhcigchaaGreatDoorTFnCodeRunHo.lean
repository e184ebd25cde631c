/- The processor of impl.CodeRun: push and pop. No other condition. -/
import Derived.Test.YtjamfddhcigchaaGreatDoorTFnCodeRunHn
import Derived.LaidEql
import Derived.Stop.Asserts
import Derived.RowKitTokens
namespace Go.Proofs.YtjamfddhcigchaaGreatDoor.Hj
open Go.RowKit  Go.Proofs.YtjamfddhcigchaaGreatDoor.Gm Go.Proofs.YtjamfddhcigchaaGreatDoor.HFnCodeRun Go.Proofs.YtjamfddhcigchaaGreatDoorW.PrintWords Go.Proofs.YtjamfddhcigchaaGreatDoorW.PrintLast Go.Proofs.YtjamfddhcigchaaGreatDoorW.PrintMore
set_option linter.unusedVariables false
set_option linter.unusedSimpArgs false
def PC (g : Nat) (hs : List Int) (m a f : Int) : Array Value := (.pointer (some ⟨g, 0, none⟩) :: (hs.map (Value.int .i64) ++ [.int .i64 m, .int .i64 a, .int .i64 f])).toArray
structure Wr (X : Nat) (cs : Array Value) (t : TypeId) (W W' : World) : Prop where
 at_ : W'.heap[X]? = some (.cells cs t (0, 0))
 bl : ∀ base, base ≤ X → base ≤ W.heap.size → Below base W W'
 kp : Kept W W' (fun k => k = X)
theorem Wr.set {X : Nat} {cs cs' : Array Value} {t : TypeId} {W : World} (h : W.heap[X]? = some (.cells cs t (0, 0))) (i : Nat) (v : Value) (e : cs.setIfInBounds i v = cs') : Wr X cs' t W (W.setCell ⟨X, i, none⟩ v) :=
 ⟨blk_put h i v e, fun base h1 _ => (Below.refl _ _).setCell h1 _, (Kept.refl W (fun k => k = X)).setCell (p := ⟨X, i, none⟩) (.inl rfl) v⟩
theorem Wr.trans {X : Nat} {cs cs' : Array Value} {t t' : TypeId} {W W1 W2 : World} (h : Wr X cs t W W1) (k : Wr X cs' t' W1 W2) : Wr X cs' t' W W2 :=
 ⟨k.at_, fun base h1 h2 => (h.bl base h1 h2).trans (k.bl base h1 (Nat.le_trans h2 h.kp.1)), h.kp.then_ k.kp (fun _ e => .inl e)⟩
theorem Wr.drew {X : Nat} {cs : Array Value} {t : TypeId} {W W1 : World} (h : Wr X cs t W W1) : Wr X cs t W W1.drew := ⟨h.at_, fun base h1 h2 => below_drew1 (h.bl base h1 h2), h.kp.drew⟩
theorem PC_at {g : Nat} {hs : List Int} {m a f : Int} (i : Nat) (hi : i < hs.length) : (PC g hs m a f)[1 + i]? = some (.int .i64 hs[i]) := by
 unfold PC
 rw [List.getElem?_toArray, show 1 + i = i + 1 by omega, List.getElem?_cons_succ, List.getElem?_append_left (by simpa using hi), List.getElem?_map, List.getElem?_eq_getElem hi]; rfl
theorem PC_set {g : Nat} {hs : List Int} {m a f : Int} (i : Nat) (hi : i < hs.length) (n : Int) : (PC g hs m a f).setIfInBounds (1 + i) (.int .i64 n) = PC g (hs.set i n) m a f := by
 unfold PC
 rw [List.setIfInBounds_toArray, show 1 + i = i + 1 by omega, List.set_cons_succ, List.set_append_left _ _ (by simpa using hi), List.map_set]
theorem PC_m {g : Nat} {hs : List Int} {m z a f : Int} (hl : hs.length = 12) : (PC g hs m a f).setIfInBounds 13 (.int .i64 z) = PC g hs z a f := by
 unfold PC
 rw [List.setIfInBounds_toArray, List.set_cons_succ, List.set_append_right _ _ (by simp [hl])]
 simp [hl]
theorem PC_a {g : Nat} {hs : List Int} {m z a f : Int} (hl : hs.length = 12) : (PC g hs m a f).setIfInBounds 14 (.int .i64 z) = PC g hs m z f := by
 unfold PC
 rw [List.setIfInBounds_toArray, List.set_cons_succ, List.set_append_right _ _ (by simp [hl])]
 simp [hl]
theorem PC_f {g : Nat} {hs : List Int} {m z a f : Int} (hl : hs.length = 12) : (PC g hs m a f).setIfInBounds 15 (.int .i64 z) = PC g hs m a z := by
 unfold PC
 rw [List.setIfInBounds_toArray, List.set_cons_succ, List.set_append_right _ _ (by simp [hl])]
 simp [hl]
set_option maxRecDepth 100000 in
set_option maxHeartbeats 6400000 in
theorem push_any (X g : Nat) (hs : List Int) (m : Nat) (a f n : Int) (W : World) (h : W.heap[X]? = some (.cells (PC g hs m a f) 65 (0, 0))) (hl : hs.length = 12) (hm : m < 12) :
  Calls Tryz.prog 93 #[.pointer (some ⟨X, 0, none⟩), .int .i64 n] W fun e w' => e = .returned (.tuple #[]) ∧ Wr X (PC g (hs.set m n) ((m + 1 : Nat) : Int) a f) 65 W w' := by
 have hu65 := Tryz.underlying65
 have hu63 := Tryz.underlying63
 have c13 : W.cell? ⟨X, 13, none⟩ = some (.int .i64 (m : Int)) := (blk_cell h 13).trans (by simp [PC, hl])
 have f13 := blk_frozen h 13
 have fm := blk_frozen h (1 + m)
 have cm : W.cell? ⟨X, 1 + m, none⟩ = some (.int .i64 (hs[m]'(by omega))) := (blk_cell h (1 + m)).trans (PC_at m (by omega))
 have hmi : (m : Int) < 12 := by omega
 go_enter Tryz.func93, Tryz.ntmps93
 go_wp2_with fail
 have c13 : W.drew.cell? ⟨X, 13, none⟩ = some (.int .i64 (m : Int)) := c13
 have cm : W.drew.cell? ⟨X, 1 + m, none⟩ = some (.int .i64 (hs[m]'(by omega))) := cm
 have e1 : W.drew.frozen? ⟨X, 1 + m, none⟩ = false := fm
 refine start_ (n := 10) (S := fun w' => w'.cell? ⟨X, 13, none⟩ = some (.int .i64 (m : Int))) (ds := [9]) #[F_, F_, F_, F_, F_, F_, F_, F_, F_, F_] (by kernel_rfl) rfl rfl (c13) (fun hHeld => ?_)
 refine pu_ 0 4 ?_
 refine pu_ 1 5 ?_
 refine pu_ 2 6 ?_
 refine pu_ 3 7 ?_
 refine pu_ 5 9 ?_
 refine pu_ 6 10 ?_
 refine pu_ 7 11 ?_
 refine take_ (i := 4) (N := some 8) (v := ?_) (a' := ?_) #[T_, T_, T_, T_, T_, T_, T_, T_, F_, F_] rfl rfl (by kernel_rfl) (fun _ _ _ h => h) (Or.inl ⟨by rfl, ?_⟩) hHeld ?_ ?_
 rotate_left
 ·intro w' s0
  go_simp
  with_reducible rfl
 rotate_left
 ·simp only [Act.put, sA_, sB_, sC_, i64_w, i32_w]
  rfl
 refine pu_ 8 12 ?_
 refine la_ 9 none fun K hK => ?_
 refine skip_ (w1 := ?_) (by rfl) rfl ?_ ?_
 rotate_left
 ·go_simp
  rfl
 refine hK.out _ _ ?_
 clear hK K
 refine done_ (by kernel_rfl) ?_
 have h1 : Wr X (PC g (hs.set m n) m a f) 65 W (W.setCell ⟨X, 1 + m, none⟩ (.int .i64 n)).drew := (Wr.set h (1 + m) _ (PC_set m (by omega) n)).drew
 clear hHeld c13 cm e1 fm f13
 generalize (W.setCell ⟨X, 1 + m, none⟩ (.int .i64 n)).drew = W1 at h1 ⊢
 have c13 : W1.cell? ⟨X, 13, none⟩ = some (.int .i64 (m : Int)) := (blk_cell h1.at_ 13).trans (by simp [PC, hl])
 have f13 := blk_frozen h1.at_ 13
 have w1 : wrap64 ((m : Int) + 1) = ((m + 1 : Nat) : Int) := by unfold wrap64; omega
 go_wp2
 go_end0
 refine ⟨rfl, h1.trans (Wr.set h1.at_ 13 _ ?_)⟩
 have e : (.int .i64 ((m : Int) + 1) : Value) = .int .i64 ((m + 1 : Nat) : Int) := by simp
 rw [e]; exact PC_m (by simpa using hl)
set_option maxRecDepth 100000 in
set_option maxHeartbeats 6400000 in
theorem pop_any (X g : Nat) (hs : List Int) (m : Nat) (a f : Int) (W : World) (h : W.heap[X]? = some (.cells (PC g hs ((m + 1 : Nat) : Int) a f) 65 (0, 0))) (hl : hs.length = 12) (hm : m < 12) :
  Calls Tryz.prog 98 #[.pointer (some ⟨X, 0, none⟩)] W fun e w' => e = .returned (.int .i64 (hs[m]'(by omega))) ∧ Wr X (PC g hs (m : Int) a f) 65 W w' := by
 have hu65 := Tryz.underlying65
 have hu63 := Tryz.underlying63
 have c13 : W.cell? ⟨X, 13, none⟩ = some (.int .i64 ((m + 1 : Nat) : Int)) := (blk_cell h 13).trans (by simp [PC, hl])
 have f13 := blk_frozen h 13
 have hmi : (m : Int) < 12 := by omega
 have w1 : wrap64 (((m + 1 : Nat) : Int) - 1) = (m : Int) := by unfold wrap64; omega
 go_enter Tryz.func98, Tryz.ntmps98
 go_upto_region 2 with (fail)
 have h1 : Wr X (PC g hs m a f) 65 W (W.setCell ⟨X, 13, none⟩ (.int .i64 (m : Int))) := Wr.set h 13 _ (PC_m hl)
 clear c13 f13 w1
 generalize W.setCell ⟨X, 13, none⟩ _ = W1 at h1 ⊢
 have c13 : W1.drew.cell? ⟨X, 13, none⟩ = some (.int .i64 (m : Int)) := (blk_cell h1.at_ 13).trans (by simp [PC, hl])
 have cm : W1.drew.cell? ⟨X, 1 + m, none⟩ = some (.int .i64 (hs[m]'(by omega))) := (blk_cell h1.at_ (1 + m)).trans (PC_at m (by omega))
 refine start_ (n := 10) (S := fun w' => w'.cell? ⟨X, 13, none⟩ = some (.int .i64 (m : Int)) ∧ w'.cell? ⟨X, 1 + m, none⟩ = some (.int .i64 (hs[m]'(by omega)))) (ds := []) #[F_, F_, F_, F_, F_, F_, F_, F_, F_, F_] (by kernel_rfl) rfl rfl ⟨c13, cm⟩ (fun hHeld => ?_)
 refine pu_ 0 10 ?_
 refine pu_ 1 11 ?_
 refine pu_ 2 12 ?_
 refine pu_ 3 13 ?_
 refine pu_ 5 15 ?_
 refine pu_ 6 16 ?_
 refine tk_ 4 14 hHeld ?_
 refine pu_ 7 17 ?_
 refine tk_ 8 18 hHeld ?_
 refine pu_ 9 2 ?_
 refine done_ (by kernel_rfl) ?_
 go_wp2
 go_ret
 exact ⟨rfl, h1.drew⟩
def IB (i : S30) : Array Value := #[.int .i64 i.f0, .int .i64 i.f1, .int .i64 i.f2.f0, .int .i64 i.f2.f1]
set_option maxRecDepth 100000 in
set_option maxHeartbeats 6400000 in
theorem actJump (X g I : Nat) (i : S30) (hs : List Int) (m : Nat) (a f : Int) (W : World) (h : W.heap[X]? = some (.cells (PC g hs m a f) 65 (0, 0))) (hI : W.heap[I]? = some (.cells (IB i) 30 (0, 0))) (hl : hs.length = 12) :
  Calls Tryz.prog 105 #[.pointer (some ⟨X, 0, none⟩), .pointer (some ⟨I, 0, none⟩)] W fun e w' => e = .returned (.tuple #[]) ∧ Wr X (PC g hs m i.f1 f) 65 W w' := by
 have hu30 := Tryz.underlying30
 have hu65 := Tryz.underlying65
 have c1 : W.cell? ⟨I, 1, none⟩ = some (.int .i64 i.f1) := (blk_cell hI 1).trans rfl
 have c14 : W.cell? ⟨X, 14, none⟩ = some (.int .i64 a) := (blk_cell h 14).trans (by simp [PC, hl])
 have f14 := blk_frozen h 14
 go_enter Tryz.func105, Tryz.ntmps105
 go_wp2
 go_end0
 exact ⟨rfl, Wr.set h 14 _ (PC_a hl)⟩
set_option maxRecDepth 100000 in
set_option maxHeartbeats 6400000 in
theorem actBack (X g I : Nat) (i : S30) (hs : List Int) (m : Nat) (a f : Int) (W : World) (h : W.heap[X]? = some (.cells (PC g hs m a f) 65 (0, 0))) (hI : W.heap[I]? = some (.cells (IB i) 30 (0, 0))) (hl : hs.length = 12) (hf0 : 1 ≤ f) (hf1 : f ≤ 100) :
  Calls Tryz.prog 106 #[.pointer (some ⟨X, 0, none⟩), .pointer (some ⟨I, 0, none⟩)] W fun e w' => e = .returned (.bool true) ∧ Wr X (PC g hs m i.f1 (f - 1)) 65 W w' := by
 have hu30 := Tryz.underlying30
 have hu65 := Tryz.underlying65
 have c1 : W.cell? ⟨I, 1, none⟩ = some (.int .i64 i.f1) := (blk_cell hI 1).trans rfl
 have c15 : W.cell? ⟨X, 15, none⟩ = some (.int .i64 f) := (blk_cell h 15).trans (by simp [PC, hl])
 have f15 := blk_frozen h 15
 have d : (f == 0) = false := by simp; omega
 have w1 : wrap64 (f - 1) = f - 1 := by unfold wrap64; omega
 clear hf0 hf1
 go_enter Tryz.func106, Tryz.ntmps106
 go_upto_region 4 with (fail)
 have ne : I ≠ X := fun e => by subst e; rw [h] at hI; injection hI with e1; injection e1 with _ e2; exact absurd e2 (by decide)
 have h1 : Wr X (PC g hs m a (f - 1)) 65 W (W.setCell ⟨X, 15, none⟩ (.int .i64 (f - 1))) := Wr.set h 15 _ (PC_f hl)
 clear c1 c15 f15 d w1
 generalize W.setCell ⟨X, 15, none⟩ _ = W1 at h1 ⊢
 have hI := blk_kept hI h1.kp ne
 have c1 : W1.cell? ⟨I, 1, none⟩ = some (.int .i64 i.f1) := (blk_cell hI 1).trans rfl
 have c14 : W1.cell? ⟨X, 14, none⟩ = some (.int .i64 a) := (blk_cell h1.at_ 14).trans (by simp [PC, hl])
 have f14 := blk_frozen h1.at_ 14
 go_wp2
 go_ret
 exact ⟨rfl, h1.trans (Wr.set h1.at_ 14 _ (PC_a hl))⟩
set_option maxRecDepth 100000 in
set_option maxHeartbeats 6400000 in
theorem actBack0 (X g I : Nat) (hs : List Int) (m : Nat) (a : Int) (W : World) (h : W.heap[X]? = some (.cells (PC g hs m a 0) 65 (0, 0))) (hl : hs.length = 12) :
  Calls Tryz.prog 106 #[.pointer (some ⟨X, 0, none⟩), .pointer (some ⟨I, 0, none⟩)] W fun e w' => e = .returned (.bool false) ∧ w' = W := by
 have hu65 := Tryz.underlying65
 have c15 : W.cell? ⟨X, 15, none⟩ = some (.int .i64 0) := (blk_cell h 15).trans (by simp [PC, hl])
 go_enter Tryz.func106, Tryz.ntmps106
 go_wp2
 go_ret
 exact ⟨rfl, rfl⟩
set_option maxRecDepth 100000 in
theorem on_92 (X B I : Nat) (W : World) (P : World → Prop) (hB : W.heap[B]? = some (.cells #[.func (.func 92) #[] #[.pointer (some ⟨I, 0, none⟩)]] 127 (0, 0))) (hc : Calls Tryz.prog 92 #[.pointer (some ⟨X, 0, none⟩), .pointer (some ⟨I, 0, none⟩)] W fun e w' => e = .returned (.tuple #[]) ∧ P w') :
  Calls Tryz.prog 91 #[.pointer (some ⟨X, 0, none⟩), .pointer (some ⟨B, 0, none⟩)] W fun e w' => e = .returned (.bool true) ∧ P w' := by
 have c0 : W.cell? ⟨B, 0, none⟩ = some (.func (.func 92) #[] #[.pointer (some ⟨I, 0, none⟩)]) := (blk_cell hB 0).trans rfl
 go_enter Tryz.func91, Tryz.ntmps91
 go_wp2_with fail
 refine hc.mono ?_
 rintro e w' ⟨rfl, hp⟩
 go_wp2
 go_ret
 exact ⟨rfl, hp⟩
set_option maxRecDepth 100000 in
theorem on_94 (X B I : Nat) (W : World) (P : World → Prop) (hB : W.heap[B]? = some (.cells #[.func (.func 94) #[] #[.pointer (some ⟨I, 0, none⟩)]] 127 (0, 0))) (hc : Calls Tryz.prog 94 #[.pointer (some ⟨X, 0, none⟩), .pointer (some ⟨I, 0, none⟩)] W fun e w' => e = .returned (.tuple #[]) ∧ P w') :
  Calls Tryz.prog 91 #[.pointer (some ⟨X, 0, none⟩), .pointer (some ⟨B, 0, none⟩)] W fun e w' => e = .returned (.bool true) ∧ P w' := by
 have c0 : W.cell? ⟨B, 0, none⟩ = some (.func (.func 94) #[] #[.pointer (some ⟨I, 0, none⟩)]) := (blk_cell hB 0).trans rfl
 go_enter Tryz.func91, Tryz.ntmps91
 go_wp2_with fail
 refine hc.mono ?_
 rintro e w' ⟨rfl, hp⟩
 go_wp2
 go_ret
 exact ⟨rfl, hp⟩
set_option maxRecDepth 100000 in
theorem on_96 (X B I : Nat) (W : World) (P : World → Prop) (hB : W.heap[B]? = some (.cells #[.func (.func 96) #[] #[.pointer (some ⟨I, 0, none⟩)]] 127 (0, 0))) (hc : Calls Tryz.prog 96 #[.pointer (some ⟨X, 0, none⟩), .pointer (some ⟨I, 0, none⟩)] W fun e w' => e = .returned (.tuple #[]) ∧ P w') :
  Calls Tryz.prog 91 #[.pointer (some ⟨X, 0, none⟩), .pointer (some ⟨B, 0, none⟩)] W fun e w' => e = .returned (.bool true) ∧ P w' := by
 have c0 : W.cell? ⟨B, 0, none⟩ = some (.func (.func 96) #[] #[.pointer (some ⟨I, 0, none⟩)]) := (blk_cell hB 0).trans rfl
 go_enter Tryz.func91, Tryz.ntmps91
 go_wp2_with fail
 refine hc.mono ?_
 rintro e w' ⟨rfl, hp⟩
 go_wp2
 go_ret
 exact ⟨rfl, hp⟩
set_option maxRecDepth 100000 in
theorem on_99 (X B I : Nat) (W : World) (P : World → Prop) (hB : W.heap[B]? = some (.cells #[.func (.func 99) #[] #[.pointer (some ⟨I, 0, none⟩)]] 127 (0, 0))) (hc : Calls Tryz.prog 99 #[.pointer (some ⟨X, 0, none⟩), .pointer (some ⟨I, 0, none⟩)] W fun e w' => e = .returned (.tuple #[]) ∧ P w') :
  Calls Tryz.prog 91 #[.pointer (some ⟨X, 0, none⟩), .pointer (some ⟨B, 0, none⟩)] W fun e w' => e = .returned (.bool true) ∧ P w' := by
 have c0 : W.cell? ⟨B, 0, none⟩ = some (.func (.func 99) #[] #[.pointer (some ⟨I, 0, none⟩)]) := (blk_cell hB 0).trans rfl
 go_enter Tryz.func91, Tryz.ntmps91
 go_wp2_with fail
 refine hc.mono ?_
 rintro e w' ⟨rfl, hp⟩
 go_wp2
 go_ret
 exact ⟨rfl, hp⟩
set_option maxRecDepth 100000 in
theorem on_101 (X B : Nat) (W : World) (P : World → Prop) (hB : W.heap[B]? = some (.cells #[.func (.func 101) #[] #[]] 127 (0, 0))) (hc : Calls Tryz.prog 101 #[.pointer (some ⟨X, 0, none⟩)] W fun e w' => e = .returned (.tuple #[]) ∧ P w') :
  Calls Tryz.prog 91 #[.pointer (some ⟨X, 0, none⟩), .pointer (some ⟨B, 0, none⟩)] W fun e w' => e = .returned (.bool true) ∧ P w' := by
 have c0 : W.cell? ⟨B, 0, none⟩ = some (.func (.func 101) #[] #[]) := (blk_cell hB 0).trans rfl
 go_enter Tryz.func91, Tryz.ntmps91
 go_wp2_with fail
 refine hc.mono ?_
 rintro e w' ⟨rfl, hp⟩
 go_wp2
 go_ret
 exact ⟨rfl, hp⟩
set_option maxRecDepth 100000 in
theorem on_104 (X B I : Nat) (W : World) (P : World → Prop) (hB : W.heap[B]? = some (.cells #[.func (.func 104) #[] #[.pointer (some ⟨I, 0, none⟩)]] 127 (0, 0))) (hc : Calls Tryz.prog 104 #[.pointer (some ⟨X, 0, none⟩), .pointer (some ⟨I, 0, none⟩)] W fun e w' => e = .returned (.tuple #[]) ∧ P w') :
  Calls Tryz.prog 91 #[.pointer (some ⟨X, 0, none⟩), .pointer (some ⟨B, 0, none⟩)] W fun e w' => e = .returned (.bool true) ∧ P w' := by
 have c0 : W.cell? ⟨B, 0, none⟩ = some (.func (.func 104) #[] #[.pointer (some ⟨I, 0, none⟩)]) := (blk_cell hB 0).trans rfl
 go_enter Tryz.func91, Tryz.ntmps91
 go_wp2_with fail
 refine hc.mono ?_
 rintro e w' ⟨rfl, hp⟩
 go_wp2
 go_ret
 exact ⟨rfl, hp⟩
set_option maxRecDepth 100000 in
theorem on_105 (X B I : Nat) (W : World) (P : World → Prop) (hB : W.heap[B]? = some (.cells #[.func (.func 105) #[] #[.pointer (some ⟨I, 0, none⟩)]] 127 (0, 0))) (hc : Calls Tryz.prog 105 #[.pointer (some ⟨X, 0, none⟩), .pointer (some ⟨I, 0, none⟩)] W fun e w' => e = .returned (.tuple #[]) ∧ P w') :
  Calls Tryz.prog 91 #[.pointer (some ⟨X, 0, none⟩), .pointer (some ⟨B, 0, none⟩)] W fun e w' => e = .returned (.bool true) ∧ P w' := by
 have c0 : W.cell? ⟨B, 0, none⟩ = some (.func (.func 105) #[] #[.pointer (some ⟨I, 0, none⟩)]) := (blk_cell hB 0).trans rfl
 go_enter Tryz.func91, Tryz.ntmps91
 go_wp2_with fail
 refine hc.mono ?_
 rintro e w' ⟨rfl, hp⟩
 go_wp2
 go_ret
 exact ⟨rfl, hp⟩
set_option maxRecDepth 100000 in
theorem wrap_any (F : Nat) (cap : Array Value) (W : World) : Calls Tryz.prog 90 #[.func (.func F) #[] cap] W fun e w' => e = .returned (.func (.func 91) #[] #[.pointer (some ⟨W.heap.size, 0, none⟩)]) ∧ w' = W.alloc (.cells #[.func (.func F) #[] cap] 127) := by
 go_enter Tryz.func90, Tryz.ntmps90
 go_wp2
 go_ret
 exact ⟨rfl, rfl⟩
theorem blk2 (W : World) (o o' : Obj) : ((W.alloc o).alloc o').heap[W.heap.size + 1]? = some o' := by
 have := blk_new (W.alloc o) o'
 rwa [alloc_size] at this
theorem al2 (W : World) (o o' : Obj) : Below W.heap.size W ((W.alloc o).alloc o') := below_alloc (below_alloc (Below.refl _ _) o) o'
def ActV (W : World) (v : Value) (i : S30) : Prop :=
 ∃ I, W.heap[I]? = some (.cells (IB i) 30 (0, 0)) ∧ ((¬ (1 ≤ i.f0 ∧ i.f0 ≤ 7) ∧ v = .func (.func 106) #[] #[.pointer (some ⟨I, 0, none⟩)]) ∨
  ∃ B F cap, v = .func (.func 91) #[] #[.pointer (some ⟨B, 0, none⟩)] ∧ W.heap[B]? = some (.cells #[.func (.func F) #[] cap] 127 (0, 0)) ∧
   ((i.f0 = 5 ∧ F = 101 ∧ cap = #[]) ∨ (cap = #[.pointer (some ⟨I, 0, none⟩)] ∧ ((i.f0 = 1 ∧ F = 92) ∨ (i.f0 = 2 ∧ F = 94) ∨ (i.f0 = 3 ∧ F = 96) ∨ (i.f0 = 4 ∧ F = 99) ∨ (i.f0 = 6 ∧ F = 104) ∨ (i.f0 = 7 ∧ F = 105)))))
theorem ActV.kept {W W' : World} {v : Value} {i : S30} {S : Nat → Prop} (h : ActV W v i) (k : Kept W W' S) (hS : ∀ b, b < W.heap.size → (∃ cs, W.heap[b]? = some (.cells cs 30 (0, 0)) ∨ W.heap[b]? = some (.cells cs 127 (0, 0))) → ¬ S b) : ActV W' v i := by
 obtain ⟨I, hI, h⟩ := h
 refine ⟨I, blk_kept hI k (hS I (blk_lt hI) ⟨_, .inl hI⟩), ?_⟩
 rcases h with h | ⟨B, F, cap, e, hB, h⟩
 ·exact .inl h
 ·exact .inr ⟨B, F, cap, e, blk_kept hB k (hS B (blk_lt hB) ⟨_, .inr hB⟩), h⟩
set_option maxRecDepth 100000 in
set_option maxHeartbeats 6400000 in
theorem act_1 (b c d : Int) (W : World) :
  Calls Tryz.prog 64 #[.agg #[.int .i64 1, .int .i64 b, .int .i64 c, .int .i64 d]] W fun e w' => ∃ v, e = .returned v ∧ ActV w' v ⟨1, b, ⟨c, d⟩⟩ ∧ Below W.heap.size W w' := by
 have hu30 := Tryz.underlying30
 have cc := fun W' => wrap_any 92 #[.pointer (some ⟨W.heap.size, 0, none⟩)] W'
 go_enter Tryz.func64, Tryz.ntmps64
 go_wp2_with fail
 refine (cc _).mono ?_
 rintro e w' ⟨rfl, rfl⟩
 go_wp2
 go_ret
 refine ⟨_, rfl, ⟨W.heap.size, blk_alloc (blk_new _ _) _, .inr ⟨_, 92, _, rfl, blk2 _ _ _, ?_⟩⟩, al2 _ _ _⟩
 exact .inr ⟨rfl, by simp⟩
set_option maxRecDepth 100000 in
set_option maxHeartbeats 6400000 in
theorem act_2 (b c d : Int) (W : World) :
  Calls Tryz.prog 64 #[.agg #[.int .i64 2, .int .i64 b, .int .i64 c, .int .i64 d]] W fun e w' => ∃ v, e = .returned v ∧ ActV w' v ⟨2, b, ⟨c, d⟩⟩ ∧ Below W.heap.size W w' := by
 have hu30 := Tryz.underlying30
 have cc := fun W' => wrap_any 94 #[.pointer (some ⟨W.heap.size, 0, none⟩)] W'
 go_enter Tryz.func64, Tryz.ntmps64
 go_wp2_with fail
 refine (cc _).mono ?_
 rintro e w' ⟨rfl, rfl⟩
 go_wp2
 go_ret
 refine ⟨_, rfl, ⟨W.heap.size, blk_alloc (blk_new _ _) _, .inr ⟨_, 94, _, rfl, blk2 _ _ _, ?_⟩⟩, al2 _ _ _⟩
 exact .inr ⟨rfl, by simp⟩
set_option maxRecDepth 100000 in
set_option maxHeartbeats 6400000 in
theorem act_3 (b c d : Int) (W : World) :
  Calls Tryz.prog 64 #[.agg #[.int .i64 3, .int .i64 b, .int .i64 c, .int .i64 d]] W fun e w' => ∃ v, e = .returned v ∧ ActV w' v ⟨3, b, ⟨c, d⟩⟩ ∧ Below W.heap.size W w' := by
 have hu30 := Tryz.underlying30
 have cc := fun W' => wrap_any 96 #[.pointer (some ⟨W.heap.size, 0, none⟩)] W'
 go_enter Tryz.func64, Tryz.ntmps64
 go_wp2_with fail
 refine (cc _).mono ?_
 rintro e w' ⟨rfl, rfl⟩
 go_wp2
 go_ret
 refine ⟨_, rfl, ⟨W.heap.size, blk_alloc (blk_new _ _) _, .inr ⟨_, 96, _, rfl, blk2 _ _ _, ?_⟩⟩, al2 _ _ _⟩
 exact .inr ⟨rfl, by simp⟩
set_option maxRecDepth 100000 in
set_option maxHeartbeats 6400000 in
theorem act_4 (b c d : Int) (W : World) :
  Calls Tryz.prog 64 #[.agg #[.int .i64 4, .int .i64 b, .int .i64 c, .int .i64 d]] W fun e w' => ∃ v, e = .returned v ∧ ActV w' v ⟨4, b, ⟨c, d⟩⟩ ∧ Below W.heap.size W w' := by
 have hu30 := Tryz.underlying30
 have cc := fun W' => wrap_any 99 #[.pointer (some ⟨W.heap.size, 0, none⟩)] W'
 go_enter Tryz.func64, Tryz.ntmps64
 go_wp2_with fail
 refine (cc _).mono ?_
 rintro e w' ⟨rfl, rfl⟩
 go_wp2
 go_ret
 refine ⟨_, rfl, ⟨W.heap.size, blk_alloc (blk_new _ _) _, .inr ⟨_, 99, _, rfl, blk2 _ _ _, ?_⟩⟩, al2 _ _ _⟩
 exact .inr ⟨rfl, by simp⟩
set_option maxRecDepth 100000 in
set_option maxHeartbeats 6400000 in
theorem act_5 (b c d : Int) (W : World) :
  Calls Tryz.prog 64 #[.agg #[.int .i64 5, .int .i64 b, .int .i64 c, .int .i64 d]] W fun e w' => ∃ v, e = .returned v ∧ ActV w' v ⟨5, b, ⟨c, d⟩⟩ ∧ Below W.heap.size W w' := by
 have hu30 := Tryz.underlying30
 have cc := fun W' => wrap_any 101 #[] W'
 go_enter Tryz.func64, Tryz.ntmps64
 go_wp2_with fail
 refine (cc _).mono ?_
 rintro e w' ⟨rfl, rfl⟩
 go_wp2
 go_ret
 refine ⟨_, rfl, ⟨W.heap.size, blk_alloc (blk_new _ _) _, .inr ⟨_, 101, _, rfl, blk2 _ _ _, ?_⟩⟩, al2 _ _ _⟩
 exact .inl ⟨rfl, rfl, rfl⟩
set_option maxRecDepth 100000 in
set_option maxHeartbeats 6400000 in
theorem act_6 (b c d : Int) (W : World) :
  Calls Tryz.prog 64 #[.agg #[.int .i64 6, .int .i64 b, .int .i64 c, .int .i64 d]] W fun e w' => ∃ v, e = .returned v ∧ ActV w' v ⟨6, b, ⟨c, d⟩⟩ ∧ Below W.heap.size W w' := by
 have hu30 := Tryz.underlying30
 have cc := fun W' => wrap_any 104 #[.pointer (some ⟨W.heap.size, 0, none⟩)] W'
 go_enter Tryz.func64, Tryz.ntmps64
 go_wp2_with fail
 refine (cc _).mono ?_
 rintro e w' ⟨rfl, rfl⟩
 go_wp2
 go_ret
 refine ⟨_, rfl, ⟨W.heap.size, blk_alloc (blk_new _ _) _, .inr ⟨_, 104, _, rfl, blk2 _ _ _, ?_⟩⟩, al2 _ _ _⟩
 exact .inr ⟨rfl, by simp⟩
set_option maxRecDepth 100000 in
set_option maxHeartbeats 6400000 in
theorem act_7 (b c d : Int) (W : World) :
  Calls Tryz.prog 64 #[.agg #[.int .i64 7, .int .i64 b, .int .i64 c, .int .i64 d]] W fun e w' => ∃ v, e = .returned v ∧ ActV w' v ⟨7, b, ⟨c, d⟩⟩ ∧ Below W.heap.size W w' := by
 have hu30 := Tryz.underlying30
 have cc := fun W' => wrap_any 105 #[.pointer (some ⟨W.heap.size, 0, none⟩)] W'
 go_enter Tryz.func64, Tryz.ntmps64
 go_wp2_with fail
 refine (cc _).mono ?_
 rintro e w' ⟨rfl, rfl⟩
 go_wp2
 go_ret
 refine ⟨_, rfl, ⟨W.heap.size, blk_alloc (blk_new _ _) _, .inr ⟨_, 105, _, rfl, blk2 _ _ _, ?_⟩⟩, al2 _ _ _⟩
 exact .inr ⟨rfl, by simp⟩
set_option maxRecDepth 100000 in
set_option maxHeartbeats 6400000 in
theorem act_back (a b c d : Int) (W : World) (h : ¬ (1 ≤ a ∧ a ≤ 7)) :
  Calls Tryz.prog 64 #[.agg #[.int .i64 a, .int .i64 b, .int .i64 c, .int .i64 d]] W fun e w' => ∃ v, e = .returned v ∧ ActV w' v ⟨a, b, ⟨c, d⟩⟩ ∧ Below W.heap.size W w' := by
 have hu30 := Tryz.underlying30
 have d1 : (a == 1) = false := by simp; omega
 have d2 : (a == 2) = false := by simp; omega
 have d3 : (a == 3) = false := by simp; omega
 have d4 : (a == 4) = false := by simp; omega
 have d5 : (a == 5) = false := by simp; omega
 have d6 : (a == 6) = false := by simp; omega
 have d7 : (a == 7) = false := by simp; omega
 go_enter Tryz.func64, Tryz.ntmps64
 go_wp2
 go_ret
 exact ⟨_, rfl, ⟨W.heap.size, blk_new _ _, .inl ⟨h, rfl⟩⟩, (Below.refl _ _).alloc (Nat.le_refl _) _⟩
theorem act_any (i : S30) (W : World) :
  Calls Tryz.prog 64 #[.agg #[.int .i64 i.f0, .int .i64 i.f1, .int .i64 i.f2.f0, .int .i64 i.f2.f1]] W fun e w' => ∃ v, e = .returned v ∧ ActV w' v i ∧ Below W.heap.size W w' := by
 obtain ⟨a, b, ⟨c, d⟩⟩ := i
 by_cases h : 1 ≤ a ∧ a ≤ 7
 ·rcases (by omega : a = 1 ∨ a = 2 ∨ a = 3 ∨ a = 4 ∨ a = 5 ∨ a = 6 ∨ a = 7) with rfl | rfl | rfl | rfl | rfl | rfl | rfl
  ·exact act_1 b c d W
  ·exact act_2 b c d W
  ·exact act_3 b c d W
  ·exact act_4 b c d W
  ·exact act_5 b c d W
  ·exact act_6 b c d W
  ·exact act_7 b c d W
 ·exact act_back a b c d W h
end Go.Proofs.YtjamfddhcigchaaGreatDoor.Hj
namespace Go.Proofs.YtjamfddhcigchaaGreatDoor.Hq
open Go.RowKit  Go.Proofs.YtjamfddhcigchaaGreatDoor.Gm Go.Proofs.YtjamfddhcigchaaGreatDoor.Gn Go.Proofs.YtjamfddhcigchaaGreatDoor.Gz Go.Proofs.YtjamfddhcigchaaGreatDoor.Gq Go.Proofs.YtjamfddhcigchaaGreatDoor.Hj Go.Proofs.YtjamfddhcigchaaGreatDoor.Hm Go.Proofs.YtjamfddhcigchaaGreatDoor.HFnCodeRun Go.Proofs.YtjamfddhcigchaaGreatDoorW.PrintWords Go.Proofs.YtjamfddhcigchaaGreatDoorW.PrintLast Go.Proofs.YtjamfddhcigchaaGreatDoorW.PrintMore
set_option linter.unusedVariables false
set_option linter.unusedSimpArgs false
set_option maxRecDepth 100000 in
set_option maxHeartbeats 6400000 in
theorem put_kyes (g : Nat) (k i n v : Int) (M : Array Value) (w : World) (h : pOk k i = true) (hg : w.heap[g]? = some (.cells M 82 (0, 0))) (hv : M[6 * (k - 1).toNat + i.toNat]? = some (.int .i64 v)) : Calls Tryz.prog 97 #[.pointer (some ⟨g, 0, none⟩), .agg #[.int .i64 k, .int .i64 i], .int .i64 n] w fun e w' => e = .returned (.tuple #[]) ∧ w'.heap[g]? = some (.cells (M.setIfInBounds (6 * (k - 1).toNat + i.toNat) (.int .i64 (cut n))) 82 (0, 0)) ∧ (∀ base, base ≤ g → base ≤ w.heap.size → Below base w w') ∧ Kept w w' (fun k => k = g) := by
 have hu := Tryz.underlying28
 have al : ∀ o : Obj, Below w.heap.size w (w.alloc o) := fun o => (Below.refl _ _).alloc (Nat.le_refl _) _
 have hc := fun W => puts_any k i W
 rw [h] at hc
 have hp : ∀ W, Calls Tryz.prog 123 #[.pointer (some ⟨g, 0, none⟩), .agg #[.int .i64 k, .int .i64 i]] W fun e w' => e = .returned (.pointer (some ⟨g, 6 * (k - 1).toNat + i.toNat, none⟩)) ∧ Below W.heap.size W w' := fun W => by
  simp only [pOk, aOk, Bool.and_eq_true, decide_eq_true_eq] at h
  exact place_any g k i W h.1.1 h.1.2.1 h.1.2.2.1 h.1.2.2.2
 clear h
 have hn := fun W => cut_any n W
 generalize cut n = m at hn ⊢
 generalize 6 * (k - 1).toNat + i.toNat = q at hv hp ⊢
 go_enter Tryz.func97, Tryz.ntmps97
 go_wp2_with fail
 refine (hc _).mono ?_
 rintro e w2 ⟨rfl, hb⟩
 have hb2 := (al (.cells #[.int .i64 k, .int .i64 i] 28)).trans (hb.mono (al (.cells #[.int .i64 k, .int .i64 i] 28)).size)
 have z1 : w2.cell? ⟨w.heap.size, 0, none⟩ = some (.int .i64 k) := (blk_cell (blk_below (heap_alloc_new w _) hb) 0).trans rfl
 have z2 : w2.cell? ⟨w.heap.size, 1, none⟩ = some (.int .i64 i) := (blk_cell (blk_below (heap_alloc_new w _) hb) 1).trans rfl
 have hg2 := blk_below (blk_alloc hg (.cells #[.int .i64 k, .int .i64 i] 28)) hb
 have hg3 : ∀ {W : World}, Below w2.heap.size w2 W → W.heap[g]? = some (.cells M 82 (0, 0)) := fun hb => blk_below hg2 hb
 go_wp2_with fail
 refine (hp _).mono ?_
 rintro e w3 ⟨rfl, hb3⟩
 have hg3 := blk_below hg2 hb3
 have hb3' := hb2.trans (hb3.mono hb2.size)
 go_wp2_with fail
 refine (hn _).mono ?_
 rintro e w4 ⟨rfl, hb4⟩
 have hg4 := blk_below hg3 hb4
 have hb4' := hb3'.trans (hb4.mono hb3'.size)
 have i0 : w4.cell? ⟨g, q, none⟩ = some (.int .i64 v) := (blk_cell hg4 q).trans hv
 have j0 : w4.frozen? ⟨g, q, none⟩ = false := blk_frozen hg4 q
 go_wp2
 refine bodyPost_end (results_none (by kernel_rfl) _ _ _) rfl ⟨rfl, blk_put hg4 q _ rfl, fun base h1 h2 => (hb4'.mono h2).setCell h1 _, (((Kept.refl w (fun k => k = g)).below hb4').setCell (p := ⟨g, q, none⟩) (.inl rfl) _)⟩
theorem put_kany (g : Nat) (l0 l1 l2 : List Int) (k i n : Int) (w : World) (h0 : l0.length = 6) (h1 : l1.length = 6) (h2 : l2.length = 6) (hp : pOk k i = true) (hg : w.heap[g]? = some (.cells (mA l0 l1 l2) 82 (0, 0))) : Calls Tryz.prog 97 #[.pointer (some ⟨g, 0, none⟩), .agg #[.int .i64 k, .int .i64 i], .int .i64 n] w fun e w' => e = .returned (.tuple #[]) ∧ w'.heap[g]? = some (.cells (mA (pT 1 l0 k i n) (pT 2 l1 k i n) (pT 3 l2 k i n)) 82 (0, 0)) ∧ (∀ base, base ≤ g → base ≤ w.heap.size → Below base w w') ∧ Kept w w' (fun k => k = g) := by
 rw [← pT_set h0 h1 h2 hp]
 have ha : aOk k i = true := by
  simp only [pOk, Bool.and_eq_true] at hp
  exact hp.1
 exact put_kyes g k i n _ _ w hp hg (by rw [← mM_eq h0 h1 h2]; exact mM_at l0 l1 l2 k i ha)
structure RS (X g : Nat) (m : M3) (st : List Int) (p f : Int) (W : World) : Prop where
 ln : m.len
 ne : X ≠ g
 le : st.length ≤ 12
 G : W.heap[g]? = some (.cells (mA m.a m.b m.c) 82 (0, 0))
 H : ∃ hs : List Int, hs.length = 12 ∧ hs.take st.length = st.reverse ∧ W.heap[X]? = some (.cells (PC g hs (st.length : Int) p f) 65 (0, 0))
structure Ch (X g : Nat) (W W' : World) : Prop where
 bl : ∀ base, base ≤ X → base ≤ g → base ≤ W.heap.size → Below base W W'
 kp : Kept W W' (fun k => k = X ∨ k = g)
theorem Ch.trans {X g : Nat} {W W1 W2 : World} (h : Ch X g W W1) (k : Ch X g W1 W2) : Ch X g W W2 :=
 ⟨fun base h1 h2 h3 => (h.bl base h1 h2 h3).trans (k.bl base h1 h2 (Nat.le_trans h3 h.kp.1)), h.kp.then_ k.kp (fun _ e => .inl e)⟩
theorem Ch.of {X g : Nat} {W W' : World} (k : Below W.heap.size W W') : Ch X g W W' := ⟨fun base _ _ h => k.mono h, (Kept.refl _ _).below k⟩
theorem Ch.drew0 (X g : Nat) (W : World) : Ch X g W W.drew := ⟨fun base _ _ _ => below_drew1 (Below.refl _ _), (Kept.refl _ _).drew⟩
theorem Ch.drew {X g : Nat} {W W1 : World} (h : Ch X g W W1) : Ch X g W W1.drew := h.trans (Ch.drew0 X g W1)
theorem Ch.wr {X g : Nat} {cs : Array Value} {t : TypeId} {W W' : World} (h : Wr X cs t W W') : Ch X g W W' := ⟨fun base h1 _ h3 => h.bl base h1 h3, (Kept.refl W (fun k => k = X ∨ k = g)).then_ h.kp (fun _ e => .inl (.inl e))⟩
theorem RS.below {X g : Nat} {m : M3} {st : List Int} {p f : Int} {W W' : World} (h : RS X g m st p f W) (k : Below W.heap.size W W') : RS X g m st p f W' := by
 obtain ⟨hs, h1, h2, h3⟩ := h.H
 exact ⟨h.ln, h.ne, h.le, blk_below h.G k, hs, h1, h2, blk_below h3 k⟩
theorem RS.drew {X g : Nat} {m : M3} {st : List Int} {p f : Int} {W : World} (h : RS X g m st p f W) : RS X g m st p f W.drew := by
 obtain ⟨hs, h1, h2, h3⟩ := h.H
 exact ⟨h.ln, h.ne, h.le, h.G, hs, h1, h2, h3⟩
theorem IB.ch {X g I : Nat} {i : S30} {m : M3} {st : List Int} {p f : Int} {W W' : World} (hI : W.heap[I]? = some (.cells (IB i) 30 (0, 0))) (h : RS X g m st p f W) (k : Ch X g W W') : W'.heap[I]? = some (.cells (IB i) 30 (0, 0)) := by
 obtain ⟨hs, _, _, h3⟩ := h.H
 refine blk_kept hI k.kp ?_
 rintro (rfl | rfl)
 ·rw [h3] at hI; injection hI with e1; injection e1 with _ e2; exact absurd e2 (by decide)
 ·rw [h.G] at hI; injection hI with e1; injection e1 with _ e2; exact absurd e2 (by decide)
theorem push_rs {X g : Nat} {m : M3} {st : List Int} {p f : Int} (n : Int) {W : World} (h : RS X g m st p f W) (hl : st.length < 12) :
  Calls Tryz.prog 93 #[.pointer (some ⟨X, 0, none⟩), .int .i64 n] W fun e w' => e = .returned (.tuple #[]) ∧ RS X g m (n :: st) p f w' ∧ Ch X g W w' := by
 obtain ⟨hs, h1, h2, h3⟩ := h.H
 refine (push_any X g hs st.length p f n W h3 h1 hl).mono ?_
 rintro e w' ⟨rfl, hw⟩
 refine ⟨rfl, ⟨h.ln, h.ne, hl, blk_kept h.G hw.kp (Ne.symm h.ne), hs.set st.length n, by simpa using h1, ?_, hw.at_⟩, Ch.wr hw⟩
 rw [List.length_cons, List.reverse_cons, ← h2, List.take_set, List.take_add_one, List.getElem?_eq_getElem (by omega)]
 have e : (hs.take st.length).length = st.length := by simp; omega
 simp only [Option.toList_some]
 rw [List.set_append_right _ _ (by omega), e]
 simp
theorem pop_rs {X g : Nat} {m : M3} {x : Int} {st : List Int} {p f : Int} {W : World} (h : RS X g m (x :: st) p f W) :
  Calls Tryz.prog 98 #[.pointer (some ⟨X, 0, none⟩)] W fun e w' => e = .returned (.int .i64 x) ∧ RS X g m st p f w' ∧ Ch X g W w' := by
 obtain ⟨hs, h1, h2, h3⟩ := h.H
 have hl : st.length < 12 := by have := h.le; simp only [List.length_cons] at this; omega
 have ex : hs.take st.length = st.reverse ∧ hs[st.length]'(by omega) = x := by
  rw [List.length_cons, List.reverse_cons, List.take_add_one, List.getElem?_eq_getElem (by omega)] at h2
  simp only [Option.toList_some] at h2
  have := List.append_inj h2 (by simp; omega)
  exact ⟨this.1, by simpa using this.2⟩
 refine (pop_any X g hs st.length p f W h3 h1 hl).mono ?_
 rintro e w' ⟨rfl, hw⟩
 refine ⟨by rw [ex.2], ⟨h.ln, h.ne, by omega, blk_kept h.G hw.kp (Ne.symm h.ne), hs, h1, ex.1, hw.at_⟩, Ch.wr hw⟩
theorem get_rs {X g : Nat} {m : M3} {st : List Int} {p f : Int} (k i : Int) {W : World} (h : RS X g m st p f W) (ha : aOk k i = true) :
  Calls Tryz.prog 95 #[.pointer (some ⟨g, 0, none⟩), .agg #[.int .i64 k, .int .i64 i]] W fun e w' => e = .returned (.int .i64 (m.get k i)) ∧ Below W.heap.size W w' :=
 get_yes g k i _ _ 82 W ha h.G (by rw [← mM_eq h.ln.1 h.ln.2.1 h.ln.2.2]; exact mM_at m.a m.b m.c k i ha)
theorem put_rs {X g : Nat} {m : M3} {st : List Int} {p f : Int} (k i n : Int) {W : World} (h : RS X g m st p f W) (ha : pOk k i = true) :
  Calls Tryz.prog 97 #[.pointer (some ⟨g, 0, none⟩), .agg #[.int .i64 k, .int .i64 i], .int .i64 n] W fun e w' => e = .returned (.tuple #[]) ∧ RS X g (m.put k i n) st p f w' ∧ Ch X g W w' := by
 obtain ⟨hs, h1, h2, h3⟩ := h.H
 refine (put_kany g m.a m.b m.c k i n W h.ln.1 h.ln.2.1 h.ln.2.2 ha h.G).mono ?_
 rintro e w' ⟨rfl, hg, hb, hk⟩
 exact ⟨rfl, ⟨⟨pT_len.trans h.ln.1, pT_len.trans h.ln.2.1, pT_len.trans h.ln.2.2⟩, h.ne, h.le, hg, hs, h1, h2, blk_kept h3 hk h.ne⟩, ⟨fun base _ h2 h3 => hb base h2 h3, (Kept.refl W (fun k => k = X ∨ k = g)).then_ hk (fun _ e => .inl (.inr e))⟩⟩
theorem RS.x0 {X g : Nat} {m : M3} {st : List Int} {p f : Int} {W : World} (h : RS X g m st p f W) : W.cell? ⟨X, 0, none⟩ = some (.pointer (some ⟨g, 0, none⟩)) := by
 obtain ⟨hs, h1, h2, h3⟩ := h.H
 exact (blk_cell h3 0).trans rfl
theorem RS.c14 {X g : Nat} {m : M3} {st : List Int} {p f : Int} {W : World} (h : RS X g m st p f W) : W.cell? ⟨X, 14, none⟩ = some (.int .i64 p) := by
 obtain ⟨hs, h1, h2, h3⟩ := h.H
 exact (blk_cell h3 14).trans (by simp [PC, h1])
theorem RS.c15 {X g : Nat} {m : M3} {st : List Int} {p f : Int} {W : World} (h : RS X g m st p f W) : W.cell? ⟨X, 15, none⟩ = some (.int .i64 f) := by
 obtain ⟨hs, h1, h2, h3⟩ := h.H
 exact (blk_cell h3 15).trans (by simp [PC, h1])
theorem RS.f14 {X g : Nat} {m : M3} {st : List Int} {p f : Int} {W : World} (h : RS X g m st p f W) : W.frozen? ⟨X, 14, none⟩ = false := by
 obtain ⟨hs, h1, h2, h3⟩ := h.H
 exact blk_frozen h3 14
theorem RS.setp {X g : Nat} {m : M3} {st : List Int} {p f : Int} {W : World} (h : RS X g m st p f W) (q : Int) : RS X g m st q f (W.setCell ⟨X, 14, none⟩ (.int .i64 q)) ∧ Ch X g W (W.setCell ⟨X, 14, none⟩ (.int .i64 q)) := by
 obtain ⟨hs, h1, h2, h3⟩ := h.H
 have hw := Wr.set h3 14 (.int .i64 q) (PC_a h1)
 exact ⟨⟨h.ln, h.ne, h.le, blk_kept h.G hw.kp (Ne.symm h.ne), hs, h1, h2, hw.at_⟩, Ch.wr hw⟩
theorem isI_some (b : Bool) : Gt.impl_NumIs.f b = some (isI b) := by cases b <;> rfl
theorem actPush_rs {X g I : Nat} {i : S30} {m : M3} {st : List Int} {p f : Int} {W : World} (h : RS X g m st p f W) (hI : W.heap[I]? = some (.cells (IB i) 30 (0, 0))) (hl : st.length < 12) :
  Calls Tryz.prog 92 #[.pointer (some ⟨X, 0, none⟩), .pointer (some ⟨I, 0, none⟩)] W fun e w' => e = .returned (.tuple #[]) ∧ RS X g m (i.f1 :: st) p f w' ∧ Ch X g W w' := by
 have hu30 := Tryz.underlying30
 have c1 : W.cell? ⟨I, 1, none⟩ = some (.int .i64 i.f1) := (blk_cell hI 1).trans rfl
 have cc := push_rs i.f1 h hl
 go_enter Tryz.func92, Tryz.ntmps92
 go_wp2_with fail
 refine cc.mono ?_
 rintro e w' ⟨rfl, hw⟩
 go_wp2
 go_end0
 exact ⟨rfl, hw⟩
set_option maxRecDepth 100000 in
set_option maxHeartbeats 6400000 in
theorem actLoad {X g I : Nat} {i : S30} {m : M3} {st : List Int} {p f : Int} {W : World} (h : RS X g m st p f W) (hI : W.heap[I]? = some (.cells (IB i) 30 (0, 0))) (ha : aOk i.f2.f0 i.f2.f1 = true) (hl : st.length < 12) :
  Calls Tryz.prog 94 #[.pointer (some ⟨X, 0, none⟩), .pointer (some ⟨I, 0, none⟩)] W fun e w' => e = .returned (.tuple #[]) ∧ RS X g m (m.get i.f2.f0 i.f2.f1 :: st) p f w' ∧ Ch X g W w' := by
 have hu30 := Tryz.underlying30
 have hu28 := Tryz.underlying28
 have hu65 := Tryz.underlying65
 have cX := RS.x0 h
 have c2 : W.cell? ⟨I, 2, none⟩ = some (.int .i64 i.f2.f0) := (blk_cell hI 2).trans rfl
 have c3 : W.cell? ⟨I, 3, none⟩ = some (.int .i64 i.f2.f1) := (blk_cell hI 3).trans rfl
 go_enter Tryz.func94, Tryz.ntmps94
 go_wp2_with fail
 clear cX c2 c3
 have hR := h.drew
 have hJ : W.drew.heap[I]? = some (.cells (IB i) 30 (0, 0)) := hI
 have hC := Ch.drew0 X g W
 clear h hI
 refine start_ (n := 9) (S := fun w' => w'.cell? ⟨X, 0, none⟩ = some (.pointer (some ⟨g, 0, none⟩)) ∧ w'.cell? ⟨I, 2, none⟩ = some (.int .i64 i.f2.f0) ∧ w'.cell? ⟨I, 3, none⟩ = some (.int .i64 i.f2.f1)) (ds := []) #[F_, F_, F_, F_, F_, F_, F_, F_, F_] (by kernel_rfl) rfl rfl ⟨(RS.x0 hR), ((blk_cell hJ 2).trans rfl), ((blk_cell hJ 3).trans rfl)⟩ (fun hHeld => ?_)
 refine pu_ 0 3 ?_
 refine pu_ 1 4 ?_
 refine pu_ 2 5 ?_
 refine pu_ 3 6 ?_
 refine pu_ 5 8 ?_
 refine tk_ 4 7 hHeld ?_
 refine tk_ 6 9 hHeld ?_
 refine on_ 7 (some 10) fun K hK => ?_
 refine goes_ Tryz.func95 (by kernel_rfl) rfl #[.pointer (some ⟨g, 0, none⟩), .agg #[.int .i64 i.f2.f0, .int .i64 i.f2.f1]] (by rfl) rfl rfl (by simp only [List.map_toArray, List.map_cons, List.map_nil]; rfl) ?_
 with_reducible refine (get_rs i.f2.f0 i.f2.f1 hR ha).mono ?_
 rintro e wn ⟨rfl, q2⟩
 refine ⟨_, rfl, ?_⟩
 replace hJ := blk_below hJ q2
 replace hC := hC.trans (Ch.of q2)
 replace hR := hR.below q2
 clear q2
 refine hK.out _ _ ⟨(RS.x0 hR), ((blk_cell hJ 2).trans rfl), ((blk_cell hJ 3).trans rfl)⟩ (fun hHeld => ?_)
 clear hK K
 refine norm_ (a' := ?_) ?_ ?_
 rotate_left
 ·show Act.put _ (some 10) _ = _
  simp only [Act.put, sA_, sB_, sC_, i64_w, i32_w]
  rfl
 refine on_ 8 (some 11) fun K hK => ?_
 refine goes_ Tryz.func93 (by kernel_rfl) rfl #[.pointer (some ⟨X, 0, none⟩), .int .i64 (m.get i.f2.f0 i.f2.f1)] (by rfl) rfl rfl (by simp only [List.map_toArray, List.map_cons, List.map_nil]; rfl) ?_
 with_reducible refine (push_rs (m.get i.f2.f0 i.f2.f1) hR hl).mono ?_
 rintro e wn ⟨rfl, q1, q2⟩
 refine ⟨_, rfl, ?_⟩
 replace hJ := IB.ch hJ hR q2
 replace hC := hC.trans q2
 replace hR := q1
 clear q1 q2
 refine hK.out _ _ ⟨(RS.x0 hR), ((blk_cell hJ 2).trans rfl), ((blk_cell hJ 3).trans rfl)⟩ (fun hHeld => ?_)
 clear hK K
 refine norm_ (a' := ?_) ?_ ?_
 rotate_left
 ·show Act.put _ (some 11) _ = _
  simp only [Act.put, sA_, sB_, sC_, i64_w, i32_w]
  rfl
 refine done_ (by kernel_rfl) ?_
 go_wp2
 go_end0
 exact ⟨rfl, hR, hC⟩
set_option maxRecDepth 100000 in
set_option maxHeartbeats 6400000 in
theorem actStore {X g I : Nat} {i : S30} {m : M3} {x : Int} {st : List Int} {p f : Int} {W : World} (h : RS X g m (x :: st) p f W) (hI : W.heap[I]? = some (.cells (IB i) 30 (0, 0))) (ha : pOk i.f2.f0 i.f2.f1 = true) :
  Calls Tryz.prog 96 #[.pointer (some ⟨X, 0, none⟩), .pointer (some ⟨I, 0, none⟩)] W fun e w' => e = .returned (.tuple #[]) ∧ RS X g (m.put i.f2.f0 i.f2.f1 x) st p f w' ∧ Ch X g W w' := by
 have hu30 := Tryz.underlying30
 have hu28 := Tryz.underlying28
 have hu65 := Tryz.underlying65
 have cX := RS.x0 h
 have c2 : W.cell? ⟨I, 2, none⟩ = some (.int .i64 i.f2.f0) := (blk_cell hI 2).trans rfl
 have c3 : W.cell? ⟨I, 3, none⟩ = some (.int .i64 i.f2.f1) := (blk_cell hI 3).trans rfl
 go_enter Tryz.func96, Tryz.ntmps96
 go_wp2_with fail
 clear cX c2 c3
 have hR := h.drew
 have hJ : W.drew.heap[I]? = some (.cells (IB i) 30 (0, 0)) := hI
 have hC := Ch.drew0 X g W
 clear h hI
 refine start_ (n := 9) (S := fun w' => w'.cell? ⟨X, 0, none⟩ = some (.pointer (some ⟨g, 0, none⟩)) ∧ w'.cell? ⟨I, 2, none⟩ = some (.int .i64 i.f2.f0) ∧ w'.cell? ⟨I, 3, none⟩ = some (.int .i64 i.f2.f1)) (ds := []) #[F_, F_, F_, F_, F_, F_, F_, F_, F_] (by kernel_rfl) rfl rfl ⟨(RS.x0 hR), ((blk_cell hJ 2).trans rfl), ((blk_cell hJ 3).trans rfl)⟩ (fun hHeld => ?_)
 refine pu_ 0 3 ?_
 refine pu_ 1 4 ?_
 refine pu_ 2 5 ?_
 refine pu_ 4 7 ?_
 refine pu_ 6 9 ?_
 refine tk_ 3 6 hHeld ?_
 refine tk_ 5 8 hHeld ?_
 refine on_ 7 (some 10) fun K hK => ?_
 refine goes_ Tryz.func98 (by kernel_rfl) rfl #[.pointer (some ⟨X, 0, none⟩)] (by rfl) rfl rfl (by simp only [List.map_toArray, List.map_cons, List.map_nil]; rfl) ?_
 with_reducible refine (pop_rs hR).mono ?_
 rintro e wn ⟨rfl, q1, q2⟩
 refine ⟨_, rfl, ?_⟩
 replace hJ := IB.ch hJ hR q2
 replace hC := hC.trans q2
 replace hR := q1
 clear q1 q2
 refine hK.out _ _ ⟨(RS.x0 hR), ((blk_cell hJ 2).trans rfl), ((blk_cell hJ 3).trans rfl)⟩ (fun hHeld => ?_)
 clear hK K
 refine norm_ (a' := ?_) ?_ ?_
 rotate_left
 ·show Act.put _ (some 10) _ = _
  simp only [Act.put, sA_, sB_, sC_, i64_w, i32_w]
  rfl
 refine on_ 8 (some 11) fun K hK => ?_
 refine goes_ Tryz.func97 (by kernel_rfl) rfl #[.pointer (some ⟨g, 0, none⟩), .agg #[.int .i64 i.f2.f0, .int .i64 i.f2.f1], .int .i64 x] (by rfl) rfl rfl (by simp only [List.map_toArray, List.map_cons, List.map_nil]; rfl) ?_
 with_reducible refine (put_rs i.f2.f0 i.f2.f1 x hR ha).mono ?_
 rintro e wn ⟨rfl, q1, q2⟩
 refine ⟨_, rfl, ?_⟩
 replace hJ := IB.ch hJ hR q2
 replace hC := hC.trans q2
 replace hR := q1
 clear q1 q2
 refine hK.out _ _ ⟨(RS.x0 hR), ((blk_cell hJ 2).trans rfl), ((blk_cell hJ 3).trans rfl)⟩ (fun hHeld => ?_)
 clear hK K
 refine norm_ (a' := ?_) ?_ ?_
 rotate_left
 ·show Act.put _ (some 11) _ = _
  simp only [Act.put, sA_, sB_, sC_, i64_w, i32_w]
  rfl
 refine done_ (by kernel_rfl) ?_
 go_wp2
 go_end0
 exact ⟨rfl, hR, hC⟩
set_option maxRecDepth 100000 in
set_option maxHeartbeats 6400000 in
theorem actTwo {X g I : Nat} {i : S30} {m : M3} {x y t : Int} {st : List Int} {p f : Int} {W : World} (h : RS X g m (y :: x :: st) p f W) (hI : W.heap[I]? = some (.cells (IB i) 30 (0, 0))) (ht : Gt.impl_two.f i.f1 x y = some t) :
  Calls Tryz.prog 99 #[.pointer (some ⟨X, 0, none⟩), .pointer (some ⟨I, 0, none⟩)] W fun e w' => e = .returned (.tuple #[]) ∧ RS X g m (t :: st) p f w' ∧ Ch X g W w' := by
 have hu30 := Tryz.underlying30
 have hl : st.length < 12 := by have := h.le; simp only [List.length_cons] at this; omega
 have cc := pop_rs h
 go_enter Tryz.func99, Tryz.ntmps99
 go_wp2_with fail
 refine cc.mono ?_
 rintro e w1 ⟨rfl, hR, hC⟩
 have hJ := IB.ch hI h hC
 clear cc h hI
 have c1 : w1.cell? ⟨I, 1, none⟩ = some (.int .i64 i.f1) := (blk_cell hJ 1).trans rfl
 go_wp2_with fail
 clear c1
 replace hR := hR.drew
 replace hC := hC.drew
 replace hJ : w1.drew.heap[I]? = some (.cells (IB i) 30 (0, 0)) := hJ
 refine start_ (n := 8) (S := fun w' => w'.cell? ⟨I, 1, none⟩ = some (.int .i64 i.f1)) (ds := []) #[F_, F_, F_, F_, F_, F_, F_, F_] (by kernel_rfl) rfl rfl (((blk_cell hJ 1).trans rfl)) (fun hHeld => ?_)
 refine pu_ 0 6 ?_
 refine pu_ 1 7 ?_
 refine pu_ 3 9 ?_
 refine pu_ 5 11 ?_
 refine take_ (i := 2) (N := some 8) (v := ?_) (a' := ?_) #[T_, T_, T_, T_, F_, T_, F_, F_] rfl rfl (by kernel_rfl) (fun _ _ _ h => h) (Or.inl ⟨by rfl, ?_⟩) hHeld ?_ ?_
 rotate_left
 ·intro w' s0
  go_simp
  with_reducible rfl
 rotate_left
 ·simp only [Act.put, sA_, sB_, sC_, i64_w, i32_w]
  rfl
 refine on_ 4 (some 10) fun K hK => ?_
 refine goes_ Tryz.func98 (by kernel_rfl) rfl #[.pointer (some ⟨X, 0, none⟩)] (by rfl) rfl rfl (by simp only [List.map_toArray, List.map_cons, List.map_nil]; rfl) ?_
 with_reducible refine (pop_rs hR).mono ?_
 rintro e wn ⟨rfl, q1, q2⟩
 refine ⟨_, rfl, ?_⟩
 replace hJ := IB.ch hJ hR q2
 replace hC := hC.trans q2
 replace hR := q1
 clear q1 q2
 refine hK.out _ _ (((blk_cell hJ 1).trans rfl)) (fun hHeld => ?_)
 clear hK K
 refine norm_ (a' := ?_) ?_ ?_
 rotate_left
 ·show Act.put _ (some 10) _ = _
  simp only [Act.put, sA_, sB_, sC_, i64_w, i32_w]
  rfl
 refine on_ 6 (some 12) fun K hK => ?_
 refine goes_ Tryz.func100 (by kernel_rfl) rfl #[.int .i64 i.f1, .int .i64 x, .int .i64 y] (by rfl) rfl rfl (by simp only [List.map_toArray, List.map_cons, List.map_nil]; rfl) ?_
 with_reducible refine (Gt.impl_two.calls i.f1 x y t _ ht).mono ?_
 rintro e wn ⟨rfl, q2⟩
 refine ⟨_, rfl, ?_⟩
 replace hJ := blk_below hJ q2
 replace hC := hC.trans (Ch.of q2)
 replace hR := hR.below q2
 clear q2
 refine hK.out _ _ (((blk_cell hJ 1).trans rfl)) (fun hHeld => ?_)
 clear hK K
 refine norm_ (a' := ?_) ?_ ?_
 rotate_left
 ·show Act.put _ (some 12) _ = _
  simp only [Act.put, sA_, sB_, sC_, i64_w, i32_w]
  rfl
 refine on_ 7 (some 13) fun K hK => ?_
 refine goes_ Tryz.func93 (by kernel_rfl) rfl #[.pointer (some ⟨X, 0, none⟩), .int .i64 t] (by rfl) rfl rfl (by simp only [List.map_toArray, List.map_cons, List.map_nil]; rfl) ?_
 with_reducible refine (push_rs t hR hl).mono ?_
 rintro e wn ⟨rfl, q1, q2⟩
 refine ⟨_, rfl, ?_⟩
 replace hJ := IB.ch hJ hR q2
 replace hC := hC.trans q2
 replace hR := q1
 clear q1 q2
 refine hK.out _ _ (((blk_cell hJ 1).trans rfl)) (fun hHeld => ?_)
 clear hK K
 refine norm_ (a' := ?_) ?_ ?_
 rotate_left
 ·show Act.put _ (some 13) _ = _
  simp only [Act.put, sA_, sB_, sC_, i64_w, i32_w]
  rfl
 refine done_ (by kernel_rfl) ?_
 go_wp2
 go_end0
 exact ⟨rfl, hR, hC⟩
set_option maxRecDepth 100000 in
set_option maxHeartbeats 6400000 in
theorem actNot {X g : Nat} {m : M3} {x : Int} {st : List Int} {p f : Int} {W : World} (h : RS X g m (x :: st) p f W) :
  Calls Tryz.prog 101 #[.pointer (some ⟨X, 0, none⟩)] W fun e w' => e = .returned (.tuple #[]) ∧ RS X g m (isI (!onI x) :: st) p f w' ∧ Ch X g W w' := by
 have hl : st.length < 12 := by have := h.le; simp only [List.length_cons] at this; omega
 have cc := pop_rs h
 go_enter Tryz.func101, Tryz.ntmps101
 go_wp2_with fail
 refine cc.mono ?_
 rintro e w1 ⟨rfl, hR, hC⟩
 go_wp2_with fail
 refine (Gt.impl_NumOn.calls x (onI x) w1 rfl).mono ?_
 rintro e w2 ⟨rfl, hd⟩
 replace hC := hC.trans (Ch.of hd.below)
 replace hR := hR.below hd.below
 clear hd
 go_wp2_with fail
 refine (Gt.impl_NumIs.calls (!onI x) (isI (!onI x)) w2 (isI_some _)).mono ?_
 rintro e w3 ⟨rfl, hd⟩
 replace hC := hC.trans (Ch.of hd.below)
 replace hR := hR.below hd.below
 clear hd
 go_wp2_with fail
 refine (push_rs (isI (!onI x)) hR hl).mono ?_
 rintro e w4 ⟨rfl, hR2, hC2⟩
 go_wp2
 go_end0
 exact ⟨rfl, hR2, hC.trans hC2⟩
set_option maxRecDepth 100000 in
set_option maxHeartbeats 6400000 in
theorem actSkip {X g I : Nat} {i : S30} {m : M3} {x : Int} {st : List Int} {p f : Int} {W : World} (h : RS X g m (x :: st) p f W) (hI : W.heap[I]? = some (.cells (IB i) 30 (0, 0))) :
  Calls Tryz.prog 104 #[.pointer (some ⟨X, 0, none⟩), .pointer (some ⟨I, 0, none⟩)] W fun e w' => e = .returned (.tuple #[]) ∧ RS X g m st (if onI x = true then p else i.f1) f w' ∧ Ch X g W w' := by
 have hu30 := Tryz.underlying30
 have hu65 := Tryz.underlying65
 have cc := pop_rs h
 cases hx : onI x with
 | true =>
  go_enter Tryz.func104, Tryz.ntmps104
  go_wp2_with fail
  refine cc.mono ?_
  rintro e w1 ⟨rfl, hR, hC⟩
  go_wp2_with fail
  refine (Gt.impl_NumOn.calls x true w1 (congrArg some hx)).mono ?_
  rintro e w2 ⟨rfl, hd⟩
  replace hC := hC.trans (Ch.of hd.below)
  replace hR := hR.below hd.below
  clear hd
  go_wp2
  go_end0
  exact ⟨rfl, hR, hC⟩
 | false =>
  go_enter Tryz.func104, Tryz.ntmps104
  go_wp2_with fail
  refine cc.mono ?_
  rintro e w1 ⟨rfl, hR, hC⟩
  go_wp2_with fail
  refine (Gt.impl_NumOn.calls x false w1 (congrArg some hx)).mono ?_
  rintro e w2 ⟨rfl, hd⟩
  replace hC := hC.trans (Ch.of hd.below)
  have hJ := IB.ch hI h hC
  replace hR := hR.below hd.below
  clear hd
  have c1 : w2.cell? ⟨I, 1, none⟩ = some (.int .i64 i.f1) := (blk_cell hJ 1).trans rfl
  have c14 := hR.c14
  have f14 := hR.f14
  go_wp2
  go_end0
  exact ⟨rfl, (hR.setp i.f1).1, hC.trans (hR.setp i.f1).2⟩
theorem jump_rs {X g I : Nat} {i : S30} {m : M3} {st : List Int} {p f : Int} {W : World} (h : RS X g m st p f W) (hI : W.heap[I]? = some (.cells (IB i) 30 (0, 0))) :
  Calls Tryz.prog 105 #[.pointer (some ⟨X, 0, none⟩), .pointer (some ⟨I, 0, none⟩)] W fun e w' => e = .returned (.tuple #[]) ∧ RS X g m st i.f1 f w' ∧ Ch X g W w' := by
 obtain ⟨hs, h1, h2, h3⟩ := h.H
 refine (actJump X g I i hs st.length p f W h3 hI h1).mono ?_
 rintro e w' ⟨rfl, hw⟩
 exact ⟨rfl, ⟨h.ln, h.ne, h.le, blk_kept h.G hw.kp (Ne.symm h.ne), hs, h1, h2, hw.at_⟩, Ch.wr hw⟩
theorem back_rs {X g I : Nat} {i : S30} {m : M3} {st : List Int} {p f : Int} {W : World} (h : RS X g m st p f W) (hI : W.heap[I]? = some (.cells (IB i) 30 (0, 0))) (h0 : 1 ≤ f) (h9 : f ≤ 100) :
  Calls Tryz.prog 106 #[.pointer (some ⟨X, 0, none⟩), .pointer (some ⟨I, 0, none⟩)] W fun e w' => e = .returned (.bool true) ∧ RS X g m st i.f1 (f - 1) w' ∧ Ch X g W w' := by
 obtain ⟨hs, h1, h2, h3⟩ := h.H
 refine (actBack X g I i hs st.length p f W h3 hI h1 h0 h9).mono ?_
 rintro e w' ⟨rfl, hw⟩
 exact ⟨rfl, ⟨h.ln, h.ne, h.le, blk_kept h.G hw.kp (Ne.symm h.ne), hs, h1, h2, hw.at_⟩, Ch.wr hw⟩
theorem do_any {X g : Nat} {i : S30} {v : Value} {m : M3} {st : List Int} {p fl : Nat} {W : World} {r : M3 × List Int} (hA : ActV W v i) (h : RS X g m st ((p + 1 : Nat) : Int) (fl : Int) W) (hd : doI i m st = some r)
  (h8 : ¬ (i.f0 = 8 ∧ fl = 0)) (hf : fl ≤ 100) (hg : ¬ (goes i st = true ∧ i.f1 < 0)) :
  ∃ F B, v = .func (.func F) #[] #[.pointer (some ⟨B, 0, none⟩)] ∧ (F = 91 ∨ F = 106) ∧ Calls Tryz.prog F #[.pointer (some ⟨X, 0, none⟩), .pointer (some ⟨B, 0, none⟩)] W fun e w' => e = .returned (.bool true) ∧ RS X g r.1 r.2 ((nx i st p : Nat) : Int) ((fu i fl : Nat) : Int) w' ∧ Ch X g W w' := by
 obtain ⟨I, hI, hA⟩ := hA
 unfold doI at hd
 rcases hA with ⟨hn, rfl⟩ | ⟨B, F, cap, rfl, hB, hA⟩
 ·rw [if_neg (by omega), if_neg (by omega), if_neg (by omega), if_neg (by omega), if_neg (by omega), if_neg (by omega)] at hd
  by_cases e8 : i.f0 = 7 ∨ i.f0 = 8
  rotate_left
  ·rw [if_neg e8] at hd; cases hd
  rw [if_pos e8] at hd
  cases hd
  have e8 : i.f0 = 8 := by omega
  have gg : goes i st = true := by unfold goes; rw [e8]; rfl
  have hg2 : ¬ i.f1 < 0 := fun k => hg ⟨gg, k⟩
  have en : ((nx i st p : Nat) : Int) = i.f1 := by unfold nx; rw [if_pos gg]; omega
  have ef : ((fu i fl : Nat) : Int) = (fl : Int) - 1 := by unfold fu; rw [if_pos e8]; omega
  rw [en, ef]
  exact ⟨106, I, rfl, .inr rfl, back_rs h hI (by omega) (by omega)⟩
 ·refine ⟨91, B, rfl, .inl rfl, ?_⟩
  rcases hA with ⟨e5, rfl, rfl⟩ | ⟨rfl, hA⟩
  ·rw [if_neg (by omega), if_neg (by omega), if_neg (by omega), if_neg (by omega), if_pos e5] at hd
   have en : ((nx i st p : Nat) : Int) = ((p + 1 : Nat) : Int) := by unfold nx goes; rw [e5]; rfl
   have ef : fu i fl = fl := by unfold fu; rw [if_neg (by omega)]
   rw [en, ef]
   match st, h, hd with
   | [], _, hd => cases hd
   | x :: s, h, hd =>
    cases hd
    exact on_101 X B W _ hB (actNot h)
  ·have ef : i.f0 ≠ 8 → fu i fl = fl := fun e => by unfold fu; rw [if_neg e]
   rcases hA with ⟨e, rfl⟩ | ⟨e, rfl⟩ | ⟨e, rfl⟩ | ⟨e, rfl⟩ | ⟨e, rfl⟩ | ⟨e, rfl⟩
   ·have en : ((nx i st p : Nat) : Int) = ((p + 1 : Nat) : Int) := by unfold nx goes; rw [e]; rfl
    rw [en, ef (by omega)]
    rw [if_pos e] at hd
    by_cases hl : st.length < 12
    ·rw [if_pos hl] at hd
     cases hd
     refine on_92 X B I W _ hB ?_
     obtain ⟨hs, h1, h2, h3⟩ := h.H
     exact actPush_rs h hI hl
    ·rw [if_neg hl] at hd; cases hd
   ·have en : ((nx i st p : Nat) : Int) = ((p + 1 : Nat) : Int) := by unfold nx goes; rw [e]; rfl
    rw [en, ef (by omega)]
    rw [if_neg (by omega), if_pos e] at hd
    by_cases hl : st.length < 12 ∧ aOk i.f2.f0 i.f2.f1 = true
    ·rw [if_pos hl] at hd
     cases hd
     exact on_94 X B I W _ hB (actLoad h hI hl.2 hl.1)
    ·rw [if_neg hl] at hd; cases hd
   ·have en : ((nx i st p : Nat) : Int) = ((p + 1 : Nat) : Int) := by unfold nx goes; rw [e]; rfl
    rw [en, ef (by omega)]
    rw [if_neg (by omega), if_neg (by omega), if_pos e] at hd
    match st, h, hd with
    | [], _, hd => cases hd
    | x :: s, h, hd =>
     by_cases hl : pOk i.f2.f0 i.f2.f1 = true
     ·simp only [if_pos hl] at hd
      cases hd
      exact on_96 X B I W _ hB (actStore h hI hl)
     ·simp only [if_neg hl] at hd; cases hd
   ·have en : ((nx i st p : Nat) : Int) = ((p + 1 : Nat) : Int) := by unfold nx goes; rw [e]; rfl
    rw [en, ef (by omega)]
    rw [if_neg (by omega), if_neg (by omega), if_neg (by omega), if_pos e] at hd
    match st, h, hd with
    | [], _, hd => cases hd
    | [_], _, hd => cases hd
    | y :: x :: s, h, hd =>
     cases ht : Gt.impl_two.f i.f1 x y with
     | none => simp only [ht] at hd; cases hd
     | some t =>
      simp only [ht] at hd
      cases hd
      exact on_99 X B I W _ hB (actTwo h hI ht)
   ·rw [ef (by omega)]
    rw [if_neg (by omega), if_neg (by omega), if_neg (by omega), if_neg (by omega), if_neg (by omega), if_pos e] at hd
    match st, h, hd, hg with
    | [], _, hd, _ => cases hd
    | x :: s, h, hd, hg =>
     cases hd
     have en : ((nx i (x :: s) p : Nat) : Int) = if onI x = true then ((p + 1 : Nat) : Int) else i.f1 := by
      have gg : goes i (x :: s) = !onI x := by unfold goes; rw [e]; rfl
      unfold nx
      rw [gg]
      rw [gg] at hg
      cases ho : onI x with
      | true => rfl
      | false =>
       rw [ho] at hg
       have : ¬ i.f1 < 0 := fun k => hg ⟨rfl, k⟩
       simp; omega
     rw [en]
     exact on_104 X B I W _ hB (actSkip h hI)
   ·rw [ef (by omega)]
    rw [if_neg (by omega), if_neg (by omega), if_neg (by omega), if_neg (by omega), if_neg (by omega), if_neg (by omega), if_pos (.inl e)] at hd
    cases hd
    have gg : goes i st = true := by unfold goes; rw [e]; rfl
    have hg2 : ¬ i.f1 < 0 := fun k => hg ⟨gg, k⟩
    have en : ((nx i st p : Nat) : Int) = i.f1 := by unfold nx; rw [if_pos gg]; omega
    rw [en]
    exact on_105 X B I W _ hB (jump_rs h hI)
theorem stop_any {X g : Nat} {i : S30} {v : Value} {m : M3} {st : List Int} {p : Int} {W : World} (hA : ActV W v i) (h : RS X g m st p 0 W) (h8 : i.f0 = 8) :
  ∃ B, v = .func (.func 106) #[] #[.pointer (some ⟨B, 0, none⟩)] ∧ Calls Tryz.prog 106 #[.pointer (some ⟨X, 0, none⟩), .pointer (some ⟨B, 0, none⟩)] W fun e w' => e = .returned (.bool false) ∧ w' = W := by
 obtain ⟨I, hI, hA⟩ := hA
 obtain ⟨hs, h1, h2, h3⟩ := h.H
 rcases hA with ⟨hn, rfl⟩ | ⟨B, F, cap, rfl, hB, hA⟩
 ·exact ⟨I, rfl, actBack0 X g I hs st.length p W h3 h1⟩
 ·exfalso; omega
end Go.Proofs.YtjamfddhcigchaaGreatDoor.Hq
namespace Go.Proofs.YtjamfddhcigchaaGreatDoor.Hu
open Go.RowKit  Go.Proofs.YtjamfddhcigchaaGreatDoor.Gm Go.Proofs.YtjamfddhcigchaaGreatDoor.Gn Go.Proofs.YtjamfddhcigchaaGreatDoor.Gz Go.Proofs.YtjamfddhcigchaaGreatDoor.Gq Go.Proofs.YtjamfddhcigchaaGreatDoor.Hj Go.Proofs.YtjamfddhcigchaaGreatDoor.Hm Go.Proofs.YtjamfddhcigchaaGreatDoor.Hq Go.Proofs.YtjamfddhcigchaaGreatDoor.HFnCodeRun Go.Proofs.YtjamfddhcigchaaGreatDoorW.PrintWords Go.Proofs.YtjamfddhcigchaaGreatDoorW.PrintLast Go.Proofs.YtjamfddhcigchaaGreatDoorW.PrintMore
set_option linter.unusedVariables false
set_option linter.unusedSimpArgs false
def fV (q : Nat × Nat) : Value := .func (.func q.1) #[] #[.pointer (some ⟨q.2, 0, none⟩)]
def kF : Kd (Nat × Nat) := Kd.scalar fV (fun _ => rfl)
theorem info69 : (Tryz.prog.info? 69).map (fun i => (i.zero, i.size, i.bytes)) = some (some .nilFunc, 1, 8) := by kernel_rfl
theorem ActV.fv {W : World} {v : Value} {i : S30} (h : ActV W v i) : ∃ q, v = fV q := by
 obtain ⟨I, _, ⟨_, rfl⟩ | ⟨B, F, cap, rfl, _⟩⟩ := h
 ·exact ⟨(106, I), rfl⟩
 ·exact ⟨(91, B), rfl⟩
theorem ActV.below {W W' : World} {v : Value} {i : S30} (h : ActV W v i) (k : Below W.heap.size W W') : ActV W' v i :=
 h.kept ((Kept.refl W (fun _ => False)).below k) (fun _ _ _ e => e)
theorem ActV.grown {W W' : World} {v : Value} {i : S30} {row : Option Nat} (h : ActV W v i) (hg : W.grownBy W' row) (hr : ∀ k, row = some k → ∃ cells, W.heap[k]? = some (.cells cells 69 (0, 0))) : ActV W' v i := by
 have key : ∀ (b : Nat) (cs : Array Value) (t : TypeId), t ≠ 69 → W.heap[b]? = some (.cells cs t (0, 0)) → W'.heap[b]? = some (.cells cs t (0, 0)) := by
  intro b cs t ht hb
  refine (hg.block b (blk_lt hb) ?_).trans hb
  intro e
  obtain ⟨cells, hc⟩ := hr b e.symm
  rw [hb] at hc
  injection hc with hc
  injection hc with _ hc
  exact ht hc
 obtain ⟨I, hI, h⟩ := h
 refine ⟨I, key I _ _ (by decide) hI, ?_⟩
 rcases h with h | ⟨B, F, cap, e, hB, h⟩
 ·exact .inl h
 ·exact .inr ⟨B, F, cap, e, key B _ _ (by decide) hB, h⟩
theorem getD_snoc {qs : List (Nat × Nat)} {q : Nat × Nat} (j : Nat) (h : j < qs.length) : (qs ++ [q]).getD j (0, 0) = qs.getD j (0, 0) := by
 rw [List.getD_eq_getElem?_getD, List.getD_eq_getElem?_getD, List.getElem?_append_left h]
theorem getD_last {qs : List (Nat × Nat)} {q : Nat × Nat} : (qs ++ [q]).getD qs.length (0, 0) = q := by
 rw [List.getD_eq_getElem?_getD]; simp
set_option maxRecDepth 100000 in
set_option maxHeartbeats 6400000 in
theorem acts_any (A : Option Addr) (cc : Nat) (ps : List S30) (w : World) (hr : Kd.C k30 w A ps.length ps) (hle : ps.length ≤ 1000) :
  Calls Tryz.prog 37 #[.slice A ps.length cc] w fun e w' => ∃ v qs, e = .returned v ∧ Kd.R kF 69 w' w.heap.size (fun _ => True) v qs ∧ qs.length = ps.length ∧ (∀ j : Nat, j < ps.length → ActV w' (fV (qs.getD j (0, 0))) (rd_T30 ps j)) ∧ Below w.heap.size w w' := by
 have hu30 := Tryz.underlying30
 have hle' := Aside0.mk hle
 clear hle
 go_enter Tryz.func37, Tryz.ntmps37
 go_wp2_with fail
 go_loopw [3, 8] (fun v i wr => ∃ (k : Nat) (qs : List (Nat × Nat)), k ≤ ps.length ∧ i = .int .i64 (k : Int) ∧ Aside0 (qs.length = k) ∧ Kd.R kF 69 wr w.heap.size (fun _ => True) v qs ∧ Aside0 (∀ j : Nat, j < k → ActV wr (fV (qs.getD j (0, 0))) (rd_T30 ps j)) ∧ Below w.heap.size w wr) (fun _ i _ => ps.length - (intOf i).toNat)
 case atStart => exact ⟨0, [], by omega, rfl, ⟨rfl⟩, Kd.R_nil _ _ _ _ _, ⟨fun j hj => by omega⟩, Below.refl _ _⟩
 case round =>
  obtain ⟨k, qs, hk, rfl, hq, hR, hact, hB⟩ := hrel
  obtain ⟨A1, c1, rfl⟩ := Kd.R_slice hR
  by_cases hkn : k < ps.length
  ·have d2 : decide (k < ps.length) = true := by simpa using hkn
   obtain ⟨ad, hA, e0, e1, e2, e3⟩ := at_T30 (Kd.C_below hr hB) (k : Int) (by omega) (by omega)
   subst hA
   rw [Int.toNat_natCast] at e0 e1 e2 e3
   obtain ⟨ins, hins⟩ : ∃ ins, rd_T30 ps (k : Int) = ins := ⟨_, rfl⟩
   rw [hins] at e0 e1 e2 e3
   have hins' := Aside0.mk hins
   have hkn' := Aside0.mk hkn
   have w1_ : wrap64 ((k : Int) + 1) = ((k + 1 : Nat) : Int) := by have := hle'.out; unfold wrap64; omega
   clear hins hk
   go_upto_region 5 with (fail)
   try clear hkn
   have n7 := heap_alloc_new wr (Obj.cells #[.int .i64 ins.f0, .int .i64 ins.f1, .int .i64 ins.f2.f0, .int .i64 ins.f2.f1] 30)
   have hR2 : Kd.R kF 69 (wr.alloc (Obj.cells #[.int .i64 ins.f0, .int .i64 ins.f1, .int .i64 ins.f2.f0, .int .i64 ins.f2.f1] 30)) w.heap.size (fun _ => True) _ qs := Kd.R_alloc hR _
   have hb1 : Below wr.heap.size wr (wr.alloc (Obj.cells #[.int .i64 ins.f0, .int .i64 ins.f1, .int .i64 ins.f2.f0, .int .i64 ins.f2.f1] 30)) := (Below.refl _ _).alloc (Nat.le_refl _) _
   have hB2 := hB.trans (hb1.mono hB.size)
   have hact2 : Aside0 (∀ j : Nat, j < k → ActV (wr.alloc (Obj.cells #[.int .i64 ins.f0, .int .i64 ins.f1, .int .i64 ins.f2.f0, .int .i64 ins.f2.f1] 30)) (fV (qs.getD j (0, 0))) (rd_T30 ps j)) := ⟨fun j hj => ActV.below (hact.out j hj) hb1⟩
   generalize wr.alloc (Obj.cells _ 30) = w2 at n7 hR2 hB2 hact2 ⊢
   generalize wr.heap.size = g7 at n7 ⊢
   have z0 : w2.cell? ⟨g7, 0, none⟩ = some (.int .i64 ins.f0) := (blk_cell n7 0).trans rfl
   have z1 : w2.cell? ⟨g7, 1, none⟩ = some (.int .i64 ins.f1) := (blk_cell n7 1).trans rfl
   have z2 : w2.cell? ⟨g7, 2, none⟩ = some (.int .i64 ins.f2.f0) := (blk_cell n7 2).trans rfl
   have z3 : w2.cell? ⟨g7, 3, none⟩ = some (.int .i64 ins.f2.f1) := (blk_cell n7 3).trans rfl
   clear hR hB hact hb1 e0 e1 e2 e3
   go_wp2_with fail
   refine (act_any ins w2).mono ?_
   rintro e w3 ⟨v, rfl, hv, hb3⟩
   obtain ⟨q, rfl⟩ := ActV.fv hv
   have hR3 := Kd.R_below hR2 hb3
   have hB3 := hB2.trans (hb3.mono hB2.size)
   have hact3 : Aside0 (∀ j : Nat, j < k → ActV w3 (fV (qs.getD j (0, 0))) (rd_T30 ps j)) := ⟨fun j hj => ActV.below (hact2.out j hj) hb3⟩
   have hv' := Aside0.mk hv
   have hR3' := Aside0.mk hR3
   have hB3' := Aside0.mk hB3
   clear hR2 hB2 hact2 hb3 n7 hv hR3 hB3 z0 z1 z2 z3
   unfold fV
   go_wp2_with ((with_reducible refine gate_builtin (b := .append) (xs := #[.tmp 12, .tmp 15]) rfl ?_); at_builtin; refine Kd.R_append kF w.heap.size rfl (.tmp 12) (.tmp 15) 66 69 .nilFunc 8 rfl Tryz.underlying66 info69 rfl (by decide) (by omega) (.slice A1 qs.length c1) qs q [fV q] (fun _ => True) (fun _ => False) rfl rfl ?aP (fun _ hk => hk.elim) (fun _ _ => trivial) ?aO (Below.refl _ _) ?aS ?aL ?_; (case aP => exact rfl); (case aO => exact hR3'.out); (case aS => exact hB3'.out.size); (case aL => have := hle'.out; have := hkn'.out; have := hq.out; omega); intro v1 w4 ho hb hg hat)
   have typ : ∀ b, (Value.slice A1 qs.length c1).ownBlock = some b → ∃ cells, w3.heap[b]? = some (.cells cells 69 (0, 0)) := fun b hb_ => by
    obtain ⟨inner, hown⟩ := Kd.R_own hR3'.out
    exact own_typed hown b hb_
   rw [w1_]
   refine ⟨⟨k + 1, qs ++ [q], by have := hkn'.out; omega, rfl, ⟨by have := hq.out; simp; omega⟩, ho, ⟨fun j hj => ?_⟩, hB3'.out.trans hb⟩, ?_⟩
   ·by_cases hjk : j < k
    ·rw [getD_snoc j (by have := hq.out; omega)]
     exact ActV.grown (hact3.out j hjk) hg typ
    ·obtain rfl : j = k := by omega
     rw [hins'.out, ← hq.out, getD_last]
     exact ActV.grown hv'.out hg typ
   ·have := hkn'.out
    simp only [intOf]
    omega
  ·have d2 : decide (k < ps.length) = false := by simpa using hkn
   obtain rfl : k = ps.length := by omega
   go_wp2
   go_ret
   exact ⟨_, qs, rfl, hR, hq.out, hact.out, hB⟩
end Go.Proofs.YtjamfddhcigchaaGreatDoor.Hu
namespace Go.Proofs.YtjamfddhcigchaaGreatDoor.Hi
open Go.RowKit Go.Extern.Stop Go.Stop Go.Extern
theorem isTypeOf (v : Value) (w : World) : (Extern.ReflectliteType.typeOf #[.iface 170 v]).run Tryz.prog w = .ok (.iface 150 (.agg #[.pointer (some ⟨1, 170, none⟩)])) w := by kernel_rfl
theorem isComparable (w : World) : ((Extern.ReflectliteType.method fun t => do Extern.Rtype.noPackHeld "Comparable" t; pure (.bool (← typeInfo t).comparable)) #[.agg #[.pointer (some ⟨1, 170, none⟩)]]).run Tryz.prog w = .ok (.bool true) w := by kernel_rfl
theorem isMethodComparable (v : Value) (w : World) : (Go.method 307 150 v "Comparable").run Tryz.prog w = .ok (158, v) w := by kernel_rfl
theorem isComp : (Tryz.prog.info? 170).map (·.comparable) = some true := by kernel_rfl
theorem isSize : (Tryz.prog.info? 195).map (·.size) = some 1 := by kernel_rfl
set_option maxRecDepth 100000 in
theorem is_same (a : Addr) (w : World) :
    Calls Tryz.prog 65 #[.iface 170 (.pointer (some a)), .iface 170 (.pointer (some a))] w fun e w' => e = .returned (.bool true) ∧ w' = w := by
  obtain ⟨i, hi, hcmp⟩ := Option.map_eq_some_iff.1 isComp
  obtain ⟨j, hj, hjs⟩ := Option.map_eq_some_iff.1 isSize
  have h8 := @run_callFunc_extern Tryz.prog 107 _ Extern.ReflectliteType.typeOf Tryz.func107 (by kernel_rfl) (by kernel_rfl) (by kernel_rfl) (by kernel_rfl)
  have h32 : ∀ w : World, Sem.run Tryz.prog (callFunc 158 #[.agg #[.pointer (some ⟨1, 170, none⟩)]]) w = .ok (Next.value (.bool true)) w := fun w => by
    rw [@run_callFunc_extern Tryz.prog 158 _ (Extern.ReflectliteType.method fun t => do Extern.Rtype.noPackHeld "Comparable" t; pure (.bool (← typeInfo t).comparable)) Tryz.func158 (by kernel_rfl) (by kernel_rfl) (by kernel_rfl) (by kernel_rfl), isComparable]
    rfl
  have tT := isTypeOf
  have mR := isMethodComparable
  have heq := run_eql_iface_ptr_same (P := Tryz.prog) w a Tryz.underlying72 Tryz.underlying170 hi hcmp hj
  go_enter Tryz.func65, Tryz.ntmps65
  go_wp2
  refine wp_loop_rounds 1 ?_
  rw [rounds_succ]
  go_wp2
  go_ret
  exact ⟨rfl, rfl⟩
theorem is_nil (b : Addr) (w : World) :
    Calls Tryz.prog 65 #[.nilIface, .iface 170 (.pointer (some b))] w fun e w' => e = .returned (.bool false) ∧ w' = w := by
  have hn := run_eql_iface_nil_left (P := Tryz.prog) w 170 (.pointer (some b)) Tryz.underlying72
  go_enter Tryz.func65, Tryz.ntmps65
  go_wp2
  go_ret
  exact ⟨rfl, rfl⟩
end Go.Proofs.YtjamfddhcigchaaGreatDoor.Hi
namespace Go.Proofs.YtjamfddhcigchaaGreatDoor.Hv
open Go.RowKit  Go.Proofs.YtjamfddhcigchaaGreatDoor.Gm Go.Proofs.YtjamfddhcigchaaGreatDoor.Gn Go.Proofs.YtjamfddhcigchaaGreatDoor.Gz Go.Proofs.YtjamfddhcigchaaGreatDoor.Gq Go.Proofs.YtjamfddhcigchaaGreatDoor.Hj Go.Proofs.YtjamfddhcigchaaGreatDoor.Hm Go.Proofs.YtjamfddhcigchaaGreatDoor.Hq Go.Proofs.YtjamfddhcigchaaGreatDoor.Hu Go.Proofs.YtjamfddhcigchaaGreatDoor.HFnCodeRun Go.Proofs.YtjamfddhcigchaaGreatDoorW.PrintWords Go.Proofs.YtjamfddhcigchaaGreatDoorW.PrintLast Go.Proofs.YtjamfddhcigchaaGreatDoorW.PrintMore
set_option linter.unusedVariables false
set_option linter.unusedSimpArgs false
def LE (w : World) : Prop := ∃ e : Addr, w.cell? ⟨0, 0, none⟩ = some (.iface 170 (.pointer (some e)))
theorem LE.below {w w' : World} (h : LE w) (k : Below w.heap.size w w') : LE w' := by
 obtain ⟨e, he⟩ := h
 exact ⟨e, (k.cell (World.block_lt_of_cell? w _ he)).trans he⟩
theorem results_crtt {P : Program} {fn : Func} {p u v : Tmp} {ty : TypeId} (h : fn.results = #[.cell p ty, .tmp u, .tmp v]) (tmps : Array Value) (w : World) (g : Nat) (t : TypeId) (cs : Array Value) (fr : Nat × Nat) (d : TypeDesc)
  (hp : tmps.getD p undef = .pointer (some ⟨g, 0, none⟩)) (hg : w.heap[g]? = some (.cells cs t fr))
  (hu : P.underlying ty = some d) (hd : (match d with | .struct _ | .array _ _ => true | _ => false) = true) (hi : (P.info? ty).map (·.size) = some cs.size) :
  (results fn tmps).run P w = .ok (.tuple #[.agg cs, tmps.getD u undef, tmps.getD v undef]) w := by
 have hp' : tmps[p]?.getD undef = .pointer (some ⟨g, 0, none⟩) := by simpa using hp
 simp [results, h, hp', asAddr, run_loadVar_row w g t ty cs fr d hg hu hd hi]
set_option maxRecDepth 100000 in
set_option maxHeartbeats 6400000 in
theorem ended_long (g : Nat) (a b c : List Int) (w : World) (E : Addr) (ha : a.length = 6) (hb : b.length = 6) (hc : c.length = 6) (hg : w.heap[g]? = some (.cells (mA a b c) 82 (0, 0))) (he : w.cell? ⟨0, 0, none⟩ = some (.iface 170 (.pointer (some E)))) :
  Calls Tryz.prog 38 #[.pointer (some ⟨g, 0, none⟩), .int .i64 0, .iface 170 (.pointer (some E))] w fun e w' => ∃ v0 v1 v2, e = .returned (.tuple #[.agg #[v0, v1, v2], .int .i64 1, .int .i64 0]) ∧ Mem3 w w' v0 v1 v2 a b c ∧ Below w.heap.size w w' := by
 have hu33 := Tryz.underlying33
 have k1 : Below w.heap.size w (w.alloc (.cells #[.slice none 0 0, .slice none 0 0, .slice none 0 0] 33)) := (Below.refl _ _).alloc (Nat.le_refl _) _
 have hz := heap_alloc_new w (.cells #[.slice none 0 0, .slice none 0 0, .slice none 0 0] 33)
 have hg1 := blk_below hg k1
 have he1 : (w.alloc (.cells #[.slice none 0 0, .slice none 0 0, .slice none 0 0] 33)).cell? ⟨0, 0, none⟩ = some (.iface 170 (.pointer (some E))) := (k1.cell (World.block_lt_of_cell? w _ he)).trans he
 go_enter Tryz.func38, Tryz.ntmps38
 go_wp2_with fail
 refine (Hi.is_same E _).mono ?_
 rintro e w2 ⟨rfl, rfl⟩
 generalize w.alloc _ = w1 at hz hg1 he1 k1 ⊢
 go_wp2_with fail
 refine (mem_any g a b c w1 ha hb hc hg1).mono ?_
 rintro e w3 ⟨v0, v1, v2, rfl, hM, hb3⟩
 obtain ⟨A0, c0, rfl⟩ := R_len (n := 6) hM.1 ha
 obtain ⟨A1, c1, rfl⟩ := R_len (n := 6) hM.2.1 hb
 obtain ⟨A2, c2, rfl⟩ := R_len (n := 6) hM.2.2 hc
 have hz3 := blk_below hz hb3
 have hB3 := k1.trans (hb3.mono k1.size)
 obtain ⟨z, hzz⟩ : ∃ z, w.heap.size = z := ⟨_, rfl⟩
 rw [hzz] at hz3 ⊢
 clear hz
 have i0 : w3.cell? ⟨z, 0, none⟩ = some (.slice none 0 0) := (blk_cell hz3 0).trans rfl
 have i1 : w3.cell? ⟨z, 1, none⟩ = some (.slice none 0 0) := (blk_cell hz3 1).trans rfl
 have i2 : w3.cell? ⟨z, 2, none⟩ = some (.slice none 0 0) := (blk_cell hz3 2).trans rfl
 have j0 : w3.frozen? ⟨z, 0, none⟩ = false := blk_frozen hz3 0
 have j1 : w3.frozen? ⟨z, 1, none⟩ = false := blk_frozen hz3 1
 have j2 : w3.frozen? ⟨z, 2, none⟩ = false := blk_frozen hz3 2
 have hE2 := mem3_store k1.size hM hz3
 have hzz2 := res_store hz3 (.slice A0 6 c0) (.slice A1 6 c1) (.slice A2 6 c2)
 have hzl2 : w.heap.size ≤ z := Nat.le_of_eq hzz
 have hbl := below_set (j := 2) (v := .slice A2 6 c2) (below_set (j := 1) (v := .slice A1 6 c1) (below_set (j := 0) (v := .slice A0 6 c0) hB3 hzl2) hzl2) hzl2
 go_wp2
 refine bodyPost_ret (results_crtt rfl _ _ z 33 #[.slice A0 6 c0, .slice A1 6 c1, .slice A2 6 c2] (0, 0) _ rfl hzz2 Tryz.underlying33 rfl (by kernel_rfl)) rfl ⟨_, _, _, rfl, hE2, hbl⟩
set_option maxRecDepth 100000 in
set_option maxHeartbeats 6400000 in
theorem ended_fine (g : Nat) (fl : Int) (a b c : List Int) (w : World) (E : Addr) (ha : a.length = 6) (hb : b.length = 6) (hc : c.length = 6) (hg : w.heap[g]? = some (.cells (mA a b c) 82 (0, 0))) (he : w.cell? ⟨0, 0, none⟩ = some (.iface 170 (.pointer (some E)))) :
  Calls Tryz.prog 38 #[.pointer (some ⟨g, 0, none⟩), .int .i64 fl, .nilIface] w fun e w' => ∃ v0 v1 v2, e = .returned (.tuple #[.agg #[v0, v1, v2], .int .i64 0, .int .i64 fl]) ∧ Mem3 w w' v0 v1 v2 a b c ∧ Below w.heap.size w w' := by
 have hu33 := Tryz.underlying33
 have k1 : Below w.heap.size w (w.alloc (.cells #[.slice none 0 0, .slice none 0 0, .slice none 0 0] 33)) := (Below.refl _ _).alloc (Nat.le_refl _) _
 have hz := heap_alloc_new w (.cells #[.slice none 0 0, .slice none 0 0, .slice none 0 0] 33)
 have hg1 := blk_below hg k1
 have he1 : (w.alloc (.cells #[.slice none 0 0, .slice none 0 0, .slice none 0 0] 33)).cell? ⟨0, 0, none⟩ = some (.iface 170 (.pointer (some E))) := (k1.cell (World.block_lt_of_cell? w _ he)).trans he
 go_enter Tryz.func38, Tryz.ntmps38
 go_wp2_with fail
 refine (Hi.is_nil E _).mono ?_
 rintro e w2 ⟨rfl, rfl⟩
 generalize w.alloc _ = w1 at hz hg1 he1 k1 ⊢
 go_wp2_with fail
 refine (mem_any g a b c w1 ha hb hc hg1).mono ?_
 rintro e w3 ⟨v0, v1, v2, rfl, hM, hb3⟩
 obtain ⟨A0, c0, rfl⟩ := R_len (n := 6) hM.1 ha
 obtain ⟨A1, c1, rfl⟩ := R_len (n := 6) hM.2.1 hb
 obtain ⟨A2, c2, rfl⟩ := R_len (n := 6) hM.2.2 hc
 have hz3 := blk_below hz hb3
 have hB3 := k1.trans (hb3.mono k1.size)
 obtain ⟨z, hzz⟩ : ∃ z, w.heap.size = z := ⟨_, rfl⟩
 rw [hzz] at hz3 ⊢
 clear hz
 have i0 : w3.cell? ⟨z, 0, none⟩ = some (.slice none 0 0) := (blk_cell hz3 0).trans rfl
 have i1 : w3.cell? ⟨z, 1, none⟩ = some (.slice none 0 0) := (blk_cell hz3 1).trans rfl
 have i2 : w3.cell? ⟨z, 2, none⟩ = some (.slice none 0 0) := (blk_cell hz3 2).trans rfl
 have j0 : w3.frozen? ⟨z, 0, none⟩ = false := blk_frozen hz3 0
 have j1 : w3.frozen? ⟨z, 1, none⟩ = false := blk_frozen hz3 1
 have j2 : w3.frozen? ⟨z, 2, none⟩ = false := blk_frozen hz3 2
 have hE2 := mem3_store k1.size hM hz3
 have hzz2 := res_store hz3 (.slice A0 6 c0) (.slice A1 6 c1) (.slice A2 6 c2)
 have hzl2 : w.heap.size ≤ z := Nat.le_of_eq hzz
 have hbl := below_set (j := 2) (v := .slice A2 6 c2) (below_set (j := 1) (v := .slice A1 6 c1) (below_set (j := 0) (v := .slice A0 6 c0) hB3 hzl2) hzl2) hzl2
 go_wp2
 refine bodyPost_ret (results_crtt rfl _ _ z 33 #[.slice A0 6 c0, .slice A1 6 c1, .slice A2 6 c2] (0, 0) _ rfl hzz2 Tryz.underlying33 rfl (by kernel_rfl)) rfl ⟨_, _, _, rfl, hE2, hbl⟩
end Go.Proofs.YtjamfddhcigchaaGreatDoor.Hv
namespace Go.Proofs.YtjamfddhcigchaaGreatDoor.Ho
open Go.RowKit  Go.Proofs.YtjamfddhcigchaaGreatDoor.Gm Go.Proofs.YtjamfddhcigchaaGreatDoor.Gn Go.Proofs.YtjamfddhcigchaaGreatDoor.Gz Go.Proofs.YtjamfddhcigchaaGreatDoor.Gq Go.Proofs.YtjamfddhcigchaaGreatDoor.Hj Go.Proofs.YtjamfddhcigchaaGreatDoor.Hm Go.Proofs.YtjamfddhcigchaaGreatDoor.Hn Go.Proofs.YtjamfddhcigchaaGreatDoor.Hq Go.Proofs.YtjamfddhcigchaaGreatDoor.Hu Go.Proofs.YtjamfddhcigchaaGreatDoor.Hv Go.Proofs.YtjamfddhcigchaaGreatDoor.Hc Go.Proofs.YtjamfddhcigchaaGreatDoor.Hp Go.Proofs.YtjamfddhcigchaaGreatDoor.HFnCodeRun Go.Proofs.YtjamfddhcigchaaGreatDoorW.PrintWords Go.Proofs.YtjamfddhcigchaaGreatDoorW.PrintLast Go.Proofs.YtjamfddhcigchaaGreatDoorW.PrintMore
set_option linter.unusedVariables false
set_option linter.unusedSimpArgs false
def Row (W : World) (A : Option Addr) (ps : List S30) : Prop := ∀ j : Nat, j < ps.length → ∃ (b : Nat) (cur : Array Value) (q : Nat × Nat), A = some ⟨b, 0, none⟩ ∧ W.heap[b]? = some (.cells cur 69 (0, 0)) ∧ cur[j]? = some (fV q) ∧ ActV W (fV q) (rd_T30 ps j)
theorem row_of {W : World} {base : Nat} {ok : Nat → Prop} {v : Value} {qs : List (Nat × Nat)} {ps : List S30} (hR : Kd.R kF 69 W base ok v qs) (hq : qs.length = ps.length) (hact : ∀ j : Nat, j < ps.length → ActV W (fV (qs.getD j (0, 0))) (rd_T30 ps j)) :
  ∃ A c, v = .slice A ps.length c ∧ Row W A ps := by
 obtain ⟨A, c, rfl⟩ := Kd.R_slice hR
 have ho := Kd.own_of_R hR
 refine ⟨A, c, by rw [hq], fun j hj => ?_⟩
 obtain ⟨h1, ⟨e, h2⟩ | ⟨b, cap, cur, e, _, hb, _, _, _, ht⟩⟩ := ho
 ·omega
 ·injection e with e1 e2 e3
  subst e1
  refine ⟨b, cur, qs.getD j (0, 0), rfl, hb, ?_, hact j hj⟩
  have h := encs_get (d := ((0, 0) : Nat × Nat)) (enc := fV) qs j (by omega)
  rw [← ht, Nat.mul_one, List.getElem?_take_of_lt (by omega)] at h
  simpa using h
theorem typ_ne {W : World} {a b : Nat} {cs cs' : Array Value} {t t' : TypeId} (h : W.heap[a]? = some (.cells cs t (0, 0))) (k : W.heap[b]? = some (.cells cs' t' (0, 0))) (ht : t ≠ t') : a ≠ b := by
 rintro rfl
 rw [h] at k
 injection k with k
 injection k with _ k
 exact ht k
theorem RS.nt {X g : Nat} {m : M3} {st : List Int} {p f : Int} {W : World} (h : RS X g m st p f W) {b : Nat} {cs : Array Value} {t : TypeId} (hb : W.heap[b]? = some (.cells cs t (0, 0))) (h1 : t ≠ 65) (h2 : t ≠ 82) : ¬ (b = X ∨ b = g) := by
 obtain ⟨hs, _, _, h3⟩ := h.H
 rintro (e | e)
 ·exact typ_ne hb h3 h1 e
 ·exact typ_ne hb h.G h2 e
theorem ActV.ch {X g : Nat} {m : M3} {st : List Int} {p f : Int} {W W' : World} {v : Value} {i : S30} (h : ActV W v i) (hR : RS X g m st p f W) (k : Ch X g W W') : ActV W' v i := by
 refine ActV.kept h k.kp ?_
 rintro b2 - ⟨cs, hb2 | hb2⟩
 ·exact RS.nt hR hb2 (by decide) (by decide)
 ·exact RS.nt hR hb2 (by decide) (by decide)
theorem Row.ch {X g : Nat} {m : M3} {st : List Int} {p f : Int} {W W' : World} {A : Option Addr} {ps : List S30} (h : Row W A ps) (hR : RS X g m st p f W) (k : Ch X g W W') : Row W' A ps := fun j hj => by
 obtain ⟨b, cur, q, e, hb, hc, ha⟩ := h j hj
 exact ⟨b, cur, q, e, blk_kept hb k.kp (RS.nt hR hb (by decide) (by decide)), hc, ActV.ch ha hR k⟩
structure LS (w : World) (X g z : Nat) (A : Option Addr) (ps : List S30) (m : M3) (st : List Int) (p f : Int) (W : World) : Prop where
 rs : RS X g m st p f W
 row : Row W A ps
 zz : W.heap[z]? = some (.cells Z3 33 (0, 0))
 zb : w.heap.size ≤ z
 xb : w.heap.size ≤ X
 gb : w.heap.size ≤ g
 be : Below w.heap.size w W
theorem LS.ch {w : World} {X g z : Nat} {A : Option Addr} {ps : List S30} {m m' : M3} {st st' : List Int} {p p' f f' : Int} {W W' : World} (h : LS w X g z A ps m st p f W) (k : Ch X g W W') (r : RS X g m' st' p' f' W') : LS w X g z A ps m' st' p' f' W' :=
 ⟨r, h.row.ch h.rs k, blk_kept h.zz k.kp (RS.nt h.rs h.zz (by decide) (by decide)), h.zb, h.xb, h.gb, h.be.trans (k.bl _ h.xb h.gb h.be.size)⟩
set_option maxRecDepth 100000 in
set_option maxHeartbeats 6400000 in
theorem codeRun_good (A0 A1 A2 : Option Addr) (c0 c1 c2 : Nat) (l0 l1 l2 : List Int) (B : Option Addr) (cc : Nat) (ps : List S30) (fuel : Int) (w : World) (q : M3 × Int × Nat) (E : Addr) (he : w.cell? ⟨0, 0, none⟩ = some (.iface 170 (.pointer (some E))))
  (hr0 : Kd.C (Kd.int .i64) w A0 l0.length l0) (hr1 : Kd.C (Kd.int .i64) w A1 l1.length l1) (hr2 : Kd.C (Kd.int .i64) w A2 l2.length l2) (hp : Kd.C k30 w B ps.length ps) (hcc : ps.length ≤ cc) (hm : okM l0 l1 l2 = true) (hb : okB ps = true) (hf0 : 0 ≤ fuel) (hf1 : fuel ≤ 100)
  (G : Nat) (hq : runI ps G ⟨l0, l1, l2⟩ [] 0 fuel.toNat = some q) (hle : ps.length ≤ 1000) :
  Calls Tryz.prog 12 #[.agg #[.slice A0 l0.length c0, .slice A1 l1.length c1, .slice A2 l2.length c2], .slice B ps.length cc, .int .i64 fuel] w fun e w' => ∃ v0 v1 v2, e = .returned (.tuple #[.agg #[v0, v1, v2], .int .i64 q.2.1, .int .i64 (q.2.2 : Int)]) ∧ Mem3 w w' v0 v1 v2 q.1.a q.1.b q.1.c ∧ Below w.heap.size w w' := by
 have hu33 := Tryz.underlying33
 have hu65 := Tryz.underlying65
 have rd := fun W (k : Below w.heap.size w W) => readMem_any A0 A1 A2 c0 c1 c2 l0 l1 l2 W (Kd.C_below hr0 k) (Kd.C_below hr1 k) (Kd.C_below hr2 k)
 have ok := fun W (k : Below w.heap.size w W) => codeOk_any B cc ps W (Kd.C_below hp k) hcc
 have ac := fun W (k : Below w.heap.size w W) => acts_any B cc ps W (Kd.C_below hp k) hle
 have E_ := fun W (k : Below w.heap.size w W) => (k.cell (World.block_lt_of_cell? w _ he)).trans he
 rw [hb] at ok
 have d1 : decide (fuel < 0) = false := by simpa using hf0
 have d2 : decide (fuel > 100) = false := by simpa using hf1
 have hf1' := Aside0.mk hf1
 have hf0' := Aside0.mk hf0
 have hle' := Aside0.mk hle
 clear hr0 hr1 hr2 hp hcc hb he hf0 hf1 hle
 go_enter Tryz.func12, Tryz.ntmps12
 go_wp2_with fail
 have hZ : ((w.alloc (.cells #[.slice A0 l0.length c0, .slice A1 l1.length c1, .slice A2 l2.length c2] 33)).alloc (.cells #[.slice none 0 0, .slice none 0 0, .slice none 0 0] 33)).heap[w.heap.size + 1]? = some (.cells #[.slice none 0 0, .slice none 0 0, .slice none 0 0] 33 (0, 0)) := by
  have h := heap_alloc_new (w.alloc (.cells #[.slice A0 l0.length c0, .slice A1 l1.length c1, .slice A2 l2.length c2] 33)) (.cells #[.slice none 0 0, .slice none 0 0, .slice none 0 0] 33)
  rwa [show (w.alloc (.cells #[.slice A0 l0.length c0, .slice A1 l1.length c1, .slice A2 l2.length c2] 33)).heap.size = w.heap.size + 1 from Array.size_push ..] at h
 have k1 : Below w.heap.size w ((w.alloc (.cells #[.slice A0 l0.length c0, .slice A1 l1.length c1, .slice A2 l2.length c2] 33)).alloc (.cells #[.slice none 0 0, .slice none 0 0, .slice none 0 0] 33)) := ((Below.refl _ _).alloc (Nat.le_refl _) _).alloc (by rw [show (w.alloc _).heap.size = w.heap.size + 1 from Array.size_push ..]; omega) _
 generalize (w.alloc _).alloc _ = w1 at hZ k1 ⊢
 refine (rd _ k1).mono ?_
 rintro e w2 ⟨h1, -, hb⟩
 obtain ⟨g, rfl, hg, hgs⟩ := h1 hm
 have hgs' : w.heap.size ≤ g := by have := below_size k1; omega
 replace hZ := blk_below hZ hb
 replace k1 := k1.trans (hb.mono k1.size)
 obtain ⟨n0, n1, n2⟩ := okM_len hm
 rw [mM_eq n0 n1 n2] at hg
 clear h1 hb rd hgs
 go_wp2_with fail
 refine (ok _ k1).mono ?_
 rintro e w3 ⟨rfl, hb⟩
 replace hZ := blk_below hZ hb
 replace hg := blk_below hg hb
 replace k1 := k1.trans (hb.mono k1.size)
 clear hb ok
 go_wp2_with fail
 have kb : Below w.heap.size w (w3.alloc (.cells (PC g (List.replicate 12 0) 0 0 fuel) 65)) := k1.alloc k1.size _
 have hX := heap_alloc_new w3 (.cells (PC g (List.replicate 12 0) 0 0 fuel) 65)
 replace hg := blk_alloc hg (.cells (PC g (List.replicate 12 0) 0 0 fuel) 65)
 replace hZ := blk_alloc hZ (.cells (PC g (List.replicate 12 0) 0 0 fuel) 65)
 refine (ac _ kb).mono ?_
 rintro e w4 ⟨v, qs, rfl, hR, hql, hact, hb⟩
 obtain ⟨A, c, rfl, hRow⟩ := row_of hR hql hact
 replace hX := blk_below hX hb
 replace hg := blk_below hg hb
 replace hZ := blk_below hZ hb
 replace kb := kb.trans (hb.mono kb.size)
 have hXb : w.heap.size ≤ w3.heap.size := k1.size
 obtain ⟨fl0, rfl⟩ : ∃ n : Nat, fuel = (n : Int) := ⟨fuel.toNat, by have := hf0'.out; omega⟩
 have hL : LS w w3.heap.size g (w.heap.size + 1) A ps ⟨l0, l1, l2⟩ [] ((0 : Nat) : Int) (fl0 : Int) w4 := ⟨⟨⟨n0, n1, n2⟩, typ_ne hX hg (by decide), by simp, hg, List.replicate 12 0, by simp, by simp, hX⟩, hRow, hZ, by omega, hXb, hgs', kb⟩
 rw [Int.toNat_natCast] at hq
 have hL' := Aside0.mk hL
 have hq' := Aside0.mk hq
 have hf1 : Aside0 (fl0 ≤ 100) := ⟨by have := hf1'.out; omega⟩
 clear hL hq hX hg hZ kb k1 hXb hRow hR hql hact hb ac hf0' hf1' d1 d2 n0 n1 n2 hm
 generalize w3.heap.size = X at hL' ⊢
 generalize w.heap.size + 1 = z at hL' ⊢
 go_wp2_with fail
 go_loopg [13] G (fun kq v13 wr => ∃ (m : M3) (st : List Int) (p fl : Nat), Aside0 (runI ps kq m st p fl = some q) ∧ Aside0 (fl ≤ 100) ∧ Aside0 (LS w X g z A ps m st (p : Int) (fl : Int) wr))
 case atStart => exact ⟨_, _, _, _, hq', hf1, hL'⟩
 case round =>
  clear hq' hf1 hL'
  obtain ⟨m, st, p, fl, HA, HF, HL⟩ := hrel
  cases gk with
  | zero => exact absurd HA.out (by simp [runI])
  | succ k1 =>
   by_cases hp : p < ps.length
   ·have d : decide (p < ps.length) = true := by simpa using hp
    have c14 := HL.out.rs.c14
    have f14 := HL.out.rs.f14
    obtain ⟨b, cur, qq, rfl, hb, hcur, hact⟩ := HL.out.row p hp
    obtain ⟨F, BX⟩ := qq
    have e0 : wr.cell? ⟨b, p, none⟩ = some (.func (.func F) #[] #[.pointer (some ⟨BX, 0, none⟩)]) := (blk_cell hb p).trans hcur
    have w1_ : wrap64 ((p : Int) + 1) = (p : Int) + 1 := by have := hle'.out; unfold wrap64; omega
    have hact' := Aside0.mk hact
    clear hb hcur hact
    have hp' := Aside0.mk hp
    go_upto_region 9 with (fail)
    try clear hp
    have hS := HL.out.rs.setp ((p : Int) + 1)
    have HL2 : Aside0 (LS w X g z (some ⟨b, 0, none⟩) ps m st ((p : Int) + 1) (fl : Int) (wr.setCell ⟨X, 14, none⟩ (.int .i64 ((p : Int) + 1)))) := ⟨LS.ch HL.out hS.2 hS.1⟩
    have hact2 := Aside0.mk (ActV.ch hact'.out HL.out.rs hS.2)
    clear hS HL hact' c14 f14 e0 w1_ d
    generalize wr.setCell _ _ = wr2 at HL2 hact2 ⊢
    rw [show ((p : Int) + 1) = ((p + 1 : Nat) : Int) by omega] at HL2
    by_cases h8 : (rd_T30 ps (p : Int)).f0 = 8 ∧ fl = 0
    ·obtain ⟨e8, rfl⟩ := h8
     have hq2 := HA.out
     rw [runI_long hp'.out ⟨e8, rfl⟩] at hq2
     obtain rfl := Option.some.inj hq2
     obtain ⟨B9, e9, hc⟩ := stop_any hact2.out HL2.out.rs e8
     injection e9 with e9 _ e10
     injection e9 with e9
     subst e9
     obtain rfl : BX = B9 := by simpa using e10
     have eE := E_ _ HL2.out.be
     have hg := HL2.out.rs.G
     have ln := HL2.out.rs.ln
     have hce := ended_long g m.a m.b m.c wr2 E ln.1 ln.2.1 ln.2.2 hg eE
     clear HA hq2 e10 hact2 hg e8
     go_wp2_with fail
     refine hc.mono ?_
     rintro e w5 ⟨rfl, rfl⟩
     go_wp2_with fail
     refine hce.mono ?_
     rintro e w6 hq3
     clear hce hc eE
     obtain ⟨v0, v1, v2, rfl, hM, hb3⟩ := hq3
     obtain ⟨B0, e0, rfl⟩ := R_len (n := 6) hM.1 ln.1
     obtain ⟨B1, e1, rfl⟩ := R_len (n := 6) hM.2.1 ln.2.1
     obtain ⟨B2, e2, rfl⟩ := R_len (n := 6) hM.2.2 ln.2.2
     have hz3 := blk_below HL2.out.zz hb3
     have hB3 := HL2.out.be.trans (hb3.mono HL2.out.be.size)
     have i0 : w6.cell? ⟨z, 0, none⟩ = some (.slice none 0 0) := (blk_cell hz3 0).trans rfl
     have i1 : w6.cell? ⟨z, 1, none⟩ = some (.slice none 0 0) := (blk_cell hz3 1).trans rfl
     have i2 : w6.cell? ⟨z, 2, none⟩ = some (.slice none 0 0) := (blk_cell hz3 2).trans rfl
     have j0 : w6.frozen? ⟨z, 0, none⟩ = false := blk_frozen hz3 0
     have j1 : w6.frozen? ⟨z, 1, none⟩ = false := blk_frozen hz3 1
     have j2 : w6.frozen? ⟨z, 2, none⟩ = false := blk_frozen hz3 2
     have hE2 := mem3_store HL2.out.be.size hM hz3
     have hzz2 := res_store hz3 (.slice B0 6 e0) (.slice B1 6 e1) (.slice B2 6 e2)
     have hbl := below_set (j := 2) (v := .slice B2 6 e2) (below_set (j := 1) (v := .slice B1 6 e1) (below_set (j := 0) (v := .slice B0 6 e0) hB3 HL2.out.zb) HL2.out.zb) HL2.out.zb
     go_wp2
     refine bodyPost_ret (results_crtt rfl _ _ z 33 #[.slice B0 6 e0, .slice B1 6 e1, .slice B2 6 e2] (0, 0) _ rfl hzz2 Tryz.underlying33 rfl (by kernel_rfl)) rfl ⟨_, _, _, rfl, hE2, hbl⟩
    ·obtain ⟨hg, r, hd, hr⟩ := runI_inv HA.out hp'.out h8
     obtain ⟨F9, B9, e9, hF, hc⟩ := do_any hact2.out HL2.out.rs hd h8 HF.out hg
     injection e9 with e9 _ e10
     injection e9 with e9
     subst e9
     obtain rfl : BX = B9 := by simpa using e10
     have hr' := Aside0.mk hr
     have hfu : Aside0 (fu (rd_T30 ps (p : Int)) fl ≤ 100) := ⟨by have := HF.out; unfold fu; split <;> omega⟩
     clear hr hd hg h8 e10 hact2 HA HF
     rcases hF with rfl | rfl
     ·go_wp2_with fail
      refine hc.mono ?_
      rintro e w5 ⟨rfl, hR5, hC5⟩
      have hL5 := Aside0.mk (LS.ch HL2.out hC5 hR5)
      clear hc hR5 hC5
      go_wp2_with fail
      go_roundg k1
      case rel => exact ⟨_, _, _, _, hr', hfu, hL5⟩
      case measure => omega
     ·go_wp2_with fail
      refine hc.mono ?_
      rintro e w5 ⟨rfl, hR5, hC5⟩
      have hL5 := Aside0.mk (LS.ch HL2.out hC5 hR5)
      clear hc hR5 hC5
      go_wp2_with fail
      go_roundg k1
      case rel => exact ⟨_, _, _, _, hr', hfu, hL5⟩
      case measure => omega
   ·have d : decide (p < ps.length) = false := by simpa using hp
    have hq2 := HA.out
    rw [runI_end hp] at hq2
    obtain rfl := Option.some.inj hq2
    have c14 := HL.out.rs.c14
    have c15 := HL.out.rs.c15
    have ln := HL.out.rs.ln
    have hg := HL.out.rs.G
    have eE := E_ _ HL.out.be
    have hce := ended_fine g (fl : Int) m.a m.b m.c wr E ln.1 ln.2.1 ln.2.2 hg eE
    clear HA hq2 hg hp
    go_wp2_with fail
    refine hce.mono ?_
    rintro e w6 hq3
    clear hce eE
    obtain ⟨v0, v1, v2, rfl, hM, hb3⟩ := hq3
    obtain ⟨B0, e0, rfl⟩ := R_len (n := 6) hM.1 ln.1
    obtain ⟨B1, e1, rfl⟩ := R_len (n := 6) hM.2.1 ln.2.1
    obtain ⟨B2, e2, rfl⟩ := R_len (n := 6) hM.2.2 ln.2.2
    have hz3 := blk_below HL.out.zz hb3
    have hB3 := HL.out.be.trans (hb3.mono HL.out.be.size)
    have i0 : w6.cell? ⟨z, 0, none⟩ = some (.slice none 0 0) := (blk_cell hz3 0).trans rfl
    have i1 : w6.cell? ⟨z, 1, none⟩ = some (.slice none 0 0) := (blk_cell hz3 1).trans rfl
    have i2 : w6.cell? ⟨z, 2, none⟩ = some (.slice none 0 0) := (blk_cell hz3 2).trans rfl
    have j0 : w6.frozen? ⟨z, 0, none⟩ = false := blk_frozen hz3 0
    have j1 : w6.frozen? ⟨z, 1, none⟩ = false := blk_frozen hz3 1
    have j2 : w6.frozen? ⟨z, 2, none⟩ = false := blk_frozen hz3 2
    have hE2 := mem3_store HL.out.be.size hM hz3
    have hzz2 := res_store hz3 (.slice B0 6 e0) (.slice B1 6 e1) (.slice B2 6 e2)
    have hbl := below_set (j := 2) (v := .slice B2 6 e2) (below_set (j := 1) (v := .slice B1 6 e1) (below_set (j := 0) (v := .slice B0 6 e0) hB3 HL.out.zb) HL.out.zb) HL.out.zb
    go_wp2
    refine bodyPost_ret (results_crtt rfl _ _ z 33 #[.slice B0 6 e0, .slice B1 6 e1, .slice B2 6 e2] (0, 0) _ rfl hzz2 Tryz.underlying33 rfl (by kernel_rfl)) rfl ⟨_, _, _, rfl, hE2, hbl⟩
set_option maxRecDepth 100000 in
set_option maxHeartbeats 6400000 in
theorem codeRun_bad1 (A0 A1 A2 : Option Addr) (c0 c1 c2 : Nat) (l0 l1 l2 : List Int) (B : Option Addr) (cc : Nat) (ps : List S30) (fuel : Int) (w : World) (hr0 : Kd.C (Kd.int .i64) w A0 l0.length l0) (hr1 : Kd.C (Kd.int .i64) w A1 l1.length l1) (hr2 : Kd.C (Kd.int .i64) w A2 l2.length l2) (hp : Kd.C k30 w B ps.length ps) (hcc : ps.length ≤ cc) (hm : okM l0 l1 l2 = false) :
  Calls Tryz.prog 12 #[.agg #[.slice A0 l0.length c0, .slice A1 l1.length c1, .slice A2 l2.length c2], .slice B ps.length cc, .int .i64 fuel] w fun e w' => e = .returned (.tuple #[.agg #[.slice none 0 0, .slice none 0 0, .slice none 0 0], .int .i64 2, .int .i64 0]) ∧ Below w.heap.size w w' := by
 have hu33 := Tryz.underlying33
 have rd := fun W (k : Below w.heap.size w W) => readMem_any A0 A1 A2 c0 c1 c2 l0 l1 l2 W (Kd.C_below hr0 k) (Kd.C_below hr1 k) (Kd.C_below hr2 k)
 have ok := fun W (k : Below w.heap.size w W) => codeOk_any B cc ps W (Kd.C_below hp k) hcc
 clear hr0 hr1 hr2 hp hcc
 go_enter Tryz.func12, Tryz.ntmps12
 go_wp2_with fail
 have hZ : ((w.alloc (.cells #[.slice A0 l0.length c0, .slice A1 l1.length c1, .slice A2 l2.length c2] 33)).alloc (.cells #[.slice none 0 0, .slice none 0 0, .slice none 0 0] 33)).heap[w.heap.size + 1]? = some (.cells #[.slice none 0 0, .slice none 0 0, .slice none 0 0] 33 (0, 0)) := by
  have h := heap_alloc_new (w.alloc (.cells #[.slice A0 l0.length c0, .slice A1 l1.length c1, .slice A2 l2.length c2] 33)) (.cells #[.slice none 0 0, .slice none 0 0, .slice none 0 0] 33)
  rwa [show (w.alloc (.cells #[.slice A0 l0.length c0, .slice A1 l1.length c1, .slice A2 l2.length c2] 33)).heap.size = w.heap.size + 1 from Array.size_push ..] at h
 have k1 : Below w.heap.size w ((w.alloc (.cells #[.slice A0 l0.length c0, .slice A1 l1.length c1, .slice A2 l2.length c2] 33)).alloc (.cells #[.slice none 0 0, .slice none 0 0, .slice none 0 0] 33)) := ((Below.refl _ _).alloc (Nat.le_refl _) _).alloc (by rw [show (w.alloc _).heap.size = w.heap.size + 1 from Array.size_push ..]; omega) _
 generalize (w.alloc _).alloc _ = w1 at hZ k1 ⊢
 refine (rd _ k1).mono ?_
 rintro e w3 ⟨h1, h2, hb⟩
 replace hZ := blk_below hZ hb
 replace k1 := k1.trans (hb.mono k1.size)
 obtain rfl := h2 hm
 clear h1 h2 hb rd ok
 have z0 := (blk_cell hZ 0).trans rfl
 have z1 := (blk_cell hZ 1).trans rfl
 have z2 := (blk_cell hZ 2).trans rfl
 have f0 := blk_frozen hZ 0
 have f1 := blk_frozen hZ 1
 have f2 := blk_frozen hZ 2
 go_wp2
 have hZ2 := blk_put (blk_put (blk_put hZ 0 (.slice none 0 0) rfl) 1 (.slice none 0 0) rfl) 2 (.slice none 0 0) rfl
 refine bodyPost_ret (results_crtt rfl _ _ (w.heap.size + 1) 33 #[.slice none 0 0, .slice none 0 0, .slice none 0 0] (0, 0) _ rfl hZ2 Tryz.underlying33 rfl (by kernel_rfl)) rfl ?_
 exact ⟨rfl, below_set (below_set (below_set k1 (by simp)) (by simp)) (by simp)⟩
set_option maxRecDepth 100000 in
set_option maxHeartbeats 6400000 in
theorem codeRun_bad2 (A0 A1 A2 : Option Addr) (c0 c1 c2 : Nat) (l0 l1 l2 : List Int) (B : Option Addr) (cc : Nat) (ps : List S30) (fuel : Int) (w : World) (hr0 : Kd.C (Kd.int .i64) w A0 l0.length l0) (hr1 : Kd.C (Kd.int .i64) w A1 l1.length l1) (hr2 : Kd.C (Kd.int .i64) w A2 l2.length l2) (hp : Kd.C k30 w B ps.length ps) (hcc : ps.length ≤ cc) (hm : okM l0 l1 l2 = true) (hx : okB ps = false ∨ okB ps = true ∧ (fuel < 0 ∨ ¬ fuel < 0 ∧ 100 < fuel)) :
  Calls Tryz.prog 12 #[.agg #[.slice A0 l0.length c0, .slice A1 l1.length c1, .slice A2 l2.length c2], .slice B ps.length cc, .int .i64 fuel] w fun e w' => e = .returned (.tuple #[.agg #[.slice none 0 0, .slice none 0 0, .slice none 0 0], .int .i64 2, .int .i64 0]) ∧ Below w.heap.size w w' := by
 have hu33 := Tryz.underlying33
 have rd := fun W (k : Below w.heap.size w W) => readMem_any A0 A1 A2 c0 c1 c2 l0 l1 l2 W (Kd.C_below hr0 k) (Kd.C_below hr1 k) (Kd.C_below hr2 k)
 have ok := fun W (k : Below w.heap.size w W) => codeOk_any B cc ps W (Kd.C_below hp k) hcc
 clear hr0 hr1 hr2 hp hcc
 go_enter Tryz.func12, Tryz.ntmps12
 go_wp2_with fail
 have hZ : ((w.alloc (.cells #[.slice A0 l0.length c0, .slice A1 l1.length c1, .slice A2 l2.length c2] 33)).alloc (.cells #[.slice none 0 0, .slice none 0 0, .slice none 0 0] 33)).heap[w.heap.size + 1]? = some (.cells #[.slice none 0 0, .slice none 0 0, .slice none 0 0] 33 (0, 0)) := by
  have h := heap_alloc_new (w.alloc (.cells #[.slice A0 l0.length c0, .slice A1 l1.length c1, .slice A2 l2.length c2] 33)) (.cells #[.slice none 0 0, .slice none 0 0, .slice none 0 0] 33)
  rwa [show (w.alloc (.cells #[.slice A0 l0.length c0, .slice A1 l1.length c1, .slice A2 l2.length c2] 33)).heap.size = w.heap.size + 1 from Array.size_push ..] at h
 have k1 : Below w.heap.size w ((w.alloc (.cells #[.slice A0 l0.length c0, .slice A1 l1.length c1, .slice A2 l2.length c2] 33)).alloc (.cells #[.slice none 0 0, .slice none 0 0, .slice none 0 0] 33)) := ((Below.refl _ _).alloc (Nat.le_refl _) _).alloc (by rw [show (w.alloc _).heap.size = w.heap.size + 1 from Array.size_push ..]; omega) _
 generalize (w.alloc _).alloc _ = w1 at hZ k1 ⊢
 refine (rd _ k1).mono ?_
 rintro e w3 ⟨h1, h2, hb⟩
 replace hZ := blk_below hZ hb
 replace k1 := k1.trans (hb.mono k1.size)
 obtain ⟨g, rfl, -, -⟩ := h1 hm
 clear h1 h2 hb rd
 go_wp2_with fail
 refine (ok _ k1).mono ?_
 rintro e w4 ⟨rfl, hb⟩
 replace hZ := blk_below hZ hb
 replace k1 := k1.trans (hb.mono k1.size)
 clear hb ok
 generalize okB ps = ob at hx ⊢
 have z0 := (blk_cell hZ 0).trans rfl
 have z1 := (blk_cell hZ 1).trans rfl
 have z2 := (blk_cell hZ 2).trans rfl
 have f0 := blk_frozen hZ 0
 have f1 := blk_frozen hZ 1
 have f2 := blk_frozen hZ 2
 have hZ2 := blk_put (blk_put (blk_put hZ 0 (.slice none 0 0) rfl) 1 (.slice none 0 0) rfl) 2 (.slice none 0 0) rfl
 have kz := below_set (j := 2) (v := .slice none 0 0) (below_set (j := 1) (v := .slice none 0 0) (below_set (j := 0) (v := .slice none 0 0) k1 (show w.heap.size ≤ w.heap.size + 1 by omega)) (show w.heap.size ≤ w.heap.size + 1 by omega)) (show w.heap.size ≤ w.heap.size + 1 by omega)
 rcases hx with rfl | ⟨rfl, hx | ⟨hy, hx⟩⟩
 ·go_wp2
  exact bodyPost_ret (results_crtt rfl _ _ (w.heap.size + 1) 33 #[.slice none 0 0, .slice none 0 0, .slice none 0 0] (0, 0) _ rfl hZ2 Tryz.underlying33 rfl (by kernel_rfl)) rfl ⟨rfl, kz⟩
 ·have d1 : decide (fuel < 0) = true := by simpa using hx
  go_wp2
  exact bodyPost_ret (results_crtt rfl _ _ (w.heap.size + 1) 33 #[.slice none 0 0, .slice none 0 0, .slice none 0 0] (0, 0) _ rfl hZ2 Tryz.underlying33 rfl (by kernel_rfl)) rfl ⟨rfl, kz⟩
 ·have d1 : decide (fuel < 0) = false := by simpa using hy
  have d2 : decide (100 < fuel) = true := by simpa using hx
  go_wp2
  exact bodyPost_ret (results_crtt rfl _ _ (w.heap.size + 1) 33 #[.slice none 0 0, .slice none 0 0, .slice none 0 0] (0, 0) _ rfl hZ2 Tryz.underlying33 rfl (by kernel_rfl)) rfl ⟨rfl, kz⟩
theorem codeRun_any (A0 A1 A2 : Option Addr) (c0 c1 c2 : Nat) (l0 l1 l2 : List Int) (B : Option Addr) (cc : Nat) (ps : List S30) (fuel : Int) (w : World) (q : M3 × Int × Nat) (hE : LE w)
  (hr0 : Kd.C (Kd.int .i64) w A0 l0.length l0) (hr1 : Kd.C (Kd.int .i64) w A1 l1.length l1) (hr2 : Kd.C (Kd.int .i64) w A2 l2.length l2) (hp : Kd.C k30 w B ps.length ps) (hcc : ps.length ≤ cc) (hq : runC ⟨l0, l1, l2⟩ ps fuel = some q) :
  Calls Tryz.prog 12 #[.agg #[.slice A0 l0.length c0, .slice A1 l1.length c1, .slice A2 l2.length c2], .slice B ps.length cc, .int .i64 fuel] w fun e w' => ∃ v0 v1 v2, e = .returned (.tuple #[.agg #[v0, v1, v2], .int .i64 q.2.1, .int .i64 (q.2.2 : Int)]) ∧ Mem3 w w' v0 v1 v2 q.1.a q.1.b q.1.c ∧ Below w.heap.size w w' := by
 unfold runC at hq
 by_cases h : okM l0 l1 l2 = true ∧ okB ps = true ∧ 0 ≤ fuel ∧ fuel ≤ 100
 ·rw [if_pos h] at hq
  obtain ⟨E, he⟩ := hE
  exact codeRun_good A0 A1 A2 c0 c1 c2 l0 l1 l2 B cc ps fuel w q E he hr0 hr1 hr2 hp hcc h.1 h.2.1 h.2.2.1 h.2.2.2 _ hq (by have := (Hk.dep_facts h.2.1).1; omega)
 ·rw [if_neg h] at hq
  obtain rfl := Option.some.inj hq
  have key : Calls Tryz.prog 12 #[.agg #[.slice A0 l0.length c0, .slice A1 l1.length c1, .slice A2 l2.length c2], .slice B ps.length cc, .int .i64 fuel] w fun e w' => e = .returned (.tuple #[.agg #[.slice none 0 0, .slice none 0 0, .slice none 0 0], .int .i64 2, .int .i64 0]) ∧ Below w.heap.size w w' := by
   cases hm : okM l0 l1 l2 with
   | false => exact codeRun_bad1 A0 A1 A2 c0 c1 c2 l0 l1 l2 B cc ps fuel w hr0 hr1 hr2 hp hcc hm
   | true =>
    refine codeRun_bad2 A0 A1 A2 c0 c1 c2 l0 l1 l2 B cc ps fuel w hr0 hr1 hr2 hp hcc hm ?_
    cases hb : okB ps with
    | false => exact .inl rfl
    | true => exact .inr ⟨rfl, by rw [hm, hb] at h; simp only [true_and] at h; omega⟩
  refine key.mono ?_
  rintro e w' ⟨rfl, hb⟩
  exact ⟨_, _, _, rfl, mem3_nil _ _, hb⟩
end Go.Proofs.YtjamfddhcigchaaGreatDoor.Ho
