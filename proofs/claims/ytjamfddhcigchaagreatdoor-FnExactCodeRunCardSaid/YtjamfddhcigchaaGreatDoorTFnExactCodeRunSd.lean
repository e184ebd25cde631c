/- spec.l5Do, walked: an instruction done, over the plain step. No other condition. -/
import Derived.Test.YtjamfddhcigchaaGreatDoorTFnExactCodeRunHm
import Derived.Test.YtjamfddhcigchaaGreatDoorTFnExactCodeRunHk
namespace Go.Proofs.YtjamfddhcigchaaGreatDoor.Sd
open Go.RowKit  Go.Proofs.YtjamfddhcigchaaGreatDoor.Gm Go.Proofs.YtjamfddhcigchaaGreatDoor.Gn Go.Proofs.YtjamfddhcigchaaGreatDoor.Gz Go.Proofs.YtjamfddhcigchaaGreatDoor.Gq Go.Proofs.YtjamfddhcigchaaGreatDoor.Hm Go.Proofs.YtjamfddhcigchaaGreatDoor.HFnExactCodeRun Go.Proofs.YtjamfddhcigchaaGreatDoorW.PrintWords Go.Proofs.YtjamfddhcigchaaGreatDoorW.PrintLast Go.Proofs.YtjamfddhcigchaaGreatDoorW.PrintMore
set_option linter.unusedVariables false
set_option linter.unusedSimpArgs false
def Kp (W W' : World) : Prop := W.heap.size ≤ W'.heap.size ∧ ∀ (k : Nat) (cs : Array Value) (t : TypeId), W.heap[k]? = some (.cells cs t (0, 0)) → t ≠ 3 → W'.heap[k]? = some (.cells cs t (0, 0))
theorem Kp.trans {W W1 W2 : World} (h : Kp W W1) (k : Kp W1 W2) : Kp W W2 := ⟨Nat.le_trans h.1 k.1, fun b cs t hb ht => k.2 b cs t (h.2 b cs t hb ht) ht⟩
theorem Kp.of {W W' : World} (k : Below W.heap.size W W') : Kp W W' := ⟨k.size, fun b cs t hb _ => blk_below hb k⟩
theorem Kp.grown {W W' : World} {row : Option Nat} (hg : W.grownBy W' row) (hr : ∀ k, row = some k → ∃ cells, W.heap[k]? = some (.cells cells 3 (0, 0))) : Kp W W' :=
 ⟨hg.size, fun b cs t hb ht => blk_grown hb hg (fun e => by
  obtain ⟨cells, hc⟩ := hr b e.symm
  rw [hb] at hc
  injection hc with hc
  injection hc with _ hc
  exact ht hc)⟩
abbrev RI (B : Nat) (W : World) (v : Value) (l : List Int) : Prop := Kd.R (Kd.int .i64) 3 W B (fun _ => True) v l
def Dj (u v : Value) : Prop := ∀ k, u.ownBlock = some k → v.ownBlock = some k → False
theorem Dj.symm {u v : Value} (h : Dj u v) : Dj v u := fun k a b => h k b a
structure SM (B : Nat) (v0 v1 v2 hv : Value) (m : M3) (st : List Int) (W : World) : Prop where
 a : RI B W v0 m.a
 b : RI B W v1 m.b
 c : RI B W v2 m.c
 h : RI B W hv st.reverse
 ab : Dj v0 v1
 ac : Dj v0 v2
 bc : Dj v1 v2
 ha : Dj hv v0
 hb : Dj hv v1
 hc : Dj hv v2
section
variable {B : Nat} {v0 v1 v2 hv v' : Value} {m : M3} {st : List Int} {W W' : World}
theorem SM.below (S : SM B v0 v1 v2 hv m st W) (k : Below W.heap.size W W') : SM B v0 v1 v2 hv m st W' :=
 ⟨Kd.R_below S.a k, Kd.R_below S.b k, Kd.R_below S.c k, Kd.R_below S.h k, S.ab, S.ac, S.bc, S.ha, S.hb, S.hc⟩
theorem SM.app (S : SM B v0 v1 v2 hv m st W) {n : Int} (ho : RI B W' v' (st.reverse ++ [n])) (hg : W.grownBy W' hv.ownBlock) (hat : v'.ownBlock = hv.ownBlock ∨ ∃ b, v'.ownBlock = some b ∧ W.heap.size ≤ b) : SM B v0 v1 v2 v' m (n :: st) W' ∧ Kp W W' := by
 have D : ∀ {u : Value} {l : List Int}, RI B W u l → Dj hv u → Dj v' u := fun hu d k e1 e2 => by
  rcases hat with e | ⟨b, e, hb⟩
  ·exact d k (e ▸ e1) e2
  ·have := Kd.R_lt hu k e2
   rw [e] at e1
   obtain rfl := Option.some.inj e1
   omega
 have G : ∀ {u : Value} {l : List Int}, RI B W u l → Dj hv u → RI B W' u l := fun hu d => Kd.R_grown2 hu rfl hg (fun k e1 e2 => d k e1 e2.symm)
 exact ⟨⟨G S.a S.ha, G S.b S.hb, G S.c S.hc, by rw [List.reverse_cons]; exact ho, S.ab, S.ac, S.bc, D S.a S.ha, D S.b S.hb, D S.c S.hc⟩, Kp.grown hg (fun k e => Kd.R_typed S.h k e)⟩
theorem own_n {A : Option Addr} {n n' c : Nat} : (Value.slice A n c).ownBlock = (Value.slice A n' c).ownBlock := by cases A <;> rfl
theorem SM.cut {A : Option Addr} {n c : Nat} {x : Int} (S : SM B v0 v1 v2 (.slice A (n + 1) c) m (x :: st) W) (hn : st.length = n) : SM B v0 v1 v2 (.slice A n c) m st W := by
 have h := Kd.R_take S.h (m := n) (by simp; omega)
 have e : List.take n (x :: st).reverse = st.reverse := by
  rw [List.reverse_cons, List.take_append_of_le_length (by simp; omega), List.take_of_length_le (by simp; omega)]
 rw [e] at h
 exact ⟨S.a, S.b, S.c, h, S.ab, S.ac, S.bc, fun k e1 => S.ha k (by rw [← e1]; exact own_n), fun k e1 => S.hb k (by rw [← e1]; exact own_n), fun k e1 => S.hc k (by rw [← e1]; exact own_n)⟩
theorem SM.len {A : Option Addr} {n c : Nat} (S : SM B v0 v1 v2 (.slice A n c) m st W) : n = st.length ∧ n ≤ c := by
 have h := Kd.R_reads' S.h
 simp only [List.length_reverse] at h
 exact ⟨h.1, h.2.1⟩
theorem SM.at_ {A : Option Addr} {n c : Nat} (S : SM B v0 v1 v2 (.slice A n c) m st W) (j : Nat) (hj : j < st.length) : ∃ x, A = some ⟨x, 0, none⟩ ∧ W.cell? ⟨x, n - 1 - j, none⟩ = some (.int .i64 (st.getD j 0)) := by
 obtain ⟨hn, _⟩ := S.len
 obtain ⟨inner, ho⟩ := Kd.R_own S.h
 rcases ho.2 with ⟨e, e2⟩ | ⟨x, cap, cur, e, _⟩
 ·simp only [List.length_reverse] at e2; omega
 ·injection e with e1
  subst e1
  obtain ⟨a, _⟩ := Kd.R_celln 0 S.h ((n - 1 - j : Nat) : Int) (by omega) (by omega)
  rw [Int.toNat_natCast] at a
  refine ⟨x, rfl, a.trans ?_⟩
  have e3 : rdOf (0 : Int) st.reverse ((n - 1 - j : Nat) : Int) = st.getD j 0 := by
   unfold rdOf
   rw [Int.toNat_natCast, List.getD_eq_getElem?_getD, List.getD_eq_getElem?_getD, List.getElem?_reverse (by omega)]
   congr 2
   omega
  rw [e3]
theorem SM.top {x n c : Nat} {y : Int} (S : SM B v0 v1 v2 (.slice (some ⟨x, 0, none⟩) (n + 1) c) m (y :: st) W) : W.cell? ⟨x, n, none⟩ = some (.int .i64 y) := by
 obtain ⟨x', e, h⟩ := S.at_ 0 (by simp)
 injection e with e
 injection e with e
 subst e
 exact h
theorem SM.top1 {x n c : Nat} {y q : Int} (S : SM B v0 v1 v2 (.slice (some ⟨x, 0, none⟩) (n + 2) c) m (y :: q :: st) W) : W.cell? ⟨x, n, none⟩ = some (.int .i64 q) := by
 obtain ⟨x', e, h⟩ := S.at_ 1 (by simp)
 injection e with e
 injection e with e
 subst e
 exact h
theorem SM.top2 {x n c : Nat} {y q : Int} (S : SM B v0 v1 v2 (.slice (some ⟨x, 0, none⟩) (n + 2) c) m (y :: q :: st) W) : W.cell? ⟨x, n + 1, none⟩ = some (.int .i64 y) := by
 obtain ⟨x', e, h⟩ := S.at_ 0 (by simp)
 injection e with e
 injection e with e
 subst e
 exact h
theorem SM.cut2 {A : Option Addr} {n c : Nat} {y q : Int} (S : SM B v0 v1 v2 (.slice A (n + 2) c) m (y :: q :: st) W) (hn : st.length = n) : SM B v0 v1 v2 (.slice A n c) m st W :=
 (S.cut (n := n + 1) (by simp [hn])).cut hn
theorem typ_far {l : List Int} {u : Value} {z : Nat} {cs : Array Value} (h : RI B W u l) (hz : W.heap[z]? = some (.cells cs 33 (0, 0))) (i : Nat) (x : Value) : RI B (W.setCell ⟨z, i, none⟩ x) u l := by
 have ne : ∀ k, u.ownBlock = some k → k ≠ z := fun k e q => by
  obtain ⟨cells, hc⟩ := Kd.R_typed h k e
  subst q
  rw [hz] at hc
  injection hc with hc
  injection hc with _ hc
  exact absurd hc (by decide)
 exact R_int_ok (Kd.R_far (p := ⟨z, i, none⟩) (R_int_ok (ok' := fun k => k ≠ z) h ne) (fun _ e => e) x) (fun _ _ => trivial)
theorem SM.far (S : SM B v0 v1 v2 hv m st W) {z : Nat} {cs : Array Value} (hz : W.heap[z]? = some (.cells cs 33 (0, 0))) (i : Nat) (x : Value) : SM B v0 v1 v2 hv m st (W.setCell ⟨z, i, none⟩ x) :=
 ⟨typ_far S.a hz i x, typ_far S.b hz i x, typ_far S.c hz i x, typ_far S.h hz i x, S.ab, S.ac, S.bc, S.ha, S.hb, S.hc⟩
theorem SM.st3 (S : SM B v0 v1 v2 hv m st W) {z : Nat} {cs : Array Value} (hz : W.heap[z]? = some (.cells cs 33 (0, 0))) (x y u : Value) : SM B v0 v1 v2 hv m st (((W.setCell ⟨z, 0, none⟩ x).setCell ⟨z, 1, none⟩ y).setCell ⟨z, 2, none⟩ u) :=
 ((S.far hz 0 x).far (blk_put hz 0 x rfl) 1 y).far (blk_put (blk_put hz 0 x rfl) 1 y rfl) 2 u
end
theorem Kp.set {w W : World} (h : Kp w W) {z : Nat} (hz : w.heap.size ≤ z) (i : Nat) (x : Value) : Kp w (W.setCell ⟨z, i, none⟩ x) :=
 ⟨by simpa using h.1, fun k cs t hb ht => (Below.heap_setCell W ⟨z, i, none⟩ x k (by have := blk_lt hb; show k ≠ z; omega)).trans (h.2 k cs t hb ht)⟩
theorem Kp.trans3 {w W : World} (h : Kp w W) {z : Nat} {cs : Array Value} (_ : W.heap[z]? = some (.cells cs 33 (0, 0))) (hz : w.heap.size ≤ z) (x y u : Value) : Kp w (((W.setCell ⟨z, 0, none⟩ x).setCell ⟨z, 1, none⟩ y).setCell ⟨z, 2, none⟩ u) :=
 ((h.set hz 0 x).set hz 1 y).set hz 2 u
theorem get_some {m : M3} {k i : Int} (hl : m.len) (ha : aOk k i = true) : spec_l2Get.f m.a m.b m.c k i = some (m.get k i) := by
 simp only [aOk, Bool.and_eq_true, decide_eq_true_eq] at ha
 obtain ⟨h1, h2, h3, h4⟩ := ha
 obtain ⟨l0, l1, l2⟩ := hl
 unfold spec_l2Get.f M3.get pk
 by_cases c1 : k = 1
 ·rw [if_pos c1, if_pos c1, if_pos h3, if_pos (by omega)]
 rw [if_neg c1, if_neg c1]
 by_cases c2 : k = 2
 ·rw [if_pos c2, if_pos c2, if_pos h3, if_pos (by omega)]
 rw [if_neg c2, if_neg c2, if_pos h3, if_pos (by omega)]
theorem cut_same (n : Int) : spec_NumCut.f n = some (cut n) := by
 rw [Hs.cutS]
 congr 1
 unfold cut mn mx
 split <;> split <;> (try split) <;> omega
theorem form_r {W : World} {B : Nat} {v : Value} {l : List Int} (h : RI B W v l) (hn : 0 < l.length) : ∃ x c, v = .slice (some ⟨x, 0, none⟩) l.length c := by
 obtain ⟨inner, ho⟩ := Kd.R_own h
 rcases ho.2 with ⟨e, e2⟩ | ⟨x, cap, cur, e, _⟩
 ·omega
 ·exact ⟨x, cap, e⟩
theorem ri_at {W : World} {B x n c : Nat} {l : List Int} (h : RI B W (.slice (some ⟨x, 0, none⟩) n c) l) (j : Nat) (hj : j < n) : W.cell? ⟨x, j, none⟩ = some (.int .i64 (rdOf 0 l (j : Int))) ∧ W.frozen? ⟨x, j, none⟩ = false := by
 obtain ⟨a, b⟩ := Kd.R_celln 0 h (j : Int) (by omega) (by omega)
 rw [Int.toNat_natCast] at a b
 exact ⟨a, b⟩
theorem ri_put {W : World} {B x n c : Nat} {l : List Int} (h : RI B W (.slice (some ⟨x, 0, none⟩) n c) l) (j : Nat) (y : Int) : RI B (W.setCell ⟨x, j, none⟩ (.int .i64 y)) (.slice (some ⟨x, 0, none⟩) n c) (l.set j y) := by
 have k := Kd.R_putn h (j : Int) y
 rwa [Int.toNat_natCast] at k
theorem ri_dj {W : World} {B x n c j : Nat} {u y : Value} {l : List Int} (h : RI B W u l) (hd : Dj u (.slice (some ⟨x, 0, none⟩) n c)) : RI B (W.setCell ⟨x, j, none⟩ y) u l :=
 R_int_ok (Kd.R_far (p := ⟨x, j, none⟩) (R_int_ok (ok' := fun k => k ≠ x) h (fun k e q => hd k e (by rw [q]; rfl))) (fun _ e => e) y) (fun _ _ => trivial)
section
variable {B x n c j : Nat} {v0 v1 v2 hv : Value} {m : M3} {st : List Int} {W : World} {y : Int}
theorem SM.setb (S : SM B v0 (.slice (some ⟨x, 0, none⟩) n c) v2 hv m st W) : SM B v0 (.slice (some ⟨x, 0, none⟩) n c) v2 hv ⟨m.a, m.b.set j y, m.c⟩ st (W.setCell ⟨x, j, none⟩ (.int .i64 y)) :=
 ⟨ri_dj S.a S.ab, ri_put S.b j y, ri_dj S.c S.bc.symm, ri_dj S.h S.hb, S.ab, S.ac, S.bc, S.ha, S.hb, S.hc⟩
theorem SM.setc (S : SM B v0 v1 (.slice (some ⟨x, 0, none⟩) n c) hv m st W) : SM B v0 v1 (.slice (some ⟨x, 0, none⟩) n c) hv ⟨m.a, m.b, m.c.set j y⟩ st (W.setCell ⟨x, j, none⟩ (.int .i64 y)) :=
 ⟨ri_dj S.a S.ac, ri_dj S.b S.bc, ri_put S.c j y, ri_dj S.h S.hc, S.ab, S.ac, S.bc, S.ha, S.hb, S.hc⟩
theorem Kp.row {w0 : World} {l : List Int} (h : Kp w0 W) (r : RI B W (.slice (some ⟨x, 0, none⟩) n c) l) (u : Value) : Kp w0 (W.setCell ⟨x, j, none⟩ u) :=
 ⟨by simpa using h.1, fun k cs t hb ht => (Below.heap_setCell W ⟨x, j, none⟩ u k (fun e => by
  obtain ⟨cells, hc⟩ := Kd.R_typed r x rfl
  have h2 := h.2 k cs t hb ht
  rw [show k = x from e, hc] at h2
  injection h2 with h2
  injection h2 with _ h2
  exact ht h2.symm)).trans (h.2 k cs t hb ht)⟩
end
set_option maxRecDepth 100000 in
set_option maxHeartbeats 6400000 in
theorem put_2 {B : Nat} {v0 v1 v2 hv : Value} {m : M3} {st : List Int} {W w0 : World} (S : SM B v0 v1 v2 hv m st W) (hB : Below w0.heap.size w0 W) (eB : w0.heap.size = B) {x : Int} {j : Nat} (hl : m.len) (hj : j < 6) :
  Calls Tryz.prog 115 #[.agg #[v0, v1, v2], .agg #[.int .i64 2, .int .i64 (j : Int)], .int .i64 x] W fun e w' => ∃ u0 u1 u2, e = .returned (.agg #[u0, u1, u2]) ∧ SM B u0 u1 u2 hv ⟨m.a, m.b.set j (cut x), m.c⟩ st w' ∧ Below w0.heap.size w0 w' ∧ Kp W w' := by
 subst eB
 have hu33 := Tryz.underlying33
 have hu28 := Tryz.underlying28
 have hn : m.b.length = 6 := hl.2.1
 obtain ⟨A0, c0, rfl⟩ := Kd.R_slice S.a
 obtain ⟨A1, c1, rfl⟩ := Kd.R_slice S.b
 obtain ⟨A2, c2, rfl⟩ := Kd.R_slice S.c
 obtain ⟨r, c9, e⟩ := form_r S.b (by omega)
 injection e with e1 e2 e3
 subst e1
 clear e2 e3 c9
 obtain ⟨kw, f0, f1, f2⟩ := Gw.al3 W (.cells #[.slice A0 m.a.length c0, .slice (some ⟨r, 0, none⟩) m.b.length c1, .slice A2 m.c.length c2] 33) (.cells #[.int .i64 2, .int .i64 (j : Int)] 28) (.cells #[.slice none 0 0, .slice none 0 0, .slice none 0 0] 33)
 replace kw := below_drew1 kw
 replace f0 := blk_drew f0
 replace f1 := blk_drew f1
 replace f2 := blk_drew f2
 have hj' := Aside0.mk hj
 have hjm : (j : Int) < (m.b.length : Int) := by omega
 have hjp : (0 : Int) ≤ (j : Int) := by omega
 have hjt : Int.toNat (j : Int) = j := Int.toNat_natCast j
 have hn' := Aside0.mk hn
 clear hn hj
 go_enter Tryz.func115, Tryz.ntmps115
 go_upto_region 3 with (fail)
 have S' := Aside0.mk (S.below kw)
 have hB0 := Aside0.mk hB.size
 replace hB := Aside0.mk (hB.trans (kw.mono hB.size))
 have hKp := Kp.of kw
 obtain ⟨z, ez⟩ : ∃ z, W.heap.size = z := ⟨_, rfl⟩
 have ez' := Aside0.mk ez
 obtain ⟨z1, ez1⟩ : ∃ y, W.heap.size + 1 = y := ⟨_, rfl⟩
 obtain ⟨z2, ez2⟩ : ∃ y, W.heap.size + 2 = y := ⟨_, rfl⟩
 have n02 : Aside0 (z ≠ z2 ∧ W.heap.size ≤ z2 ∧ W.heap.size ≤ z) := ⟨by omega, by omega, by omega⟩
 rw [ez] at f0
 rw [ez1] at f1
 rw [ez2] at f2
 rw [show W.heap.size + 1 + 1 = z2 from ez2, ez1, ez]
 have sz := Aside0.mk (below_size kw)
 clear ez ez1 ez2 S kw
 refine start_ (n := 8) (S := fun w' => w'.cell? ⟨z, 1, none⟩ = some (.slice (some ⟨r, 0, none⟩) m.b.length c1) ∧ w'.cell? ⟨z1, 1, none⟩ = some (.int .i64 (j : Int))) (ds := [7]) #[false, false, false, false, false, false, false, false] (by kernel_rfl) rfl rfl ⟨((blk_cell f0 1).trans rfl), ((blk_cell f1 1).trans rfl)⟩ (fun hHeld => ?_)
 refine pure_ (i := 0) (N := some 11) (v := ?_) (a' := ?_) #[true, false, false, false, false, false, false, false] rfl rfl (by kernel_rfl) (fun _ _ _ h => h) (Or.inl ⟨by rfl, ?_⟩) ?_ ?_
 rotate_left
 ·intro w'
  go_simp
  with_reducible rfl
 rotate_left
 ·simp only [Act.put, List.setIfInBounds_toArray, List.set_cons_zero, List.set_cons_succ, i64_w, i32_w]
  rfl
 refine pure_ (i := 2) (N := some 13) (v := ?_) (a' := ?_) #[true, false, true, false, false, false, false, false] rfl rfl (by kernel_rfl) (fun _ _ _ h => h) (Or.inl ⟨by rfl, ?_⟩) ?_ ?_
 rotate_left
 ·intro w'
  go_simp
  with_reducible rfl
 rotate_left
 ·simp only [Act.put, List.setIfInBounds_toArray, List.set_cons_zero, List.set_cons_succ, i64_w, i32_w]
  rfl
 refine pure_ (i := 4) (N := some 15) (v := ?_) (a' := ?_) #[true, false, true, false, true, false, false, false] rfl rfl (by kernel_rfl) (fun _ _ _ h => h) (Or.inl ⟨by rfl, ?_⟩) ?_ ?_
 rotate_left
 ·intro w'
  go_simp
  with_reducible rfl
 rotate_left
 ·simp only [Act.put, List.setIfInBounds_toArray, List.set_cons_zero, List.set_cons_succ, i64_w, i32_w]
  rfl
 refine take_ (i := 1) (N := some 12) (v := ?_) (a' := ?_) #[true, true, true, false, true, false, false, false] rfl rfl (by kernel_rfl) (fun _ _ _ h => h) (Or.inl ⟨by rfl, ?_⟩) hHeld ?_ ?_
 rotate_left
 ·rintro w' ⟨s0, s1⟩
  go_simp
  with_reducible rfl
 rotate_left
 ·simp only [Act.put, List.setIfInBounds_toArray, List.set_cons_zero, List.set_cons_succ, i64_w, i32_w]
  rfl
 refine take_ (i := 3) (N := some 14) (v := ?_) (a' := ?_) #[true, true, true, true, true, false, false, false] rfl rfl (by kernel_rfl) (fun _ _ _ h => h) (Or.inl ⟨by rfl, ?_⟩) hHeld ?_ ?_
 rotate_left
 ·rintro w' ⟨s0, s1⟩
  go_simp
  with_reducible rfl
 rotate_left
 ·simp only [Act.put, List.setIfInBounds_toArray, List.set_cons_zero, List.set_cons_succ, i64_w, i32_w]
  rfl
 refine one_ (i := 5) (N := some 16) #[true, true, true, true, true, true, false, false] rfl rfl (by kernel_rfl) (by decide) (fun K hK => ?_)
 generalize ((W.alloc _).alloc _).alloc _ = wz at hB hKp f0 f1 f2 S' sz hHeld ⊢
 refine goes_ Tryz.func73 (by kernel_rfl) rfl #[.int .i64 x] (by rfl) rfl rfl (by simp only [List.map_toArray, List.map_cons, List.map_nil]; rfl) ?_
 with_reducible refine (spec_NumCut.calls x (cut x) _ (cut_same x)).mono ?_
 rintro e wn ⟨rfl, hd⟩
 refine ⟨_, rfl, ?_⟩
 have hb9 := hd.below
 replace f0 := blk_below f0 hb9
 replace f1 := blk_below f1 hb9
 replace f2 := blk_below f2 hb9
 replace S' := Aside0.mk (S'.out.below hb9)
 replace hB := Aside0.mk (hB.out.trans (hb9.mono hB.out.size))
 replace hKp := hKp.trans (Kp.of hb9)
 clear hb9 hd
 refine hK.out _ _ ⟨((blk_cell f0 1).trans rfl), ((blk_cell f1 1).trans rfl)⟩ (fun hHeld => ?_)
 clear hK K
 refine norm_ (a' := ?_) ?_ ?_
 rotate_left
 ·show Act.put _ (some 16) _ = _
  simp only [Act.put, List.setIfInBounds_toArray, List.set_cons_zero, List.set_cons_succ, i64_w, i32_w]
  rfl
 refine pure_ (i := 6) (N := some 17) (v := ?_) (a' := ?_) #[true, true, true, true, true, true, true, false] rfl rfl (by kernel_rfl) (fun _ _ _ h => h) (Or.inl ⟨by rfl, ?_⟩) ?_ ?_
 rotate_left
 ·intro w'
  go_simp
  with_reducible rfl
 rotate_left
 ·simp only [Act.put, List.setIfInBounds_toArray, List.set_cons_zero, List.set_cons_succ, i64_w, i32_w]
  rfl
 refine last_ (i := 7) (N := none) #[true, true, true, true, true, true, true, true] rfl rfl (by kernel_rfl) (by decide) (fun K hK => ?_)
 obtain ⟨xc, xf⟩ := ri_at S'.out.b j (by have := hj'.out; have := hn'.out; omega)
 refine skip_ (w1 := ?_) (by rfl) rfl ?_ ?_
 rotate_left
 ·go_simp
  rfl
 refine hK.out _ _ ?_
 clear hK K
 refine done_ (by kernel_rfl) ?_
 have ne : ∀ {z t : Nat} {cs : Array Value}, wn.heap[z]? = some (.cells cs t (0, 0)) → t ≠ 3 → z ≠ r := fun hb ht e => (Kd.R_ne S'.out.b hb (by simpa using Ne.symm ht)) (by rw [e]; rfl)
 replace f0 := blk_far (p := ⟨r, j, none⟩) f0 (ne f0 (by decide)) (.int .i64 (cut x))
 replace f2 := blk_far (p := ⟨r, j, none⟩) f2 (ne f2 (by decide)) (.int .i64 (cut x))
 replace hKp := Kp.row (j := j) hKp S'.out.b (.int .i64 (cut x))
 replace hB := below_set (j := j) (v := .int .i64 (cut x)) hB.out (Kd.R_base S'.out.b r rfl)
 replace S' := Aside0.mk (SM.setb S'.out (j := j) (y := cut x))
 generalize wn.setCell _ _ = w6 at S' f0 f2 hKp hB ⊢
 clear hHeld ne xc xf f1
 have i := (Gw.c3 f0).1
 have y := Gw.c3 (a := .slice none 0 0) (b := .slice none 0 0) (c := .slice none 0 0) f2
 have hKq := Aside0.mk hKp
 have hB' := Aside0.mk hB
 clear hKp hB
 go_wp2
 refine bodyPost_ret (results_cell_row rfl _ _ z2 33 #[.slice A0 m.a.length c0, .slice (some ⟨r, 0, none⟩) m.b.length c1, .slice A2 m.c.length c2] (0, 0) _ rfl (res_store f2 (.slice A0 m.a.length c0) (.slice (some ⟨r, 0, none⟩) m.b.length c1) (.slice A2 m.c.length c2)) Tryz.underlying33 rfl (by kernel_rfl)) rfl ?_
 exact ⟨_, _, _, rfl, S'.out.st3 f2 _ _ _, below_set (below_set (below_set hB'.out (Nat.le_trans hB0.out n02.out.2.1)) (Nat.le_trans hB0.out n02.out.2.1)) (Nat.le_trans hB0.out n02.out.2.1), hKq.out.trans3 f2 n02.out.2.1 _ _ _⟩
set_option maxRecDepth 100000 in
set_option maxHeartbeats 6400000 in
theorem put_3 {B : Nat} {v0 v1 v2 hv : Value} {m : M3} {st : List Int} {W w0 : World} (S : SM B v0 v1 v2 hv m st W) (hB : Below w0.heap.size w0 W) (eB : w0.heap.size = B) {x : Int} {j : Nat} (hl : m.len) (hj : j < 6) :
  Calls Tryz.prog 115 #[.agg #[v0, v1, v2], .agg #[.int .i64 3, .int .i64 (j : Int)], .int .i64 x] W fun e w' => ∃ u0 u1 u2, e = .returned (.agg #[u0, u1, u2]) ∧ SM B u0 u1 u2 hv ⟨m.a, m.b, m.c.set j (cut x)⟩ st w' ∧ Below w0.heap.size w0 w' ∧ Kp W w' := by
 subst eB
 have hu33 := Tryz.underlying33
 have hu28 := Tryz.underlying28
 have hn : m.c.length = 6 := hl.2.2
 obtain ⟨A0, c0, rfl⟩ := Kd.R_slice S.a
 obtain ⟨A1, c1, rfl⟩ := Kd.R_slice S.b
 obtain ⟨A2, c2, rfl⟩ := Kd.R_slice S.c
 obtain ⟨r, c9, e⟩ := form_r S.c (by omega)
 injection e with e1 e2 e3
 subst e1
 clear e2 e3 c9
 obtain ⟨kw, f0, f1, f2⟩ := Gw.al3 W (.cells #[.slice A0 m.a.length c0, .slice A1 m.b.length c1, .slice (some ⟨r, 0, none⟩) m.c.length c2] 33) (.cells #[.int .i64 3, .int .i64 (j : Int)] 28) (.cells #[.slice none 0 0, .slice none 0 0, .slice none 0 0] 33)
 replace kw := below_drew1 kw
 replace f0 := blk_drew f0
 replace f1 := blk_drew f1
 replace f2 := blk_drew f2
 have hj' := Aside0.mk hj
 have hjm : (j : Int) < (m.c.length : Int) := by omega
 have hjp : (0 : Int) ≤ (j : Int) := by omega
 have hjt : Int.toNat (j : Int) = j := Int.toNat_natCast j
 have hn' := Aside0.mk hn
 clear hn hj
 go_enter Tryz.func115, Tryz.ntmps115
 go_upto_region 5 with (fail)
 have S' := Aside0.mk (S.below kw)
 have hB0 := Aside0.mk hB.size
 replace hB := Aside0.mk (hB.trans (kw.mono hB.size))
 have hKp := Kp.of kw
 obtain ⟨z, ez⟩ : ∃ z, W.heap.size = z := ⟨_, rfl⟩
 have ez' := Aside0.mk ez
 obtain ⟨z1, ez1⟩ : ∃ y, W.heap.size + 1 = y := ⟨_, rfl⟩
 obtain ⟨z2, ez2⟩ : ∃ y, W.heap.size + 2 = y := ⟨_, rfl⟩
 have n02 : Aside0 (z ≠ z2 ∧ W.heap.size ≤ z2 ∧ W.heap.size ≤ z) := ⟨by omega, by omega, by omega⟩
 rw [ez] at f0
 rw [ez1] at f1
 rw [ez2] at f2
 rw [show W.heap.size + 1 + 1 = z2 from ez2, ez1, ez]
 have sz := Aside0.mk (below_size kw)
 clear ez ez1 ez2 S kw
 refine start_ (n := 8) (S := fun w' => w'.cell? ⟨z, 2, none⟩ = some (.slice (some ⟨r, 0, none⟩) m.c.length c2) ∧ w'.cell? ⟨z1, 1, none⟩ = some (.int .i64 (j : Int))) (ds := [7]) #[false, false, false, false, false, false, false, false] (by kernel_rfl) rfl rfl ⟨((blk_cell f0 2).trans rfl), ((blk_cell f1 1).trans rfl)⟩ (fun hHeld => ?_)
 refine pure_ (i := 0) (N := some 20) (v := ?_) (a' := ?_) #[true, false, false, false, false, false, false, false] rfl rfl (by kernel_rfl) (fun _ _ _ h => h) (Or.inl ⟨by rfl, ?_⟩) ?_ ?_
 rotate_left
 ·intro w'
  go_simp
  with_reducible rfl
 rotate_left
 ·simp only [Act.put, List.setIfInBounds_toArray, List.set_cons_zero, List.set_cons_succ, i64_w, i32_w]
  rfl
 refine pure_ (i := 2) (N := some 22) (v := ?_) (a' := ?_) #[true, false, true, false, false, false, false, false] rfl rfl (by kernel_rfl) (fun _ _ _ h => h) (Or.inl ⟨by rfl, ?_⟩) ?_ ?_
 rotate_left
 ·intro w'
  go_simp
  with_reducible rfl
 rotate_left
 ·simp only [Act.put, List.setIfInBounds_toArray, List.set_cons_zero, List.set_cons_succ, i64_w, i32_w]
  rfl
 refine pure_ (i := 4) (N := some 24) (v := ?_) (a' := ?_) #[true, false, true, false, true, false, false, false] rfl rfl (by kernel_rfl) (fun _ _ _ h => h) (Or.inl ⟨by rfl, ?_⟩) ?_ ?_
 rotate_left
 ·intro w'
  go_simp
  with_reducible rfl
 rotate_left
 ·simp only [Act.put, List.setIfInBounds_toArray, List.set_cons_zero, List.set_cons_succ, i64_w, i32_w]
  rfl
 refine take_ (i := 1) (N := some 21) (v := ?_) (a' := ?_) #[true, true, true, false, true, false, false, false] rfl rfl (by kernel_rfl) (fun _ _ _ h => h) (Or.inl ⟨by rfl, ?_⟩) hHeld ?_ ?_
 rotate_left
 ·rintro w' ⟨s0, s1⟩
  go_simp
  with_reducible rfl
 rotate_left
 ·simp only [Act.put, List.setIfInBounds_toArray, List.set_cons_zero, List.set_cons_succ, i64_w, i32_w]
  rfl
 refine take_ (i := 3) (N := some 23) (v := ?_) (a' := ?_) #[true, true, true, true, true, false, false, false] rfl rfl (by kernel_rfl) (fun _ _ _ h => h) (Or.inl ⟨by rfl, ?_⟩) hHeld ?_ ?_
 rotate_left
 ·rintro w' ⟨s0, s1⟩
  go_simp
  with_reducible rfl
 rotate_left
 ·simp only [Act.put, List.setIfInBounds_toArray, List.set_cons_zero, List.set_cons_succ, i64_w, i32_w]
  rfl
 refine one_ (i := 5) (N := some 25) #[true, true, true, true, true, true, false, false] rfl rfl (by kernel_rfl) (by decide) (fun K hK => ?_)
 generalize ((W.alloc _).alloc _).alloc _ = wz at hB hKp f0 f1 f2 S' sz hHeld ⊢
 refine goes_ Tryz.func73 (by kernel_rfl) rfl #[.int .i64 x] (by rfl) rfl rfl (by simp only [List.map_toArray, List.map_cons, List.map_nil]; rfl) ?_
 with_reducible refine (spec_NumCut.calls x (cut x) _ (cut_same x)).mono ?_
 rintro e wn ⟨rfl, hd⟩
 refine ⟨_, rfl, ?_⟩
 have hb9 := hd.below
 replace f0 := blk_below f0 hb9
 replace f1 := blk_below f1 hb9
 replace f2 := blk_below f2 hb9
 replace S' := Aside0.mk (S'.out.below hb9)
 replace hB := Aside0.mk (hB.out.trans (hb9.mono hB.out.size))
 replace hKp := hKp.trans (Kp.of hb9)
 clear hb9 hd
 refine hK.out _ _ ⟨((blk_cell f0 2).trans rfl), ((blk_cell f1 1).trans rfl)⟩ (fun hHeld => ?_)
 clear hK K
 refine norm_ (a' := ?_) ?_ ?_
 rotate_left
 ·show Act.put _ (some 25) _ = _
  simp only [Act.put, List.setIfInBounds_toArray, List.set_cons_zero, List.set_cons_succ, i64_w, i32_w]
  rfl
 refine pure_ (i := 6) (N := some 26) (v := ?_) (a' := ?_) #[true, true, true, true, true, true, true, false] rfl rfl (by kernel_rfl) (fun _ _ _ h => h) (Or.inl ⟨by rfl, ?_⟩) ?_ ?_
 rotate_left
 ·intro w'
  go_simp
  with_reducible rfl
 rotate_left
 ·simp only [Act.put, List.setIfInBounds_toArray, List.set_cons_zero, List.set_cons_succ, i64_w, i32_w]
  rfl
 refine last_ (i := 7) (N := none) #[true, true, true, true, true, true, true, true] rfl rfl (by kernel_rfl) (by decide) (fun K hK => ?_)
 obtain ⟨xc, xf⟩ := ri_at S'.out.c j (by have := hj'.out; have := hn'.out; omega)
 refine skip_ (w1 := ?_) (by rfl) rfl ?_ ?_
 rotate_left
 ·go_simp
  rfl
 refine hK.out _ _ ?_
 clear hK K
 refine done_ (by kernel_rfl) ?_
 have ne : ∀ {z t : Nat} {cs : Array Value}, wn.heap[z]? = some (.cells cs t (0, 0)) → t ≠ 3 → z ≠ r := fun hb ht e => (Kd.R_ne S'.out.c hb (by simpa using Ne.symm ht)) (by rw [e]; rfl)
 replace f0 := blk_far (p := ⟨r, j, none⟩) f0 (ne f0 (by decide)) (.int .i64 (cut x))
 replace f2 := blk_far (p := ⟨r, j, none⟩) f2 (ne f2 (by decide)) (.int .i64 (cut x))
 replace hKp := Kp.row (j := j) hKp S'.out.c (.int .i64 (cut x))
 replace hB := below_set (j := j) (v := .int .i64 (cut x)) hB.out (Kd.R_base S'.out.c r rfl)
 replace S' := Aside0.mk (SM.setc S'.out (j := j) (y := cut x))
 generalize wn.setCell _ _ = w6 at S' f0 f2 hKp hB ⊢
 clear hHeld ne xc xf f1
 have i := (Gw.c3 f0).1
 have y := Gw.c3 (a := .slice none 0 0) (b := .slice none 0 0) (c := .slice none 0 0) f2
 have hKq := Aside0.mk hKp
 have hB' := Aside0.mk hB
 clear hKp hB
 go_wp2
 refine bodyPost_ret (results_cell_row rfl _ _ z2 33 #[.slice A0 m.a.length c0, .slice A1 m.b.length c1, .slice (some ⟨r, 0, none⟩) m.c.length c2] (0, 0) _ rfl (res_store f2 (.slice A0 m.a.length c0) (.slice A1 m.b.length c1) (.slice (some ⟨r, 0, none⟩) m.c.length c2)) Tryz.underlying33 rfl (by kernel_rfl)) rfl ?_
 exact ⟨_, _, _, rfl, S'.out.st3 f2 _ _ _, below_set (below_set (below_set hB'.out (Nat.le_trans hB0.out n02.out.2.1)) (Nat.le_trans hB0.out n02.out.2.1)) (Nat.le_trans hB0.out n02.out.2.1), hKq.out.trans3 f2 n02.out.2.1 _ _ _⟩
theorem sm_put {B : Nat} {v0 v1 v2 hv : Value} {m : M3} {st : List Int} {W w0 : World} (S : SM B v0 v1 v2 hv m st W) (hB : Below w0.heap.size w0 W) (eB : w0.heap.size = B) {k i x : Int} (hl : m.len) (hp : pOk k i = true) :
  Calls Tryz.prog 115 #[.agg #[v0, v1, v2], .agg #[.int .i64 k, .int .i64 i], .int .i64 x] W fun e w' => ∃ u0 u1 u2, e = .returned (.agg #[u0, u1, u2]) ∧ SM B u0 u1 u2 hv (m.put k i x) st w' ∧ Below w0.heap.size w0 w' ∧ Kp W w' := by
 have hp0 := hp
 simp only [pOk, aOk, Bool.and_eq_true, decide_eq_true_eq, bne_iff_ne, ne_eq] at hp
 obtain ⟨⟨h1, h2, h3, h4⟩, h5⟩ := hp
 obtain ⟨j, rfl⟩ : ∃ j : Nat, i = (j : Int) := ⟨i.toNat, by omega⟩
 have e : ∀ (t : Int) (l : List Int), pT t l k (j : Int) x = if k = t then l.set j (cut x) else l := fun t l => by simp [pT, hp0]
 unfold M3.put
 simp only [e]
 by_cases c2 : k = 2
 ·subst c2
  exact put_2 S hB eB hl (by omega)
 ·obtain rfl : k = 3 := by omega
  exact put_3 S hB eB hl (by omega)
theorem two_same (k a b : Int) : spec_l3Two.f k a b = Gt.impl_two.f k a b := by
 have hi : ∀ b, spec_NumIs.f b = Gt.impl_NumIs.f b := fun b => rfl
 have ho : ∀ b, spec_NumOn.f b = Gt.impl_NumOn.f b := fun b => rfl
 have ha : ∀ a b, spec_NumAdd.f a b = Gt.impl_NumAdd.f a b := fun a b => by
  unfold spec_NumAdd.f Gt.impl_NumAdd.f Gt.impl_maker_of.f
  rw [cut_same, cut_same]
  simp only [Option.bind_some, Gt.impl_NumCut.f, cut_same]
  rfl
 have hs : ∀ a b, spec_NumSub.f a b = Gt.impl_NumSub.f a b := fun a b => by
  unfold spec_NumSub.f Gt.impl_NumSub.f Gt.impl_maker_of.f
  rw [cut_same, cut_same]
  simp only [Option.bind_some, Gt.impl_NumCut.f, cut_same]
  rfl
 have hm : ∀ a b, spec_NumMul.f a b = Gt.impl_NumMul.f a b := fun a b => by
  unfold spec_NumMul.f Gt.impl_NumMul.f Gt.impl_maker_of.f
  rw [cut_same, cut_same]
  simp only [Option.bind_some, Gt.impl_NumCut.f, cut_same]
  rfl
 unfold spec_l3Two.f Gt.impl_two.f
 simp only [hi, ho, ha, hs, hm]
theorem SM.get {B : Nat} {A0 A1 A2 : Option Addr} {c0 c1 c2 : Nat} {hv : Value} {m : M3} {st : List Int} {W : World} (S : SM B (.slice A0 6 c0) (.slice A1 6 c1) (.slice A2 6 c2) hv m st W) (hl : m.len) {k i : Int} (ha : aOk k i = true) :
  Calls Tryz.prog 114 #[.agg #[.slice A0 6 c0, .slice A1 6 c1, .slice A2 6 c2], .agg #[.int .i64 k, .int .i64 i]] W fun e w' => e = .returned (.int .i64 (m.get k i)) ∧ Below W.heap.size W w' := by
 obtain ⟨a1, a2, a3⟩ := Kd.R_reads' S.a
 obtain ⟨b1, b2, b3⟩ := Kd.R_reads' S.b
 obtain ⟨d1, d2, d3⟩ := Kd.R_reads' S.c
 have h := spec_l2Get.calls A0 c0 m.a A1 c1 m.b A2 c2 m.c k i _ W a3 (by omega) b3 (by omega) d3 (by omega) (get_some hl ha)
 rw [hl.1, hl.2.1, hl.2.2] at h
 exact h
theorem isI_eq (b : Bool) : spec_NumIs.f b = some (isI b) := by cases b <;> rfl
set_option maxRecDepth 100000 in
set_option maxHeartbeats 6400000 in
theorem do_1 (b c d : Int) (B : Nat) (A0 A1 A2 Ah : Option Addr) (c0 c1 c2 n ch : Nat) (m : M3) (st : List Int) (w0 W : World) (S : SM B (.slice A0 6 c0) (.slice A1 6 c1) (.slice A2 6 c2) (.slice Ah n ch) m (st) W) (hB : Below w0.heap.size w0 W) (eB : w0.heap.size = B) (hlm : m.len) (hl : n ≤ 12) :
  Calls Tryz.prog 80 #[.agg #[.slice A0 6 c0, .slice A1 6 c1, .slice A2 6 c2], .slice Ah n ch, .agg #[.int .i64 1, .int .i64 b, .int .i64 c, .int .i64 d]] W fun e w' => ∃ u0 u1 u2 hu, e = .returned (.tuple #[.agg #[u0, u1, u2], hu]) ∧ SM B u0 u1 u2 hu m (b :: st) w' ∧ Below w0.heap.size w0 w' ∧ Kp W w' := by
 have hu33 := Tryz.underlying33
 have hu30 := Tryz.underlying30
 have hu28 := Tryz.underlying28
 have hu31 := Tryz.underlying31
 obtain ⟨k0, f3, f5, f6⟩ := Gw.al3 W (.cells #[.slice A0 6 c0, .slice A1 6 c1, .slice A2 6 c2] 33) (.cells #[.int .i64 1, .int .i64 b, .int .i64 c, .int .i64 d] 30) (.cells #[.slice none 0 0, .slice none 0 0, .slice none 0 0] 33)
 go_enter Tryz.func80, Tryz.ntmps80
 go_upto_region 4 with (fail)
 generalize ((W.alloc _).alloc _).alloc _ = w1 at k0 f3 f5 f6 ⊢
 obtain ⟨z3, e3⟩ : ∃ z, W.heap.size = z := ⟨_, rfl⟩
 obtain ⟨z5, e5⟩ : ∃ z, W.heap.size + 1 = z := ⟨_, rfl⟩
 obtain ⟨z6, e6⟩ : ∃ z, W.heap.size + 2 = z := ⟨_, rfl⟩
 have hz6 : w0.heap.size ≤ z6 := by have := hB.size; omega
 have hW6 : W.heap.size ≤ z6 := by omega
 rw [e3] at f3
 rw [e5] at f5
 rw [e6] at f6
 rw [e6, e5, e3]
 replace S := S.below k0
 replace hB := hB.trans (k0.mono hB.size)
 have hk := Kp.of k0
 clear k0 e3 e5 e6
 go_wp2_with fail
 replace S := S.below (below_drew1 (Below.refl _ _))
 replace hB := below_drew1 hB
 replace hk := hk.trans (Kp.of (below_drew1 (Below.refl _ _)))
 replace f3 : w1.drew.heap[z3]? = _ := f3
 replace f5 : w1.drew.heap[z5]? = _ := f5
 replace f6 : w1.drew.heap[z6]? = _ := f6
 refine start_ (n := 8) (S := fun w' => w'.cell? ⟨z3, 0, none⟩ = some (.slice A0 6 c0) ∧ w'.cell? ⟨z3, 1, none⟩ = some (.slice A1 6 c1) ∧ w'.cell? ⟨z3, 2, none⟩ = some (.slice A2 6 c2) ∧ w'.cell? ⟨z5, 1, none⟩ = some (.int .i64 b)) (ds := [6]) #[false, false, false, false, false, false, false, false] (by kernel_rfl) rfl rfl ⟨((blk_cell f3 0).trans rfl), ((blk_cell f3 1).trans rfl), ((blk_cell f3 2).trans rfl), ((blk_cell f5 1).trans rfl)⟩ (fun hHeld => ?_)
 refine pure_ (i := 1) (N := some 16) (v := ?_) (a' := ?_) #[false, true, false, false, false, false, false, false] rfl rfl (by kernel_rfl) (fun _ _ _ h => h) (Or.inl ⟨by rfl, ?_⟩) ?_ ?_
 rotate_left
 ·intro w'
  go_simp
  with_reducible rfl
 rotate_left
 ·simp only [Act.put, List.setIfInBounds_toArray, List.set_cons_zero, List.set_cons_succ, i64_w, i32_w]
  rfl
 refine pure_ (i := 2) (N := some 17) (v := ?_) (a' := ?_) #[false, true, true, false, false, false, false, false] rfl rfl (by kernel_rfl) (fun _ _ _ h => h) (Or.inl ⟨by rfl, ?_⟩) ?_ ?_
 rotate_left
 ·intro w'
  go_simp
  with_reducible rfl
 rotate_left
 ·simp only [Act.put, List.setIfInBounds_toArray, List.set_cons_zero, List.set_cons_succ, i64_w, i32_w]
  rfl
 refine take_ (i := 0) (N := some 15) (v := ?_) (a' := ?_) #[true, true, true, false, false, false, false, false] rfl rfl (by kernel_rfl) (fun _ _ _ h => h) (Or.inl ⟨by rfl, ?_⟩) hHeld ?_ ?_
 rotate_left
 ·rintro w' ⟨s0, s1, s2, s3⟩
  go_simp
  with_reducible rfl
 rotate_left
 ·simp only [Act.put, List.setIfInBounds_toArray, List.set_cons_zero, List.set_cons_succ, i64_w, i32_w]
  rfl
 refine take_ (i := 3) (N := some 18) (v := ?_) (a' := ?_) #[true, true, true, true, false, false, false, false] rfl rfl (by kernel_rfl) (fun _ _ _ h => h) (Or.inl ⟨by rfl, ?_⟩) hHeld ?_ ?_
 rotate_left
 ·rintro w' ⟨s0, s1, s2, s3⟩
  go_simp
  with_reducible rfl
 rotate_left
 ·simp only [Act.put, List.setIfInBounds_toArray, List.set_cons_zero, List.set_cons_succ, i64_w, i32_w]
  rfl
 refine one_ (i := 4) (N := some 19) #[true, true, true, true, true, false, false, false] rfl rfl (by kernel_rfl) (by decide) (fun K hK => ?_)
 generalize w1.drew = w2 at S hB hk f3 f5 f6 hHeld ⊢
 refine value_ (w1 := ?_) (v := ?_) (by rfl) rfl ?_ ?_
 rotate_left 2
 ·go_simp
  constructor
  ·rfl
  ·rfl
 refine hK.out _ _ ⟨((blk_cell (blk_alloc f3 _) 0).trans rfl), ((blk_cell (blk_alloc f3 _) 1).trans rfl), ((blk_cell (blk_alloc f3 _) 2).trans rfl), ((blk_cell (blk_alloc f5 _) 1).trans rfl)⟩ (fun hHeld => ?_)
 clear hK K
 refine norm_ (a' := ?_) ?_ ?_
 rotate_left
 ·show Act.put _ (some 19) _ = _
  simp only [Act.put, List.setIfInBounds_toArray, List.set_cons_zero, List.set_cons_succ, i64_w, i32_w]
  rfl
 refine one_ (i := 5) (N := some 20) #[true, true, true, true, true, true, false, false] rfl rfl (by kernel_rfl) (by decide) (fun K hK => ?_)
 refine Kd.R_append_step (Kd.int .i64) B (by rfl) (.tmp 16) (.tmp 19) 31 3 (.int .i64 0) 8 rfl Tryz.underlying31 Gz.info3 rfl (by decide) (by omega) (.slice Ah n ch) (List.reverse (st)) (b) [.int .i64 (b)] (fun _ => True) (fun _ => False) rfl rfl rfl (fun _ hk => hk.elim) (fun _ _ => trivial) S.h (Below.refl _ _) (eB ▸ hB.size) (by have := S.len.1; simp only [List.length_reverse]; omega) ?_
 intro v9 w9 ho hb hg hat
 obtain ⟨S9, k9⟩ := S.app ho hg hat
 have hB9 : Below w0.heap.size w0 w9 := pw_below_grown hB _ hB.size hg (fun k e => eB ▸ Kd.R_base S.h k e)
 replace f3 := k9.2 _ _ _ f3 (by decide)
 replace f5 := k9.2 _ _ _ f5 (by decide)
 replace f6 := k9.2 _ _ _ f6 (by decide)
 replace hk := hk.trans k9
 clear S hB ho hb hg hat k9
 have S := S9
 have hB := hB9
 clear S9 hB9
 obtain ⟨A9, c9, e9⟩ := Kd.R_slice S.h
 simp only [List.length_reverse, List.length_cons] at e9
 subst e9
 refine hK.out _ _ ⟨((blk_cell f3 0).trans rfl), ((blk_cell f3 1).trans rfl), ((blk_cell f3 2).trans rfl), ((blk_cell f5 1).trans rfl)⟩ (fun hHeld => ?_)
 clear hK K
 refine norm_ (a' := ?_) ?_ ?_
 rotate_left
 ·show Act.put _ (some 20) _ = _
  simp only [Act.put, List.setIfInBounds_toArray, List.set_cons_zero, List.set_cons_succ, i64_w, i32_w]
  rfl
 refine last_ (i := 6) (N := none) #[true, true, true, true, true, true, true, false] rfl rfl (by kernel_rfl) (by decide) (fun K hK => ?_)
 obtain ⟨⟨y0, y1, y2⟩, j0, j1, j2⟩ := Gw.c3 f6
 refine skip_ (w1 := ?_) (by rfl) rfl ?_ ?_
 rotate_left
 ·go_simp
  rfl
 refine hK.out _ _ ?_
 clear hK K
 refine pure_ (i := 7) (N := some 7) (v := ?_) (a' := ?_) #[true, true, true, true, true, true, true, true] rfl rfl (by kernel_rfl) (fun _ _ _ h => h) (Or.inl ⟨by rfl, ?_⟩) ?_ ?_
 rotate_left
 ·intro w'
  go_simp
  with_reducible rfl
 rotate_left
 ·simp only [Act.put, List.setIfInBounds_toArray, List.set_cons_zero, List.set_cons_succ, i64_w, i32_w]
  rfl
 refine done_ (by kernel_rfl) ?_
 clear hHeld y0 y1 y2 j0 j1 j2
 have hzz := res_store f6 (.slice A0 6 c0) (.slice A1 6 c1) (.slice A2 6 c2)
 go_wp2
 refine bodyPost_ret (results_ct (p := 6) (u := 7) rfl _ _ z6 33 #[.slice A0 6 c0, .slice A1 6 c1, .slice A2 6 c2] (0, 0) _ rfl hzz Tryz.underlying33 rfl (by kernel_rfl)) rfl ⟨_, _, _, _, rfl, SM.st3 S f6 _ _ _, below_set (below_set (below_set hB hz6) hz6) hz6, hk.trans3 f6 hW6 _ _ _⟩
set_option maxRecDepth 100000 in
set_option maxHeartbeats 6400000 in
theorem do_2 (b c d : Int) (B : Nat) (A0 A1 A2 Ah : Option Addr) (c0 c1 c2 n ch : Nat) (m : M3) (st : List Int) (ha : aOk c d = true) (w0 W : World) (S : SM B (.slice A0 6 c0) (.slice A1 6 c1) (.slice A2 6 c2) (.slice Ah n ch) m (st) W) (hB : Below w0.heap.size w0 W) (eB : w0.heap.size = B) (hlm : m.len) (hl : n ≤ 12) :
  Calls Tryz.prog 80 #[.agg #[.slice A0 6 c0, .slice A1 6 c1, .slice A2 6 c2], .slice Ah n ch, .agg #[.int .i64 2, .int .i64 b, .int .i64 c, .int .i64 d]] W fun e w' => ∃ u0 u1 u2 hu, e = .returned (.tuple #[.agg #[u0, u1, u2], hu]) ∧ SM B u0 u1 u2 hu m (m.get c d :: st) w' ∧ Below w0.heap.size w0 w' ∧ Kp W w' := by
 have hu33 := Tryz.underlying33
 have hu30 := Tryz.underlying30
 have hu28 := Tryz.underlying28
 have hu31 := Tryz.underlying31
 obtain ⟨k0, f3, f5, f6⟩ := Gw.al3 W (.cells #[.slice A0 6 c0, .slice A1 6 c1, .slice A2 6 c2] 33) (.cells #[.int .i64 2, .int .i64 b, .int .i64 c, .int .i64 d] 30) (.cells #[.slice none 0 0, .slice none 0 0, .slice none 0 0] 33)
 go_enter Tryz.func80, Tryz.ntmps80
 go_upto_region 6 with (fail)
 generalize ((W.alloc _).alloc _).alloc _ = w1 at k0 f3 f5 f6 ⊢
 obtain ⟨z3, e3⟩ : ∃ z, W.heap.size = z := ⟨_, rfl⟩
 obtain ⟨z5, e5⟩ : ∃ z, W.heap.size + 1 = z := ⟨_, rfl⟩
 obtain ⟨z6, e6⟩ : ∃ z, W.heap.size + 2 = z := ⟨_, rfl⟩
 have hz6 : w0.heap.size ≤ z6 := by have := hB.size; omega
 have hW6 : W.heap.size ≤ z6 := by omega
 rw [e3] at f3
 rw [e5] at f5
 rw [e6] at f6
 rw [e6, e5, e3]
 replace S := S.below k0
 replace hB := hB.trans (k0.mono hB.size)
 have hk := Kp.of k0
 clear k0 e3 e5 e6
 go_wp2_with fail
 replace S := S.below (below_drew1 (Below.refl _ _))
 replace hB := below_drew1 hB
 replace hk := hk.trans (Kp.of (below_drew1 (Below.refl _ _)))
 replace f3 : w1.drew.heap[z3]? = _ := f3
 replace f5 : w1.drew.heap[z5]? = _ := f5
 replace f6 : w1.drew.heap[z6]? = _ := f6
 refine start_ (n := 10) (S := fun w' => w'.cell? ⟨z3, 0, none⟩ = some (.slice A0 6 c0) ∧ w'.cell? ⟨z3, 1, none⟩ = some (.slice A1 6 c1) ∧ w'.cell? ⟨z3, 2, none⟩ = some (.slice A2 6 c2) ∧ w'.cell? ⟨z5, 2, none⟩ = some (.int .i64 c) ∧ w'.cell? ⟨z5, 3, none⟩ = some (.int .i64 d)) (ds := [8]) #[false, false, false, false, false, false, false, false, false, false] (by kernel_rfl) rfl rfl ⟨((blk_cell f3 0).trans rfl), ((blk_cell f3 1).trans rfl), ((blk_cell f3 2).trans rfl), ((blk_cell f5 2).trans rfl), ((blk_cell f5 3).trans rfl)⟩ (fun hHeld => ?_)
 refine pure_ (i := 1) (N := some 24) (v := ?_) (a' := ?_) #[false, true, false, false, false, false, false, false, false, false] rfl rfl (by kernel_rfl) (fun _ _ _ h => h) (Or.inl ⟨by rfl, ?_⟩) ?_ ?_
 rotate_left
 ·intro w'
  go_simp
  with_reducible rfl
 rotate_left
 ·simp only [Act.put, List.setIfInBounds_toArray, List.set_cons_zero, List.set_cons_succ, i64_w, i32_w]
  rfl
 refine pure_ (i := 3) (N := some 26) (v := ?_) (a' := ?_) #[false, true, false, true, false, false, false, false, false, false] rfl rfl (by kernel_rfl) (fun _ _ _ h => h) (Or.inl ⟨by rfl, ?_⟩) ?_ ?_
 rotate_left
 ·intro w'
  go_simp
  with_reducible rfl
 rotate_left
 ·simp only [Act.put, List.setIfInBounds_toArray, List.set_cons_zero, List.set_cons_succ, i64_w, i32_w]
  rfl
 refine take_ (i := 0) (N := some 23) (v := ?_) (a' := ?_) #[true, true, false, true, false, false, false, false, false, false] rfl rfl (by kernel_rfl) (fun _ _ _ h => h) (Or.inl ⟨by rfl, ?_⟩) hHeld ?_ ?_
 rotate_left
 ·rintro w' ⟨s0, s1, s2, s3, s4⟩
  go_simp
  with_reducible rfl
 rotate_left
 ·simp only [Act.put, List.setIfInBounds_toArray, List.set_cons_zero, List.set_cons_succ, i64_w, i32_w]
  rfl
 refine take_ (i := 2) (N := some 25) (v := ?_) (a' := ?_) #[true, true, true, true, false, false, false, false, false, false] rfl rfl (by kernel_rfl) (fun _ _ _ h => h) (Or.inl ⟨by rfl, ?_⟩) hHeld ?_ ?_
 rotate_left
 ·rintro w' ⟨s0, s1, s2, s3, s4⟩
  go_simp
  with_reducible rfl
 rotate_left
 ·simp only [Act.put, List.setIfInBounds_toArray, List.set_cons_zero, List.set_cons_succ, i64_w, i32_w]
  rfl
 refine take_ (i := 4) (N := some 27) (v := ?_) (a' := ?_) #[true, true, true, true, true, false, false, false, false, false] rfl rfl (by kernel_rfl) (fun _ _ _ h => h) (Or.inl ⟨by rfl, ?_⟩) hHeld ?_ ?_
 rotate_left
 ·rintro w' ⟨s0, s1, s2, s3, s4⟩
  go_simp
  with_reducible rfl
 rotate_left
 ·simp only [Act.put, List.setIfInBounds_toArray, List.set_cons_zero, List.set_cons_succ, i64_w, i32_w]
  rfl
 refine one_ (i := 5) (N := some 28) #[true, true, true, true, true, true, false, false, false, false] rfl rfl (by kernel_rfl) (by decide) (fun K hK => ?_)
 generalize w1.drew = w2 at S hB hk f3 f5 f6 hHeld ⊢
 refine goes_ Tryz.func114 (by kernel_rfl) rfl #[.agg #[.slice A0 6 c0, .slice A1 6 c1, .slice A2 6 c2], .agg #[.int .i64 c, .int .i64 d]] (by rfl) rfl rfl (by simp only [List.map_toArray, List.map_cons, List.map_nil]; rfl) ?_
 with_reducible refine (S.get hlm ha).mono ?_
 rintro e w3 ⟨rfl, q2⟩
 refine ⟨_, rfl, ?_⟩
 replace S := S.below q2
 replace hB := hB.trans (q2.mono hB.size)
 replace hk := hk.trans (Kp.of q2)
 replace f3 := blk_below f3 q2
 replace f5 := blk_below f5 q2
 replace f6 := blk_below f6 q2
 clear q2
 refine hK.out _ _ ⟨((blk_cell f3 0).trans rfl), ((blk_cell f3 1).trans rfl), ((blk_cell f3 2).trans rfl), ((blk_cell f5 2).trans rfl), ((blk_cell f5 3).trans rfl)⟩ (fun hHeld => ?_)
 clear hK K
 refine norm_ (a' := ?_) ?_ ?_
 rotate_left
 ·show Act.put _ (some 28) _ = _
  simp only [Act.put, List.setIfInBounds_toArray, List.set_cons_zero, List.set_cons_succ, i64_w, i32_w]
  rfl
 refine one_ (i := 6) (N := some 29) #[true, true, true, true, true, true, true, false, false, false] rfl rfl (by kernel_rfl) (by decide) (fun K hK => ?_)
 refine value_ (w1 := ?_) (v := ?_) (by rfl) rfl ?_ ?_
 rotate_left 2
 ·go_simp
  constructor
  ·rfl
  ·rfl
 refine hK.out _ _ ⟨((blk_cell (blk_alloc f3 _) 0).trans rfl), ((blk_cell (blk_alloc f3 _) 1).trans rfl), ((blk_cell (blk_alloc f3 _) 2).trans rfl), ((blk_cell (blk_alloc f5 _) 2).trans rfl), ((blk_cell (blk_alloc f5 _) 3).trans rfl)⟩ (fun hHeld => ?_)
 clear hK K
 refine norm_ (a' := ?_) ?_ ?_
 rotate_left
 ·show Act.put _ (some 29) _ = _
  simp only [Act.put, List.setIfInBounds_toArray, List.set_cons_zero, List.set_cons_succ, i64_w, i32_w]
  rfl
 refine one_ (i := 7) (N := some 30) #[true, true, true, true, true, true, true, true, false, false] rfl rfl (by kernel_rfl) (by decide) (fun K hK => ?_)
 refine Kd.R_append_step (Kd.int .i64) B (by rfl) (.tmp 24) (.tmp 29) 31 3 (.int .i64 0) 8 rfl Tryz.underlying31 Gz.info3 rfl (by decide) (by omega) (.slice Ah n ch) (List.reverse (st)) (m.get c d) [.int .i64 (m.get c d)] (fun _ => True) (fun _ => False) rfl rfl rfl (fun _ hk => hk.elim) (fun _ _ => trivial) S.h (Below.refl _ _) (eB ▸ hB.size) (by have := S.len.1; simp only [List.length_reverse]; omega) ?_
 intro v9 w9 ho hb hg hat
 obtain ⟨S9, k9⟩ := S.app ho hg hat
 have hB9 : Below w0.heap.size w0 w9 := pw_below_grown hB _ hB.size hg (fun k e => eB ▸ Kd.R_base S.h k e)
 replace f3 := k9.2 _ _ _ f3 (by decide)
 replace f5 := k9.2 _ _ _ f5 (by decide)
 replace f6 := k9.2 _ _ _ f6 (by decide)
 replace hk := hk.trans k9
 clear S hB ho hb hg hat k9
 have S := S9
 have hB := hB9
 clear S9 hB9
 obtain ⟨A9, c9, e9⟩ := Kd.R_slice S.h
 simp only [List.length_reverse, List.length_cons] at e9
 subst e9
 refine hK.out _ _ ⟨((blk_cell f3 0).trans rfl), ((blk_cell f3 1).trans rfl), ((blk_cell f3 2).trans rfl), ((blk_cell f5 2).trans rfl), ((blk_cell f5 3).trans rfl)⟩ (fun hHeld => ?_)
 clear hK K
 refine norm_ (a' := ?_) ?_ ?_
 rotate_left
 ·show Act.put _ (some 30) _ = _
  simp only [Act.put, List.setIfInBounds_toArray, List.set_cons_zero, List.set_cons_succ, i64_w, i32_w]
  rfl
 refine last_ (i := 8) (N := none) #[true, true, true, true, true, true, true, true, true, false] rfl rfl (by kernel_rfl) (by decide) (fun K hK => ?_)
 obtain ⟨⟨y0, y1, y2⟩, j0, j1, j2⟩ := Gw.c3 f6
 refine skip_ (w1 := ?_) (by rfl) rfl ?_ ?_
 rotate_left
 ·go_simp
  rfl
 refine hK.out _ _ ?_
 clear hK K
 refine pure_ (i := 9) (N := some 7) (v := ?_) (a' := ?_) #[true, true, true, true, true, true, true, true, true, true] rfl rfl (by kernel_rfl) (fun _ _ _ h => h) (Or.inl ⟨by rfl, ?_⟩) ?_ ?_
 rotate_left
 ·intro w'
  go_simp
  with_reducible rfl
 rotate_left
 ·simp only [Act.put, List.setIfInBounds_toArray, List.set_cons_zero, List.set_cons_succ, i64_w, i32_w]
  rfl
 refine done_ (by kernel_rfl) ?_
 clear hHeld y0 y1 y2 j0 j1 j2
 have hzz := res_store f6 (.slice A0 6 c0) (.slice A1 6 c1) (.slice A2 6 c2)
 go_wp2
 refine bodyPost_ret (results_ct (p := 6) (u := 7) rfl _ _ z6 33 #[.slice A0 6 c0, .slice A1 6 c1, .slice A2 6 c2] (0, 0) _ rfl hzz Tryz.underlying33 rfl (by kernel_rfl)) rfl ⟨_, _, _, _, rfl, SM.st3 S f6 _ _ _, below_set (below_set (below_set hB hz6) hz6) hz6, hk.trans3 f6 hW6 _ _ _⟩
set_option maxRecDepth 100000 in
set_option maxHeartbeats 6400000 in
theorem do_3 (b c d : Int) (B : Nat) (A0 A1 A2 Ah : Option Addr) (c0 c1 c2 n ch : Nat) (m : M3) (y : Int) (st : List Int) (hp : pOk c d = true) (w0 W : World) (S : SM B (.slice A0 6 c0) (.slice A1 6 c1) (.slice A2 6 c2) (.slice Ah (n + 1) ch) m (y :: st) W) (hB : Below w0.heap.size w0 W) (eB : w0.heap.size = B) (hlm : m.len) (hl : n ≤ 12) :
  Calls Tryz.prog 80 #[.agg #[.slice A0 6 c0, .slice A1 6 c1, .slice A2 6 c2], .slice Ah (n + 1) ch, .agg #[.int .i64 3, .int .i64 b, .int .i64 c, .int .i64 d]] W fun e w' => ∃ u0 u1 u2 hu, e = .returned (.tuple #[.agg #[u0, u1, u2], hu]) ∧ SM B u0 u1 u2 hu (m.put c d y) st w' ∧ Below w0.heap.size w0 w' ∧ Kp W w' := by
 have hu33 := Tryz.underlying33
 have hu30 := Tryz.underlying30
 have hu28 := Tryz.underlying28
 have hu31 := Tryz.underlying31
 have hn : st.length = n := by have := S.len.1; simp only [List.length_cons] at this; omega
 have hc : n ≤ ch := by have := S.len.2; omega
 obtain ⟨x, rfl, hx⟩ := S.at_ 0 (by simp)
 replace hx : W.cell? ⟨x, n, none⟩ = some (.int .i64 y) := hx
 have wk : wrap64 (n : Int) = (n : Int) := by unfold wrap64; omega
 have wk2 : wrap64 ((n : Int) + 1 - 1) = (n : Int) := by unfold wrap64; omega
 have hni : (n : Int) ≤ (ch : Int) := by omega
 have hlt : (n : Int) < (n : Int) + 1 := by omega
 obtain ⟨k0, f3, f5, f6⟩ := Gw.al3 W (.cells #[.slice A0 6 c0, .slice A1 6 c1, .slice A2 6 c2] 33) (.cells #[.int .i64 3, .int .i64 b, .int .i64 c, .int .i64 d] 30) (.cells #[.slice none 0 0, .slice none 0 0, .slice none 0 0] 33)
 go_enter Tryz.func80, Tryz.ntmps80
 go_upto_region 8 with (fail)
 generalize ((W.alloc _).alloc _).alloc _ = w1 at k0 f3 f5 f6 ⊢
 obtain ⟨z3, e3⟩ : ∃ z, W.heap.size = z := ⟨_, rfl⟩
 obtain ⟨z5, e5⟩ : ∃ z, W.heap.size + 1 = z := ⟨_, rfl⟩
 obtain ⟨z6, e6⟩ : ∃ z, W.heap.size + 2 = z := ⟨_, rfl⟩
 have hz6 : w0.heap.size ≤ z6 := by have := hB.size; omega
 have hW6 : W.heap.size ≤ z6 := by omega
 rw [e3] at f3
 rw [e5] at f5
 rw [e6] at f6
 rw [e6, e5, e3]
 replace S := S.below k0
 replace hB := hB.trans (k0.mono hB.size)
 have hk := Kp.of k0
 clear k0 e3 e5 e6
 go_wp2_with fail
 replace S := S.below (below_drew1 (Below.refl _ _))
 replace hB := below_drew1 hB
 replace hk := hk.trans (Kp.of (below_drew1 (Below.refl _ _)))
 replace f3 : w1.drew.heap[z3]? = _ := f3
 replace f5 : w1.drew.heap[z5]? = _ := f5
 replace f6 : w1.drew.heap[z6]? = _ := f6
 refine start_ (n := 15) (S := fun w' => w'.cell? ⟨z3, 0, none⟩ = some (.slice A0 6 c0) ∧ w'.cell? ⟨z3, 1, none⟩ = some (.slice A1 6 c1) ∧ w'.cell? ⟨z3, 2, none⟩ = some (.slice A2 6 c2) ∧ w'.cell? ⟨z5, 2, none⟩ = some (.int .i64 c) ∧ w'.cell? ⟨z5, 3, none⟩ = some (.int .i64 d) ∧ w'.cell? ⟨x, n, none⟩ = some (.int .i64 y)) (ds := [13]) #[false, false, false, false, false, false, false, false, false, false, false, false, false, false, false] (by kernel_rfl) rfl rfl ⟨((blk_cell f3 0).trans rfl), ((blk_cell f3 1).trans rfl), ((blk_cell f3 2).trans rfl), ((blk_cell f5 2).trans rfl), ((blk_cell f5 3).trans rfl), (SM.top S)⟩ (fun hHeld => ?_)
 refine pure_ (i := 1) (N := some 34) (v := ?_) (a' := ?_) #[false, true, false, false, false, false, false, false, false, false, false, false, false, false, false] rfl rfl (by kernel_rfl) (fun _ _ _ h => h) (Or.inl ⟨by rfl, ?_⟩) ?_ ?_
 rotate_left
 ·intro w'
  go_simp
  with_reducible rfl
 rotate_left
 ·simp only [Act.put, List.setIfInBounds_toArray, List.set_cons_zero, List.set_cons_succ, i64_w, i32_w]
  rfl
 refine pure_ (i := 3) (N := some 36) (v := ?_) (a' := ?_) #[false, true, false, true, false, false, false, false, false, false, false, false, false, false, false] rfl rfl (by kernel_rfl) (fun _ _ _ h => h) (Or.inl ⟨by rfl, ?_⟩) ?_ ?_
 rotate_left
 ·intro w'
  go_simp
  with_reducible rfl
 rotate_left
 ·simp only [Act.put, List.setIfInBounds_toArray, List.set_cons_zero, List.set_cons_succ, i64_w, i32_w]
  rfl
 refine pure_ (i := 4) (N := some 37) (v := ?_) (a' := ?_) #[false, true, false, true, true, false, false, false, false, false, false, false, false, false, false] rfl rfl (by kernel_rfl) (fun _ _ _ h => h) (Or.inl ⟨by rfl, ?_⟩) ?_ ?_
 rotate_left
 ·intro w'
  go_simp
  with_reducible rfl
 rotate_left
 ·simp only [Act.put, List.setIfInBounds_toArray, List.set_cons_zero, List.set_cons_succ, i64_w, i32_w]
  rfl
 refine pure_ (i := 5) (N := some 38) (v := ?_) (a' := ?_) #[false, true, false, true, true, true, false, false, false, false, false, false, false, false, false] rfl rfl (by kernel_rfl) (fun _ _ _ h => h) (Or.inl ⟨by rfl, ?_⟩) ?_ ?_
 rotate_left
 ·intro w'
  go_simp
  with_reducible rfl
 rotate_left
 ·simp only [Act.put, List.setIfInBounds_toArray, List.set_cons_zero, List.set_cons_succ, i64_w, i32_w]
  rfl
 refine pure_ (i := 6) (N := some 39) (v := ?_) (a' := ?_) #[false, true, false, true, true, true, true, false, false, false, false, false, false, false, false] rfl rfl (by kernel_rfl) (fun _ _ _ h => h) (Or.inl ⟨by rfl, ?_⟩) ?_ ?_
 rotate_left
 ·intro w'
  go_simp
  with_reducible rfl
 rotate_left
 ·simp only [Act.put, List.setIfInBounds_toArray, List.set_cons_zero, List.set_cons_succ, i64_w, i32_w]
  rfl
 refine pure_ (i := 9) (N := some 42) (v := ?_) (a' := ?_) #[false, true, false, true, true, true, true, false, false, true, false, false, false, false, false] rfl rfl (by kernel_rfl) (fun _ _ _ h => h) (Or.inl ⟨by rfl, ?_⟩) ?_ ?_
 rotate_left
 ·intro w'
  go_simp
  with_reducible rfl
 rotate_left
 ·simp only [Act.put, List.setIfInBounds_toArray, List.set_cons_zero, List.set_cons_succ, i64_w, i32_w]
  rfl
 refine pure_ (i := 10) (N := some 43) (v := ?_) (a' := ?_) #[false, true, false, true, true, true, true, false, false, true, true, false, false, false, false] rfl rfl (by kernel_rfl) (fun _ _ _ h => h) (Or.inl ⟨by rfl, ?_⟩) ?_ ?_
 rotate_left
 ·intro w'
  go_simp
  with_reducible rfl
 rotate_left
 ·simp only [Act.put, List.setIfInBounds_toArray, List.set_cons_zero, List.set_cons_succ, i64_w, i32_w]
  rfl
 refine pure_ (i := 11) (N := some 44) (v := ?_) (a' := ?_) #[false, true, false, true, true, true, true, false, false, true, true, true, false, false, false] rfl rfl (by kernel_rfl) (fun _ _ _ h => h) (Or.inl ⟨by rfl, ?_⟩) ?_ ?_
 rotate_left
 ·intro w'
  go_simp
  with_reducible rfl
 rotate_left
 ·simp only [Act.put, List.setIfInBounds_toArray, List.set_cons_zero, List.set_cons_succ, i64_w, i32_w]
  rfl
 refine pure_ (i := 12) (N := some 45) (v := ?_) (a' := ?_) #[false, true, false, true, true, true, true, false, false, true, true, true, true, false, false] rfl rfl (by kernel_rfl) (fun _ _ _ h => h) (Or.inl ⟨by rfl, ?_⟩) ?_ ?_
 rotate_left
 ·intro w'
  go_simp
  with_reducible rfl
 rotate_left
 ·simp only [Act.put, List.setIfInBounds_toArray, List.set_cons_zero, List.set_cons_succ, i64_w, i32_w]
  rfl
 refine take_ (i := 0) (N := some 33) (v := ?_) (a' := ?_) #[true, true, false, true, true, true, true, false, false, true, true, true, true, false, false] rfl rfl (by kernel_rfl) (fun _ _ _ h => h) (Or.inl ⟨by rfl, ?_⟩) hHeld ?_ ?_
 rotate_left
 ·rintro w' ⟨s0, s1, s2, s3, s4, s5⟩
  go_simp
  with_reducible rfl
 rotate_left
 ·simp only [Act.put, List.setIfInBounds_toArray, List.set_cons_zero, List.set_cons_succ, i64_w, i32_w]
  rfl
 refine take_ (i := 2) (N := some 35) (v := ?_) (a' := ?_) #[true, true, true, true, true, true, true, false, false, true, true, true, true, false, false] rfl rfl (by kernel_rfl) (fun _ _ _ h => h) (Or.inl ⟨by rfl, ?_⟩) hHeld ?_ ?_
 rotate_left
 ·rintro w' ⟨s0, s1, s2, s3, s4, s5⟩
  go_simp
  with_reducible rfl
 rotate_left
 ·simp only [Act.put, List.setIfInBounds_toArray, List.set_cons_zero, List.set_cons_succ, i64_w, i32_w]
  rfl
 refine take_ (i := 7) (N := some 40) (v := ?_) (a' := ?_) #[true, true, true, true, true, true, true, true, false, true, true, true, true, false, false] rfl rfl (by kernel_rfl) (fun _ _ _ h => h) (Or.inl ⟨by rfl, ?_⟩) hHeld ?_ ?_
 rotate_left
 ·rintro w' ⟨s0, s1, s2, s3, s4, s5⟩
  go_simp
  with_reducible rfl
 rotate_left
 ·simp only [Act.put, List.setIfInBounds_toArray, List.set_cons_zero, List.set_cons_succ, i64_w, i32_w]
  rfl
 refine one_ (i := 8) (N := some 41) #[true, true, true, true, true, true, true, true, true, true, true, true, true, false, false] rfl rfl (by kernel_rfl) (by decide) (fun K hK => ?_)
 generalize w1.drew = w2 at S hB hk f3 f5 f6 hHeld ⊢
 refine goes_ Tryz.func115 (by kernel_rfl) rfl #[.agg #[.slice A0 6 c0, .slice A1 6 c1, .slice A2 6 c2], .agg #[.int .i64 c, .int .i64 d], .int .i64 y] (by rfl) rfl rfl (by simp only [List.map_toArray, List.map_cons, List.map_nil]; rfl) ?_
 with_reducible refine (sm_put S hB eB (x := y) hlm hp).mono ?_
 rintro e w3 ⟨u0, u1, u2, rfl, q1, q2, q3⟩
 refine ⟨_, rfl, ?_⟩
 replace S := q1
 replace hB := q2
 replace f3 := q3.2 _ _ _ f3 (by decide)
 replace f5 := q3.2 _ _ _ f5 (by decide)
 replace f6 := q3.2 _ _ _ f6 (by decide)
 replace hk := hk.trans q3
 clear q1 q2 q3
 obtain ⟨U0, d0, e0⟩ := Kd.R_slice S.a
 obtain ⟨U1, d1, e1⟩ := Kd.R_slice S.b
 obtain ⟨U2, d2, e2⟩ := Kd.R_slice S.c
 subst e0
 subst e1
 subst e2
 refine hK.out _ _ ⟨((blk_cell f3 0).trans rfl), ((blk_cell f3 1).trans rfl), ((blk_cell f3 2).trans rfl), ((blk_cell f5 2).trans rfl), ((blk_cell f5 3).trans rfl), (SM.top S)⟩ (fun hHeld => ?_)
 clear hK K
 refine norm_ (a' := ?_) ?_ ?_
 rotate_left
 ·show Act.put _ (some 41) _ = _
  simp only [Act.put, List.setIfInBounds_toArray, List.set_cons_zero, List.set_cons_succ, i64_w, i32_w]
  rfl
 refine last_ (i := 13) (N := none) #[true, true, true, true, true, true, true, true, true, true, true, true, true, true, false] rfl rfl (by kernel_rfl) (by decide) (fun K hK => ?_)
 obtain ⟨⟨y0, y1, y2⟩, j0, j1, j2⟩ := Gw.c3 f6
 refine skip_ (w1 := ?_) (by rfl) rfl ?_ ?_
 rotate_left
 ·go_simp
  rfl
 refine hK.out _ _ ?_
 clear hK K
 refine pure_ (i := 14) (N := some 7) (v := ?_) (a' := ?_) #[true, true, true, true, true, true, true, true, true, true, true, true, true, true, true] rfl rfl (by kernel_rfl) (fun _ _ _ h => h) (Or.inl ⟨by rfl, ?_⟩) ?_ ?_
 rotate_left
 ·intro w'
  go_simp
  with_reducible rfl
 rotate_left
 ·simp only [Act.put, List.setIfInBounds_toArray, List.set_cons_zero, List.set_cons_succ, i64_w, i32_w]
  rfl
 refine done_ (by kernel_rfl) ?_
 clear hHeld y0 y1 y2 j0 j1 j2
 replace S := S.cut hn
 have hzz := res_store f6 (.slice U0 (m.put c d y).a.length d0) (.slice U1 (m.put c d y).b.length d1) (.slice U2 (m.put c d y).c.length d2)
 go_wp2
 refine bodyPost_ret (results_ct (p := 6) (u := 7) rfl _ _ z6 33 #[.slice U0 (m.put c d y).a.length d0, .slice U1 (m.put c d y).b.length d1, .slice U2 (m.put c d y).c.length d2] (0, 0) _ rfl hzz Tryz.underlying33 rfl (by kernel_rfl)) rfl ⟨_, _, _, _, rfl, SM.st3 S f6 _ _ _, below_set (below_set (below_set hB hz6) hz6) hz6, hk.trans3 f6 hW6 _ _ _⟩
set_option maxRecDepth 100000 in
set_option maxHeartbeats 6400000 in
theorem do_5 (b c d : Int) (B : Nat) (A0 A1 A2 Ah : Option Addr) (c0 c1 c2 n ch : Nat) (m : M3) (y : Int) (st : List Int) (w0 W : World) (S : SM B (.slice A0 6 c0) (.slice A1 6 c1) (.slice A2 6 c2) (.slice Ah (n + 1) ch) m (y :: st) W) (hB : Below w0.heap.size w0 W) (eB : w0.heap.size = B) (hlm : m.len) (hl : n ≤ 12) :
  Calls Tryz.prog 80 #[.agg #[.slice A0 6 c0, .slice A1 6 c1, .slice A2 6 c2], .slice Ah (n + 1) ch, .agg #[.int .i64 5, .int .i64 b, .int .i64 c, .int .i64 d]] W fun e w' => ∃ u0 u1 u2 hu, e = .returned (.tuple #[.agg #[u0, u1, u2], hu]) ∧ SM B u0 u1 u2 hu m (isI (!onI y) :: st) w' ∧ Below w0.heap.size w0 w' ∧ Kp W w' := by
 have hu33 := Tryz.underlying33
 have hu30 := Tryz.underlying30
 have hu28 := Tryz.underlying28
 have hu31 := Tryz.underlying31
 have hn : st.length = n := by have := S.len.1; simp only [List.length_cons] at this; omega
 have hc : n ≤ ch := by have := S.len.2; omega
 obtain ⟨x, rfl, hx⟩ := S.at_ 0 (by simp)
 replace hx : W.cell? ⟨x, n, none⟩ = some (.int .i64 y) := hx
 have wk : wrap64 (n : Int) = (n : Int) := by unfold wrap64; omega
 have wk2 : wrap64 ((n : Int) + 1 - 1) = (n : Int) := by unfold wrap64; omega
 have hni : (n : Int) ≤ (ch : Int) := by omega
 have hlt : (n : Int) < (n : Int) + 1 := by omega
 obtain ⟨k0, f3, f5, f6⟩ := Gw.al3 W (.cells #[.slice A0 6 c0, .slice A1 6 c1, .slice A2 6 c2] 33) (.cells #[.int .i64 5, .int .i64 b, .int .i64 c, .int .i64 d] 30) (.cells #[.slice none 0 0, .slice none 0 0, .slice none 0 0] 33)
 go_enter Tryz.func80, Tryz.ntmps80
 go_upto_region 12 with (fail)
 generalize ((W.alloc _).alloc _).alloc _ = w1 at k0 f3 f5 f6 ⊢
 obtain ⟨z3, e3⟩ : ∃ z, W.heap.size = z := ⟨_, rfl⟩
 obtain ⟨z5, e5⟩ : ∃ z, W.heap.size + 1 = z := ⟨_, rfl⟩
 obtain ⟨z6, e6⟩ : ∃ z, W.heap.size + 2 = z := ⟨_, rfl⟩
 have hz6 : w0.heap.size ≤ z6 := by have := hB.size; omega
 have hW6 : W.heap.size ≤ z6 := by omega
 rw [e3] at f3
 rw [e5] at f5
 rw [e6] at f6
 rw [e6, e5, e3]
 replace S := S.below k0
 replace hB := hB.trans (k0.mono hB.size)
 have hk := Kp.of k0
 clear k0 e3 e5 e6
 go_wp2_with fail
 replace S := S.below (below_drew1 (Below.refl _ _))
 replace hB := below_drew1 hB
 replace hk := hk.trans (Kp.of (below_drew1 (Below.refl _ _)))
 replace f3 : w1.drew.heap[z3]? = _ := f3
 replace f5 : w1.drew.heap[z5]? = _ := f5
 replace f6 : w1.drew.heap[z6]? = _ := f6
 refine start_ (n := 17) (S := fun w' => w'.cell? ⟨z3, 0, none⟩ = some (.slice A0 6 c0) ∧ w'.cell? ⟨z3, 1, none⟩ = some (.slice A1 6 c1) ∧ w'.cell? ⟨z3, 2, none⟩ = some (.slice A2 6 c2)) (ds := [15]) #[false, false, false, false, false, false, false, false, false, false, false, false, false, false, false, false, false] (by kernel_rfl) rfl rfl ⟨((blk_cell f3 0).trans rfl), ((blk_cell f3 1).trans rfl), ((blk_cell f3 2).trans rfl)⟩ (fun hHeld => ?_)
 refine pure_ (i := 1) (N := some 71) (v := ?_) (a' := ?_) #[false, true, false, false, false, false, false, false, false, false, false, false, false, false, false, false, false] rfl rfl (by kernel_rfl) (fun _ _ _ h => h) (Or.inl ⟨by rfl, ?_⟩) ?_ ?_
 rotate_left
 ·intro w'
  go_simp
  with_reducible rfl
 rotate_left
 ·simp only [Act.put, List.setIfInBounds_toArray, List.set_cons_zero, List.set_cons_succ, i64_w, i32_w]
  rfl
 refine pure_ (i := 2) (N := some 72) (v := ?_) (a' := ?_) #[false, true, true, false, false, false, false, false, false, false, false, false, false, false, false, false, false] rfl rfl (by kernel_rfl) (fun _ _ _ h => h) (Or.inl ⟨by rfl, ?_⟩) ?_ ?_
 rotate_left
 ·intro w'
  go_simp
  with_reducible rfl
 rotate_left
 ·simp only [Act.put, List.setIfInBounds_toArray, List.set_cons_zero, List.set_cons_succ, i64_w, i32_w]
  rfl
 refine pure_ (i := 3) (N := some 73) (v := ?_) (a' := ?_) #[false, true, true, true, false, false, false, false, false, false, false, false, false, false, false, false, false] rfl rfl (by kernel_rfl) (fun _ _ _ h => h) (Or.inl ⟨by rfl, ?_⟩) ?_ ?_
 rotate_left
 ·intro w'
  go_simp
  with_reducible rfl
 rotate_left
 ·simp only [Act.put, List.setIfInBounds_toArray, List.set_cons_zero, List.set_cons_succ, i64_w, i32_w]
  rfl
 refine pure_ (i := 4) (N := some 74) (v := ?_) (a' := ?_) #[false, true, true, true, true, false, false, false, false, false, false, false, false, false, false, false, false] rfl rfl (by kernel_rfl) (fun _ _ _ h => h) (Or.inl ⟨by rfl, ?_⟩) ?_ ?_
 rotate_left
 ·intro w'
  go_simp
  with_reducible rfl
 rotate_left
 ·simp only [Act.put, List.setIfInBounds_toArray, List.set_cons_zero, List.set_cons_succ, i64_w, i32_w]
  rfl
 refine pure_ (i := 5) (N := some 75) (v := ?_) (a' := ?_) #[false, true, true, true, true, true, false, false, false, false, false, false, false, false, false, false, false] rfl rfl (by kernel_rfl) (fun _ _ _ h => h) (Or.inl ⟨by rfl, ?_⟩) ?_ ?_
 rotate_left
 ·intro w'
  go_simp
  with_reducible rfl
 rotate_left
 ·simp only [Act.put, List.setIfInBounds_toArray, List.set_cons_zero, List.set_cons_succ, i64_w, i32_w]
  rfl
 refine pure_ (i := 6) (N := some 76) (v := ?_) (a' := ?_) #[false, true, true, true, true, true, true, false, false, false, false, false, false, false, false, false, false] rfl rfl (by kernel_rfl) (fun _ _ _ h => h) (Or.inl ⟨by rfl, ?_⟩) ?_ ?_
 rotate_left
 ·intro w'
  go_simp
  with_reducible rfl
 rotate_left
 ·simp only [Act.put, List.setIfInBounds_toArray, List.set_cons_zero, List.set_cons_succ, i64_w, i32_w]
  rfl
 refine pure_ (i := 7) (N := some 77) (v := ?_) (a' := ?_) #[false, true, true, true, true, true, true, true, false, false, false, false, false, false, false, false, false] rfl rfl (by kernel_rfl) (fun _ _ _ h => h) (Or.inl ⟨by rfl, ?_⟩) ?_ ?_
 rotate_left
 ·intro w'
  go_simp
  with_reducible rfl
 rotate_left
 ·simp only [Act.put, List.setIfInBounds_toArray, List.set_cons_zero, List.set_cons_succ, i64_w, i32_w]
  rfl
 refine pure_ (i := 8) (N := some 78) (v := ?_) (a' := ?_) #[false, true, true, true, true, true, true, true, true, false, false, false, false, false, false, false, false] rfl rfl (by kernel_rfl) (fun _ _ _ h => h) (Or.inl ⟨by rfl, ?_⟩) ?_ ?_
 rotate_left
 ·intro w'
  go_simp
  with_reducible rfl
 rotate_left
 ·simp only [Act.put, List.setIfInBounds_toArray, List.set_cons_zero, List.set_cons_succ, i64_w, i32_w]
  rfl
 refine take_ (i := 0) (N := some 70) (v := ?_) (a' := ?_) #[true, true, true, true, true, true, true, true, true, false, false, false, false, false, false, false, false] rfl rfl (by kernel_rfl) (fun _ _ _ h => h) (Or.inl ⟨by rfl, ?_⟩) hHeld ?_ ?_
 rotate_left
 ·rintro w' ⟨s0, s1, s2⟩
  go_simp
  with_reducible rfl
 rotate_left
 ·simp only [Act.put, List.setIfInBounds_toArray, List.set_cons_zero, List.set_cons_succ, i64_w, i32_w]
  rfl
 refine one_ (i := 9) (N := some 79) #[true, true, true, true, true, true, true, true, true, true, false, false, false, false, false, false, false] rfl rfl (by kernel_rfl) (by decide) (fun K hK => ?_)
 generalize w1.drew = w2 at S hB hk f3 f5 f6 hHeld ⊢
 have hy := SM.top S
 refine value_ (w1 := ?_) (v := ?_) (by rfl) rfl ?_ ?_
 rotate_left 2
 ·go_simp
  constructor
  ·rfl
  ·rfl
 refine hK.out _ _ ⟨((blk_cell f3 0).trans rfl), ((blk_cell f3 1).trans rfl), ((blk_cell f3 2).trans rfl)⟩ (fun hHeld => ?_)
 clear hK K
 refine norm_ (a' := ?_) ?_ ?_
 rotate_left
 ·show Act.put _ (some 79) _ = _
  simp only [Act.put, List.setIfInBounds_toArray, List.set_cons_zero, List.set_cons_succ, i64_w, i32_w]
  rfl
 refine one_ (i := 10) (N := some 80) #[true, true, true, true, true, true, true, true, true, true, true, false, false, false, false, false, false] rfl rfl (by kernel_rfl) (by decide) (fun K hK => ?_)
 clear hy
 refine goes_ Tryz.func79 (by kernel_rfl) rfl #[.int .i64 y] (by rfl) rfl rfl (by simp only [List.map_toArray, List.map_cons, List.map_nil]; rfl) ?_
 with_reducible refine (spec_NumOn.calls y (onI y) _ rfl).mono ?_
 rintro e w3 ⟨rfl, q2⟩
 refine ⟨_, rfl, ?_⟩
 have q3 := q2.below
 clear q2
 replace S := S.below q3
 replace hB := hB.trans (q3.mono hB.size)
 replace hk := hk.trans (Kp.of q3)
 replace f3 := blk_below f3 q3
 replace f5 := blk_below f5 q3
 replace f6 := blk_below f6 q3
 clear q3
 refine hK.out _ _ ⟨((blk_cell f3 0).trans rfl), ((blk_cell f3 1).trans rfl), ((blk_cell f3 2).trans rfl)⟩ (fun hHeld => ?_)
 clear hK K
 refine norm_ (a' := ?_) ?_ ?_
 rotate_left
 ·show Act.put _ (some 80) _ = _
  simp only [Act.put, List.setIfInBounds_toArray, List.set_cons_zero, List.set_cons_succ, i64_w, i32_w]
  rfl
 refine pure_ (i := 11) (N := some 81) (v := ?_) (a' := ?_) #[true, true, true, true, true, true, true, true, true, true, true, true, false, false, false, false, false] rfl rfl (by kernel_rfl) (fun _ _ _ h => h) (Or.inl ⟨by rfl, ?_⟩) ?_ ?_
 rotate_left
 ·intro w'
  go_simp
  with_reducible rfl
 rotate_left
 ·simp only [Act.put, List.setIfInBounds_toArray, List.set_cons_zero, List.set_cons_succ, i64_w, i32_w]
  rfl
 refine one_ (i := 12) (N := some 82) #[true, true, true, true, true, true, true, true, true, true, true, true, true, false, false, false, false] rfl rfl (by kernel_rfl) (by decide) (fun K hK => ?_)
 refine goes_ Tryz.func117 (by kernel_rfl) rfl #[.bool (!onI y)] (by rfl) rfl rfl (by simp only [List.map_toArray, List.map_cons, List.map_nil]; rfl) ?_
 with_reducible refine (spec_NumIs.calls (!onI y) (isI (!onI y)) _ (isI_eq _)).mono ?_
 rintro e w4 ⟨rfl, q2⟩
 refine ⟨_, rfl, ?_⟩
 have q3 := q2.below
 clear q2
 replace S := S.below q3
 replace hB := hB.trans (q3.mono hB.size)
 replace hk := hk.trans (Kp.of q3)
 replace f3 := blk_below f3 q3
 replace f5 := blk_below f5 q3
 replace f6 := blk_below f6 q3
 clear q3
 refine hK.out _ _ ⟨((blk_cell f3 0).trans rfl), ((blk_cell f3 1).trans rfl), ((blk_cell f3 2).trans rfl)⟩ (fun hHeld => ?_)
 clear hK K
 refine norm_ (a' := ?_) ?_ ?_
 rotate_left
 ·show Act.put _ (some 82) _ = _
  simp only [Act.put, List.setIfInBounds_toArray, List.set_cons_zero, List.set_cons_succ, i64_w, i32_w]
  rfl
 refine one_ (i := 13) (N := some 83) #[true, true, true, true, true, true, true, true, true, true, true, true, true, true, false, false, false] rfl rfl (by kernel_rfl) (by decide) (fun K hK => ?_)
 refine value_ (w1 := ?_) (v := ?_) (by rfl) rfl ?_ ?_
 rotate_left 2
 ·go_simp
  constructor
  ·rfl
  ·rfl
 refine hK.out _ _ ⟨((blk_cell (blk_alloc f3 _) 0).trans rfl), ((blk_cell (blk_alloc f3 _) 1).trans rfl), ((blk_cell (blk_alloc f3 _) 2).trans rfl)⟩ (fun hHeld => ?_)
 clear hK K
 refine norm_ (a' := ?_) ?_ ?_
 rotate_left
 ·show Act.put _ (some 83) _ = _
  simp only [Act.put, List.setIfInBounds_toArray, List.set_cons_zero, List.set_cons_succ, i64_w, i32_w]
  rfl
 refine one_ (i := 14) (N := some 84) #[true, true, true, true, true, true, true, true, true, true, true, true, true, true, true, false, false] rfl rfl (by kernel_rfl) (by decide) (fun K hK => ?_)
 replace S := S.cut hn
 refine Kd.R_append_step (Kd.int .i64) B (by rfl) (.tmp 74) (.tmp 83) 31 3 (.int .i64 0) 8 rfl Tryz.underlying31 Gz.info3 rfl (by decide) (by omega) (.slice (some ⟨x, 0, none⟩) n ch) (List.reverse (st)) (isI (!onI y)) [.int .i64 (isI (!onI y))] (fun _ => True) (fun _ => False) rfl rfl rfl (fun _ hk => hk.elim) (fun _ _ => trivial) S.h (Below.refl _ _) (eB ▸ hB.size) (by have := S.len.1; simp only [List.length_reverse]; omega) ?_
 intro v9 w9 ho hb hg hat
 obtain ⟨S9, k9⟩ := S.app ho hg hat
 have hB9 : Below w0.heap.size w0 w9 := pw_below_grown hB _ hB.size hg (fun k e => eB ▸ Kd.R_base S.h k e)
 replace f3 := k9.2 _ _ _ f3 (by decide)
 replace f5 := k9.2 _ _ _ f5 (by decide)
 replace f6 := k9.2 _ _ _ f6 (by decide)
 replace hk := hk.trans k9
 clear S hB ho hb hg hat k9
 have S := S9
 have hB := hB9
 clear S9 hB9
 obtain ⟨A9, c9, e9⟩ := Kd.R_slice S.h
 simp only [List.length_reverse, List.length_cons] at e9
 subst e9
 refine hK.out _ _ ⟨((blk_cell f3 0).trans rfl), ((blk_cell f3 1).trans rfl), ((blk_cell f3 2).trans rfl)⟩ (fun hHeld => ?_)
 clear hK K
 refine norm_ (a' := ?_) ?_ ?_
 rotate_left
 ·show Act.put _ (some 84) _ = _
  simp only [Act.put, List.setIfInBounds_toArray, List.set_cons_zero, List.set_cons_succ, i64_w, i32_w]
  rfl
 refine last_ (i := 15) (N := none) #[true, true, true, true, true, true, true, true, true, true, true, true, true, true, true, true, false] rfl rfl (by kernel_rfl) (by decide) (fun K hK => ?_)
 obtain ⟨⟨y0, y1, y2⟩, j0, j1, j2⟩ := Gw.c3 f6
 refine skip_ (w1 := ?_) (by rfl) rfl ?_ ?_
 rotate_left
 ·go_simp
  rfl
 refine hK.out _ _ ?_
 clear hK K
 refine pure_ (i := 16) (N := some 7) (v := ?_) (a' := ?_) #[true, true, true, true, true, true, true, true, true, true, true, true, true, true, true, true, true] rfl rfl (by kernel_rfl) (fun _ _ _ h => h) (Or.inl ⟨by rfl, ?_⟩) ?_ ?_
 rotate_left
 ·intro w'
  go_simp
  with_reducible rfl
 rotate_left
 ·simp only [Act.put, List.setIfInBounds_toArray, List.set_cons_zero, List.set_cons_succ, i64_w, i32_w]
  rfl
 refine done_ (by kernel_rfl) ?_
 clear hHeld y0 y1 y2 j0 j1 j2
 rw [hn] at S
 have hzz := res_store f6 (.slice A0 6 c0) (.slice A1 6 c1) (.slice A2 6 c2)
 go_wp2
 refine bodyPost_ret (results_ct (p := 6) (u := 7) rfl _ _ z6 33 #[.slice A0 6 c0, .slice A1 6 c1, .slice A2 6 c2] (0, 0) _ rfl hzz Tryz.underlying33 rfl (by kernel_rfl)) rfl ⟨_, _, _, _, rfl, SM.st3 S f6 _ _ _, below_set (below_set (below_set hB hz6) hz6) hz6, hk.trans3 f6 hW6 _ _ _⟩
set_option maxRecDepth 100000 in
set_option maxHeartbeats 6400000 in
theorem do_6 (b c d : Int) (B : Nat) (A0 A1 A2 Ah : Option Addr) (c0 c1 c2 n ch : Nat) (m : M3) (y : Int) (st : List Int) (w0 W : World) (S : SM B (.slice A0 6 c0) (.slice A1 6 c1) (.slice A2 6 c2) (.slice Ah (n + 1) ch) m (y :: st) W) (hB : Below w0.heap.size w0 W) (eB : w0.heap.size = B) (hlm : m.len) (hl : n ≤ 12) :
  Calls Tryz.prog 80 #[.agg #[.slice A0 6 c0, .slice A1 6 c1, .slice A2 6 c2], .slice Ah (n + 1) ch, .agg #[.int .i64 6, .int .i64 b, .int .i64 c, .int .i64 d]] W fun e w' => ∃ u0 u1 u2 hu, e = .returned (.tuple #[.agg #[u0, u1, u2], hu]) ∧ SM B u0 u1 u2 hu m st w' ∧ Below w0.heap.size w0 w' ∧ Kp W w' := by
 have hu33 := Tryz.underlying33
 have hu30 := Tryz.underlying30
 have hu28 := Tryz.underlying28
 have hu31 := Tryz.underlying31
 have hn : st.length = n := by have := S.len.1; simp only [List.length_cons] at this; omega
 have hc : n ≤ ch := by have := S.len.2; omega
 obtain ⟨x, rfl, hx⟩ := S.at_ 0 (by simp)
 replace hx : W.cell? ⟨x, n, none⟩ = some (.int .i64 y) := hx
 have wk : wrap64 (n : Int) = (n : Int) := by unfold wrap64; omega
 have wk2 : wrap64 ((n : Int) + 1 - 1) = (n : Int) := by unfold wrap64; omega
 have hni : (n : Int) ≤ (ch : Int) := by omega
 have hlt : (n : Int) < (n : Int) + 1 := by omega
 obtain ⟨k0, f3, f5, f6⟩ := Gw.al3 W (.cells #[.slice A0 6 c0, .slice A1 6 c1, .slice A2 6 c2] 33) (.cells #[.int .i64 6, .int .i64 b, .int .i64 c, .int .i64 d] 30) (.cells #[.slice none 0 0, .slice none 0 0, .slice none 0 0] 33)
 go_enter Tryz.func80, Tryz.ntmps80
 go_upto_region 14 with (fail)
 generalize ((W.alloc _).alloc _).alloc _ = w1 at k0 f3 f5 f6 ⊢
 obtain ⟨z3, e3⟩ : ∃ z, W.heap.size = z := ⟨_, rfl⟩
 obtain ⟨z5, e5⟩ : ∃ z, W.heap.size + 1 = z := ⟨_, rfl⟩
 obtain ⟨z6, e6⟩ : ∃ z, W.heap.size + 2 = z := ⟨_, rfl⟩
 have hz6 : w0.heap.size ≤ z6 := by have := hB.size; omega
 have hW6 : W.heap.size ≤ z6 := by omega
 rw [e3] at f3
 rw [e5] at f5
 rw [e6] at f6
 rw [e6, e5, e3]
 replace S := S.below k0
 replace hB := hB.trans (k0.mono hB.size)
 have hk := Kp.of k0
 clear k0 e3 e5 e6
 go_wp2_with fail
 replace S := S.below (below_drew1 (Below.refl _ _))
 replace hB := below_drew1 hB
 replace hk := hk.trans (Kp.of (below_drew1 (Below.refl _ _)))
 replace f3 : w1.drew.heap[z3]? = _ := f3
 replace f5 : w1.drew.heap[z5]? = _ := f5
 replace f6 : w1.drew.heap[z6]? = _ := f6
 refine start_ (n := 7) (S := fun w' => w'.cell? ⟨z3, 0, none⟩ = some (.slice A0 6 c0) ∧ w'.cell? ⟨z3, 1, none⟩ = some (.slice A1 6 c1) ∧ w'.cell? ⟨z3, 2, none⟩ = some (.slice A2 6 c2)) (ds := [5]) #[false, false, false, false, false, false, false] (by kernel_rfl) rfl rfl ⟨((blk_cell f3 0).trans rfl), ((blk_cell f3 1).trans rfl), ((blk_cell f3 2).trans rfl)⟩ (fun hHeld => ?_)
 refine pure_ (i := 1) (N := some 88) (v := ?_) (a' := ?_) #[false, true, false, false, false, false, false] rfl rfl (by kernel_rfl) (fun _ _ _ h => h) (Or.inl ⟨by rfl, ?_⟩) ?_ ?_
 rotate_left
 ·intro w'
  go_simp
  with_reducible rfl
 rotate_left
 ·simp only [Act.put, List.setIfInBounds_toArray, List.set_cons_zero, List.set_cons_succ, i64_w, i32_w]
  rfl
 refine pure_ (i := 2) (N := some 89) (v := ?_) (a' := ?_) #[false, true, true, false, false, false, false] rfl rfl (by kernel_rfl) (fun _ _ _ h => h) (Or.inl ⟨by rfl, ?_⟩) ?_ ?_
 rotate_left
 ·intro w'
  go_simp
  with_reducible rfl
 rotate_left
 ·simp only [Act.put, List.setIfInBounds_toArray, List.set_cons_zero, List.set_cons_succ, i64_w, i32_w]
  rfl
 refine pure_ (i := 3) (N := some 90) (v := ?_) (a' := ?_) #[false, true, true, true, false, false, false] rfl rfl (by kernel_rfl) (fun _ _ _ h => h) (Or.inl ⟨by rfl, ?_⟩) ?_ ?_
 rotate_left
 ·intro w'
  go_simp
  with_reducible rfl
 rotate_left
 ·simp only [Act.put, List.setIfInBounds_toArray, List.set_cons_zero, List.set_cons_succ, i64_w, i32_w]
  rfl
 refine pure_ (i := 4) (N := some 91) (v := ?_) (a' := ?_) #[false, true, true, true, true, false, false] rfl rfl (by kernel_rfl) (fun _ _ _ h => h) (Or.inl ⟨by rfl, ?_⟩) ?_ ?_
 rotate_left
 ·intro w'
  go_simp
  with_reducible rfl
 rotate_left
 ·simp only [Act.put, List.setIfInBounds_toArray, List.set_cons_zero, List.set_cons_succ, i64_w, i32_w]
  rfl
 refine take_ (i := 0) (N := some 87) (v := ?_) (a' := ?_) #[true, true, true, true, true, false, false] rfl rfl (by kernel_rfl) (fun _ _ _ h => h) (Or.inl ⟨by rfl, ?_⟩) hHeld ?_ ?_
 rotate_left
 ·rintro w' ⟨s0, s1, s2⟩
  go_simp
  with_reducible rfl
 rotate_left
 ·simp only [Act.put, List.setIfInBounds_toArray, List.set_cons_zero, List.set_cons_succ, i64_w, i32_w]
  rfl
 refine last_ (i := 5) (N := none) #[true, true, true, true, true, true, false] rfl rfl (by kernel_rfl) (by decide) (fun K hK => ?_)
 generalize w1.drew = w2 at S hB hk f3 f5 f6 hHeld ⊢
 obtain ⟨⟨y0, y1, y2⟩, j0, j1, j2⟩ := Gw.c3 f6
 refine skip_ (w1 := ?_) (by rfl) rfl ?_ ?_
 rotate_left
 ·go_simp
  rfl
 refine hK.out _ _ ?_
 clear hK K
 refine pure_ (i := 6) (N := some 7) (v := ?_) (a' := ?_) #[true, true, true, true, true, true, true] rfl rfl (by kernel_rfl) (fun _ _ _ h => h) (Or.inl ⟨by rfl, ?_⟩) ?_ ?_
 rotate_left
 ·intro w'
  go_simp
  with_reducible rfl
 rotate_left
 ·simp only [Act.put, List.setIfInBounds_toArray, List.set_cons_zero, List.set_cons_succ, i64_w, i32_w]
  rfl
 refine done_ (by kernel_rfl) ?_
 clear hHeld y0 y1 y2 j0 j1 j2
 replace S := S.cut hn
 have hzz := res_store f6 (.slice A0 6 c0) (.slice A1 6 c1) (.slice A2 6 c2)
 go_wp2
 refine bodyPost_ret (results_ct (p := 6) (u := 7) rfl _ _ z6 33 #[.slice A0 6 c0, .slice A1 6 c1, .slice A2 6 c2] (0, 0) _ rfl hzz Tryz.underlying33 rfl (by kernel_rfl)) rfl ⟨_, _, _, _, rfl, SM.st3 S f6 _ _ _, below_set (below_set (below_set hB hz6) hz6) hz6, hk.trans3 f6 hW6 _ _ _⟩
set_option maxRecDepth 100000 in
set_option maxHeartbeats 6400000 in
theorem do_4 (b c d : Int) (B : Nat) (A0 A1 A2 Ah : Option Addr) (c0 c1 c2 n ch : Nat) (m : M3) (y q t : Int) (st : List Int) (ht : Gt.impl_two.f b q y = some t) (w0 W : World) (S : SM B (.slice A0 6 c0) (.slice A1 6 c1) (.slice A2 6 c2) (.slice Ah (n + 2) ch) m (y :: q :: st) W) (hB : Below w0.heap.size w0 W) (eB : w0.heap.size = B) (hlm : m.len) (hl : n ≤ 12) :
  Calls Tryz.prog 80 #[.agg #[.slice A0 6 c0, .slice A1 6 c1, .slice A2 6 c2], .slice Ah (n + 2) ch, .agg #[.int .i64 4, .int .i64 b, .int .i64 c, .int .i64 d]] W fun e w' => ∃ u0 u1 u2 hu, e = .returned (.tuple #[.agg #[u0, u1, u2], hu]) ∧ SM B u0 u1 u2 hu m (t :: st) w' ∧ Below w0.heap.size w0 w' ∧ Kp W w' := by
 have hu33 := Tryz.underlying33
 have hu30 := Tryz.underlying30
 have hu28 := Tryz.underlying28
 have hu31 := Tryz.underlying31
 have hn : st.length = n := by have := S.len.1; simp only [List.length_cons] at this; omega
 have hc : n ≤ ch := by have := S.len.2; omega
 obtain ⟨x, rfl, hx⟩ := S.at_ 0 (by simp)
 clear hx
 have wk : wrap64 (n : Int) = (n : Int) := by unfold wrap64; omega
 have wk2 : wrap64 ((n : Int) + 2 - 2) = (n : Int) := by unfold wrap64; omega
 have wk3 : wrap64 ((n : Int) + 2 - 1) = (n : Int) + 1 := by unfold wrap64; omega
 have wk4 : wrap64 ((n : Int) + 1) = (n : Int) + 1 := by unfold wrap64; omega
 have hni : (n : Int) ≤ (ch : Int) := by omega
 have hlt : (n : Int) < (n : Int) + 2 := by omega
 have hlt2 : (n : Int) + 1 < (n : Int) + 2 := by omega
 have h01 : (0 : Int) ≤ (n : Int) + 1 := by omega
 obtain ⟨k0, f3, f5, f6⟩ := Gw.al3 W (.cells #[.slice A0 6 c0, .slice A1 6 c1, .slice A2 6 c2] 33) (.cells #[.int .i64 4, .int .i64 b, .int .i64 c, .int .i64 d] 30) (.cells #[.slice none 0 0, .slice none 0 0, .slice none 0 0] 33)
 go_enter Tryz.func80, Tryz.ntmps80
 go_upto_region 10 with (fail)
 generalize ((W.alloc _).alloc _).alloc _ = w1 at k0 f3 f5 f6 ⊢
 obtain ⟨z3, e3⟩ : ∃ z, W.heap.size = z := ⟨_, rfl⟩
 obtain ⟨z5, e5⟩ : ∃ z, W.heap.size + 1 = z := ⟨_, rfl⟩
 obtain ⟨z6, e6⟩ : ∃ z, W.heap.size + 2 = z := ⟨_, rfl⟩
 have hz6 : w0.heap.size ≤ z6 := by have := hB.size; omega
 have hW6 : W.heap.size ≤ z6 := by omega
 rw [e3] at f3
 rw [e5] at f5
 rw [e6] at f6
 rw [e6, e5, e3]
 replace S := S.below k0
 replace hB := hB.trans (k0.mono hB.size)
 have hk := Kp.of k0
 clear k0 e3 e5 e6
 go_wp2_with fail
 replace S := S.below (below_drew1 (Below.refl _ _))
 replace hB := below_drew1 hB
 replace hk := hk.trans (Kp.of (below_drew1 (Below.refl _ _)))
 replace f3 : w1.drew.heap[z3]? = _ := f3
 replace f5 : w1.drew.heap[z5]? = _ := f5
 replace f6 : w1.drew.heap[z6]? = _ := f6
 refine start_ (n := 22) (S := fun w' => w'.cell? ⟨z3, 0, none⟩ = some (.slice A0 6 c0) ∧ w'.cell? ⟨z3, 1, none⟩ = some (.slice A1 6 c1) ∧ w'.cell? ⟨z3, 2, none⟩ = some (.slice A2 6 c2) ∧ w'.cell? ⟨z5, 1, none⟩ = some (.int .i64 b)) (ds := [20]) #[false, false, false, false, false, false, false, false, false, false, false, false, false, false, false, false, false, false, false, false, false, false] (by kernel_rfl) rfl rfl ⟨((blk_cell f3 0).trans rfl), ((blk_cell f3 1).trans rfl), ((blk_cell f3 2).trans rfl), ((blk_cell f5 1).trans rfl)⟩ (fun hHeld => ?_)
 refine pure_ (i := 1) (N := some 49) (v := ?_) (a' := ?_) #[false, true, false, false, false, false, false, false, false, false, false, false, false, false, false, false, false, false, false, false, false, false] rfl rfl (by kernel_rfl) (fun _ _ _ h => h) (Or.inl ⟨by rfl, ?_⟩) ?_ ?_
 rotate_left
 ·intro w'
  go_simp
  with_reducible rfl
 rotate_left
 ·simp only [Act.put, List.setIfInBounds_toArray, List.set_cons_zero, List.set_cons_succ, i64_w, i32_w]
  rfl
 refine pure_ (i := 2) (N := some 50) (v := ?_) (a' := ?_) #[false, true, true, false, false, false, false, false, false, false, false, false, false, false, false, false, false, false, false, false, false, false] rfl rfl (by kernel_rfl) (fun _ _ _ h => h) (Or.inl ⟨by rfl, ?_⟩) ?_ ?_
 rotate_left
 ·intro w'
  go_simp
  with_reducible rfl
 rotate_left
 ·simp only [Act.put, List.setIfInBounds_toArray, List.set_cons_zero, List.set_cons_succ, i64_w, i32_w]
  rfl
 refine pure_ (i := 3) (N := some 51) (v := ?_) (a' := ?_) #[false, true, true, true, false, false, false, false, false, false, false, false, false, false, false, false, false, false, false, false, false, false] rfl rfl (by kernel_rfl) (fun _ _ _ h => h) (Or.inl ⟨by rfl, ?_⟩) ?_ ?_
 rotate_left
 ·intro w'
  go_simp
  with_reducible rfl
 rotate_left
 ·simp only [Act.put, List.setIfInBounds_toArray, List.set_cons_zero, List.set_cons_succ, i64_w, i32_w]
  rfl
 refine pure_ (i := 4) (N := some 52) (v := ?_) (a' := ?_) #[false, true, true, true, true, false, false, false, false, false, false, false, false, false, false, false, false, false, false, false, false, false] rfl rfl (by kernel_rfl) (fun _ _ _ h => h) (Or.inl ⟨by rfl, ?_⟩) ?_ ?_
 rotate_left
 ·intro w'
  go_simp
  with_reducible rfl
 rotate_left
 ·simp only [Act.put, List.setIfInBounds_toArray, List.set_cons_zero, List.set_cons_succ, i64_w, i32_w]
  rfl
 refine pure_ (i := 5) (N := some 53) (v := ?_) (a' := ?_) #[false, true, true, true, true, true, false, false, false, false, false, false, false, false, false, false, false, false, false, false, false, false] rfl rfl (by kernel_rfl) (fun _ _ _ h => h) (Or.inl ⟨by rfl, ?_⟩) ?_ ?_
 rotate_left
 ·intro w'
  go_simp
  with_reducible rfl
 rotate_left
 ·simp only [Act.put, List.setIfInBounds_toArray, List.set_cons_zero, List.set_cons_succ, i64_w, i32_w]
  rfl
 refine pure_ (i := 7) (N := some 55) (v := ?_) (a' := ?_) #[false, true, true, true, true, true, false, true, false, false, false, false, false, false, false, false, false, false, false, false, false, false] rfl rfl (by kernel_rfl) (fun _ _ _ h => h) (Or.inl ⟨by rfl, ?_⟩) ?_ ?_
 rotate_left
 ·intro w'
  go_simp
  with_reducible rfl
 rotate_left
 ·simp only [Act.put, List.setIfInBounds_toArray, List.set_cons_zero, List.set_cons_succ, i64_w, i32_w]
  rfl
 refine pure_ (i := 8) (N := some 56) (v := ?_) (a' := ?_) #[false, true, true, true, true, true, false, true, true, false, false, false, false, false, false, false, false, false, false, false, false, false] rfl rfl (by kernel_rfl) (fun _ _ _ h => h) (Or.inl ⟨by rfl, ?_⟩) ?_ ?_
 rotate_left
 ·intro w'
  go_simp
  with_reducible rfl
 rotate_left
 ·simp only [Act.put, List.setIfInBounds_toArray, List.set_cons_zero, List.set_cons_succ, i64_w, i32_w]
  rfl
 refine pure_ (i := 9) (N := some 57) (v := ?_) (a' := ?_) #[false, true, true, true, true, true, false, true, true, true, false, false, false, false, false, false, false, false, false, false, false, false] rfl rfl (by kernel_rfl) (fun _ _ _ h => h) (Or.inl ⟨by rfl, ?_⟩) ?_ ?_
 rotate_left
 ·intro w'
  go_simp
  with_reducible rfl
 rotate_left
 ·simp only [Act.put, List.setIfInBounds_toArray, List.set_cons_zero, List.set_cons_succ, i64_w, i32_w]
  rfl
 refine pure_ (i := 10) (N := some 58) (v := ?_) (a' := ?_) #[false, true, true, true, true, true, false, true, true, true, true, false, false, false, false, false, false, false, false, false, false, false] rfl rfl (by kernel_rfl) (fun _ _ _ h => h) (Or.inl ⟨by rfl, ?_⟩) ?_ ?_
 rotate_left
 ·intro w'
  go_simp
  with_reducible rfl
 rotate_left
 ·simp only [Act.put, List.setIfInBounds_toArray, List.set_cons_zero, List.set_cons_succ, i64_w, i32_w]
  rfl
 refine pure_ (i := 12) (N := some 60) (v := ?_) (a' := ?_) #[false, true, true, true, true, true, false, true, true, true, true, false, true, false, false, false, false, false, false, false, false, false] rfl rfl (by kernel_rfl) (fun _ _ _ h => h) (Or.inl ⟨by rfl, ?_⟩) ?_ ?_
 rotate_left
 ·intro w'
  go_simp
  with_reducible rfl
 rotate_left
 ·simp only [Act.put, List.setIfInBounds_toArray, List.set_cons_zero, List.set_cons_succ, i64_w, i32_w]
  rfl
 refine pure_ (i := 13) (N := some 61) (v := ?_) (a' := ?_) #[false, true, true, true, true, true, false, true, true, true, true, false, true, true, false, false, false, false, false, false, false, false] rfl rfl (by kernel_rfl) (fun _ _ _ h => h) (Or.inl ⟨by rfl, ?_⟩) ?_ ?_
 rotate_left
 ·intro w'
  go_simp
  with_reducible rfl
 rotate_left
 ·simp only [Act.put, List.setIfInBounds_toArray, List.set_cons_zero, List.set_cons_succ, i64_w, i32_w]
  rfl
 refine pure_ (i := 14) (N := some 62) (v := ?_) (a' := ?_) #[false, true, true, true, true, true, false, true, true, true, true, false, true, true, true, false, false, false, false, false, false, false] rfl rfl (by kernel_rfl) (fun _ _ _ h => h) (Or.inl ⟨by rfl, ?_⟩) ?_ ?_
 rotate_left
 ·intro w'
  go_simp
  with_reducible rfl
 rotate_left
 ·simp only [Act.put, List.setIfInBounds_toArray, List.set_cons_zero, List.set_cons_succ, i64_w, i32_w]
  rfl
 refine pure_ (i := 15) (N := some 63) (v := ?_) (a' := ?_) #[false, true, true, true, true, true, false, true, true, true, true, false, true, true, true, true, false, false, false, false, false, false] rfl rfl (by kernel_rfl) (fun _ _ _ h => h) (Or.inl ⟨by rfl, ?_⟩) ?_ ?_
 rotate_left
 ·intro w'
  go_simp
  with_reducible rfl
 rotate_left
 ·simp only [Act.put, List.setIfInBounds_toArray, List.set_cons_zero, List.set_cons_succ, i64_w, i32_w]
  rfl
 refine take_ (i := 0) (N := some 48) (v := ?_) (a' := ?_) #[true, true, true, true, true, true, false, true, true, true, true, false, true, true, true, true, false, false, false, false, false, false] rfl rfl (by kernel_rfl) (fun _ _ _ h => h) (Or.inl ⟨by rfl, ?_⟩) hHeld ?_ ?_
 rotate_left
 ·rintro w' ⟨s0, s1, s2, s3⟩
  go_simp
  with_reducible rfl
 rotate_left
 ·simp only [Act.put, List.setIfInBounds_toArray, List.set_cons_zero, List.set_cons_succ, i64_w, i32_w]
  rfl
 refine take_ (i := 6) (N := some 54) (v := ?_) (a' := ?_) #[true, true, true, true, true, true, true, true, true, true, true, false, true, true, true, true, false, false, false, false, false, false] rfl rfl (by kernel_rfl) (fun _ _ _ h => h) (Or.inl ⟨by rfl, ?_⟩) hHeld ?_ ?_
 rotate_left
 ·rintro w' ⟨s0, s1, s2, s3⟩
  go_simp
  with_reducible rfl
 rotate_left
 ·simp only [Act.put, List.setIfInBounds_toArray, List.set_cons_zero, List.set_cons_succ, i64_w, i32_w]
  rfl
 refine join_ (σ := Unit) 5 #[true, true, true, true, true, true, true, true, true, true, true, true, true, true, true, true, true, false, false, false, false, false] (fun _ => [(59, .int .i64 q), (64, .int .i64 y)]) (fun _ w' => w' = w1.drew) ?_ ?_
 rotate_left
 ·intro hCont
  refine two_ (i := 11) (j := 16) (Ni := some 59) (Nj := some 64) #[true, true, true, true, true, true, true, true, true, true, true, true, true, true, true, true, false, false, false, false, false, false] #[true, true, true, true, true, true, true, true, true, true, true, false, true, true, true, true, true, false, false, false, false, false] rfl rfl rfl rfl (by kernel_rfl) (by decide) (by decide) (fun K hK => ?_) (fun K hK => ?_)
  ·skip
   have ha1 := SM.top1 S
   have ha2 := SM.top2 S
   refine value_ (w1 := ?_) (v := ?_) (by rfl) rfl ?_ ?_
   rotate_left 2
   ·go_simp
    constructor
    ·rfl
    ·rfl
   clear ha1 ha2
   refine hK.out _ _ ⟨((blk_cell f3 0).trans rfl), ((blk_cell f3 1).trans rfl), ((blk_cell f3 2).trans rfl), ((blk_cell f5 1).trans rfl)⟩ (fun hHeld => ?_)
   clear hK K
   refine norm_ (a' := ?_) ?_ ?_
   rotate_left
   ·show Act.put _ (some 59) _ = _
    simp only [Act.put, List.setIfInBounds_toArray, List.set_cons_zero, List.set_cons_succ, i64_w, i32_w]
    rfl
   refine one_ (i := 16) (N := some 64) #[true, true, true, true, true, true, true, true, true, true, true, true, true, true, true, true, true, false, false, false, false, false] rfl rfl (by kernel_rfl) (by decide) (fun K hK => ?_)
   have ha1 := SM.top1 S
   have ha2 := SM.top2 S
   refine value_ (w1 := ?_) (v := ?_) (by rfl) rfl ?_ ?_
   rotate_left 2
   ·go_simp
    constructor
    ·rfl
    ·rfl
   clear ha1 ha2
   refine hK.out _ _ ⟨((blk_cell f3 0).trans rfl), ((blk_cell f3 1).trans rfl), ((blk_cell f3 2).trans rfl), ((blk_cell f5 1).trans rfl)⟩ (fun hHeld => ?_)
   clear hK K
   refine norm_ (a' := ?_) ?_ ?_
   rotate_left
   ·show Act.put _ (some 64) _ = _
    simp only [Act.put, List.setIfInBounds_toArray, List.set_cons_zero, List.set_cons_succ, i64_w, i32_w]
    rfl
   exact norm_ (by simp only [putAll, Act.put, List.setIfInBounds_toArray, List.set_cons_zero, List.set_cons_succ]) (hCont () _ rfl)
  ·skip
   have ha1 := SM.top1 S
   have ha2 := SM.top2 S
   refine value_ (w1 := ?_) (v := ?_) (by rfl) rfl ?_ ?_
   rotate_left 2
   ·go_simp
    constructor
    ·rfl
    ·rfl
   clear ha1 ha2
   refine hK.out _ _ ⟨((blk_cell f3 0).trans rfl), ((blk_cell f3 1).trans rfl), ((blk_cell f3 2).trans rfl), ((blk_cell f5 1).trans rfl)⟩ (fun hHeld => ?_)
   clear hK K
   refine norm_ (a' := ?_) ?_ ?_
   rotate_left
   ·show Act.put _ (some 64) _ = _
    simp only [Act.put, List.setIfInBounds_toArray, List.set_cons_zero, List.set_cons_succ, i64_w, i32_w]
    rfl
   refine one_ (i := 11) (N := some 59) #[true, true, true, true, true, true, true, true, true, true, true, true, true, true, true, true, true, false, false, false, false, false] rfl rfl (by kernel_rfl) (by decide) (fun K hK => ?_)
   have ha1 := SM.top1 S
   have ha2 := SM.top2 S
   refine value_ (w1 := ?_) (v := ?_) (by rfl) rfl ?_ ?_
   rotate_left 2
   ·go_simp
    constructor
    ·rfl
    ·rfl
   clear ha1 ha2
   refine hK.out _ _ ⟨((blk_cell f3 0).trans rfl), ((blk_cell f3 1).trans rfl), ((blk_cell f3 2).trans rfl), ((blk_cell f5 1).trans rfl)⟩ (fun hHeld => ?_)
   clear hK K
   refine norm_ (a' := ?_) ?_ ?_
   rotate_left
   ·show Act.put _ (some 59) _ = _
    simp only [Act.put, List.setIfInBounds_toArray, List.set_cons_zero, List.set_cons_succ, i64_w, i32_w]
    rfl
   exact norm_ (by simp only [putAll, Act.put, List.setIfInBounds_toArray, List.set_cons_zero, List.set_cons_succ]) (hCont () _ rfl)
 rintro - w2 hw2
 have hHeld : w2.cell? ⟨z3, 0, none⟩ = some (.slice A0 6 c0) ∧ w2.cell? ⟨z3, 1, none⟩ = some (.slice A1 6 c1) ∧ w2.cell? ⟨z3, 2, none⟩ = some (.slice A2 6 c2) ∧ w2.cell? ⟨z5, 1, none⟩ = some (.int .i64 b) := ⟨by rw [hw2]; exact ((blk_cell f3 0).trans rfl), by rw [hw2]; exact ((blk_cell f3 1).trans rfl), by rw [hw2]; exact ((blk_cell f3 2).trans rfl), by rw [hw2]; exact ((blk_cell f5 1).trans rfl)⟩
 rw [← hw2] at S hB hk f3 f5 f6
 clear hw2
 refine norm_ (a' := ?_) ?_ ?_
 rotate_left
 ·simp only [putAll, Act.put, List.setIfInBounds_toArray, List.set_cons_zero, List.set_cons_succ]
  rfl
 refine one_ (i := 17) (N := some 65) #[true, true, true, true, true, true, true, true, true, true, true, true, true, true, true, true, true, true, false, false, false, false] rfl rfl (by kernel_rfl) (by decide) (fun K hK => ?_)
 refine goes_ Tryz.func116 (by kernel_rfl) rfl #[.int .i64 b, .int .i64 q, .int .i64 y] (by rfl) rfl rfl (by simp only [List.map_toArray, List.map_cons, List.map_nil]; rfl) ?_
 with_reducible refine (spec_l3Two.calls b q y t _ ((two_same b q y).trans ht)).mono ?_
 rintro e w3 ⟨rfl, q2⟩
 refine ⟨_, rfl, ?_⟩
 have q3 := q2.below
 clear q2
 replace S := S.below q3
 replace hB := hB.trans (q3.mono hB.size)
 replace hk := hk.trans (Kp.of q3)
 replace f3 := blk_below f3 q3
 replace f5 := blk_below f5 q3
 replace f6 := blk_below f6 q3
 clear q3
 refine hK.out _ _ ⟨((blk_cell f3 0).trans rfl), ((blk_cell f3 1).trans rfl), ((blk_cell f3 2).trans rfl), ((blk_cell f5 1).trans rfl)⟩ (fun hHeld => ?_)
 clear hK K
 refine norm_ (a' := ?_) ?_ ?_
 rotate_left
 ·show Act.put _ (some 65) _ = _
  simp only [Act.put, List.setIfInBounds_toArray, List.set_cons_zero, List.set_cons_succ, i64_w, i32_w]
  rfl
 refine one_ (i := 18) (N := some 66) #[true, true, true, true, true, true, true, true, true, true, true, true, true, true, true, true, true, true, true, false, false, false] rfl rfl (by kernel_rfl) (by decide) (fun K hK => ?_)
 refine value_ (w1 := ?_) (v := ?_) (by rfl) rfl ?_ ?_
 rotate_left 2
 ·go_simp
  constructor
  ·rfl
  ·rfl
 refine hK.out _ _ ⟨((blk_cell (blk_alloc f3 _) 0).trans rfl), ((blk_cell (blk_alloc f3 _) 1).trans rfl), ((blk_cell (blk_alloc f3 _) 2).trans rfl), ((blk_cell (blk_alloc f5 _) 1).trans rfl)⟩ (fun hHeld => ?_)
 clear hK K
 refine norm_ (a' := ?_) ?_ ?_
 rotate_left
 ·show Act.put _ (some 66) _ = _
  simp only [Act.put, List.setIfInBounds_toArray, List.set_cons_zero, List.set_cons_succ, i64_w, i32_w]
  rfl
 refine one_ (i := 19) (N := some 67) #[true, true, true, true, true, true, true, true, true, true, true, true, true, true, true, true, true, true, true, true, false, false] rfl rfl (by kernel_rfl) (by decide) (fun K hK => ?_)
 replace S := S.cut2 hn
 refine Kd.R_append_step (Kd.int .i64) B (by rfl) (.tmp 52) (.tmp 66) 31 3 (.int .i64 0) 8 rfl Tryz.underlying31 Gz.info3 rfl (by decide) (by omega) (.slice (some ⟨x, 0, none⟩) n ch) (List.reverse (st)) (t) [.int .i64 (t)] (fun _ => True) (fun _ => False) rfl rfl rfl (fun _ hk => hk.elim) (fun _ _ => trivial) S.h (Below.refl _ _) (eB ▸ hB.size) (by have := S.len.1; simp only [List.length_reverse]; omega) ?_
 intro v9 w9 ho hb hg hat
 obtain ⟨S9, k9⟩ := S.app ho hg hat
 have hB9 : Below w0.heap.size w0 w9 := pw_below_grown hB _ hB.size hg (fun k e => eB ▸ Kd.R_base S.h k e)
 replace f3 := k9.2 _ _ _ f3 (by decide)
 replace f5 := k9.2 _ _ _ f5 (by decide)
 replace f6 := k9.2 _ _ _ f6 (by decide)
 replace hk := hk.trans k9
 clear S hB ho hb hg hat k9
 have S := S9
 have hB := hB9
 clear S9 hB9
 obtain ⟨A9, c9, e9⟩ := Kd.R_slice S.h
 simp only [List.length_reverse, List.length_cons] at e9
 subst e9
 refine hK.out _ _ ⟨((blk_cell f3 0).trans rfl), ((blk_cell f3 1).trans rfl), ((blk_cell f3 2).trans rfl), ((blk_cell f5 1).trans rfl)⟩ (fun hHeld => ?_)
 clear hK K
 refine norm_ (a' := ?_) ?_ ?_
 rotate_left
 ·show Act.put _ (some 67) _ = _
  simp only [Act.put, List.setIfInBounds_toArray, List.set_cons_zero, List.set_cons_succ, i64_w, i32_w]
  rfl
 refine last_ (i := 20) (N := none) #[true, true, true, true, true, true, true, true, true, true, true, true, true, true, true, true, true, true, true, true, true, false] rfl rfl (by kernel_rfl) (by decide) (fun K hK => ?_)
 obtain ⟨⟨y0, y1, y2⟩, j0, j1, j2⟩ := Gw.c3 f6
 refine skip_ (w1 := ?_) (by rfl) rfl ?_ ?_
 rotate_left
 ·go_simp
  rfl
 refine hK.out _ _ ?_
 clear hK K
 refine pure_ (i := 21) (N := some 7) (v := ?_) (a' := ?_) #[true, true, true, true, true, true, true, true, true, true, true, true, true, true, true, true, true, true, true, true, true, true] rfl rfl (by kernel_rfl) (fun _ _ _ h => h) (Or.inl ⟨by rfl, ?_⟩) ?_ ?_
 rotate_left
 ·intro w'
  go_simp
  with_reducible rfl
 rotate_left
 ·simp only [Act.put, List.setIfInBounds_toArray, List.set_cons_zero, List.set_cons_succ, i64_w, i32_w]
  rfl
 refine done_ (by kernel_rfl) ?_
 clear hHeld y0 y1 y2 j0 j1 j2
 rw [hn] at S
 have hzz := res_store f6 (.slice A0 6 c0) (.slice A1 6 c1) (.slice A2 6 c2)
 go_wp2
 refine bodyPost_ret (results_ct (p := 6) (u := 7) rfl _ _ z6 33 #[.slice A0 6 c0, .slice A1 6 c1, .slice A2 6 c2] (0, 0) _ rfl hzz Tryz.underlying33 rfl (by kernel_rfl)) rfl ⟨_, _, _, _, rfl, SM.st3 S f6 _ _ _, below_set (below_set (below_set hB hz6) hz6) hz6, hk.trans3 f6 hW6 _ _ _⟩
set_option maxRecDepth 100000 in
set_option maxHeartbeats 6400000 in
theorem do_else (b c d : Int) (B : Nat) (A0 A1 A2 Ah : Option Addr) (c0 c1 c2 n ch : Nat) (m : M3) (k : Int) (st : List Int) (h1 : k ≠ 1) (h2 : k ≠ 2) (h3 : k ≠ 3) (h4 : k ≠ 4) (h5 : k ≠ 5) (h6 : k ≠ 6) (w0 W : World) (S : SM B (.slice A0 6 c0) (.slice A1 6 c1) (.slice A2 6 c2) (.slice Ah n ch) m (st) W) (hB : Below w0.heap.size w0 W) (eB : w0.heap.size = B) (hlm : m.len) (hl : n ≤ 12) :
  Calls Tryz.prog 80 #[.agg #[.slice A0 6 c0, .slice A1 6 c1, .slice A2 6 c2], .slice Ah n ch, .agg #[.int .i64 k, .int .i64 b, .int .i64 c, .int .i64 d]] W fun e w' => ∃ u0 u1 u2 hu, e = .returned (.tuple #[.agg #[u0, u1, u2], hu]) ∧ SM B u0 u1 u2 hu m st w' ∧ Below w0.heap.size w0 w' ∧ Kp W w' := by
 have hu33 := Tryz.underlying33
 have hu30 := Tryz.underlying30
 have hu28 := Tryz.underlying28
 have hu31 := Tryz.underlying31
 obtain ⟨k0, f3, f5, f6⟩ := Gw.al3 W (.cells #[.slice A0 6 c0, .slice A1 6 c1, .slice A2 6 c2] 33) (.cells #[.int .i64 k, .int .i64 b, .int .i64 c, .int .i64 d] 30) (.cells #[.slice none 0 0, .slice none 0 0, .slice none 0 0] 33)
 go_enter Tryz.func80, Tryz.ntmps80
 go_upto_region 15 with (fail)
 generalize ((W.alloc _).alloc _).alloc _ = w1 at k0 f3 f5 f6 ⊢
 obtain ⟨z3, e3⟩ : ∃ z, W.heap.size = z := ⟨_, rfl⟩
 obtain ⟨z5, e5⟩ : ∃ z, W.heap.size + 1 = z := ⟨_, rfl⟩
 obtain ⟨z6, e6⟩ : ∃ z, W.heap.size + 2 = z := ⟨_, rfl⟩
 have hz6 : w0.heap.size ≤ z6 := by have := hB.size; omega
 have hW6 : W.heap.size ≤ z6 := by omega
 rw [e3] at f3
 rw [e5] at f5
 rw [e6] at f6
 rw [e6, e5, e3]
 replace S := S.below k0
 replace hB := hB.trans (k0.mono hB.size)
 have hk := Kp.of k0
 clear k0 e3 e5 e6
 have i0 : w1.cell? ⟨z3, 0, none⟩ = some (.slice A0 6 c0) := (blk_cell f3 0).trans rfl
 have i1 : w1.cell? ⟨z3, 1, none⟩ = some (.slice A1 6 c1) := (blk_cell f3 1).trans rfl
 have i2 : w1.cell? ⟨z3, 2, none⟩ = some (.slice A2 6 c2) := (blk_cell f3 2).trans rfl
 obtain ⟨⟨y0, y1, y2⟩, j0, j1, j2⟩ := Gw.c3 f6
 have hzz := res_store f6 (.slice A0 6 c0) (.slice A1 6 c1) (.slice A2 6 c2)
 go_wp2
 refine bodyPost_ret (results_ct (p := 6) (u := 7) rfl _ _ z6 33 #[.slice A0 6 c0, .slice A1 6 c1, .slice A2 6 c2] (0, 0) _ rfl hzz Tryz.underlying33 rfl (by kernel_rfl)) rfl ⟨_, _, _, _, rfl, SM.st3 S f6 _ _ _, below_set (below_set (below_set hB hz6) hz6) hz6, hk.trans3 f6 hW6 _ _ _⟩
theorem l5Do_any (i : S30) (B : Nat) (v0 v1 v2 hv : Value) (m : M3) (st : List Int) (r : M3 × List Int) (w0 W : World) (S : SM B v0 v1 v2 hv m st W) (hB : Below w0.heap.size w0 W) (eB : w0.heap.size = B) (hlm : m.len) (hl : st.length ≤ 12) (hd : doI i m st = some r) :
  Calls Tryz.prog 80 #[.agg #[v0, v1, v2], hv, .agg #[.int .i64 i.f0, .int .i64 i.f1, .int .i64 i.f2.f0, .int .i64 i.f2.f1]] W fun e w' => ∃ u0 u1 u2 hu, e = .returned (.tuple #[.agg #[u0, u1, u2], hu]) ∧ SM B u0 u1 u2 hu r.1 r.2 w' ∧ Below w0.heap.size w0 w' ∧ Kp W w' := by
 obtain ⟨a, b, ⟨c, d⟩⟩ := i
 obtain ⟨l0, l1, l2⟩ := hlm
 obtain ⟨A0, c0, rfl⟩ := Kd.R_slice S.a
 obtain ⟨A1, c1, rfl⟩ := Kd.R_slice S.b
 obtain ⟨A2, c2, rfl⟩ := Kd.R_slice S.c
 obtain ⟨Ah, ch, rfl⟩ := Kd.R_slice S.h
 have hlm : m.len := ⟨l0, l1, l2⟩
 rw [l0, l1, l2, List.length_reverse] at *
 unfold doI at hd
 simp only at hd
 by_cases e1 : a = 1
 ·subst e1
  rw [if_pos rfl] at hd
  by_cases q : st.length < 12
  ·rw [if_pos q] at hd; cases hd
   exact do_1 b c d B A0 A1 A2 Ah c0 c1 c2 _ ch m st w0 W S hB eB hlm hl
  ·rw [if_neg q] at hd; cases hd
 rw [if_neg e1] at hd
 by_cases e2 : a = 2
 ·subst e2
  rw [if_pos rfl] at hd
  by_cases q : st.length < 12 ∧ aOk c d = true
  ·rw [if_pos q] at hd; cases hd
   exact do_2 b c d B A0 A1 A2 Ah c0 c1 c2 _ ch m st q.2 w0 W S hB eB hlm hl
  ·rw [if_neg q] at hd; cases hd
 rw [if_neg e2] at hd
 by_cases e3 : a = 3
 ·subst e3
  rw [if_pos rfl] at hd
  match st, S, hl, hd with
  | [], _, _, hd => cases hd
  | y :: s, S, hl, hd =>
   by_cases q : pOk c d = true
   ·simp only [if_pos q] at hd; cases hd
    exact do_3 b c d B A0 A1 A2 Ah c0 c1 c2 s.length ch m y s q w0 W S hB eB hlm (by simp only [List.length_cons] at hl; omega)
   ·simp only [if_neg q] at hd; cases hd
 rw [if_neg e3] at hd
 by_cases e4 : a = 4
 ·subst e4
  rw [if_pos rfl] at hd
  match st, S, hl, hd with
  | [], _, _, hd => cases hd
  | [_], _, _, hd => cases hd
  | y :: x :: s, S, hl, hd =>
   cases ht : Gt.impl_two.f b x y with
   | none => simp only [ht] at hd; cases hd
   | some t =>
    simp only [ht] at hd; cases hd
    exact do_4 b c d B A0 A1 A2 Ah c0 c1 c2 s.length ch m y x t s ht w0 W S hB eB hlm (by simp only [List.length_cons] at hl; omega)
 rw [if_neg e4] at hd
 by_cases e5 : a = 5
 ·subst e5
  rw [if_pos rfl] at hd
  match st, S, hl, hd with
  | [], _, _, hd => cases hd
  | y :: s, S, hl, hd =>
   cases hd
   exact do_5 b c d B A0 A1 A2 Ah c0 c1 c2 s.length ch m y s w0 W S hB eB hlm (by simp only [List.length_cons] at hl; omega)
 rw [if_neg e5] at hd
 by_cases e6 : a = 6
 ·subst e6
  rw [if_pos rfl] at hd
  match st, S, hl, hd with
  | [], _, _, hd => cases hd
  | y :: s, S, hl, hd =>
   cases hd
   exact do_6 b c d B A0 A1 A2 Ah c0 c1 c2 s.length ch m y s w0 W S hB eB hlm (by simp only [List.length_cons] at hl; omega)
 rw [if_neg e6] at hd
 by_cases e7 : a = 7 ∨ a = 8
 ·rw [if_pos e7] at hd; cases hd
  exact do_else b c d B A0 A1 A2 Ah c0 c1 c2 _ ch m a st e1 e2 e3 e4 e5 e6 w0 W S hB eB hlm hl
 ·rw [if_neg e7] at hd; cases hd
end Go.Proofs.YtjamfddhcigchaaGreatDoor.Sd
