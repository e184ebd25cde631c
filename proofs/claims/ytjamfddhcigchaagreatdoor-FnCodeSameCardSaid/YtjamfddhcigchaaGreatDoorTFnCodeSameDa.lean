/- The draws of a memory and of a run, walked: what they answer is some memory, code and fuel. No other condition. -/
import Derived.Test.YtjamfddhcigchaaGreatDoorTFnCodeSameHb
import Derived.Test.YtjamfddhcigchaaGreatDoorTFnCodeSameDm
namespace Go.Proofs.YtjamfddhcigchaaGreatDoor.Da
open Go.RowKit  Go.Proofs.YtjamfddhcigchaaGreatDoor.Gz Go.Proofs.YtjamfddhcigchaaGreatDoor.Gq Go.Proofs.YtjamfddhcigchaaGreatDoor.Hx Go.Proofs.YtjamfddhcigchaaGreatDoor.Hb Go.Proofs.YtjamfddhcigchaaGreatDoor.HFnCodeSame Go.Proofs.YtjamfddhcigchaaGreatDoorW.PrintWords Go.Proofs.YtjamfddhcigchaaGreatDoorW.PrintLast Go.Proofs.YtjamfddhcigchaaGreatDoorW.PrintMore
set_option linter.unusedVariables false
set_option linter.unusedSimpArgs false
def Rd (W : World) (v : Value) : Prop := ∃ (l : List Int) (base : Nat), Kd.R (Kd.int .i64) 3 W base (fun _ => True) v l
theorem rd_of {W : World} {base : Nat} {ok : Nat → Prop} {v : Value} {l : List Int} (h : Kd.R (Kd.int .i64) 3 W base ok v l) : Rd W v := ⟨l, base, R_int_ok h (fun _ _ => trivial)⟩
theorem Rd.keep {w0 W W' : World} {g : Nat} {s : List Int} {q : Int} {v : Value} (h : Rd W v) (hI : IsS98 w0 W g s q) (k : KeepBut W W' g none) : Rd W' v := by
 obtain ⟨l, base, h⟩ := h
 have hne := IsS98.own_ne hI h (by decide)
 exact rd_of (Kd.R_keep (R_int_ok (ok' := fun k => k ≠ g) h (fun b hb e => hne (by rw [hb, e]))) k (fun _ e => e))
theorem Rd.below {W W' : World} {v : Value} (h : Rd W v) (k : Below W.heap.size W W') : Rd W' v := by
 obtain ⟨l, base, h⟩ := h
 exact ⟨l, base, Kd.R_below h k⟩
theorem Rd.far {W : World} {z i : Nat} {v : Value} {cs : Array Value} (h : Rd W v) (hz : W.heap[z]? = some (.cells cs 33 (0, 0))) (u : Value) : Rd (W.setCell ⟨z, i, none⟩ u) v := by
 obtain ⟨l, base, h⟩ := h
 have hne : ∀ b, v.ownBlock = some b → b ≠ z := fun b hb e => by
  obtain ⟨cells, hc⟩ := Kd.R_typed h b hb
  subst e
  rw [hz] at hc
  injection hc with hc
  injection hc with _ hc
  exact absurd hc (by decide)
 exact rd_of (Kd.R_far (p := ⟨z, i, none⟩) (R_int_ok (ok' := fun k => k ≠ z) h hne) (fun _ e => e) u)
theorem Rd.C {W : World} {v : Value} (h : Rd W v) : ∃ (l : List Int) (A : Option Addr) (c : Nat), v = .slice A l.length c ∧ l.length ≤ c ∧ Kd.C (Kd.int .i64) W A l.length l := by
 obtain ⟨l, base, h⟩ := h
 obtain ⟨A, c, e, hl, hC⟩ := Kd.R_reads h
 exact ⟨l, A, c, e, hl, hC⟩
theorem Rd.st3 {W : World} {z : Nat} {v : Value} {cs : Array Value} (h : Rd W v) (hz : W.heap[z]? = some (.cells cs 33 (0, 0))) (a b c : Value) : Rd (((W.setCell ⟨z, 0, none⟩ a).setCell ⟨z, 1, none⟩ b).setCell ⟨z, 2, none⟩ c) v :=
 ((h.far hz a).far (blk_put hz 0 a rfl) b).far (blk_put (blk_put hz 0 a rfl) 1 b rfl) c
theorem isS_st3 {w0 W : World} {g z : Nat} {s : List Int} {q : Int} (h : IsS98 w0 W g s q) (ne : g ≠ z) (a b c : Value) : IsS98 w0 (((W.setCell ⟨z, 0, none⟩ a).setCell ⟨z, 1, none⟩ b).setCell ⟨z, 2, none⟩ c) g s q := IsS98.far (IsS98.far (IsS98.far h ne a) ne b) ne c
theorem keep_st {w W : World} {g z i : Nat} (h : KeepBut w W g none) (hz : w.heap.size ≤ z) (a : Value) : KeepBut w (W.setCell ⟨z, i, none⟩ a) g none :=
 ⟨by simpa using h.1, fun k hk hg hr => (Below.heap_setCell W ⟨z, i, none⟩ a k (by show k ≠ z; omega)).trans (h.2 k hk hg hr)⟩
theorem keep_st3 {w W : World} {g z : Nat} (h : KeepBut w W g none) (hz : w.heap.size ≤ z) (a b c : Value) : KeepBut w (((W.setCell ⟨z, 0, none⟩ a).setCell ⟨z, 1, none⟩ b).setCell ⟨z, 2, none⟩ c) g none := keep_st (keep_st (keep_st h hz a) hz b) hz c
theorem Rd.own {W : World} {v : Value} (h : Rd W v) : v.ownBlock = none ∨ ∃ x n c, v = .slice (some ⟨x, 0, none⟩) n c := by
 obtain ⟨l, base, h⟩ := h
 obtain ⟨inner, ho⟩ := Kd.R_own h
 rcases ho.2 with ⟨e, _⟩ | ⟨x, cap, cur, e, _⟩
 ·rw [e]; exact .inl rfl
 ·exact .inr ⟨x, _, cap, e⟩
theorem Rd.seti {W : World} {v : Value} (h : Rd W v) (x : Nat) (n : Int) : Rd (W.setCell ⟨x, 0, none⟩ (.int .i64 n)) v := by
 have hown := h.own
 obtain ⟨l, base, h⟩ := h
 by_cases e : v.ownBlock = some x
 ·rcases hown with h0 | ⟨y, m, c, rfl⟩
  ·rw [h0] at e; cases e
  ·obtain rfl : y = x := by simpa [Value.ownBlock] using e
   have := Kd.R_putn h 0 n
   exact rd_of this
 ·exact rd_of (Kd.R_far (p := ⟨x, 0, none⟩) (R_int_ok (ok' := fun k => k ≠ x) h (fun b hb e2 => e (by rw [hb, e2]))) (fun _ e => e) (.int .i64 n))
theorem Rd.take2 {W : World} {A : Option Addr} {c : Nat} (h : Rd W (.slice A 6 c)) : 6 ≤ c ∧ Rd W (.slice A 2 c) := by
 obtain ⟨l, base, h⟩ := h
 obtain ⟨hn, hc, _⟩ := Kd.R_reads' h
 exact ⟨hc, ⟨_, base, Kd.R_take h (m := 2) (by omega)⟩⟩
theorem Rd.at0 {W : World} {A : Option Addr} {c : Nat} (h : Rd W (.slice A 6 c)) : ∃ x v, A = some ⟨x, 0, none⟩ ∧ W.cell? ⟨x, 0, none⟩ = some (.int .i64 v) ∧ W.frozen? ⟨x, 0, none⟩ = false ∧ ∃ cells, W.heap[x]? = some (.cells cells 3 (0, 0)) := by
 have hown := h.own
 obtain ⟨l, base, h⟩ := h
 rcases hown with h0 | ⟨x, m, c2, e⟩
 ·obtain ⟨hn, hc, hr⟩ := Kd.R_reads' h
  obtain ⟨ad, rfl, _⟩ := Kd.at_int hr 0 (by omega) (by omega)
  cases h0
 ·injection e with e1 e2 e3
  subst e1
  obtain ⟨a, b⟩ := Kd.R_celln 0 h (0 : Int) (by omega) (by omega)
  exact ⟨x, _, rfl, a, b, Kd.R_typed h x rfl⟩
set_option maxRecDepth 100000 in
set_option maxHeartbeats 6400000 in
theorem bent_all (g : Nat) (s : List Int) (q : Int) (w0 w : World) (hI : IsS98 w0 w g s q) (hB : Below w0.heap.size w0 w) (hs : Byt s) (h0q : 0 ≤ q) (h1q : q ≤ 900000) (K : Nat) (v : Int) (hp : spec_l12Rd_pick.f K s (q + 12) 30 = some (v, q + 12 + 1)) :
  Calls Tryz.prog 34 #[.pointer (some ⟨g, 0, none⟩)] w fun e w' => ∃ v0 v1 v2, e = .returned (.agg #[v0, v1, v2]) ∧ Rd w' v0 ∧ Rd w' v1 ∧ Rd w' v2 ∧ IsS98 w0 w' g s (q + 12 + 1) ∧ Below w0.heap.size w0 w' ∧ KeepBut w w' g none := by
 have hu33 := Tryz.underlying33
 have hu31 := Tryz.underlying31
 have hg := IsS98.lt hI
 have sw := hB.size
 have kz := KeepBut.of_below (below_alloc (Below.refl w.heap.size w) (.cells #[.slice none 0 0, .slice none 0 0, .slice none 0 0] 33)) g none
 have bz := heap_alloc_new w (.cells #[.slice none 0 0, .slice none 0 0, .slice none 0 0] 33)
 have cm := Dm.l2Mem_any g s q w0 _ (hI.alloc (.cells #[.slice none 0 0, .slice none 0 0, .slice none 0 0] 33)) (below_alloc hB _) hs h0q h1q
 have hp' := Aside0.mk hp
 clear hp
 go_enter Tryz.func34, Tryz.ntmps34
 go_wp2_with fail
 refine cm.mono ?_
 rintro e w1 ⟨x0, x1, x2, c0, c1, c2, rfl, r0, r1, r2, n01, n21, i1, b1, k1⟩
 clear cm
 generalize w.alloc _ = wz at kz bz k1 r0 r1 r2
 have szz : w.heap.size < wz.heap.size := blk_lt bz
 have bz1 := k1.blk bz (by omega) (by simp)
 have kk := kz.trans k1 (.inl rfl)
 have e0 : ∀ k, (Value.slice (some ⟨x0, 0, none⟩) 6 c0).ownBlock = some k → some k ≠ (Value.slice (some ⟨x1, 0, none⟩) 6 c1).ownBlock := fun k hk e => n01 (by rw [← hk] at e; simpa [Value.ownBlock] using e)
 have e2 : ∀ k, (Value.slice (some ⟨x2, 0, none⟩) 6 c2).ownBlock = some k → some k ≠ (Value.slice (some ⟨x1, 0, none⟩) 6 c1).ownBlock := fun k hk e => n21 (by rw [← hk] at e; simpa [Value.ownBlock] using e)
 have eb : ∀ k, (Value.slice (some ⟨x1, 0, none⟩) 6 c1).ownBlock = some k → wz.heap.size ≤ k := fun k hk => by obtain ⟨l, h⟩ := r1; exact Kd.R_base h k hk
 have m2b : ∀ k, (Value.slice (some ⟨x2, 0, none⟩) 6 c2).ownBlock = some k → wz.heap.size ≤ k := fun k hk => by obtain ⟨l, h⟩ := r2; exact Kd.R_base h k hk
 have m0 : Rd w1 (.slice (some ⟨x0, 0, none⟩) 6 c0) := by obtain ⟨l, h⟩ := r0; exact rd_of h
 have m1 : Rd w1 (.slice (some ⟨x1, 0, none⟩) 6 c1) := by obtain ⟨l, h⟩ := r1; exact rd_of h
 have m2 : Rd w1 (.slice (some ⟨x2, 0, none⟩) 6 c2) := by obtain ⟨l, h⟩ := r2; exact rd_of h
 clear r0 r1 r2 kz bz n01 n21
 generalize (some (⟨x0, 0, none⟩ : Addr)) = A0 at *
 generalize (some (⟨x1, 0, none⟩ : Addr)) = A1 at *
 generalize (some (⟨x2, 0, none⟩ : Addr)) = A2 at *
 have s1 := k1.1
 go_upto_region 2 with (fail)
 have kb := Below.refl w1.heap.size w1 |> fun x => below_alloc x (.cells #[.slice A0 6 c0, .slice A1 6 c1, .slice A2 6 c2] 33)
 have b3 := heap_alloc_new w1 (.cells #[.slice A0 6 c0, .slice A1 6 c1, .slice A2 6 c2] 33)
 replace bz1 := blk_below bz1 kb
 replace i1 := i1.below kb
 replace b1 := b1.trans (kb.mono b1.size)
 replace m0 := m0.below kb
 replace m1 := m1.below kb
 replace m2 := m2.below kb
 replace kk := kk.trans (KeepBut.of_below kb g none) (.inl rfl)
 obtain ⟨z, hz⟩ : ∃ z, w.heap.size = z := ⟨_, rfl⟩
 obtain ⟨z3, hz3⟩ : ∃ z, w1.heap.size = z := ⟨_, rfl⟩
 rw [hz] at bz1 ⊢
 rw [hz3] at b3 ⊢
 have z3g : z ≠ z3 ∧ g ≠ z3 ∧ g ≠ z ∧ w0.heap.size ≤ z ∧ w0.heap.size ≤ z3 := by have := i1.lt; omega
 clear kb k1
 generalize w1.alloc (Obj.cells _ 33) = w2 at b3 bz1 i1 b1 m0 m1 m2 kk ⊢
 go_wp2_with fail
 refine (spec_l12Rd_pick.calls K g s (q + 12) 30 v (q + 12 + 1) w0 w2 i1 b1 hp'.out).mono ?_
 rintro e w3 ⟨rfl, i3, b_3, k3⟩
 replace b3 := k3.blk b3 (Ne.symm z3g.2.1) (by simp)
 replace bz1 := k3.blk bz1 (Ne.symm z3g.2.2.1) (by simp)
 replace m0 := m0.keep i1 k3
 replace m1 := m1.keep i1 k3
 replace m2 := m2.keep i1 k3
 have kk3 := kk.trans k3 (.inl rfl)
 clear i1 b1 kk k3
 by_cases h0 : v = 0
 ·have d0 : (v == 0) = true := by simpa using h0
  clear h0
  obtain ⟨hc6, m0'⟩ := m0.take2
  have hc2 : 2 ≤ c0 := by omega
  have i0 : w3.cell? ⟨z3, 0, none⟩ = some (.slice A0 6 c0) := (blk_cell b3 0).trans rfl
  have j0 := blk_frozen b3 0
  go_upto_region 9 with (fail)
  clear i0 j0 m0 hc6 hc2
  replace m0 := m0'.far (i := 0) b3 (.slice A0 2 c0)
  replace m1 := m1.far (i := 0) b3 (.slice A0 2 c0)
  replace m2 := m2.far (i := 0) b3 (.slice A0 2 c0)
  have i3_ := IsS98.far (p := ⟨z3, 0, none⟩) i3 z3g.2.1 (.slice A0 2 c0)
  replace bz1 := blk_far (p := ⟨z3, 0, none⟩) bz1 z3g.1 (.slice A0 2 c0)
  replace b_3 := below_set (j := 0) (v := .slice A0 2 c0) b_3 z3g.2.2.2.2
  replace kk3 := keep_st (i := 0) kk3 (show w.heap.size ≤ z3 by omega) (.slice A0 2 c0)
  replace b3 := blk_put b3 0 (.slice A0 2 c0) rfl
  clear m0' i3
  generalize w3.setCell _ _ = wf at m0 m1 m2 i3_ bz1 b_3 kk3 b3 ⊢
  have i0 : wf.cell? ⟨z3, 0, none⟩ = some (.slice A0 2 c0) := (blk_cell b3 0).trans rfl
  have i1 : wf.cell? ⟨z3, 1, none⟩ = some (.slice A1 6 c1) := (blk_cell b3 1).trans rfl
  have i2 : wf.cell? ⟨z3, 2, none⟩ = some (.slice A2 6 c2) := (blk_cell b3 2).trans rfl
  have y0 : wf.cell? ⟨z, 0, none⟩ = some (.slice none 0 0) := (blk_cell bz1 0).trans rfl
  have y1 : wf.cell? ⟨z, 1, none⟩ = some (.slice none 0 0) := (blk_cell bz1 1).trans rfl
  have y2 : wf.cell? ⟨z, 2, none⟩ = some (.slice none 0 0) := (blk_cell bz1 2).trans rfl
  have j0 : wf.frozen? ⟨z, 0, none⟩ = false := blk_frozen bz1 0
  have j1 : wf.frozen? ⟨z, 1, none⟩ = false := blk_frozen bz1 1
  have j2 : wf.frozen? ⟨z, 2, none⟩ = false := blk_frozen bz1 2
  have hzz := res_store bz1 (.slice A0 2 c0) (.slice A1 6 c1) (.slice A2 6 c2)
  go_wp2
  refine bodyPost_ret (results_cell_row rfl _ _ z 33 #[.slice A0 2 c0, .slice A1 6 c1, .slice A2 6 c2] (0, 0) _ rfl hzz Tryz.underlying33 rfl (by kernel_rfl)) rfl ⟨_, _, _, rfl, Rd.st3 m0 bz1 _ _ _, Rd.st3 m1 bz1 _ _ _, Rd.st3 m2 bz1 _ _ _, isS_st3 i3_ z3g.2.2.1 _ _ _, below_set (below_set (below_set b_3 z3g.2.2.2.1) z3g.2.2.2.1) z3g.2.2.2.1, keep_st3 kk3 (by omega) _ _ _⟩
 by_cases h0' : v = 1
 ·have d0 : (v == 0) = false := by simp; omega
  have d1 : (v == 1) = true := by simpa using h0'
  clear h0 h0'
  obtain ⟨x, u, rfl, x0, f0, cells, xt⟩ := m2.at0
  have i2 : w3.cell? ⟨z3, 2, none⟩ = some (.slice (some ⟨x, 0, none⟩) 6 c2) := (blk_cell b3 2).trans rfl
  go_upto_region 9 with (fail)
  have ne := fun {b : Nat} {cs : Array Value} {t : TypeId} (hb : w3.heap[b]? = some (.cells cs t (0, 0))) (ht : t ≠ 3) => (fun e => by subst e; rw [xt] at hb; injection hb with hb; injection hb with _ hb; exact ht hb.symm : b ≠ x)
  have bx : w.heap.size ≤ x := by have h := m2b x (by simp [Value.ownBlock]); omega
  have gx : g ≠ x := IsS98.ne_blk i3 xt (by decide)
  have z3x := ne b3 (by decide)
  have zx := ne bz1 (by decide)
  clear i2 x0 f0 xt ne
  replace m0 := m0.seti x 1000001
  replace m1 := m1.seti x 1000001
  replace m2 := m2.seti x 1000001
  have i3_ := IsS98.far (p := ⟨x, 0, none⟩) i3 gx (.int .i64 1000001)
  replace bz1 := blk_far (p := ⟨x, 0, none⟩) bz1 zx (.int .i64 1000001)
  replace b3 := blk_far (p := ⟨x, 0, none⟩) b3 z3x (.int .i64 1000001)
  replace b_3 := below_set (j := 0) (v := .int .i64 1000001) b_3 (show w0.heap.size ≤ x by omega)
  replace kk3 := keep_st (i := 0) kk3 bx (.int .i64 1000001)
  clear i3
  generalize w3.setCell _ _ = wf at m0 m1 m2 i3_ bz1 b_3 kk3 b3 ⊢
  have i0 : wf.cell? ⟨z3, 0, none⟩ = some (.slice A0 6 c0) := (blk_cell b3 0).trans rfl
  have i1 : wf.cell? ⟨z3, 1, none⟩ = some (.slice A1 6 c1) := (blk_cell b3 1).trans rfl
  have i2 : wf.cell? ⟨z3, 2, none⟩ = some (.slice (some ⟨x, 0, none⟩) 6 c2) := (blk_cell b3 2).trans rfl
  have y0 : wf.cell? ⟨z, 0, none⟩ = some (.slice none 0 0) := (blk_cell bz1 0).trans rfl
  have y1 : wf.cell? ⟨z, 1, none⟩ = some (.slice none 0 0) := (blk_cell bz1 1).trans rfl
  have y2 : wf.cell? ⟨z, 2, none⟩ = some (.slice none 0 0) := (blk_cell bz1 2).trans rfl
  have j0 : wf.frozen? ⟨z, 0, none⟩ = false := blk_frozen bz1 0
  have j1 : wf.frozen? ⟨z, 1, none⟩ = false := blk_frozen bz1 1
  have j2 : wf.frozen? ⟨z, 2, none⟩ = false := blk_frozen bz1 2
  have hzz := res_store bz1 (.slice A0 6 c0) (.slice A1 6 c1) (.slice (some ⟨x, 0, none⟩) 6 c2)
  go_wp2
  refine bodyPost_ret (results_cell_row rfl _ _ z 33 #[.slice A0 6 c0, .slice A1 6 c1, .slice (some ⟨x, 0, none⟩) 6 c2] (0, 0) _ rfl hzz Tryz.underlying33 rfl (by kernel_rfl)) rfl ⟨_, _, _, rfl, Rd.st3 m0 bz1 _ _ _, Rd.st3 m1 bz1 _ _ _, Rd.st3 m2 bz1 _ _ _, isS_st3 i3_ z3g.2.2.1 _ _ _, below_set (below_set (below_set b_3 z3g.2.2.2.1) z3g.2.2.2.1) z3g.2.2.2.1, keep_st3 kk3 (by omega) _ _ _⟩
 by_cases h1' : v = 2
 ·have d0 : (v == 0) = false := by simp; omega
  have d1 : (v == 1) = false := by simp; omega
  have d2 : (v == 2) = true := by simpa using h1'
  clear h0 h0' h1'
  have i1 : w3.cell? ⟨z3, 1, none⟩ = some (.slice A1 6 c1) := (blk_cell b3 1).trans rfl
  have j1 := blk_frozen b3 1
  have i3_ := Aside0.mk i3
  obtain ⟨l1, bs, hR⟩ := m1
  have hn := (Kd.R_reads' hR).1
  have hR' := Aside0.mk (Kd.R_lower hR (Nat.zero_le bs))
  have m0' := Aside0.mk m0
  have m2' := Aside0.mk m2
  have b3' := Aside0.mk b3
  have bz' := Aside0.mk bz1
  have b3_ := Aside0.mk b_3
  have kk' := Aside0.mk kk3
  have e0' := Aside0.mk e0
  have e2' := Aside0.mk e2
  have eb' := Aside0.mk eb
  have zz' := Aside0.mk z3g
  have sz' : Aside0 (w.heap.size ≤ wz.heap.size ∧ w.heap.size ≤ z3 ∧ w0.heap.size ≤ wz.heap.size) := ⟨by omega⟩
  have hzz' : Aside0 (w.heap.size ≤ z) := ⟨by omega⟩
  have hn' := Aside0.mk hn
  clear hR m0 m2 b3 bz1 b_3 kk3 e0 e2 eb z3g i3 hn szz s1 hz hz3 sw hg hI hB
  have ne3 : Aside0 (some z3 ≠ (Value.slice A1 6 c1).ownBlock) := ⟨Kd.N_ne (Kd.R_N hR'.out) b3'.out (by decide)⟩
  have nez : Aside0 (some z ≠ (Value.slice A1 6 c1).ownBlock) := ⟨Kd.N_ne (Kd.R_N hR'.out) bz'.out (by decide)⟩
  go_upto_region 9 with ((with_reducible refine gate_builtin (b := .append) (xs := #[.tmp 22, .tmp 23]) rfl ?_); at_builtin; refine Kd.R_append (Kd.int .i64) 0 rfl (.tmp 22) (.tmp 23) 31 3 (.int .i64 0) 8 rfl Tryz.underlying31 Gz.info3 rfl (by decide) (by omega) (.slice A1 6 c1) l1 0 [.int .i64 0] (fun _ => True) (fun _ => False) rfl rfl ?aP (fun _ hk => hk.elim) (fun _ _ => trivial) ?aO (Below.refl _ _) (Nat.zero_le _) ?aL ?_; (case aP => exact rfl); (case aO => exact hR'.out); (case aL => have := hn'.out; omega); intro v1 w4 ho hb hg hat; obtain ⟨A4, c4, rfl⟩ := Kd.R_slice ho; have b4 := blk_grown b3'.out hg ne3.out; have i1 : w4.cell? ⟨z3, 1, none⟩ = some (.slice A1 6 c1) := (blk_cell b4 1).trans rfl; have j1 := blk_frozen b4 1)
  clear i1 j1
  have bz1 := blk_grown bz'.out hg nez.out
  have i3 := IsS98.grown i3_.out hg (IsS98.own_ne i3_.out hR'.out (by decide))
  have hz := hzz'.out
  have m1 : Rd w4 (.slice A4 (l1.length + 1) c4) := by have h := rd_of ho; rwa [List.length_append] at h
  have m0 : Rd w4 (.slice A0 6 c0) := by
   obtain ⟨l, bs, h⟩ := m0'.out
   exact rd_of (Kd.R_grown2 h rfl hg (fun k hk hk2 => e0'.out k hk2.symm hk.symm))
  have m2 : Rd w4 (.slice A2 6 c2) := by
   obtain ⟨l, bs, h⟩ := m2'.out
   exact rd_of (Kd.R_grown2 h rfl hg (fun k hk hk2 => e2'.out k hk2.symm hk.symm))
  have z3g := zz'.out
  have sz := sz'.out
  have kk3 := kk'.out.trans (KeepBut.of_grown hg g) (by
   rcases A1 with _ | ⟨x, _, _⟩
   ·exact .inl rfl
   ·exact .inr ⟨x, rfl, Nat.le_trans sz.1 (eb'.out x rfl)⟩)
  have sl := b3_.out.size
  have b_3 := pw_below_grown b3_.out _ sl hg (fun k hk => by have h := eb'.out k hk; omega)
  replace m0 := m0.far (i := 1) b4 (.slice A4 (l1.length + 1) c4)
  replace m1 := m1.far (i := 1) b4 (.slice A4 (l1.length + 1) c4)
  replace m2 := m2.far (i := 1) b4 (.slice A4 (l1.length + 1) c4)
  have i3_ := IsS98.far (p := ⟨z3, 1, none⟩) i3 z3g.2.1 (.slice A4 (l1.length + 1) c4)
  replace bz1 := blk_far (p := ⟨z3, 1, none⟩) bz1 z3g.1 (.slice A4 (l1.length + 1) c4)
  replace b_3 := below_set (j := 1) (v := .slice A4 (l1.length + 1) c4) b_3 z3g.2.2.2.2
  replace kk3 := keep_st (i := 1) kk3 (show w.heap.size ≤ z3 by omega) (.slice A4 (l1.length + 1) c4)
  have b3 := blk_put b4 1 (.slice A4 (l1.length + 1) c4) rfl
  clear i3 b4 b3'
  generalize w4.setCell _ _ = wf at m0 m1 m2 i3_ bz1 b_3 kk3 b3 ⊢
  have i0 : wf.cell? ⟨z3, 0, none⟩ = some (.slice A0 6 c0) := (blk_cell b3 0).trans rfl
  have i1 : wf.cell? ⟨z3, 1, none⟩ = some (.slice A4 (l1.length + 1) c4) := (blk_cell b3 1).trans rfl
  have i2 : wf.cell? ⟨z3, 2, none⟩ = some (.slice A2 6 c2) := (blk_cell b3 2).trans rfl
  have y0 : wf.cell? ⟨z, 0, none⟩ = some (.slice none 0 0) := (blk_cell bz1 0).trans rfl
  have y1 : wf.cell? ⟨z, 1, none⟩ = some (.slice none 0 0) := (blk_cell bz1 1).trans rfl
  have y2 : wf.cell? ⟨z, 2, none⟩ = some (.slice none 0 0) := (blk_cell bz1 2).trans rfl
  have j0 : wf.frozen? ⟨z, 0, none⟩ = false := blk_frozen bz1 0
  have j1 : wf.frozen? ⟨z, 1, none⟩ = false := blk_frozen bz1 1
  have j2 : wf.frozen? ⟨z, 2, none⟩ = false := blk_frozen bz1 2
  have hzz := res_store bz1 (.slice A0 6 c0) (.slice A4 (l1.length + 1) c4) (.slice A2 6 c2)
  go_wp2
  refine bodyPost_ret (results_cell_row rfl _ _ z 33 #[.slice A0 6 c0, .slice A4 (l1.length + 1) c4, .slice A2 6 c2] (0, 0) _ rfl hzz Tryz.underlying33 rfl (by kernel_rfl)) rfl ⟨_, _, _, rfl, Rd.st3 m0 bz1 _ _ _, Rd.st3 m1 bz1 _ _ _, Rd.st3 m2 bz1 _ _ _, isS_st3 i3_ z3g.2.2.1 _ _ _, below_set (below_set (below_set b_3 z3g.2.2.2.1) z3g.2.2.2.1) z3g.2.2.2.1, keep_st3 kk3 (by omega) _ _ _⟩
 have d0 : (v == 0) = false := by simp; omega
 have d1 : (v == 1) = false := by simp; omega
 have d2 : (v == 2) = false := by simp; omega
 go_upto_region 9 with (fail)
 have i3_ := i3
 clear i3
 have i0 : w3.cell? ⟨z3, 0, none⟩ = some (.slice A0 6 c0) := (blk_cell b3 0).trans rfl
 have i1 : w3.cell? ⟨z3, 1, none⟩ = some (.slice A1 6 c1) := (blk_cell b3 1).trans rfl
 have i2 : w3.cell? ⟨z3, 2, none⟩ = some (.slice A2 6 c2) := (blk_cell b3 2).trans rfl
 have y0 : w3.cell? ⟨z, 0, none⟩ = some (.slice none 0 0) := (blk_cell bz1 0).trans rfl
 have y1 : w3.cell? ⟨z, 1, none⟩ = some (.slice none 0 0) := (blk_cell bz1 1).trans rfl
 have y2 : w3.cell? ⟨z, 2, none⟩ = some (.slice none 0 0) := (blk_cell bz1 2).trans rfl
 have j0 : w3.frozen? ⟨z, 0, none⟩ = false := blk_frozen bz1 0
 have j1 : w3.frozen? ⟨z, 1, none⟩ = false := blk_frozen bz1 1
 have j2 : w3.frozen? ⟨z, 2, none⟩ = false := blk_frozen bz1 2
 have hzz := res_store bz1 (.slice A0 6 c0) (.slice A1 6 c1) (.slice A2 6 c2)
 go_wp2
 refine bodyPost_ret (results_cell_row rfl _ _ z 33 #[.slice A0 6 c0, .slice A1 6 c1, .slice A2 6 c2] (0, 0) _ rfl hzz Tryz.underlying33 rfl (by kernel_rfl)) rfl ⟨_, _, _, rfl, Rd.st3 m0 bz1 _ _ _, Rd.st3 m1 bz1 _ _ _, Rd.st3 m2 bz1 _ _ _, isS_st3 i3_ z3g.2.2.1 _ _ _, below_set (below_set (below_set b_3 z3g.2.2.2.1) z3g.2.2.2.1) z3g.2.2.2.1, keep_st3 kk3 (by omega) _ _ _⟩
theorem bent_any (g : Nat) (s : List Int) (q : Int) (w0 w : World) (hI : IsS98 w0 w g s q) (hB : Below w0.heap.size w0 w) (hs : Byt s) (h0 : 0 ≤ q) (h1 : q ≤ 900000) :
  Calls Tryz.prog 34 #[.pointer (some ⟨g, 0, none⟩)] w fun e w' => ∃ v0 v1 v2, e = .returned (.agg #[v0, v1, v2]) ∧ Rd w' v0 ∧ Rd w' v1 ∧ Rd w' v2 ∧ IsS98 w0 w' g s (q + 12 + 1) ∧ Below w0.heap.size w0 w' ∧ KeepBut w w' g none := by
 obtain ⟨v, hv, _⟩ := pick_some hs 15 (q + 12) 30 (by omega) (by omega)
 exact bent_all g s q w0 w hI hB hs h0 (by omega) 16 v hv
theorem results_dr {P : Program} {fn : Func} {p u v : Tmp} {ty : TypeId} (h : fn.results = #[.cell p ty, .tmp u, .tmp v]) (tmps : Array Value) (w : World) (g : Nat) (t : TypeId) (cs : Array Value) (fr : Nat × Nat) (d : TypeDesc)
  (hp : tmps.getD p undef = .pointer (some ⟨g, 0, none⟩)) (hg : w.heap[g]? = some (.cells cs t fr))
  (hu : P.underlying ty = some d) (hd : (match d with | .struct _ | .array _ _ => true | _ => false) = true) (hi : (P.info? ty).map (·.size) = some cs.size) :
  (results fn tmps).run P w = .ok (.tuple #[.agg cs, tmps.getD u undef, tmps.getD v undef]) w := by
 have hp' : tmps[p]?.getD undef = .pointer (some ⟨g, 0, none⟩) := by simpa using hp
 simp [results, h, hp', asAddr, run_loadVar_row w g t ty cs fr d hg hu hd hi]
def fuels : List Int := [100, 100, 5, 0, 1, 101, -1]
set_option maxRecDepth 100000 in
set_option maxHeartbeats 6400000 in
theorem drawRun_any (A0 : Option Addr) (c0 : Nat) (l0 : List Int) (w : World) (hr0 : Kd.C (Kd.int .u8) w A0 l0.length l0) (hc0 : l0.length ≤ c0) (hby : Byt l0) :
  Calls Tryz.prog 11 #[.slice A0 l0.length c0] w fun e w' => ∃ u0 u1 u2 u3 pp ff, e = .returned (.tuple #[.agg #[u0, u1, u2], u3, .int .i64 ff]) ∧ Rd w' u0 ∧ Rd w' u1 ∧ Rd w' u2 ∧ Kd.R k30 30 w' w.heap.size (fun _ => True) u3 pp ∧ pp.length ≤ 1300 ∧ ff ∈ fuels ∧ Below w.heap.size w w' := by
 have hu33 := Tryz.underlying33
 obtain ⟨l1, ho, hb1⟩ := open_some hby
 obtain ⟨ps, q, hp, pl, q0, q1⟩ := code_some hb1 800
 obtain ⟨ff, hf, hff⟩ := num_some hb1 10 (q + 12 + 1) fuels (by decide) (by omega) (by omega)
 have kz := below_alloc (Below.refl w.heap.size w) (.cells #[.slice none 0 0, .slice none 0 0, .slice none 0 0] 33)
 have bz := heap_alloc_new w (.cells #[.slice none 0 0, .slice none 0 0, .slice none 0 0] 33)
 have co := spec_l12Open.calls A0 c0 l0 l1 0 w _ kz hr0 hc0 ho
 have hp' := Aside0.mk hp
 have hf' := Aside0.mk hf
 clear hr0 hc0 ho hp hf
 go_enter Tryz.func11, Tryz.ntmps11
 go_wp2_with fail
 refine co.mono ?_
 rintro e w1 ⟨g, rfl, s1, b1, bb⟩
 clear co
 have gne : g ≠ w.heap.size := fun e => by
  have h := blk_below bz bb
  exact IsS98.ne_blk s1 h (by decide) e
 replace bz := blk_below bz bb
 clear kz bb
 generalize w.alloc _ = wz at *
 go_wp2_with fail
 refine (spec_l5Code.calls _ g l1 0 ps q w w1 s1 b1 hp'.out).mono ?_
 rintro e w2 ⟨u3, rfl, r3, i2, b2, k2⟩
 replace bz := k2.blk bz (Ne.symm gne) (by simp)
 have r3 := Kd.R_lower r3 b1.size
 clear s1 b1 k2
 go_wp2_with fail
 refine (bent_any g l1 q w w2 i2 b2 hb1 q0 (by omega)).mono ?_
 rintro e w3 ⟨u0, u1, u2, rfl, m0, m1, m2, i3, b3, k3⟩
 have r3 := Kd.R_keep (Kd.R_mono (ok' := fun k => k ≠ g) (IsS98.apart i2 r3 (by decide)) (fun k hk => by simpa using hk)) k3 (fun _ e => e)
 replace bz := k3.blk bz (Ne.symm gne) (by simp)
 clear i2 b2 k3
 obtain ⟨L0, B0, x0, rfl, -, -⟩ := m0.C
 obtain ⟨L1, B1, x1, rfl, -, -⟩ := m1.C
 obtain ⟨L2, B2, x2, rfl, -, -⟩ := m2.C
 obtain ⟨z, hz⟩ : ∃ z, w.heap.size = z := ⟨_, rfl⟩
 have hz' : Aside0 (w.heap.size ≤ z) := ⟨by omega⟩
 rw [hz] at bz gne
 go_wp2_with fail
 have ka := below_alloc (Below.refl w3.heap.size w3) (.cells #[.int .i64 100, .int .i64 100, .int .i64 5, .int .i64 0, .int .i64 1, .int .i64 101, .int .i64 (-1)] 3)
 have ba := heap_alloc_new w3 (.cells #[.int .i64 100, .int .i64 100, .int .i64 5, .int .i64 0, .int .i64 1, .int .i64 101, .int .i64 (-1)] 3)
 have gx : w3.heap.size ≠ g := by have := i3.lt; omega
 replace m0 := m0.below ka
 replace m1 := m1.below ka
 replace m2 := m2.below ka
 replace r3 := Kd.R_below r3 ka
 replace i3 := i3.below ka
 replace bz := blk_below bz ka
 replace b3 := b3.trans (ka.mono b3.size)
 generalize w3.alloc _ = w4 at m0 m1 m2 r3 i3 bz b3 ba ⊢
 generalize w3.heap.size = y at ba gx ⊢
 have hC : Kd.C (Kd.int .i64) w4 (some ⟨y, 0, none⟩) fuels.length fuels := C_of_cells (by decide) (fun i hi => by
  rw [Nat.zero_add, blk_cell ba]
  match i, hi with
  | 0, _ => rfl
  | 1, _ => rfl
  | 2, _ => rfl
  | 3, _ => rfl
  | 4, _ => rfl
  | 5, _ => rfl
  | 6, _ => rfl)
 refine (spec_l12Rd_num.calls _ g l1 _ (some ⟨y, 0, none⟩) 7 fuels ff _ w w4 i3 b3 hC (by decide) (fun ad e _ => by cases e; exact gx) hf'.out).mono ?_
 rintro e w5 ⟨rfl, i5, b5, k5⟩
 replace bz := k5.blk bz (Ne.symm gne) (by simp)
 replace m0 := m0.keep i3 k5
 replace m1 := m1.keep i3 k5
 replace m2 := m2.keep i3 k5
 replace r3 := Kd.R_keep (Kd.R_mono (ok' := fun k => k ≠ g) r3 (fun _ e => e)) k5 (fun _ e => e)
 clear i3 b3 k5 ba hC gx
 have y0 : w5.cell? ⟨z, 0, none⟩ = some (.slice none 0 0) := (blk_cell bz 0).trans rfl
 have y1 : w5.cell? ⟨z, 1, none⟩ = some (.slice none 0 0) := (blk_cell bz 1).trans rfl
 have y2 : w5.cell? ⟨z, 2, none⟩ = some (.slice none 0 0) := (blk_cell bz 2).trans rfl
 have j0 : w5.frozen? ⟨z, 0, none⟩ = false := blk_frozen bz 0
 have j1 : w5.frozen? ⟨z, 1, none⟩ = false := blk_frozen bz 1
 have j2 : w5.frozen? ⟨z, 2, none⟩ = false := blk_frozen bz 2
 have hzz := res_store bz (.slice B0 L0.length x0) (.slice B1 L1.length x1) (.slice B2 L2.length x2)
 have r4 : Kd.R k30 30 w5 w.heap.size (fun k => k ≠ z) u3 ps := Kd.R_mono (Kd.R_types r3 bz (by decide)) (fun k hk => hk.2)
 have r5 := Kd.R_far (p := ⟨z, 2, none⟩) (Kd.R_far (p := ⟨z, 1, none⟩) (Kd.R_far (p := ⟨z, 0, none⟩) r4 (fun _ e => e) (.slice B0 L0.length x0)) (fun _ e => e) (.slice B1 L1.length x1)) (fun _ e => e) (.slice B2 L2.length x2)
 have q := hz'.out
 obtain ⟨T3, x3, rfl⟩ := Kd.R_slice r3
 go_wp2
 refine bodyPost_ret (results_dr rfl _ _ z 33 #[.slice B0 L0.length x0, .slice B1 L1.length x1, .slice B2 L2.length x2] (0, 0) _ rfl hzz Tryz.underlying33 rfl (by kernel_rfl)) rfl ⟨_, _, _, _, _, _, rfl, Rd.st3 m0 bz _ _ _, Rd.st3 m1 bz _ _ _, Rd.st3 m2 bz _ _ _, Kd.R_mono r5 (fun _ _ => trivial), pl, hff, below_set (below_set (below_set b5 q) q) q⟩
end Go.Proofs.YtjamfddhcigchaaGreatDoor.Da
