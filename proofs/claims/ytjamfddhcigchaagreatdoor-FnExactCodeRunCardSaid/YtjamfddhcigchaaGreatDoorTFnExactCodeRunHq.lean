/- What the instructions' closures do to the processor and its memory. No other condition. -/
import Derived.Test.YtjamfddhcigchaaGreatDoorTFnExactCodeRunHj
import Derived.Test.YtjamfddhcigchaaGreatDoorTFnExactCodeRunHm
namespace Go.Proofs.YtjamfddhcigchaaGreatDoor.Hq
open Go.RowKit  Go.Proofs.YtjamfddhcigchaaGreatDoor.Gm Go.Proofs.YtjamfddhcigchaaGreatDoor.Gn Go.Proofs.YtjamfddhcigchaaGreatDoor.Gz Go.Proofs.YtjamfddhcigchaaGreatDoor.Gq Go.Proofs.YtjamfddhcigchaaGreatDoor.Hj Go.Proofs.YtjamfddhcigchaaGreatDoor.Hm Go.Proofs.YtjamfddhcigchaaGreatDoor.HFnExactCodeRun Go.Proofs.YtjamfddhcigchaaGreatDoorW.PrintWords Go.Proofs.YtjamfddhcigchaaGreatDoorW.PrintLast Go.Proofs.YtjamfddhcigchaaGreatDoorW.PrintMore
set_option linter.unusedVariables false
set_option linter.unusedSimpArgs false
set_option maxRecDepth 100000 in
set_option maxHeartbeats 6400000 in
theorem put_kyes (g : Nat) (k i n v : Int) (M : Array Value) (w : World) (h : pOk k i = true) (hg : w.heap[g]? = some (.cells M 82 (0, 0))) (hv : M[6 * (k - 1).toNat + i.toNat]? = some (.int .i64 v)) : Calls Tryz.prog 97 #[.pointer (some ⟨g, 0, none⟩), .agg #[.int .i64 k, .int .i64 i], .int .i64 n] w fun e w' => e = .returned (.tuple #[]) ∧ w'.heap[g]? = some (.cells (M.setIfInBounds (6 * (k - 1).toNat + i.toNat) (.int .i64 (cut n))) 82 (0, 0)) ∧ (∀ base, base ≤ g → base ≤ w.heap.size → Below base w w') ∧ Kept w w' (fun k => k = g) := by
 have hu := Tryz.underlying28
 have al : ∀ o : Obj, Below w.heap.size w (w.alloc o) := fun o => (Below.refl _ _).alloc (Nat.le_refl _) _
 have hc := fun W => puts_any k i W
 rw [h] at hc
 have hp : ∀ W, Calls Tryz.prog 123 #[.pointer (some ⟨g, 0, none⟩), .agg #[.int .i64 k, .int .i64 i]] W fun e w' => e = .returned (.pointer (some ⟨g, 6 * (k - 1).toNat + i.toNat, none⟩)) ∧ Below W.heap.size W w' := fun W => by
  simp only [pOk, aOk, Bool.and_eq_true, decide_eq_true_eq] at h
  exact place_any g k i W h.1.1 h.1.2.1 h.1.2.2.1 h.1.2.2.2
 clear h
 have hn := fun W => cut_any n W
 generalize cut n = m at hn ⊢
 generalize 6 * (k - 1).toNat + i.toNat = q at hv hp ⊢
 go_enter Tryz.func97, Tryz.ntmps97
 go_wp2_with fail
 refine (hc _).mono ?_
 rintro e w2 ⟨rfl, hb⟩
 have hb2 := (al (.cells #[.int .i64 k, .int .i64 i] 28)).trans (hb.mono (al (.cells #[.int .i64 k, .int .i64 i] 28)).size)
 have z1 : w2.cell? ⟨w.heap.size, 0, none⟩ = some (.int .i64 k) := (blk_cell (blk_below (heap_alloc_new w _) hb) 0).trans rfl
 have z2 : w2.cell? ⟨w.heap.size, 1, none⟩ = some (.int .i64 i) := (blk_cell (blk_below (heap_alloc_new w _) hb) 1).trans rfl
 have hg2 := blk_below (blk_alloc hg (.cells #[.int .i64 k, .int .i64 i] 28)) hb
 have hg3 : ∀ {W : World}, Below w2.heap.size w2 W → W.heap[g]? = some (.cells M 82 (0, 0)) := fun hb => blk_below hg2 hb
 go_wp2_with fail
 refine (hp _).mono ?_
 rintro e w3 ⟨rfl, hb3⟩
 have hg3 := blk_below hg2 hb3
 have hb3' := hb2.trans (hb3.mono hb2.size)
 go_wp2_with fail
 refine (hn _).mono ?_
 rintro e w4 ⟨rfl, hb4⟩
 have hg4 := blk_below hg3 hb4
 have hb4' := hb3'.trans (hb4.mono hb3'.size)
 have i0 : w4.cell? ⟨g, q, none⟩ = some (.int .i64 v) := (blk_cell hg4 q).trans hv
 have j0 : w4.frozen? ⟨g, q, none⟩ = false := blk_frozen hg4 q
 go_wp2
 refine bodyPost_end (results_none (by kernel_rfl) _ _ _) rfl ⟨rfl, blk_put hg4 q _ rfl, fun base h1 h2 => (hb4'.mono h2).setCell h1 _, (((Kept.refl w (fun k => k = g)).below hb4').setCell (p := ⟨g, q, none⟩) (.inl rfl) _)⟩
theorem put_kany (g : Nat) (l0 l1 l2 : List Int) (k i n : Int) (w : World) (h0 : l0.length = 6) (h1 : l1.length = 6) (h2 : l2.length = 6) (hp : pOk k i = true) (hg : w.heap[g]? = some (.cells (mA l0 l1 l2) 82 (0, 0))) : Calls Tryz.prog 97 #[.pointer (some ⟨g, 0, none⟩), .agg #[.int .i64 k, .int .i64 i], .int .i64 n] w fun e w' => e = .returned (.tuple #[]) ∧ w'.heap[g]? = some (.cells (mA (pT 1 l0 k i n) (pT 2 l1 k i n) (pT 3 l2 k i n)) 82 (0, 0)) ∧ (∀ base, base ≤ g → base ≤ w.heap.size → Below base w w') ∧ Kept w w' (fun k => k = g) := by
 rw [← pT_set h0 h1 h2 hp]
 have ha : aOk k i = true := by
  simp only [pOk, Bool.and_eq_true] at hp
  exact hp.1
 exact put_kyes g k i n _ _ w hp hg (by rw [← mM_eq h0 h1 h2]; exact mM_at l0 l1 l2 k i ha)
structure RS (X g : Nat) (m : M3) (st : List Int) (p f : Int) (W : World) : Prop where
 ln : m.len
 ne : X ≠ g
 le : st.length ≤ 12
 G : W.heap[g]? = some (.cells (mA m.a m.b m.c) 82 (0, 0))
 H : ∃ hs : List Int, hs.length = 12 ∧ hs.take st.length = st.reverse ∧ W.heap[X]? = some (.cells (PC g hs (st.length : Int) p f) 65 (0, 0))
structure Ch (X g : Nat) (W W' : World) : Prop where
 bl : ∀ base, base ≤ X → base ≤ g → base ≤ W.heap.size → Below base W W'
 kp : Kept W W' (fun k => k = X ∨ k = g)
theorem Ch.trans {X g : Nat} {W W1 W2 : World} (h : Ch X g W W1) (k : Ch X g W1 W2) : Ch X g W W2 :=
 ⟨fun base h1 h2 h3 => (h.bl base h1 h2 h3).trans (k.bl base h1 h2 (Nat.le_trans h3 h.kp.1)), h.kp.then_ k.kp (fun _ e => .inl e)⟩
theorem Ch.of {X g : Nat} {W W' : World} (k : Below W.heap.size W W') : Ch X g W W' := ⟨fun base _ _ h => k.mono h, (Kept.refl _ _).below k⟩
theorem Ch.drew0 (X g : Nat) (W : World) : Ch X g W W.drew := ⟨fun base _ _ _ => below_drew1 (Below.refl _ _), (Kept.refl _ _).drew⟩
theorem Ch.drew {X g : Nat} {W W1 : World} (h : Ch X g W W1) : Ch X g W W1.drew := h.trans (Ch.drew0 X g W1)
theorem Ch.wr {X g : Nat} {cs : Array Value} {t : TypeId} {W W' : World} (h : Wr X cs t W W') : Ch X g W W' := ⟨fun base h1 _ h3 => h.bl base h1 h3, (Kept.refl W (fun k => k = X ∨ k = g)).then_ h.kp (fun _ e => .inl (.inl e))⟩
theorem RS.below {X g : Nat} {m : M3} {st : List Int} {p f : Int} {W W' : World} (h : RS X g m st p f W) (k : Below W.heap.size W W') : RS X g m st p f W' := by
 obtain ⟨hs, h1, h2, h3⟩ := h.H
 exact ⟨h.ln, h.ne, h.le, blk_below h.G k, hs, h1, h2, blk_below h3 k⟩
theorem RS.drew {X g : Nat} {m : M3} {st : List Int} {p f : Int} {W : World} (h : RS X g m st p f W) : RS X g m st p f W.drew := by
 obtain ⟨hs, h1, h2, h3⟩ := h.H
 exact ⟨h.ln, h.ne, h.le, h.G, hs, h1, h2, h3⟩
theorem IB.ch {X g I : Nat} {i : S30} {m : M3} {st : List Int} {p f : Int} {W W' : World} (hI : W.heap[I]? = some (.cells (IB i) 30 (0, 0))) (h : RS X g m st p f W) (k : Ch X g W W') : W'.heap[I]? = some (.cells (IB i) 30 (0, 0)) := by
 obtain ⟨hs, _, _, h3⟩ := h.H
 refine blk_kept hI k.kp ?_
 rintro (rfl | rfl)
 ·rw [h3] at hI; injection hI with e1; injection e1 with _ e2; exact absurd e2 (by decide)
 ·rw [h.G] at hI; injection hI with e1; injection e1 with _ e2; exact absurd e2 (by decide)
theorem push_rs {X g : Nat} {m : M3} {st : List Int} {p f : Int} (n : Int) {W : World} (h : RS X g m st p f W) (hl : st.length < 12) :
  Calls Tryz.prog 93 #[.pointer (some ⟨X, 0, none⟩), .int .i64 n] W fun e w' => e = .returned (.tuple #[]) ∧ RS X g m (n :: st) p f w' ∧ Ch X g W w' := by
 obtain ⟨hs, h1, h2, h3⟩ := h.H
 refine (push_any X g hs st.length p f n W h3 h1 hl).mono ?_
 rintro e w' ⟨rfl, hw⟩
 refine ⟨rfl, ⟨h.ln, h.ne, hl, blk_kept h.G hw.kp (Ne.symm h.ne), hs.set st.length n, by simpa using h1, ?_, hw.at_⟩, Ch.wr hw⟩
 rw [List.length_cons, List.reverse_cons, ← h2, List.take_set, List.take_add_one, List.getElem?_eq_getElem (by omega)]
 have e : (hs.take st.length).length = st.length := by simp; omega
 simp only [Option.toList_some]
 rw [List.set_append_right _ _ (by omega), e]
 simp
theorem pop_rs {X g : Nat} {m : M3} {x : Int} {st : List Int} {p f : Int} {W : World} (h : RS X g m (x :: st) p f W) :
  Calls Tryz.prog 98 #[.pointer (some ⟨X, 0, none⟩)] W fun e w' => e = .returned (.int .i64 x) ∧ RS X g m st p f w' ∧ Ch X g W w' := by
 obtain ⟨hs, h1, h2, h3⟩ := h.H
 have hl : st.length < 12 := by have := h.le; simp only [List.length_cons] at this; omega
 have ex : hs.take st.length = st.reverse ∧ hs[st.length]'(by omega) = x := by
  rw [List.length_cons, List.reverse_cons, List.take_add_one, List.getElem?_eq_getElem (by omega)] at h2
  simp only [Option.toList_some] at h2
  have := List.append_inj h2 (by simp; omega)
  exact ⟨this.1, by simpa using this.2⟩
 refine (pop_any X g hs st.length p f W h3 h1 hl).mono ?_
 rintro e w' ⟨rfl, hw⟩
 refine ⟨by rw [ex.2], ⟨h.ln, h.ne, by omega, blk_kept h.G hw.kp (Ne.symm h.ne), hs, h1, ex.1, hw.at_⟩, Ch.wr hw⟩
theorem get_rs {X g : Nat} {m : M3} {st : List Int} {p f : Int} (k i : Int) {W : World} (h : RS X g m st p f W) (ha : aOk k i = true) :
  Calls Tryz.prog 95 #[.pointer (some ⟨g, 0, none⟩), .agg #[.int .i64 k, .int .i64 i]] W fun e w' => e = .returned (.int .i64 (m.get k i)) ∧ Below W.heap.size W w' :=
 get_yes g k i _ _ 82 W ha h.G (by rw [← mM_eq h.ln.1 h.ln.2.1 h.ln.2.2]; exact mM_at m.a m.b m.c k i ha)
theorem put_rs {X g : Nat} {m : M3} {st : List Int} {p f : Int} (k i n : Int) {W : World} (h : RS X g m st p f W) (ha : pOk k i = true) :
  Calls Tryz.prog 97 #[.pointer (some ⟨g, 0, none⟩), .agg #[.int .i64 k, .int .i64 i], .int .i64 n] W fun e w' => e = .returned (.tuple #[]) ∧ RS X g (m.put k i n) st p f w' ∧ Ch X g W w' := by
 obtain ⟨hs, h1, h2, h3⟩ := h.H
 refine (put_kany g m.a m.b m.c k i n W h.ln.1 h.ln.2.1 h.ln.2.2 ha h.G).mono ?_
 rintro e w' ⟨rfl, hg, hb, hk⟩
 exact ⟨rfl, ⟨⟨pT_len.trans h.ln.1, pT_len.trans h.ln.2.1, pT_len.trans h.ln.2.2⟩, h.ne, h.le, hg, hs, h1, h2, blk_kept h3 hk h.ne⟩, ⟨fun base _ h2 h3 => hb base h2 h3, (Kept.refl W (fun k => k = X ∨ k = g)).then_ hk (fun _ e => .inl (.inr e))⟩⟩
theorem RS.x0 {X g : Nat} {m : M3} {st : List Int} {p f : Int} {W : World} (h : RS X g m st p f W) : W.cell? ⟨X, 0, none⟩ = some (.pointer (some ⟨g, 0, none⟩)) := by
 obtain ⟨hs, h1, h2, h3⟩ := h.H
 exact (blk_cell h3 0).trans rfl
theorem RS.c14 {X g : Nat} {m : M3} {st : List Int} {p f : Int} {W : World} (h : RS X g m st p f W) : W.cell? ⟨X, 14, none⟩ = some (.int .i64 p) := by
 obtain ⟨hs, h1, h2, h3⟩ := h.H
 exact (blk_cell h3 14).trans (by simp [PC, h1])
theorem RS.c15 {X g : Nat} {m : M3} {st : List Int} {p f : Int} {W : World} (h : RS X g m st p f W) : W.cell? ⟨X, 15, none⟩ = some (.int .i64 f) := by
 obtain ⟨hs, h1, h2, h3⟩ := h.H
 exact (blk_cell h3 15).trans (by simp [PC, h1])
theorem RS.f14 {X g : Nat} {m : M3} {st : List Int} {p f : Int} {W : World} (h : RS X g m st p f W) : W.frozen? ⟨X, 14, none⟩ = false := by
 obtain ⟨hs, h1, h2, h3⟩ := h.H
 exact blk_frozen h3 14
theorem RS.setp {X g : Nat} {m : M3} {st : List Int} {p f : Int} {W : World} (h : RS X g m st p f W) (q : Int) : RS X g m st q f (W.setCell ⟨X, 14, none⟩ (.int .i64 q)) ∧ Ch X g W (W.setCell ⟨X, 14, none⟩ (.int .i64 q)) := by
 obtain ⟨hs, h1, h2, h3⟩ := h.H
 have hw := Wr.set h3 14 (.int .i64 q) (PC_a h1)
 exact ⟨⟨h.ln, h.ne, h.le, blk_kept h.G hw.kp (Ne.symm h.ne), hs, h1, h2, hw.at_⟩, Ch.wr hw⟩
theorem isI_some (b : Bool) : Gt.impl_NumIs.f b = some (isI b) := by cases b <;> rfl
theorem actPush_rs {X g I : Nat} {i : S30} {m : M3} {st : List Int} {p f : Int} {W : World} (h : RS X g m st p f W) (hI : W.heap[I]? = some (.cells (IB i) 30 (0, 0))) (hl : st.length < 12) :
  Calls Tryz.prog 92 #[.pointer (some ⟨X, 0, none⟩), .pointer (some ⟨I, 0, none⟩)] W fun e w' => e = .returned (.tuple #[]) ∧ RS X g m (i.f1 :: st) p f w' ∧ Ch X g W w' := by
 have hu30 := Tryz.underlying30
 have c1 : W.cell? ⟨I, 1, none⟩ = some (.int .i64 i.f1) := (blk_cell hI 1).trans rfl
 have cc := push_rs i.f1 h hl
 go_enter Tryz.func92, Tryz.ntmps92
 go_wp2_with fail
 refine cc.mono ?_
 rintro e w' ⟨rfl, hw⟩
 go_wp2
 go_end0
 exact ⟨rfl, hw⟩
set_option maxRecDepth 100000 in
set_option maxHeartbeats 6400000 in
theorem actLoad {X g I : Nat} {i : S30} {m : M3} {st : List Int} {p f : Int} {W : World} (h : RS X g m st p f W) (hI : W.heap[I]? = some (.cells (IB i) 30 (0, 0))) (ha : aOk i.f2.f0 i.f2.f1 = true) (hl : st.length < 12) :
  Calls Tryz.prog 94 #[.pointer (some ⟨X, 0, none⟩), .pointer (some ⟨I, 0, none⟩)] W fun e w' => e = .returned (.tuple #[]) ∧ RS X g m (m.get i.f2.f0 i.f2.f1 :: st) p f w' ∧ Ch X g W w' := by
 have hu30 := Tryz.underlying30
 have hu28 := Tryz.underlying28
 have hu65 := Tryz.underlying65
 have cX := RS.x0 h
 have c2 : W.cell? ⟨I, 2, none⟩ = some (.int .i64 i.f2.f0) := (blk_cell hI 2).trans rfl
 have c3 : W.cell? ⟨I, 3, none⟩ = some (.int .i64 i.f2.f1) := (blk_cell hI 3).trans rfl
 go_enter Tryz.func94, Tryz.ntmps94
 go_wp2_with fail
 clear cX c2 c3
 have hR := h.drew
 have hJ : W.drew.heap[I]? = some (.cells (IB i) 30 (0, 0)) := hI
 have hC := Ch.drew0 X g W
 clear h hI
 refine start_ (n := 9) (S := fun w' => w'.cell? ⟨X, 0, none⟩ = some (.pointer (some ⟨g, 0, none⟩)) ∧ w'.cell? ⟨I, 2, none⟩ = some (.int .i64 i.f2.f0) ∧ w'.cell? ⟨I, 3, none⟩ = some (.int .i64 i.f2.f1)) (ds := []) #[false, false, false, false, false, false, false, false, false] (by kernel_rfl) rfl rfl ⟨(RS.x0 hR), ((blk_cell hJ 2).trans rfl), ((blk_cell hJ 3).trans rfl)⟩ (fun hHeld => ?_)
 refine pure_ (i := 0) (N := some 3) (v := ?_) (a' := ?_) #[true, false, false, false, false, false, false, false, false] rfl rfl (by kernel_rfl) (fun _ _ _ h => h) (Or.inl ⟨by rfl, ?_⟩) ?_ ?_
 rotate_left
 ·intro w'
  go_simp
  with_reducible rfl
 rotate_left
 ·simp only [Act.put, List.setIfInBounds_toArray, List.set_cons_zero, List.set_cons_succ, i64_w, i32_w]
  rfl
 refine pure_ (i := 1) (N := some 4) (v := ?_) (a' := ?_) #[true, true, false, false, false, false, false, false, false] rfl rfl (by kernel_rfl) (fun _ _ _ h => h) (Or.inl ⟨by rfl, ?_⟩) ?_ ?_
 rotate_left
 ·intro w'
  go_simp
  with_reducible rfl
 rotate_left
 ·simp only [Act.put, List.setIfInBounds_toArray, List.set_cons_zero, List.set_cons_succ, i64_w, i32_w]
  rfl
 refine pure_ (i := 2) (N := some 5) (v := ?_) (a' := ?_) #[true, true, true, false, false, false, false, false, false] rfl rfl (by kernel_rfl) (fun _ _ _ h => h) (Or.inl ⟨by rfl, ?_⟩) ?_ ?_
 rotate_left
 ·intro w'
  go_simp
  with_reducible rfl
 rotate_left
 ·simp only [Act.put, List.setIfInBounds_toArray, List.set_cons_zero, List.set_cons_succ, i64_w, i32_w]
  rfl
 refine pure_ (i := 3) (N := some 6) (v := ?_) (a' := ?_) #[true, true, true, true, false, false, false, false, false] rfl rfl (by kernel_rfl) (fun _ _ _ h => h) (Or.inl ⟨by rfl, ?_⟩) ?_ ?_
 rotate_left
 ·intro w'
  go_simp
  with_reducible rfl
 rotate_left
 ·simp only [Act.put, List.setIfInBounds_toArray, List.set_cons_zero, List.set_cons_succ, i64_w, i32_w]
  rfl
 refine pure_ (i := 5) (N := some 8) (v := ?_) (a' := ?_) #[true, true, true, true, false, true, false, false, false] rfl rfl (by kernel_rfl) (fun _ _ _ h => h) (Or.inl ⟨by rfl, ?_⟩) ?_ ?_
 rotate_left
 ·intro w'
  go_simp
  with_reducible rfl
 rotate_left
 ·simp only [Act.put, List.setIfInBounds_toArray, List.set_cons_zero, List.set_cons_succ, i64_w, i32_w]
  rfl
 refine take_ (i := 4) (N := some 7) (v := ?_) (a' := ?_) #[true, true, true, true, true, true, false, false, false] rfl rfl (by kernel_rfl) (fun _ _ _ h => h) (Or.inl ⟨by rfl, ?_⟩) hHeld ?_ ?_
 rotate_left
 ·rintro w' ⟨s0, s1, s2⟩
  go_simp
  with_reducible rfl
 rotate_left
 ·simp only [Act.put, List.setIfInBounds_toArray, List.set_cons_zero, List.set_cons_succ, i64_w, i32_w]
  rfl
 refine take_ (i := 6) (N := some 9) (v := ?_) (a' := ?_) #[true, true, true, true, true, true, true, false, false] rfl rfl (by kernel_rfl) (fun _ _ _ h => h) (Or.inl ⟨by rfl, ?_⟩) hHeld ?_ ?_
 rotate_left
 ·rintro w' ⟨s0, s1, s2⟩
  go_simp
  with_reducible rfl
 rotate_left
 ·simp only [Act.put, List.setIfInBounds_toArray, List.set_cons_zero, List.set_cons_succ, i64_w, i32_w]
  rfl
 refine one_ (i := 7) (N := some 10) #[true, true, true, true, true, true, true, true, false] rfl rfl (by kernel_rfl) (by decide) (fun K hK => ?_)
 refine goes_ Tryz.func95 (by kernel_rfl) rfl #[.pointer (some ⟨g, 0, none⟩), .agg #[.int .i64 i.f2.f0, .int .i64 i.f2.f1]] (by rfl) rfl rfl (by simp only [List.map_toArray, List.map_cons, List.map_nil]; rfl) ?_
 with_reducible refine (get_rs i.f2.f0 i.f2.f1 hR ha).mono ?_
 rintro e wn ⟨rfl, q2⟩
 refine ⟨_, rfl, ?_⟩
 replace hJ := blk_below hJ q2
 replace hC := hC.trans (Ch.of q2)
 replace hR := hR.below q2
 clear q2
 refine hK.out _ _ ⟨(RS.x0 hR), ((blk_cell hJ 2).trans rfl), ((blk_cell hJ 3).trans rfl)⟩ (fun hHeld => ?_)
 clear hK K
 refine norm_ (a' := ?_) ?_ ?_
 rotate_left
 ·show Act.put _ (some 10) _ = _
  simp only [Act.put, List.setIfInBounds_toArray, List.set_cons_zero, List.set_cons_succ, i64_w, i32_w]
  rfl
 refine one_ (i := 8) (N := some 11) #[true, true, true, true, true, true, true, true, true] rfl rfl (by kernel_rfl) (by decide) (fun K hK => ?_)
 refine goes_ Tryz.func93 (by kernel_rfl) rfl #[.pointer (some ⟨X, 0, none⟩), .int .i64 (m.get i.f2.f0 i.f2.f1)] (by rfl) rfl rfl (by simp only [List.map_toArray, List.map_cons, List.map_nil]; rfl) ?_
 with_reducible refine (push_rs (m.get i.f2.f0 i.f2.f1) hR hl).mono ?_
 rintro e wn ⟨rfl, q1, q2⟩
 refine ⟨_, rfl, ?_⟩
 replace hJ := IB.ch hJ hR q2
 replace hC := hC.trans q2
 replace hR := q1
 clear q1 q2
 refine hK.out _ _ ⟨(RS.x0 hR), ((blk_cell hJ 2).trans rfl), ((blk_cell hJ 3).trans rfl)⟩ (fun hHeld => ?_)
 clear hK K
 refine norm_ (a' := ?_) ?_ ?_
 rotate_left
 ·show Act.put _ (some 11) _ = _
  simp only [Act.put, List.setIfInBounds_toArray, List.set_cons_zero, List.set_cons_succ, i64_w, i32_w]
  rfl
 refine done_ (by kernel_rfl) ?_
 go_wp2
 go_end0
 exact ⟨rfl, hR, hC⟩
set_option maxRecDepth 100000 in
set_option maxHeartbeats 6400000 in
theorem actStore {X g I : Nat} {i : S30} {m : M3} {x : Int} {st : List Int} {p f : Int} {W : World} (h : RS X g m (x :: st) p f W) (hI : W.heap[I]? = some (.cells (IB i) 30 (0, 0))) (ha : pOk i.f2.f0 i.f2.f1 = true) :
  Calls Tryz.prog 96 #[.pointer (some ⟨X, 0, none⟩), .pointer (some ⟨I, 0, none⟩)] W fun e w' => e = .returned (.tuple #[]) ∧ RS X g (m.put i.f2.f0 i.f2.f1 x) st p f w' ∧ Ch X g W w' := by
 have hu30 := Tryz.underlying30
 have hu28 := Tryz.underlying28
 have hu65 := Tryz.underlying65
 have cX := RS.x0 h
 have c2 : W.cell? ⟨I, 2, none⟩ = some (.int .i64 i.f2.f0) := (blk_cell hI 2).trans rfl
 have c3 : W.cell? ⟨I, 3, none⟩ = some (.int .i64 i.f2.f1) := (blk_cell hI 3).trans rfl
 go_enter Tryz.func96, Tryz.ntmps96
 go_wp2_with fail
 clear cX c2 c3
 have hR := h.drew
 have hJ : W.drew.heap[I]? = some (.cells (IB i) 30 (0, 0)) := hI
 have hC := Ch.drew0 X g W
 clear h hI
 refine start_ (n := 9) (S := fun w' => w'.cell? ⟨X, 0, none⟩ = some (.pointer (some ⟨g, 0, none⟩)) ∧ w'.cell? ⟨I, 2, none⟩ = some (.int .i64 i.f2.f0) ∧ w'.cell? ⟨I, 3, none⟩ = some (.int .i64 i.f2.f1)) (ds := []) #[false, false, false, false, false, false, false, false, false] (by kernel_rfl) rfl rfl ⟨(RS.x0 hR), ((blk_cell hJ 2).trans rfl), ((blk_cell hJ 3).trans rfl)⟩ (fun hHeld => ?_)
 refine pure_ (i := 0) (N := some 3) (v := ?_) (a' := ?_) #[true, false, false, false, false, false, false, false, false] rfl rfl (by kernel_rfl) (fun _ _ _ h => h) (Or.inl ⟨by rfl, ?_⟩) ?_ ?_
 rotate_left
 ·intro w'
  go_simp
  with_reducible rfl
 rotate_left
 ·simp only [Act.put, List.setIfInBounds_toArray, List.set_cons_zero, List.set_cons_succ, i64_w, i32_w]
  rfl
 refine pure_ (i := 1) (N := some 4) (v := ?_) (a' := ?_) #[true, true, false, false, false, false, false, false, false] rfl rfl (by kernel_rfl) (fun _ _ _ h => h) (Or.inl ⟨by rfl, ?_⟩) ?_ ?_
 rotate_left
 ·intro w'
  go_simp
  with_reducible rfl
 rotate_left
 ·simp only [Act.put, List.setIfInBounds_toArray, List.set_cons_zero, List.set_cons_succ, i64_w, i32_w]
  rfl
 refine pure_ (i := 2) (N := some 5) (v := ?_) (a' := ?_) #[true, true, true, false, false, false, false, false, false] rfl rfl (by kernel_rfl) (fun _ _ _ h => h) (Or.inl ⟨by rfl, ?_⟩) ?_ ?_
 rotate_left
 ·intro w'
  go_simp
  with_reducible rfl
 rotate_left
 ·simp only [Act.put, List.setIfInBounds_toArray, List.set_cons_zero, List.set_cons_succ, i64_w, i32_w]
  rfl
 refine pure_ (i := 4) (N := some 7) (v := ?_) (a' := ?_) #[true, true, true, false, true, false, false, false, false] rfl rfl (by kernel_rfl) (fun _ _ _ h => h) (Or.inl ⟨by rfl, ?_⟩) ?_ ?_
 rotate_left
 ·intro w'
  go_simp
  with_reducible rfl
 rotate_left
 ·simp only [Act.put, List.setIfInBounds_toArray, List.set_cons_zero, List.set_cons_succ, i64_w, i32_w]
  rfl
 refine pure_ (i := 6) (N := some 9) (v := ?_) (a' := ?_) #[true, true, true, false, true, false, true, false, false] rfl rfl (by kernel_rfl) (fun _ _ _ h => h) (Or.inl ⟨by rfl, ?_⟩) ?_ ?_
 rotate_left
 ·intro w'
  go_simp
  with_reducible rfl
 rotate_left
 ·simp only [Act.put, List.setIfInBounds_toArray, List.set_cons_zero, List.set_cons_succ, i64_w, i32_w]
  rfl
 refine take_ (i := 3) (N := some 6) (v := ?_) (a' := ?_) #[true, true, true, true, true, false, true, false, false] rfl rfl (by kernel_rfl) (fun _ _ _ h => h) (Or.inl ⟨by rfl, ?_⟩) hHeld ?_ ?_
 rotate_left
 ·rintro w' ⟨s0, s1, s2⟩
  go_simp
  with_reducible rfl
 rotate_left
 ·simp only [Act.put, List.setIfInBounds_toArray, List.set_cons_zero, List.set_cons_succ, i64_w, i32_w]
  rfl
 refine take_ (i := 5) (N := some 8) (v := ?_) (a' := ?_) #[true, true, true, true, true, true, true, false, false] rfl rfl (by kernel_rfl) (fun _ _ _ h => h) (Or.inl ⟨by rfl, ?_⟩) hHeld ?_ ?_
 rotate_left
 ·rintro w' ⟨s0, s1, s2⟩
  go_simp
  with_reducible rfl
 rotate_left
 ·simp only [Act.put, List.setIfInBounds_toArray, List.set_cons_zero, List.set_cons_succ, i64_w, i32_w]
  rfl
 refine one_ (i := 7) (N := some 10) #[true, true, true, true, true, true, true, true, false] rfl rfl (by kernel_rfl) (by decide) (fun K hK => ?_)
 refine goes_ Tryz.func98 (by kernel_rfl) rfl #[.pointer (some ⟨X, 0, none⟩)] (by rfl) rfl rfl (by simp only [List.map_toArray, List.map_cons, List.map_nil]; rfl) ?_
 with_reducible refine (pop_rs hR).mono ?_
 rintro e wn ⟨rfl, q1, q2⟩
 refine ⟨_, rfl, ?_⟩
 replace hJ := IB.ch hJ hR q2
 replace hC := hC.trans q2
 replace hR := q1
 clear q1 q2
 refine hK.out _ _ ⟨(RS.x0 hR), ((blk_cell hJ 2).trans rfl), ((blk_cell hJ 3).trans rfl)⟩ (fun hHeld => ?_)
 clear hK K
 refine norm_ (a' := ?_) ?_ ?_
 rotate_left
 ·show Act.put _ (some 10) _ = _
  simp only [Act.put, List.setIfInBounds_toArray, List.set_cons_zero, List.set_cons_succ, i64_w, i32_w]
  rfl
 refine one_ (i := 8) (N := some 11) #[true, true, true, true, true, true, true, true, true] rfl rfl (by kernel_rfl) (by decide) (fun K hK => ?_)
 refine goes_ Tryz.func97 (by kernel_rfl) rfl #[.pointer (some ⟨g, 0, none⟩), .agg #[.int .i64 i.f2.f0, .int .i64 i.f2.f1], .int .i64 x] (by rfl) rfl rfl (by simp only [List.map_toArray, List.map_cons, List.map_nil]; rfl) ?_
 with_reducible refine (put_rs i.f2.f0 i.f2.f1 x hR ha).mono ?_
 rintro e wn ⟨rfl, q1, q2⟩
 refine ⟨_, rfl, ?_⟩
 replace hJ := IB.ch hJ hR q2
 replace hC := hC.trans q2
 replace hR := q1
 clear q1 q2
 refine hK.out _ _ ⟨(RS.x0 hR), ((blk_cell hJ 2).trans rfl), ((blk_cell hJ 3).trans rfl)⟩ (fun hHeld => ?_)
 clear hK K
 refine norm_ (a' := ?_) ?_ ?_
 rotate_left
 ·show Act.put _ (some 11) _ = _
  simp only [Act.put, List.setIfInBounds_toArray, List.set_cons_zero, List.set_cons_succ, i64_w, i32_w]
  rfl
 refine done_ (by kernel_rfl) ?_
 go_wp2
 go_end0
 exact ⟨rfl, hR, hC⟩
set_option maxRecDepth 100000 in
set_option maxHeartbeats 6400000 in
theorem actTwo {X g I : Nat} {i : S30} {m : M3} {x y t : Int} {st : List Int} {p f : Int} {W : World} (h : RS X g m (y :: x :: st) p f W) (hI : W.heap[I]? = some (.cells (IB i) 30 (0, 0))) (ht : Gt.impl_two.f i.f1 x y = some t) :
  Calls Tryz.prog 99 #[.pointer (some ⟨X, 0, none⟩), .pointer (some ⟨I, 0, none⟩)] W fun e w' => e = .returned (.tuple #[]) ∧ RS X g m (t :: st) p f w' ∧ Ch X g W w' := by
 have hu30 := Tryz.underlying30
 have hl : st.length < 12 := by have := h.le; simp only [List.length_cons] at this; omega
 have cc := pop_rs h
 go_enter Tryz.func99, Tryz.ntmps99
 go_wp2_with fail
 refine cc.mono ?_
 rintro e w1 ⟨rfl, hR, hC⟩
 have hJ := IB.ch hI h hC
 clear cc h hI
 have c1 : w1.cell? ⟨I, 1, none⟩ = some (.int .i64 i.f1) := (blk_cell hJ 1).trans rfl
 go_wp2_with fail
 clear c1
 replace hR := hR.drew
 replace hC := hC.drew
 replace hJ : w1.drew.heap[I]? = some (.cells (IB i) 30 (0, 0)) := hJ
 refine start_ (n := 8) (S := fun w' => w'.cell? ⟨I, 1, none⟩ = some (.int .i64 i.f1)) (ds := []) #[false, false, false, false, false, false, false, false] (by kernel_rfl) rfl rfl (((blk_cell hJ 1).trans rfl)) (fun hHeld => ?_)
 refine pure_ (i := 0) (N := some 6) (v := ?_) (a' := ?_) #[true, false, false, false, false, false, false, false] rfl rfl (by kernel_rfl) (fun _ _ _ h => h) (Or.inl ⟨by rfl, ?_⟩) ?_ ?_
 rotate_left
 ·intro w'
  go_simp
  with_reducible rfl
 rotate_left
 ·simp only [Act.put, List.setIfInBounds_toArray, List.set_cons_zero, List.set_cons_succ, i64_w, i32_w]
  rfl
 refine pure_ (i := 1) (N := some 7) (v := ?_) (a' := ?_) #[true, true, false, false, false, false, false, false] rfl rfl (by kernel_rfl) (fun _ _ _ h => h) (Or.inl ⟨by rfl, ?_⟩) ?_ ?_
 rotate_left
 ·intro w'
  go_simp
  with_reducible rfl
 rotate_left
 ·simp only [Act.put, List.setIfInBounds_toArray, List.set_cons_zero, List.set_cons_succ, i64_w, i32_w]
  rfl
 refine pure_ (i := 3) (N := some 9) (v := ?_) (a' := ?_) #[true, true, false, true, false, false, false, false] rfl rfl (by kernel_rfl) (fun _ _ _ h => h) (Or.inl ⟨by rfl, ?_⟩) ?_ ?_
 rotate_left
 ·intro w'
  go_simp
  with_reducible rfl
 rotate_left
 ·simp only [Act.put, List.setIfInBounds_toArray, List.set_cons_zero, List.set_cons_succ, i64_w, i32_w]
  rfl
 refine pure_ (i := 5) (N := some 11) (v := ?_) (a' := ?_) #[true, true, false, true, false, true, false, false] rfl rfl (by kernel_rfl) (fun _ _ _ h => h) (Or.inl ⟨by rfl, ?_⟩) ?_ ?_
 rotate_left
 ·intro w'
  go_simp
  with_reducible rfl
 rotate_left
 ·simp only [Act.put, List.setIfInBounds_toArray, List.set_cons_zero, List.set_cons_succ, i64_w, i32_w]
  rfl
 refine take_ (i := 2) (N := some 8) (v := ?_) (a' := ?_) #[true, true, true, true, false, true, false, false] rfl rfl (by kernel_rfl) (fun _ _ _ h => h) (Or.inl ⟨by rfl, ?_⟩) hHeld ?_ ?_
 rotate_left
 ·intro w' s0
  go_simp
  with_reducible rfl
 rotate_left
 ·simp only [Act.put, List.setIfInBounds_toArray, List.set_cons_zero, List.set_cons_succ, i64_w, i32_w]
  rfl
 refine one_ (i := 4) (N := some 10) #[true, true, true, true, true, true, false, false] rfl rfl (by kernel_rfl) (by decide) (fun K hK => ?_)
 refine goes_ Tryz.func98 (by kernel_rfl) rfl #[.pointer (some ⟨X, 0, none⟩)] (by rfl) rfl rfl (by simp only [List.map_toArray, List.map_cons, List.map_nil]; rfl) ?_
 with_reducible refine (pop_rs hR).mono ?_
 rintro e wn ⟨rfl, q1, q2⟩
 refine ⟨_, rfl, ?_⟩
 replace hJ := IB.ch hJ hR q2
 replace hC := hC.trans q2
 replace hR := q1
 clear q1 q2
 refine hK.out _ _ (((blk_cell hJ 1).trans rfl)) (fun hHeld => ?_)
 clear hK K
 refine norm_ (a' := ?_) ?_ ?_
 rotate_left
 ·show Act.put _ (some 10) _ = _
  simp only [Act.put, List.setIfInBounds_toArray, List.set_cons_zero, List.set_cons_succ, i64_w, i32_w]
  rfl
 refine one_ (i := 6) (N := some 12) #[true, true, true, true, true, true, true, false] rfl rfl (by kernel_rfl) (by decide) (fun K hK => ?_)
 refine goes_ Tryz.func100 (by kernel_rfl) rfl #[.int .i64 i.f1, .int .i64 x, .int .i64 y] (by rfl) rfl rfl (by simp only [List.map_toArray, List.map_cons, List.map_nil]; rfl) ?_
 with_reducible refine (Gt.impl_two.calls i.f1 x y t _ ht).mono ?_
 rintro e wn ⟨rfl, q2⟩
 refine ⟨_, rfl, ?_⟩
 replace hJ := blk_below hJ q2
 replace hC := hC.trans (Ch.of q2)
 replace hR := hR.below q2
 clear q2
 refine hK.out _ _ (((blk_cell hJ 1).trans rfl)) (fun hHeld => ?_)
 clear hK K
 refine norm_ (a' := ?_) ?_ ?_
 rotate_left
 ·show Act.put _ (some 12) _ = _
  simp only [Act.put, List.setIfInBounds_toArray, List.set_cons_zero, List.set_cons_succ, i64_w, i32_w]
  rfl
 refine one_ (i := 7) (N := some 13) #[true, true, true, true, true, true, true, true] rfl rfl (by kernel_rfl) (by decide) (fun K hK => ?_)
 refine goes_ Tryz.func93 (by kernel_rfl) rfl #[.pointer (some ⟨X, 0, none⟩), .int .i64 t] (by rfl) rfl rfl (by simp only [List.map_toArray, List.map_cons, List.map_nil]; rfl) ?_
 with_reducible refine (push_rs t hR hl).mono ?_
 rintro e wn ⟨rfl, q1, q2⟩
 refine ⟨_, rfl, ?_⟩
 replace hJ := IB.ch hJ hR q2
 replace hC := hC.trans q2
 replace hR := q1
 clear q1 q2
 refine hK.out _ _ (((blk_cell hJ 1).trans rfl)) (fun hHeld => ?_)
 clear hK K
 refine norm_ (a' := ?_) ?_ ?_
 rotate_left
 ·show Act.put _ (some 13) _ = _
  simp only [Act.put, List.setIfInBounds_toArray, List.set_cons_zero, List.set_cons_succ, i64_w, i32_w]
  rfl
 refine done_ (by kernel_rfl) ?_
 go_wp2
 go_end0
 exact ⟨rfl, hR, hC⟩
set_option maxRecDepth 100000 in
set_option maxHeartbeats 6400000 in
theorem actNot {X g : Nat} {m : M3} {x : Int} {st : List Int} {p f : Int} {W : World} (h : RS X g m (x :: st) p f W) :
  Calls Tryz.prog 101 #[.pointer (some ⟨X, 0, none⟩)] W fun e w' => e = .returned (.tuple #[]) ∧ RS X g m (isI (!onI x) :: st) p f w' ∧ Ch X g W w' := by
 have hl : st.length < 12 := by have := h.le; simp only [List.length_cons] at this; omega
 have cc := pop_rs h
 go_enter Tryz.func101, Tryz.ntmps101
 go_wp2_with fail
 refine cc.mono ?_
 rintro e w1 ⟨rfl, hR, hC⟩
 go_wp2_with fail
 refine (Gt.impl_NumOn.calls x (onI x) w1 rfl).mono ?_
 rintro e w2 ⟨rfl, hd⟩
 replace hC := hC.trans (Ch.of hd.below)
 replace hR := hR.below hd.below
 clear hd
 go_wp2_with fail
 refine (Gt.impl_NumIs.calls (!onI x) (isI (!onI x)) w2 (isI_some _)).mono ?_
 rintro e w3 ⟨rfl, hd⟩
 replace hC := hC.trans (Ch.of hd.below)
 replace hR := hR.below hd.below
 clear hd
 go_wp2_with fail
 refine (push_rs (isI (!onI x)) hR hl).mono ?_
 rintro e w4 ⟨rfl, hR2, hC2⟩
 go_wp2
 go_end0
 exact ⟨rfl, hR2, hC.trans hC2⟩
set_option maxRecDepth 100000 in
set_option maxHeartbeats 6400000 in
theorem actSkip {X g I : Nat} {i : S30} {m : M3} {x : Int} {st : List Int} {p f : Int} {W : World} (h : RS X g m (x :: st) p f W) (hI : W.heap[I]? = some (.cells (IB i) 30 (0, 0))) :
  Calls Tryz.prog 104 #[.pointer (some ⟨X, 0, none⟩), .pointer (some ⟨I, 0, none⟩)] W fun e w' => e = .returned (.tuple #[]) ∧ RS X g m st (if onI x = true then p else i.f1) f w' ∧ Ch X g W w' := by
 have hu30 := Tryz.underlying30
 have hu65 := Tryz.underlying65
 have cc := pop_rs h
 cases hx : onI x with
 | true =>
  go_enter Tryz.func104, Tryz.ntmps104
  go_wp2_with fail
  refine cc.mono ?_
  rintro e w1 ⟨rfl, hR, hC⟩
  go_wp2_with fail
  refine (Gt.impl_NumOn.calls x true w1 (congrArg some hx)).mono ?_
  rintro e w2 ⟨rfl, hd⟩
  replace hC := hC.trans (Ch.of hd.below)
  replace hR := hR.below hd.below
  clear hd
  go_wp2
  go_end0
  exact ⟨rfl, hR, hC⟩
 | false =>
  go_enter Tryz.func104, Tryz.ntmps104
  go_wp2_with fail
  refine cc.mono ?_
  rintro e w1 ⟨rfl, hR, hC⟩
  go_wp2_with fail
  refine (Gt.impl_NumOn.calls x false w1 (congrArg some hx)).mono ?_
  rintro e w2 ⟨rfl, hd⟩
  replace hC := hC.trans (Ch.of hd.below)
  have hJ := IB.ch hI h hC
  replace hR := hR.below hd.below
  clear hd
  have c1 : w2.cell? ⟨I, 1, none⟩ = some (.int .i64 i.f1) := (blk_cell hJ 1).trans rfl
  have c14 := hR.c14
  have f14 := hR.f14
  go_wp2
  go_end0
  exact ⟨rfl, (hR.setp i.f1).1, hC.trans (hR.setp i.f1).2⟩
theorem jump_rs {X g I : Nat} {i : S30} {m : M3} {st : List Int} {p f : Int} {W : World} (h : RS X g m st p f W) (hI : W.heap[I]? = some (.cells (IB i) 30 (0, 0))) :
  Calls Tryz.prog 105 #[.pointer (some ⟨X, 0, none⟩), .pointer (some ⟨I, 0, none⟩)] W fun e w' => e = .returned (.tuple #[]) ∧ RS X g m st i.f1 f w' ∧ Ch X g W w' := by
 obtain ⟨hs, h1, h2, h3⟩ := h.H
 refine (actJump X g I i hs st.length p f W h3 hI h1).mono ?_
 rintro e w' ⟨rfl, hw⟩
 exact ⟨rfl, ⟨h.ln, h.ne, h.le, blk_kept h.G hw.kp (Ne.symm h.ne), hs, h1, h2, hw.at_⟩, Ch.wr hw⟩
theorem back_rs {X g I : Nat} {i : S30} {m : M3} {st : List Int} {p f : Int} {W : World} (h : RS X g m st p f W) (hI : W.heap[I]? = some (.cells (IB i) 30 (0, 0))) (h0 : 1 ≤ f) (h9 : f ≤ 100) :
  Calls Tryz.prog 106 #[.pointer (some ⟨X, 0, none⟩), .pointer (some ⟨I, 0, none⟩)] W fun e w' => e = .returned (.bool true) ∧ RS X g m st i.f1 (f - 1) w' ∧ Ch X g W w' := by
 obtain ⟨hs, h1, h2, h3⟩ := h.H
 refine (actBack X g I i hs st.length p f W h3 hI h1 h0 h9).mono ?_
 rintro e w' ⟨rfl, hw⟩
 exact ⟨rfl, ⟨h.ln, h.ne, h.le, blk_kept h.G hw.kp (Ne.symm h.ne), hs, h1, h2, hw.at_⟩, Ch.wr hw⟩
theorem do_any {X g : Nat} {i : S30} {v : Value} {m : M3} {st : List Int} {p fl : Nat} {W : World} {r : M3 × List Int} (hA : ActV W v i) (h : RS X g m st ((p + 1 : Nat) : Int) (fl : Int) W) (hd : doI i m st = some r)
  (h8 : ¬ (i.f0 = 8 ∧ fl = 0)) (hf : fl ≤ 100) (hg : ¬ (goes i st = true ∧ i.f1 < 0)) :
  ∃ F B, v = .func (.func F) #[] #[.pointer (some ⟨B, 0, none⟩)] ∧ (F = 91 ∨ F = 106) ∧ Calls Tryz.prog F #[.pointer (some ⟨X, 0, none⟩), .pointer (some ⟨B, 0, none⟩)] W fun e w' => e = .returned (.bool true) ∧ RS X g r.1 r.2 ((nx i st p : Nat) : Int) ((fu i fl : Nat) : Int) w' ∧ Ch X g W w' := by
 obtain ⟨I, hI, hA⟩ := hA
 unfold doI at hd
 rcases hA with ⟨hn, rfl⟩ | ⟨B, F, cap, rfl, hB, hA⟩
 ·rw [if_neg (by omega), if_neg (by omega), if_neg (by omega), if_neg (by omega), if_neg (by omega), if_neg (by omega)] at hd
  by_cases e8 : i.f0 = 7 ∨ i.f0 = 8
  rotate_left
  ·rw [if_neg e8] at hd; cases hd
  rw [if_pos e8] at hd
  cases hd
  have e8 : i.f0 = 8 := by omega
  have gg : goes i st = true := by unfold goes; rw [e8]; rfl
  have hg2 : ¬ i.f1 < 0 := fun k => hg ⟨gg, k⟩
  have en : ((nx i st p : Nat) : Int) = i.f1 := by unfold nx; rw [if_pos gg]; omega
  have ef : ((fu i fl : Nat) : Int) = (fl : Int) - 1 := by unfold fu; rw [if_pos e8]; omega
  rw [en, ef]
  exact ⟨106, I, rfl, .inr rfl, back_rs h hI (by omega) (by omega)⟩
 ·refine ⟨91, B, rfl, .inl rfl, ?_⟩
  rcases hA with ⟨e5, rfl, rfl⟩ | ⟨rfl, hA⟩
  ·rw [if_neg (by omega), if_neg (by omega), if_neg (by omega), if_neg (by omega), if_pos e5] at hd
   have en : ((nx i st p : Nat) : Int) = ((p + 1 : Nat) : Int) := by unfold nx goes; rw [e5]; rfl
   have ef : fu i fl = fl := by unfold fu; rw [if_neg (by omega)]
   rw [en, ef]
   match st, h, hd with
   | [], _, hd => cases hd
   | x :: s, h, hd =>
    cases hd
    exact on_101 X B W _ hB (actNot h)
  ·have ef : i.f0 ≠ 8 → fu i fl = fl := fun e => by unfold fu; rw [if_neg e]
   rcases hA with ⟨e, rfl⟩ | ⟨e, rfl⟩ | ⟨e, rfl⟩ | ⟨e, rfl⟩ | ⟨e, rfl⟩ | ⟨e, rfl⟩
   ·have en : ((nx i st p : Nat) : Int) = ((p + 1 : Nat) : Int) := by unfold nx goes; rw [e]; rfl
    rw [en, ef (by omega)]
    rw [if_pos e] at hd
    by_cases hl : st.length < 12
    ·rw [if_pos hl] at hd
     cases hd
     refine on_92 X B I W _ hB ?_
     obtain ⟨hs, h1, h2, h3⟩ := h.H
     exact actPush_rs h hI hl
    ·rw [if_neg hl] at hd; cases hd
   ·have en : ((nx i st p : Nat) : Int) = ((p + 1 : Nat) : Int) := by unfold nx goes; rw [e]; rfl
    rw [en, ef (by omega)]
    rw [if_neg (by omega), if_pos e] at hd
    by_cases hl : st.length < 12 ∧ aOk i.f2.f0 i.f2.f1 = true
    ·rw [if_pos hl] at hd
     cases hd
     exact on_94 X B I W _ hB (actLoad h hI hl.2 hl.1)
    ·rw [if_neg hl] at hd; cases hd
   ·have en : ((nx i st p : Nat) : Int) = ((p + 1 : Nat) : Int) := by unfold nx goes; rw [e]; rfl
    rw [en, ef (by omega)]
    rw [if_neg (by omega), if_neg (by omega), if_pos e] at hd
    match st, h, hd with
    | [], _, hd => cases hd
    | x :: s, h, hd =>
     by_cases hl : pOk i.f2.f0 i.f2.f1 = true
     ·simp only [if_pos hl] at hd
      cases hd
      exact on_96 X B I W _ hB (actStore h hI hl)
     ·simp only [if_neg hl] at hd; cases hd
   ·have en : ((nx i st p : Nat) : Int) = ((p + 1 : Nat) : Int) := by unfold nx goes; rw [e]; rfl
    rw [en, ef (by omega)]
    rw [if_neg (by omega), if_neg (by omega), if_neg (by omega), if_pos e] at hd
    match st, h, hd with
    | [], _, hd => cases hd
    | [_], _, hd => cases hd
    | y :: x :: s, h, hd =>
     cases ht : Gt.impl_two.f i.f1 x y with
     | none => simp only [ht] at hd; cases hd
     | some t =>
      simp only [ht] at hd
      cases hd
      exact on_99 X B I W _ hB (actTwo h hI ht)
   ·rw [ef (by omega)]
    rw [if_neg (by omega), if_neg (by omega), if_neg (by omega), if_neg (by omega), if_neg (by omega), if_pos e] at hd
    match st, h, hd, hg with
    | [], _, hd, _ => cases hd
    | x :: s, h, hd, hg =>
     cases hd
     have en : ((nx i (x :: s) p : Nat) : Int) = if onI x = true then ((p + 1 : Nat) : Int) else i.f1 := by
      have gg : goes i (x :: s) = !onI x := by unfold goes; rw [e]; rfl
      unfold nx
      rw [gg]
      rw [gg] at hg
      cases ho : onI x with
      | true => rfl
      | false =>
       rw [ho] at hg
       have : ¬ i.f1 < 0 := fun k => hg ⟨rfl, k⟩
       simp; omega
     rw [en]
     exact on_104 X B I W _ hB (actSkip h hI)
   ·rw [ef (by omega)]
    rw [if_neg (by omega), if_neg (by omega), if_neg (by omega), if_neg (by omega), if_neg (by omega), if_neg (by omega), if_pos (.inl e)] at hd
    cases hd
    have gg : goes i st = true := by unfold goes; rw [e]; rfl
    have hg2 : ¬ i.f1 < 0 := fun k => hg ⟨gg, k⟩
    have en : ((nx i st p : Nat) : Int) = i.f1 := by unfold nx; rw [if_pos gg]; omega
    rw [en]
    exact on_105 X B I W _ hB (jump_rs h hI)
theorem stop_any {X g : Nat} {i : S30} {v : Value} {m : M3} {st : List Int} {p : Int} {W : World} (hA : ActV W v i) (h : RS X g m st p 0 W) (h8 : i.f0 = 8) :
  ∃ B, v = .func (.func 106) #[] #[.pointer (some ⟨B, 0, none⟩)] ∧ Calls Tryz.prog 106 #[.pointer (some ⟨X, 0, none⟩), .pointer (some ⟨B, 0, none⟩)] W fun e w' => e = .returned (.bool false) ∧ w' = W := by
 obtain ⟨I, hI, hA⟩ := hA
 obtain ⟨hs, h1, h2, h3⟩ := h.H
 rcases hA with ⟨hn, rfl⟩ | ⟨B, F, cap, rfl, hB, hA⟩
 ·exact ⟨I, rfl, actBack0 X g I hs st.length p W h3 h1⟩
 ·exfalso; omega
end Go.Proofs.YtjamfddhcigchaaGreatDoor.Hq
