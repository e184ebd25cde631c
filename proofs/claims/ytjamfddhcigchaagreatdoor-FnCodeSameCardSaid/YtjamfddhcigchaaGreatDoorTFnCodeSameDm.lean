/- spec.l2Mem, walked: it answers some memory. No other condition. -/
import Derived.Test.YtjamfddhcigchaaGreatDoorTFnCodeSameHx
import Derived.Test.YtjamfddhcigchaaGreatDoorTFnCodeSameGq
namespace Go.Proofs.YtjamfddhcigchaaGreatDoor.Dm
open Go.RowKit  Go.Proofs.YtjamfddhcigchaaGreatDoor.Gz Go.Proofs.YtjamfddhcigchaaGreatDoor.Gq Go.Proofs.YtjamfddhcigchaaGreatDoor.Hx Go.Proofs.YtjamfddhcigchaaGreatDoor.HFnCodeSame Go.Proofs.YtjamfddhcigchaaGreatDoorW.PrintWords Go.Proofs.YtjamfddhcigchaaGreatDoorW.PrintLast Go.Proofs.YtjamfddhcigchaaGreatDoorW.PrintMore
set_option linter.unusedVariables false
set_option linter.unusedSimpArgs false
def R6 (W : World) (base x c : Nat) : Prop := ∃ l, Kd.R (Kd.int .i64) 3 W base (fun _ => True) (.slice (some ⟨x, 0, none⟩) 6 c) l
theorem R6.keep {w0 W W' : World} {g base x c : Nat} {s : List Int} {q : Int} (h : R6 W base x c) (hI : IsS98 w0 W g s q) (k : KeepBut W W' g none) : R6 W' base x c := by
 obtain ⟨l, h⟩ := h
 have hne := IsS98.own_ne hI h (by decide)
 exact ⟨l, R_int_ok (Kd.R_keep (R_int_ok (ok' := fun k => k ≠ g) h (fun b hb e => hne (by rw [hb, e]))) k (fun _ e => e)) (fun _ _ => trivial)⟩
theorem R6.below {W W' : World} {base x c : Nat} (h : R6 W base x c) (k : Below W.heap.size W W') : R6 W' base x c := by
 obtain ⟨l, h⟩ := h
 exact ⟨l, Kd.R_below h k⟩
theorem own_eq {x c b y : Nat} (hb : (Value.slice (some ⟨x, 0, none⟩) 6 c).ownBlock = some b) (e : b = y) : y = x := by
 have : x = b := by simpa [Value.ownBlock] using hb
 omega
theorem R6.set {W : World} {base x c : Nat} (h : R6 W base x c) (y j : Nat) (n : Int) : R6 (W.setCell ⟨y, j, none⟩ (.int .i64 n)) base x c := by
 obtain ⟨l, h⟩ := h
 by_cases e : y = x
 ·subst e
  have k := Kd.R_putn h (j : Int) n
  rw [Int.toNat_natCast] at k
  exact ⟨_, k⟩
 ·exact ⟨l, R_int_ok (Kd.R_far (p := ⟨y, j, none⟩) (R_int_ok (ok' := fun k => k ≠ y) h (fun b hb e2 => e (own_eq hb e2))) (fun _ e => e) (.int .i64 n)) (fun _ _ => trivial)⟩
theorem R6.at_ {W : World} {base x c : Nat} (h : R6 W base x c) (j : Nat) (hj : j < 6) : (∃ v, W.cell? ⟨x, j, none⟩ = some (.int .i64 v)) ∧ W.frozen? ⟨x, j, none⟩ = false := by
 obtain ⟨l, h⟩ := h
 obtain ⟨a, b⟩ := Kd.R_celln 0 h (j : Int) (by omega) (by omega)
 rw [Int.toNat_natCast] at a b
 exact ⟨⟨_, a⟩, b⟩
theorem R6.typ {W : World} {base x c : Nat} (h : R6 W base x c) : base ≤ x ∧ ∃ cells, W.heap[x]? = some (.cells cells 3 (0, 0)) := by
 obtain ⟨l, h⟩ := h
 exact ⟨Kd.R_base h x rfl, Kd.R_typed h x rfl⟩
theorem form6 {W : World} {base : Nat} {ok : Nat → Prop} {v : Value} (h : Kd.R (Kd.int .i64) 3 W base ok v (List.replicate 6 0)) : ∃ x c, v = .slice (some ⟨x, 0, none⟩) 6 c := by
 obtain ⟨inner, ho⟩ := Kd.R_own h
 rcases ho.2 with ⟨e, e2⟩ | ⟨x, cap, cur, e, _⟩
 ·exact absurd e2 (by decide)
 ·exact ⟨x, cap, e⟩
theorem keep_m {w W : World} {g z i : Nat} (h : KeepBut w W g none) (hz : w.heap.size ≤ z) (a : Value) : KeepBut w (W.setCell ⟨z, i, none⟩ a) g none :=
 ⟨by simpa using h.1, fun k hk hg hr => (Below.heap_setCell W ⟨z, i, none⟩ a k (by show k ≠ z; omega)).trans (h.2 k hk hg hr)⟩
theorem R6.far {W : World} {base x c z i : Nat} {cs : Array Value} (h : R6 W base x c) (hz : W.heap[z]? = some (.cells cs 33 (0, 0))) (u : Value) : R6 (W.setCell ⟨z, i, none⟩ u) base x c := by
 obtain ⟨_, cells, ht⟩ := h.typ
 obtain ⟨l, h⟩ := h
 have ne : x ≠ z := fun e => by subst e; rw [ht] at hz; injection hz with hz; injection hz with _ hz; exact absurd hz (by decide)
 exact ⟨l, R_int_ok (Kd.R_far (p := ⟨z, i, none⟩) (R_int_ok (ok' := fun k => k ≠ z) h (fun b hb e => ne (own_eq hb e).symm)) (fun _ e => e) u) (fun _ _ => trivial)⟩
theorem R6.st3 {W : World} {base x c z : Nat} {cs : Array Value} (h : R6 W base x c) (hz : W.heap[z]? = some (.cells cs 33 (0, 0))) (u v t : Value) : R6 (((W.setCell ⟨z, 0, none⟩ u).setCell ⟨z, 1, none⟩ v).setCell ⟨z, 2, none⟩ t) base x c :=
 ((h.far hz u).far (blk_put hz 0 u rfl) v).far (blk_put (blk_put hz 0 u rfl) 1 v rfl) t
structure LM (w0 w : World) (g z z3 x0 x1 x2 c0 c1 c2 : Nat) (s : List Int) (q : Int) (W : World) : Prop where
 hz : W.heap[z]? = some (.cells Z3 33 (0, 0))
 h3 : W.heap[z3]? = some (.cells #[.slice (some ⟨x0, 0, none⟩) 6 c0, .slice (some ⟨x1, 0, none⟩) 6 c1, .slice (some ⟨x2, 0, none⟩) 6 c2] 33 (0, 0))
 r0 : R6 W w.heap.size x0 c0
 r1 : R6 W w.heap.size x1 c1
 r2 : R6 W w.heap.size x2 c2
 gw : g < w.heap.size
 zw : w.heap.size ≤ z
 z3w : w.heap.size ≤ z3
 w0w : w0.heap.size ≤ w.heap.size
 i : IsS98 w0 W g s q
 b : Below w0.heap.size w0 W
 k : KeepBut w W g none
section
variable {w0 w : World} {g z z3 x0 x1 x2 c0 c1 c2 : Nat} {s : List Int} {q q' : Int} {W W' : World}
theorem LM.call (h : LM w0 w g z z3 x0 x1 x2 c0 c1 c2 s q W) (i : IsS98 w0 W' g s q') (b : Below w0.heap.size w0 W') (k : KeepBut W W' g none) : LM w0 w g z z3 x0 x1 x2 c0 c1 c2 s q' W' :=
 ⟨k.blk h.hz (by have := h.gw; have := h.zw; omega) (by simp), k.blk h.h3 (by have := h.gw; have := h.z3w; omega) (by simp), h.r0.keep h.i k, h.r1.keep h.i k, h.r2.keep h.i k, h.gw, h.zw, h.z3w, h.w0w, i, b, h.k.trans k (.inl rfl)⟩
theorem LM.below (h : LM w0 w g z z3 x0 x1 x2 c0 c1 c2 s q W) (k : Below W.heap.size W W') : LM w0 w g z z3 x0 x1 x2 c0 c1 c2 s q W' := h.call (h.i.below k) (h.b.trans (k.mono h.b.size)) (KeepBut.of_below k g none)
theorem LM.set (h : LM w0 w g z z3 x0 x1 x2 c0 c1 c2 s q W) {y c : Nat} (r : R6 W w.heap.size y c) (j : Nat) (n : Int) : LM w0 w g z z3 x0 x1 x2 c0 c1 c2 s q (W.setCell ⟨y, j, none⟩ (.int .i64 n)) := by
 obtain ⟨hb0, cells, ht⟩ := r.typ
 have ne : ∀ {b : Nat} {cs : Array Value}, W.heap[b]? = some (.cells cs 33 (0, 0)) → b ≠ y := fun hb e => by subst e; rw [ht] at hb; injection hb with hb; injection hb with _ hb; exact absurd hb (by decide)
 refine ⟨blk_far (p := ⟨y, j, none⟩) h.hz (ne h.hz) _, blk_far (p := ⟨y, j, none⟩) h.h3 (ne h.h3) _, h.r0.set y j n, h.r1.set y j n, h.r2.set y j n, h.gw, h.zw, h.z3w, h.w0w, IsS98.far (p := ⟨y, j, none⟩) h.i (IsS98.ne_blk h.i ht (by decide)) _, below_set h.b (by have := h.w0w; omega), ?_⟩
 exact ⟨by simpa using h.k.1, fun k hk hg hr => (Below.heap_setCell W ⟨y, j, none⟩ (.int .i64 n) k (by show k ≠ y; omega)).trans (h.k.2 k hk hg hr)⟩
theorem LM.num (h : LM w0 w g z z3 x0 x1 x2 c0 c1 c2 s q W) {y n : Nat} {l : List Int} {cs : Array Value} (hn : n = l.length) (hb : W.heap[y]? = some (.cells cs 3 (0, 0))) (e : cs = (l.map (Value.int .i64)).toArray) (hl : l.length ≤ 1000) (h0 : 0 < l.length) (hs : Byt s) (q0 : 0 ≤ q) (q1 : q ≤ 1000000) :
  Calls Tryz.prog 35 #[.pointer (some ⟨g, 0, none⟩), .slice (some ⟨y, 0, none⟩) n n] W fun e w' => (∃ v, e = .returned (.int .i64 v)) ∧ LM w0 w g z z3 x0 x1 x2 c0 c1 c2 s (q + 1) w' := by
 subst hn
 obtain ⟨v, hv, _⟩ := num_some hs 10 q l h0 q0 (by omega)
 have hC : Kd.C (Kd.int .i64) W (some ⟨y, 0, none⟩) l.length l := C_of_cells hl (fun i hi => by
  rw [Nat.zero_add, blk_cell hb, e, List.getElem?_toArray, List.getElem?_map, List.getElem?_eq_getElem hi]; rfl)
 refine (spec_l12Rd_num.calls _ g s q _ _ l v _ w0 W h.i h.b hC (Nat.le_refl _) (fun ad e _ => by cases e; exact fun e => (IsS98.ne_blk h.i hb (by decide)) e.symm) hv).mono ?_
 rintro e w' ⟨rfl, i, b, k⟩
 exact ⟨⟨_, rfl⟩, h.call i b k⟩
end
set_option maxRecDepth 100000 in
set_option maxHeartbeats 6400000 in
theorem l2Mem_any (g : Nat) (s : List Int) (q : Int) (w0 w : World) (hI : IsS98 w0 w g s q) (hB : Below w0.heap.size w0 w) (hs : Byt s) (h0 : 0 ≤ q) (h1 : q ≤ 900000) :
  Calls Tryz.prog 60 #[.pointer (some ⟨g, 0, none⟩)] w fun e w' => ∃ x0 x1 x2 c0 c1 c2, e = .returned (.agg #[.slice (some ⟨x0, 0, none⟩) 6 c0, .slice (some ⟨x1, 0, none⟩) 6 c1, .slice (some ⟨x2, 0, none⟩) 6 c2]) ∧ R6 w' w.heap.size x0 c0 ∧ R6 w' w.heap.size x1 c1 ∧ R6 w' w.heap.size x2 c2 ∧ x0 ≠ x1 ∧ x2 ≠ x1 ∧ IsS98 w0 w' g s (q + 12) ∧ Below w0.heap.size w0 w' ∧ KeepBut w w' g none := by
 have hu33 := Tryz.underlying33
 have hu31 := Tryz.underlying31
 have hg := IsS98.lt hI
 have sw := hB.size
 have kz := below_alloc (Below.refl w.heap.size w) (.cells #[.slice none 0 0, .slice none 0 0, .slice none 0 0] 33)
 have bz := heap_alloc_new w (.cells #[.slice none 0 0, .slice none 0 0, .slice none 0 0] 33)
 have cm := fun W => spec_MemOpen.calls (List.replicate 6 0) (List.replicate 6 0) (List.replicate 6 0) W (by unfold spec_MemOpen.f; rw [if_pos (by omega)])
 go_enter Tryz.func60, Tryz.ntmps60
 go_wp2_with fail
 refine (cm _).mono ?_
 rintro e w1 ⟨v0, v1, v2, rfl, r0, r1, r2, b1⟩
 clear cm
 generalize w.alloc _ = wz at kz bz r0 r1 r2 b1
 have szz : w.heap.size < wz.heap.size := blk_lt bz
 replace bz := blk_below bz b1
 have b2 := kz.trans (b1.mono kz.size)
 have e0 := fun k hk => (r0.1 k hk).1
 have e2 := fun k hk => (r2.1 k hk).2
 obtain ⟨x0, c0, rfl⟩ := form6 r0
 obtain ⟨x1, c1, rfl⟩ := form6 r1
 obtain ⟨x2, c2, rfl⟩ := form6 r2
 have n01 : x0 ≠ x1 := fun e => e0 x0 rfl (by rw [e]; rfl)
 have n21 : x2 ≠ x1 := fun e => e2 x2 rfl (by rw [e]; rfl)
 go_upto_region 2 with (fail)
 have kb := below_alloc (Below.refl w1.heap.size w1) (.cells #[.slice (some ⟨x0, 0, none⟩) 6 c0, .slice (some ⟨x1, 0, none⟩) 6 c1, .slice (some ⟨x2, 0, none⟩) 6 c2] 33)
 have b3 := heap_alloc_new w1 (.cells #[.slice (some ⟨x0, 0, none⟩) 6 c0, .slice (some ⟨x1, 0, none⟩) 6 c1, .slice (some ⟨x2, 0, none⟩) 6 c2] 33)
 have bb := b2.trans (kb.mono b2.size)
 have hT : LM w0 w g w.heap.size w1.heap.size x0 x1 x2 c0 c1 c2 s q _ := ⟨blk_below bz kb, b3, R6.below ⟨_, R_int_ok (Kd.R_lower r0 kz.size) (fun _ _ => trivial)⟩ kb, R6.below ⟨_, R_int_ok (Kd.R_lower r1 kz.size) (fun _ _ => trivial)⟩ kb, R6.below ⟨_, R_int_ok (Kd.R_lower r2 kz.size) (fun _ _ => trivial)⟩ kb, hg, Nat.le_refl _, b2.size, sw, hI.below bb, hB.trans (bb.mono sw), KeepBut.of_below bb g none⟩
 clear r0 r1 r2 b1 b2 b3 bz kb bb kz e0 e2 szz hI hB
 generalize w1.alloc _ = w2 at hT ⊢
 generalize w1.heap.size = z3 at hT ⊢
 obtain ⟨z, hz⟩ : ∃ z, w.heap.size = z := ⟨_, rfl⟩
 have hT : LM w0 w g z z3 x0 x1 x2 c0 c1 c2 s q w2 := by rw [← hz]; exact hT
 rw [hz]
 go_wp2_with fail
 go_loopw [4] (fun vi wr => ∃ j : Nat, j ≤ 4 ∧ vi = .int .i64 (j : Int) ∧ Aside0 (LM w0 w g z z3 x0 x1 x2 c0 c1 c2 s (q + 3 * (j : Int)) wr)) (fun vi _ => 4 - (intOf vi).toNat)
 case atStart => exact ⟨0, by omega, rfl, ⟨by simpa using hT⟩⟩
 case round =>
  clear hT
  obtain ⟨j, hj, rfl, hT0⟩ := hrel
  have hT := hT0.out
  clear hT0
  by_cases hj4 : j < 4
  ·have d2 : decide ((j : Int) < 4) = true := by simp; omega
   have hj6' : Aside0 (j < 6) := ⟨by omega⟩
   have hjm : (j : Int) < 6 := by omega
   have w1_ : wrap64 ((j : Int) + 1) = ((j + 1 : Nat) : Int) := by unfold wrap64; omega
   go_wp2_with fail
   replace hT : LM w0 w g z z3 x0 x1 x2 c0 c1 c2 s _ wr.drew := hT.below (below_drew1 (Below.refl _ _))
   refine start_ (n := 8) (S := fun w' => w'.cell? ⟨z3, 0, none⟩ = some (.slice (some ⟨x0, 0, none⟩) 6 c0)) (ds := [7]) #[F_, F_, F_, F_, F_, F_, F_, F_] (by kernel_rfl) rfl rfl (((blk_cell hT.h3 0).trans rfl)) (fun hHeld => ?_)
   refine pure_ (i := 0) (N := some 10) (v := ?_) (a' := ?_) #[T_, F_, F_, F_, F_, F_, F_, F_] rfl rfl (by kernel_rfl) (fun _ _ _ h => h) (Or.inl ⟨by rfl, ?_⟩) ?_ ?_
   rotate_left
   ·intro w'
    go_simp
    with_reducible rfl
   rotate_left
   ·simp only [Act.put, sA_, sB_, sC_, i64_w, i32_w]
    rfl
   refine pure_ (i := 2) (N := some 12) (v := ?_) (a' := ?_) #[T_, F_, T_, F_, F_, F_, F_, F_] rfl rfl (by kernel_rfl) (fun _ _ _ h => h) (Or.inl ⟨by rfl, ?_⟩) ?_ ?_
   rotate_left
   ·intro w'
    go_simp
    with_reducible rfl
   rotate_left
   ·simp only [Act.put, sA_, sB_, sC_, i64_w, i32_w]
    rfl
   refine pure_ (i := 3) (N := some 13) (v := ?_) (a' := ?_) #[T_, F_, T_, T_, F_, F_, F_, F_] rfl rfl (by kernel_rfl) (fun _ _ _ h => h) (Or.inl ⟨by rfl, ?_⟩) ?_ ?_
   rotate_left
   ·intro w'
    go_simp
    with_reducible rfl
   rotate_left
   ·simp only [Act.put, sA_, sB_, sC_, i64_w, i32_w]
    rfl
   refine take_ (i := 1) (N := some 11) (v := ?_) (a' := ?_) #[T_, T_, T_, T_, F_, F_, F_, F_] rfl rfl (by kernel_rfl) (fun _ _ _ h => h) (Or.inl ⟨by rfl, ?_⟩) hHeld ?_ ?_
   rotate_left
   ·intro w' s0
    go_simp
    with_reducible rfl
   rotate_left
   ·simp only [Act.put, sA_, sB_, sC_, i64_w, i32_w]
    rfl
   refine one_ (i := 4) (N := some 14) #[T_, T_, T_, T_, T_, F_, F_, F_] rfl rfl (by kernel_rfl) (by decide) (fun K hK => ?_)
   generalize wr.drew = wv at hT hHeld ⊢
   refine value_ (w1 := ?_) (v := ?_) (by rfl) rfl ?_ ?_
   rotate_left 2
   ·go_simp
    constructor
    ·rfl
    ·rfl
   have hb_ := heap_alloc_new wv (.cells #[.int .i64 0, .int .i64 0, .int .i64 1, .int .i64 1, .int .i64 2, .int .i64 5, .int .i64 (-1)] 3)
   replace hT := hT.below (below_alloc (Below.refl _ _) (.cells #[.int .i64 0, .int .i64 0, .int .i64 1, .int .i64 1, .int .i64 2, .int .i64 5, .int .i64 (-1)] 3))
   generalize wv.alloc (.cells #[.int .i64 0, .int .i64 0, .int .i64 1, .int .i64 1, .int .i64 2, .int .i64 5, .int .i64 (-1)] 3) = wu at hT hb_ ⊢
   generalize wv.heap.size = y_ at hb_ ⊢
   refine hK.out _ _ (((blk_cell hT.h3 0).trans rfl)) (fun hHeld => ?_)
   clear hK K
   refine norm_ (a' := ?_) ?_ ?_
   rotate_left
   ·show Act.put _ (some 14) _ = _
    simp only [Act.put, sA_, sB_, sC_, i64_w, i32_w]
    rfl
   refine one_ (i := 5) (N := some 15) #[T_, T_, T_, T_, T_, T_, F_, F_] rfl rfl (by kernel_rfl) (by decide) (fun K hK => ?_)
   refine goes_ Tryz.func35 (by kernel_rfl) rfl #[.pointer (some ⟨g, 0, none⟩), .slice (some ⟨y_, 0, none⟩) 7 7] (by rfl) rfl rfl (by simp only [List.map_toArray, List.map_cons, List.map_nil]; rfl) ?_
   with_reducible refine (hT.num (n := 7) (l := [0, 0, 1, 1, 2, 5, (-1)]) rfl hb_ rfl (by decide) (by decide) hs (by omega) (by omega)).mono ?_
   rintro e wn ⟨⟨vn, rfl⟩, hT2⟩
   refine ⟨_, rfl, ?_⟩
   replace hT := hT2
   clear hT2 hb_
   refine hK.out _ _ (((blk_cell hT.h3 0).trans rfl)) (fun hHeld => ?_)
   clear hK K
   refine norm_ (a' := ?_) ?_ ?_
   rotate_left
   ·show Act.put _ (some 15) _ = _
    simp only [Act.put, sA_, sB_, sC_, i64_w, i32_w]
    rfl
   refine pure_ (i := 6) (N := some 16) (v := ?_) (a' := ?_) #[T_, T_, T_, T_, T_, T_, T_, F_] rfl rfl (by kernel_rfl) (fun _ _ _ h => h) (Or.inl ⟨by rfl, ?_⟩) ?_ ?_
   rotate_left
   ·intro w'
    go_simp
    with_reducible rfl
   rotate_left
   ·simp only [Act.put, sA_, sB_, sC_, i64_w, i32_w]
    rfl
   refine last_ (i := 7) (N := none) #[T_, T_, T_, T_, T_, T_, T_, T_] rfl rfl (by kernel_rfl) (by decide) (fun K hK => ?_)
   obtain ⟨⟨vo, xc⟩, xf⟩ := hT.r0.at_ j hj6'.out
   refine skip_ (w1 := ?_) (by rfl) rfl ?_ ?_
   rotate_left
   ·go_simp
    rfl
   refine hK.out _ _ ?_
   clear hK K
   refine done_ (by kernel_rfl) ?_
   clear hHeld xc xf
   replace hT := hT.set hT.r0 j vn
   generalize wn.setCell _ _ = wa at hT ⊢
   clear vo
   go_wp2_with fail
   replace hT : LM w0 w g z z3 x0 x1 x2 c0 c1 c2 s _ wa.drew := hT.below (below_drew1 (Below.refl _ _))
   refine start_ (n := 8) (S := fun w' => w'.cell? ⟨z3, 1, none⟩ = some (.slice (some ⟨x1, 0, none⟩) 6 c1)) (ds := [7]) #[F_, F_, F_, F_, F_, F_, F_, F_] (by kernel_rfl) rfl rfl (((blk_cell hT.h3 1).trans rfl)) (fun hHeld => ?_)
   refine pure_ (i := 0) (N := some 17) (v := ?_) (a' := ?_) #[T_, F_, F_, F_, F_, F_, F_, F_] rfl rfl (by kernel_rfl) (fun _ _ _ h => h) (Or.inl ⟨by rfl, ?_⟩) ?_ ?_
   rotate_left
   ·intro w'
    go_simp
    with_reducible rfl
   rotate_left
   ·simp only [Act.put, sA_, sB_, sC_, i64_w, i32_w]
    rfl
   refine pure_ (i := 2) (N := some 19) (v := ?_) (a' := ?_) #[T_, F_, T_, F_, F_, F_, F_, F_] rfl rfl (by kernel_rfl) (fun _ _ _ h => h) (Or.inl ⟨by rfl, ?_⟩) ?_ ?_
   rotate_left
   ·intro w'
    go_simp
    with_reducible rfl
   rotate_left
   ·simp only [Act.put, sA_, sB_, sC_, i64_w, i32_w]
    rfl
   refine pure_ (i := 3) (N := some 20) (v := ?_) (a' := ?_) #[T_, F_, T_, T_, F_, F_, F_, F_] rfl rfl (by kernel_rfl) (fun _ _ _ h => h) (Or.inl ⟨by rfl, ?_⟩) ?_ ?_
   rotate_left
   ·intro w'
    go_simp
    with_reducible rfl
   rotate_left
   ·simp only [Act.put, sA_, sB_, sC_, i64_w, i32_w]
    rfl
   refine take_ (i := 1) (N := some 18) (v := ?_) (a' := ?_) #[T_, T_, T_, T_, F_, F_, F_, F_] rfl rfl (by kernel_rfl) (fun _ _ _ h => h) (Or.inl ⟨by rfl, ?_⟩) hHeld ?_ ?_
   rotate_left
   ·intro w' s0
    go_simp
    with_reducible rfl
   rotate_left
   ·simp only [Act.put, sA_, sB_, sC_, i64_w, i32_w]
    rfl
   refine one_ (i := 4) (N := some 21) #[T_, T_, T_, T_, T_, F_, F_, F_] rfl rfl (by kernel_rfl) (by decide) (fun K hK => ?_)
   generalize wa.drew = wv at hT hHeld ⊢
   refine value_ (w1 := ?_) (v := ?_) (by rfl) rfl ?_ ?_
   rotate_left 2
   ·go_simp
    constructor
    ·rfl
    ·rfl
   have hb_ := heap_alloc_new wv (.cells #[.int .i64 0, .int .i64 0, .int .i64 1, .int .i64 3] 3)
   replace hT := hT.below (below_alloc (Below.refl _ _) (.cells #[.int .i64 0, .int .i64 0, .int .i64 1, .int .i64 3] 3))
   generalize wv.alloc (.cells #[.int .i64 0, .int .i64 0, .int .i64 1, .int .i64 3] 3) = wu at hT hb_ ⊢
   generalize wv.heap.size = y_ at hb_ ⊢
   refine hK.out _ _ (((blk_cell hT.h3 1).trans rfl)) (fun hHeld => ?_)
   clear hK K
   refine norm_ (a' := ?_) ?_ ?_
   rotate_left
   ·show Act.put _ (some 21) _ = _
    simp only [Act.put, sA_, sB_, sC_, i64_w, i32_w]
    rfl
   refine one_ (i := 5) (N := some 22) #[T_, T_, T_, T_, T_, T_, F_, F_] rfl rfl (by kernel_rfl) (by decide) (fun K hK => ?_)
   refine goes_ Tryz.func35 (by kernel_rfl) rfl #[.pointer (some ⟨g, 0, none⟩), .slice (some ⟨y_, 0, none⟩) 4 4] (by rfl) rfl rfl (by simp only [List.map_toArray, List.map_cons, List.map_nil]; rfl) ?_
   with_reducible refine (hT.num (n := 4) (l := [0, 0, 1, 3]) rfl hb_ rfl (by decide) (by decide) hs (by omega) (by omega)).mono ?_
   rintro e wn ⟨⟨vn, rfl⟩, hT2⟩
   refine ⟨_, rfl, ?_⟩
   replace hT := hT2
   clear hT2 hb_
   refine hK.out _ _ (((blk_cell hT.h3 1).trans rfl)) (fun hHeld => ?_)
   clear hK K
   refine norm_ (a' := ?_) ?_ ?_
   rotate_left
   ·show Act.put _ (some 22) _ = _
    simp only [Act.put, sA_, sB_, sC_, i64_w, i32_w]
    rfl
   refine pure_ (i := 6) (N := some 23) (v := ?_) (a' := ?_) #[T_, T_, T_, T_, T_, T_, T_, F_] rfl rfl (by kernel_rfl) (fun _ _ _ h => h) (Or.inl ⟨by rfl, ?_⟩) ?_ ?_
   rotate_left
   ·intro w'
    go_simp
    with_reducible rfl
   rotate_left
   ·simp only [Act.put, sA_, sB_, sC_, i64_w, i32_w]
    rfl
   refine last_ (i := 7) (N := none) #[T_, T_, T_, T_, T_, T_, T_, T_] rfl rfl (by kernel_rfl) (by decide) (fun K hK => ?_)
   obtain ⟨⟨vo, xc⟩, xf⟩ := hT.r1.at_ j hj6'.out
   refine skip_ (w1 := ?_) (by rfl) rfl ?_ ?_
   rotate_left
   ·go_simp
    rfl
   refine hK.out _ _ ?_
   clear hK K
   refine done_ (by kernel_rfl) ?_
   clear hHeld xc xf
   replace hT := hT.set hT.r1 j vn
   generalize wn.setCell _ _ = wb at hT ⊢
   clear vo
   go_wp2_with fail
   replace hT : LM w0 w g z z3 x0 x1 x2 c0 c1 c2 s _ wb.drew := hT.below (below_drew1 (Below.refl _ _))
   refine start_ (n := 8) (S := fun w' => w'.cell? ⟨z3, 2, none⟩ = some (.slice (some ⟨x2, 0, none⟩) 6 c2)) (ds := [7]) #[F_, F_, F_, F_, F_, F_, F_, F_] (by kernel_rfl) rfl rfl (((blk_cell hT.h3 2).trans rfl)) (fun hHeld => ?_)
   refine pure_ (i := 0) (N := some 24) (v := ?_) (a' := ?_) #[T_, F_, F_, F_, F_, F_, F_, F_] rfl rfl (by kernel_rfl) (fun _ _ _ h => h) (Or.inl ⟨by rfl, ?_⟩) ?_ ?_
   rotate_left
   ·intro w'
    go_simp
    with_reducible rfl
   rotate_left
   ·simp only [Act.put, sA_, sB_, sC_, i64_w, i32_w]
    rfl
   refine pure_ (i := 2) (N := some 26) (v := ?_) (a' := ?_) #[T_, F_, T_, F_, F_, F_, F_, F_] rfl rfl (by kernel_rfl) (fun _ _ _ h => h) (Or.inl ⟨by rfl, ?_⟩) ?_ ?_
   rotate_left
   ·intro w'
    go_simp
    with_reducible rfl
   rotate_left
   ·simp only [Act.put, sA_, sB_, sC_, i64_w, i32_w]
    rfl
   refine pure_ (i := 3) (N := some 27) (v := ?_) (a' := ?_) #[T_, F_, T_, T_, F_, F_, F_, F_] rfl rfl (by kernel_rfl) (fun _ _ _ h => h) (Or.inl ⟨by rfl, ?_⟩) ?_ ?_
   rotate_left
   ·intro w'
    go_simp
    with_reducible rfl
   rotate_left
   ·simp only [Act.put, sA_, sB_, sC_, i64_w, i32_w]
    rfl
   refine take_ (i := 1) (N := some 25) (v := ?_) (a' := ?_) #[T_, T_, T_, T_, F_, F_, F_, F_] rfl rfl (by kernel_rfl) (fun _ _ _ h => h) (Or.inl ⟨by rfl, ?_⟩) hHeld ?_ ?_
   rotate_left
   ·intro w' s0
    go_simp
    with_reducible rfl
   rotate_left
   ·simp only [Act.put, sA_, sB_, sC_, i64_w, i32_w]
    rfl
   refine one_ (i := 4) (N := some 28) #[T_, T_, T_, T_, T_, F_, F_, F_] rfl rfl (by kernel_rfl) (by decide) (fun K hK => ?_)
   generalize wb.drew = wv at hT hHeld ⊢
   refine value_ (w1 := ?_) (v := ?_) (by rfl) rfl ?_ ?_
   rotate_left 2
   ·go_simp
    constructor
    ·rfl
    ·rfl
   have hb_ := heap_alloc_new wv (.cells #[.int .i64 0, .int .i64 0, .int .i64 1, .int .i64 2, .int .i64 7, .int .i64 1000000] 3)
   replace hT := hT.below (below_alloc (Below.refl _ _) (.cells #[.int .i64 0, .int .i64 0, .int .i64 1, .int .i64 2, .int .i64 7, .int .i64 1000000] 3))
   generalize wv.alloc (.cells #[.int .i64 0, .int .i64 0, .int .i64 1, .int .i64 2, .int .i64 7, .int .i64 1000000] 3) = wu at hT hb_ ⊢
   generalize wv.heap.size = y_ at hb_ ⊢
   refine hK.out _ _ (((blk_cell hT.h3 2).trans rfl)) (fun hHeld => ?_)
   clear hK K
   refine norm_ (a' := ?_) ?_ ?_
   rotate_left
   ·show Act.put _ (some 28) _ = _
    simp only [Act.put, sA_, sB_, sC_, i64_w, i32_w]
    rfl
   refine one_ (i := 5) (N := some 29) #[T_, T_, T_, T_, T_, T_, F_, F_] rfl rfl (by kernel_rfl) (by decide) (fun K hK => ?_)
   refine goes_ Tryz.func35 (by kernel_rfl) rfl #[.pointer (some ⟨g, 0, none⟩), .slice (some ⟨y_, 0, none⟩) 6 6] (by rfl) rfl rfl (by simp only [List.map_toArray, List.map_cons, List.map_nil]; rfl) ?_
   with_reducible refine (hT.num (n := 6) (l := [0, 0, 1, 2, 7, 1000000]) rfl hb_ rfl (by decide) (by decide) hs (by omega) (by omega)).mono ?_
   rintro e wn ⟨⟨vn, rfl⟩, hT2⟩
   refine ⟨_, rfl, ?_⟩
   replace hT := hT2
   clear hT2 hb_
   refine hK.out _ _ (((blk_cell hT.h3 2).trans rfl)) (fun hHeld => ?_)
   clear hK K
   refine norm_ (a' := ?_) ?_ ?_
   rotate_left
   ·show Act.put _ (some 29) _ = _
    simp only [Act.put, sA_, sB_, sC_, i64_w, i32_w]
    rfl
   refine pure_ (i := 6) (N := some 30) (v := ?_) (a' := ?_) #[T_, T_, T_, T_, T_, T_, T_, F_] rfl rfl (by kernel_rfl) (fun _ _ _ h => h) (Or.inl ⟨by rfl, ?_⟩) ?_ ?_
   rotate_left
   ·intro w'
    go_simp
    with_reducible rfl
   rotate_left
   ·simp only [Act.put, sA_, sB_, sC_, i64_w, i32_w]
    rfl
   refine last_ (i := 7) (N := none) #[T_, T_, T_, T_, T_, T_, T_, T_] rfl rfl (by kernel_rfl) (by decide) (fun K hK => ?_)
   obtain ⟨⟨vo, xc⟩, xf⟩ := hT.r2.at_ j hj6'.out
   refine skip_ (w1 := ?_) (by rfl) rfl ?_ ?_
   rotate_left
   ·go_simp
    rfl
   refine hK.out _ _ ?_
   clear hK K
   refine done_ (by kernel_rfl) ?_
   clear hHeld xc xf
   replace hT := hT.set hT.r2 j vn
   generalize wn.setCell _ _ = wc at hT ⊢
   clear vo
   go_wp2
   rw [show ((j : Int) + 1) = ((j + 1 : Nat) : Int) by omega]
   refine ⟨⟨j + 1, by omega, rfl, ⟨by rw [show q + 3 * ((j + 1 : Nat) : Int) = q + 3 * (j : Int) + 1 + 1 + 1 by omega]; exact hT⟩⟩, ?_⟩
   simp only [intOf]
   omega
  ·have d2 : decide ((j : Int) < 4) = false := by simp; omega
   obtain rfl : j = 4 := by omega
   replace hT : LM w0 w g z z3 x0 x1 x2 c0 c1 c2 s (q + 12) wr := hT
   have i0 : wr.cell? ⟨z3, 0, none⟩ = some (.slice (some ⟨x0, 0, none⟩) 6 c0) := (blk_cell hT.h3 0).trans rfl
   have i1 : wr.cell? ⟨z3, 1, none⟩ = some (.slice (some ⟨x1, 0, none⟩) 6 c1) := (blk_cell hT.h3 1).trans rfl
   have i2 : wr.cell? ⟨z3, 2, none⟩ = some (.slice (some ⟨x2, 0, none⟩) 6 c2) := (blk_cell hT.h3 2).trans rfl
   have y0 : wr.cell? ⟨z, 0, none⟩ = some (.slice none 0 0) := (blk_cell hT.hz 0).trans rfl
   have y1 : wr.cell? ⟨z, 1, none⟩ = some (.slice none 0 0) := (blk_cell hT.hz 1).trans rfl
   have y2 : wr.cell? ⟨z, 2, none⟩ = some (.slice none 0 0) := (blk_cell hT.hz 2).trans rfl
   have j0 : wr.frozen? ⟨z, 0, none⟩ = false := blk_frozen hT.hz 0
   have j1 : wr.frozen? ⟨z, 1, none⟩ = false := blk_frozen hT.hz 1
   have j2 : wr.frozen? ⟨z, 2, none⟩ = false := blk_frozen hT.hz 2
   have hzz := res_store hT.hz (.slice (some ⟨x0, 0, none⟩) 6 c0) (.slice (some ⟨x1, 0, none⟩) 6 c1) (.slice (some ⟨x2, 0, none⟩) 6 c2)
   have hw := Nat.le_trans hT.w0w hT.zw
   have gz : g ≠ z := by have := hT.gw; have := hT.zw; omega
   go_wp2
   refine bodyPost_ret (results_cell_row rfl _ _ z 33 #[.slice (some ⟨x0, 0, none⟩) 6 c0, .slice (some ⟨x1, 0, none⟩) 6 c1, .slice (some ⟨x2, 0, none⟩) 6 c2] (0, 0) _ rfl hzz Tryz.underlying33 rfl (by kernel_rfl)) rfl ?_
   rw [← hz]
   have F := fun {x c : Nat} (h : R6 wr w.heap.size x c) => (h.st3 hT.hz (.slice (some ⟨x0, 0, none⟩) 6 c0) (.slice (some ⟨x1, 0, none⟩) 6 c1) (.slice (some ⟨x2, 0, none⟩) 6 c2) : R6 _ w.heap.size x c)
   rw [← hz] at F
   exact ⟨x0, x1, x2, c0, c1, c2, rfl, F hT.r0, F hT.r1, F hT.r2, n01, n21, IsS98.far (IsS98.far (IsS98.far hT.i (p := ⟨w.heap.size, 0, none⟩) (hz ▸ gz) _) (p := ⟨w.heap.size, 1, none⟩) (hz ▸ gz) _) (p := ⟨w.heap.size, 2, none⟩) (hz ▸ gz) _, below_set (below_set (below_set hT.b (hz ▸ hw)) (hz ▸ hw)) (hz ▸ hw), keep_m (keep_m (keep_m hT.k (Nat.le_refl _) _) (Nat.le_refl _) _) (Nat.le_refl _) _⟩
end Go.Proofs.YtjamfddhcigchaaGreatDoor.Dm
