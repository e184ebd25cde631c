/- spec.l7Turned: a net whose wires stand the other way round, what it answers for every net of at most 1000000 wires and drives. Its name and form are those under which the printed text of spec.l7Bent calls it. -/
import Derived.Test.YtphblfmjdiigkaaGreatDoorTFnNetSameHFnNetSamex5
import Derived.WalkLawsBesides
import Derived.WalkSpells
import Derived.Deep.RegionHeld
namespace Go.Proofs.YtphblfmjdiigkaaGreatDoor.HFnNetSame
open Go.RowKit Go.Proofs.YtphblfmjdiigkaaGreatDoorW.PrintWords Go.Proofs.YtphblfmjdiigkaaGreatDoorW.PrintLast Go.Proofs.YtphblfmjdiigkaaGreatDoorW.PrintMore
attribute [local go_sem] max2_int min2_int max_two min_two max_three min_three max_four min_four
set_option linter.unusedVariables false
set_option linter.unusedSimpArgs false
def turnW (K : Int) (x : S43) : S43 := ⟨x.f0, x.f1, ⟨x.f2.f0, if x.f2.f0 = 1 then x.f2.f1 else wrap64 (K - x.f2.f1), ⟨x.f2.f2.f0, x.f2.f2.f1⟩, x.f2.f3⟩, ⟨x.f3.f0, if x.f3.f0 = 1 ∨ x.f3.f0 = 0 then x.f3.f1 else wrap64 (K - x.f3.f1), ⟨x.f3.f2.f0, x.f3.f2.f1⟩, x.f3.f3⟩⟩
def turnD (K : Int) (y : S66) : S66 := ⟨⟨y.f0.f0, y.f0.f1⟩, wrap64 (K - y.f1)⟩
def spec_l7Turned.f (k : Nat) (l0_0 : List (S43)) (l0_1 : List (S66)) : Option ((List (S43)) × (List (S66))) :=
  if l0_0.length ≤ 1000000 ∧ l0_1.length ≤ 1000000 then some (l0_0.reverse.map (turnW ((l0_0.length : Int) - 1)), l0_1.map (turnD ((l0_0.length : Int) - 1))) else none
theorem tu_own {α : Type} {d : Kd α} {e base : Nat} {ok : Nat → Prop} {W : World} {v : Value} {xs : List α} {g t : Nat} {cs : Array Value} (h : d.R e W base ok v xs) (hb : W.heap[g]? = some (.cells cs t (0, 0))) (ht : t ≠ e) : some g ≠ v.ownBlock := by
  intro he
  obtain ⟨cells, hc⟩ := Kd.R_typed h g he.symm
  rw [hb] at hc; injection hc with hc; injection hc with _ hc; exact ht hc
theorem tu_put {α : Type} {d : Kd α} {e base : Nat} {ok : Nat → Prop} {W : World} {v : Value} {xs : List α} {g t : Nat} {cs : Array Value} (hE : d.E = []) (h : d.R e W base ok v xs) (hb : W.heap[g]? = some (.cells cs t (0, 0))) (ht : e ≠ t) (j : Nat) (u : Value) : d.R e (W.setCell ⟨g, j, none⟩ u) base ok v xs :=
  Kd.R_mono (rF_ (p := ⟨g, j, none⟩) (Kd.R_types h hb (fun q hq => by rw [hE] at hq; simp at hq; omega)) (fun _ hk => hk.2) u) (fun _ hk => hk.1)
theorem tu48 : k43.E = [] := rfl
theorem tu62 : k66.E = [] := rfl
structure LT (w : World) (g1 g2 g4 : Nat) (X : Array Value) (p q : Value) (W : World) : Prop where
  h1 : W.heap[g1]? = some (.cells X 31 (0, 0))
  h2 : W.heap[g2]? = some (.cells #[.slice none 0 0, .slice none 0 0] 31 (0, 0))
  h4 : W.heap[g4]? = some (.cells #[p, q] 31 (0, 0))
  b1 : w.heap.size ≤ g1
  b2 : g1 < g2
  b4 : g2 < g4
  bel : Below w.heap.size w W
theorem LT.below {w W W' : World} {g1 g2 g4 : Nat} {X : Array Value} {p q : Value} (h : LT w g1 g2 g4 X p q W) (k : Below W.heap.size W W') : LT w g1 g2 g4 X p q W' := ⟨blk_below h.h1 k, blk_below h.h2 k, blk_below h.h4 k, h.b1, h.b2, h.b4, h.bel.trans (k.mono h.bel.size)⟩
theorem LT.alloc {w W : World} {g1 g2 g4 : Nat} {X : Array Value} {p q : Value} (h : LT w g1 g2 g4 X p q W) (o : Obj) : LT w g1 g2 g4 X p q (W.alloc o) := h.below ((Below.refl _ _).alloc (Nat.le_refl _) _)
theorem LT.drew {w W : World} {g1 g2 g4 : Nat} {X : Array Value} {p q : Value} (h : LT w g1 g2 g4 X p q W) : LT w g1 g2 g4 X p q W.drew := h.below (b1_ (Below.refl _ _))
theorem LT.lt {w W : World} {g1 g2 g4 : Nat} {X : Array Value} {p q : Value} (h : LT w g1 g2 g4 X p q W) : g4 < W.heap.size := blk_lt h.h4
theorem LT.far {w W : World} {g1 g2 g4 : Nat} {X : Array Value} {p q : Value} (h : LT w g1 g2 g4 X p q W) {z : Nat} (hz : g4 < z) (j : Nat) (v : Value) : LT w g1 g2 g4 X p q (W.setCell ⟨z, j, none⟩ v) :=
  ⟨blk_far h.h1 (by have := h.b2; have := h.b4; simp; omega) v, blk_far h.h2 (by have := h.b4; simp; omega) v, blk_far h.h4 (by simp; omega) v, h.b1, h.b2, h.b4, bS_ h.bel (by have := h.b1; have := h.b2; have := h.b4; show w.heap.size ≤ z; omega)⟩
theorem LT.put0 {w W : World} {g1 g2 g4 : Nat} {X : Array Value} {p q : Value} (h : LT w g1 g2 g4 X p q W) (v : Value) : LT w g1 g2 g4 X v q (W.setCell ⟨g4, 0, none⟩ v) :=
  ⟨blk_far h.h1 (by have := h.b2; have := h.b4; simp; omega) v, blk_far h.h2 (by have := h.b4; simp; omega) v, kP_ h.h4 0 _ rfl, h.b1, h.b2, h.b4, bS_ h.bel (by have := h.b1; have := h.b2; have := h.b4; show w.heap.size ≤ g4; omega)⟩
theorem LT.put1 {w W : World} {g1 g2 g4 : Nat} {X : Array Value} {p q : Value} (h : LT w g1 g2 g4 X p q W) (v : Value) : LT w g1 g2 g4 X p v (W.setCell ⟨g4, 1, none⟩ v) :=
  ⟨blk_far h.h1 (by have := h.b2; have := h.b4; simp; omega) v, blk_far h.h2 (by have := h.b4; simp; omega) v, kP_ h.h4 1 _ rfl, h.b1, h.b2, h.b4, bS_ h.bel (by have := h.b1; have := h.b2; have := h.b4; show w.heap.size ≤ g4; omega)⟩
theorem LT.grown {α : Type} {d : Kd α} {e base : Nat} {ok : Nat → Prop} {v : Value} {xs : List α} {w W W' : World} {g1 g2 g4 : Nat} {X : Array Value} {p q : Value} (h : LT w g1 g2 g4 X p q W) (hR : d.R e W base ok v xs) (he : (31 : Nat) ≠ e) (hg : W.grownBy W' v.ownBlock) (hb : Below w.heap.size w W') : LT w g1 g2 g4 X p q W' :=
  ⟨blk_grown h.h1 hg (tu_own hR h.h1 he), blk_grown h.h2 hg (tu_own hR h.h2 he), blk_grown h.h4 hg (tu_own hR h.h4 he), h.b1, h.b2, h.b4, hb⟩
theorem LT.start (w : World) (X : Array Value) : LT w w.heap.size (w.heap.size + 1) (w.heap.size + 1 + 1) X (.slice none 0 0) (.slice none 0 0) (((w.alloc (.cells X 31)).alloc (.cells #[.slice none 0 0, .slice none 0 0] 31)).alloc (.cells #[.slice none 0 0, .slice none 0 0] 31)) := by
  have e1 : (w.alloc (.cells X 31)).heap.size = w.heap.size + 1 := Array.size_push ..
  have e2 : ((w.alloc (.cells X 31)).alloc (.cells #[.slice none 0 0, .slice none 0 0] 31)).heap.size = w.heap.size + 1 + 1 := by rw [← e1]; exact Array.size_push ..
  refine ⟨blk_alloc (kA_ (heap_alloc_new _ _) _) _, ?_, ?_, Nat.le_refl _, by omega, by omega, (((Below.refl _ _).alloc (Nat.le_refl _) _).alloc (by rw [e1]; omega) _).alloc (by rw [e2]; omega) _⟩
  · have h := heap_alloc_new (w.alloc (.cells X 31)) (.cells #[.slice none 0 0, .slice none 0 0] 31)
    rw [e1] at h
    exact kA_ h _
  · have h := heap_alloc_new ((w.alloc (.cells X 31)).alloc (.cells #[.slice none 0 0, .slice none 0 0] 31)) (.cells #[.slice none 0 0, .slice none 0 0] 31)
    rw [e2] at h
    exact h
theorem wrap_id' {x : Int} (h1 : -9223372036854775808 ≤ x) (h2 : x ≤ 9223372036854775807) : wrap64 x = x := by
  unfold wrap64; omega
set_option maxRecDepth 100000 in
set_option maxHeartbeats 12800000 in
theorem turned (l : List S43) (m : List S66) (A B : Option Addr) (c d : Nat) (w : World) (hC : Kd.C k43 w A l.length l) (hlc : l.length ≤ c) (hD : Kd.C k66 w B m.length m) (hmd : m.length ≤ d) (hl : l.length ≤ 1000000) (hm : m.length ≤ 1000000) :
    Calls Tryz.prog 65 #[.agg #[.slice A l.length c, .slice B m.length d]] w fun e w' => ∃ v0_ v1_ : Value, e = .returned (.agg #[v0_, v1_]) ∧ Kd.R k43 43 w' w.heap.size (fun _ => True) v0_ (l.reverse.map (turnW ((l.length : Int) - 1))) ∧ Kd.R k66 66 w' w.heap.size (fun _ => True) v1_ (m.map (turnD ((l.length : Int) - 1))) ∧ Below w.heap.size w w' := by
  have hu32 := Tryz.underlying31
  have hu48 := Tryz.underlying43
  have hu46 := Tryz.underlying41
  have hu44 := Tryz.underlying39
  have hu62 := Tryz.underlying66
  have hT := LT.start w #[.slice A l.length c, .slice B m.length d]
  obtain ⟨Kn, hKn⟩ : ∃ Kn : Int, (l.length : Int) - 1 = Kn := ⟨_, rfl⟩
  have hKn' := wrap_id' (x := (l.length : Int) - 1) (by omega) (by omega)
  have i0 : ((w.alloc (.cells #[.slice A l.length c, .slice B m.length d] 31)).alloc (.cells #[.slice none 0 0, .slice none 0 0] 31)).cell? ⟨w.heap.size, 0, none⟩ = some (.slice A l.length c) := (kC_ (kA_ (heap_alloc_new w _) _) 0).trans rfl
  go_enter Tryz.func65, Tryz.ntmps65
  go_upto_region 3 with (fail)
  generalize World.alloc (World.alloc (World.alloc _ _) _) _ = w3 at hT ⊢
  obtain ⟨g4, hg4⟩ : ∃ g, w.heap.size + 1 + 1 = g := ⟨_, rfl⟩
  rw [hg4] at hT ⊢
  obtain ⟨g2, hg2⟩ : ∃ g, w.heap.size + 1 = g := ⟨_, rfl⟩
  rw [hg2] at hT hg4 ⊢
  obtain ⟨g1, hg1⟩ : ∃ g, w.heap.size = g := ⟨_, rfl⟩
  rw [hg1] at hT hg2 ⊢
  clear hg1 hg2 hg4 i0 hKn'
  go_wp2
  go_loopw [5] (fun v wr => ∃ (n : Nat) (i : Int) (u : Value), n ≤ l.length ∧ i = (n : Int) - 1 ∧ v = .int .i64 i ∧ LT w g1 g2 g4 #[.slice A l.length c, .slice B m.length d] u (.slice none 0 0) wr ∧ Aside0 (Kd.R k43 43 wr w.heap.size (fun _ => True) u ((l.drop n).reverse.map (turnW Kn)))) (fun v _ => (intOf v + 1).toNat)
  case atStart => exact ⟨l.length, Kn, _, Nat.le_refl _, hKn.symm, rfl, hT, ⟨by rw [List.drop_of_length_le (Nat.le_refl _)]; exact Kd.R_nil _ _ _ _ _⟩⟩
  case round =>
    clear hT
    obtain ⟨n, i, u, hn, hi, rfl, hT, hR⟩ := hrel
    cases n with
    | zero =>
      have d0 : decide (i ≥ 0) = false := by simp; omega
      have d0' : decide (0 ≤ i) = false := by simp; omega
      rw [List.drop_zero] at hR
      obtain ⟨xs, hxs⟩ : ∃ xs, l.reverse.map (turnW Kn) = xs := ⟨_, rfl⟩
      rw [hxs] at hR
      have HXS0 := aM_ hxs
      clear hi hxs hn
      go_wp2
      go_loopw [7] (fun v wr => ∃ (k : Nat) (v2 : Value), k ≤ m.length ∧ v = .int .i64 (k : Int) ∧ LT w g1 g2 g4 #[.slice A l.length c, .slice B m.length d] u v2 wr ∧ Aside0 (Kd.R k43 43 wr w.heap.size (fun _ => True) u xs) ∧ Aside0 (Kd.R k66 66 wr w.heap.size (fun _ => True) v2 ((m.take k).map (turnD Kn)))) (fun v _ => m.length - (intOf v).toNat)
      case atStart => exact ⟨0, _, by omega, rfl, hT, hR, ⟨Kd.R_nil _ _ _ _ _⟩⟩
      case round =>
        clear hT hR d0 d0'
        obtain ⟨k, v2, hk, rfl, hT, hR, hS⟩ := hrel
        by_cases hkm : k < m.length
        · have d1 : decide ((k : Int) < (m.length : Int)) = true := by simp; omega
          obtain ⟨ad, rfl, e0, e1, e2⟩ := at_T66 hD (k : Int) (by omega) (by omega)
          rw [Int.toNat_natCast] at e0 e1 e2
          have hy : Aside0 (rd_T66 m (k : Int) = m[k]) := ⟨by unfold rd_T66; rw [Int.toNat_natCast, List.getD_eq_getElem?_getD, List.getElem?_eq_getElem hkm]; rfl⟩
          generalize rd_T66 m (k : Int) = y at *
          obtain ⟨A2, c2, hv2⟩ := Kd.R_slice hS.out
          obtain ⟨xs2, hxs2⟩ : ∃ xs, (m.take k).map (turnD Kn) = xs := ⟨_, rfl⟩
          rw [hxs2] at hS hv2
          subst hv2
          have hHL := aM_ (show xs2.length ≤ 1000000 by rw [← hxs2, List.length_map, lT_]; omega)
          have HXS2 := aM_ hxs2
          clear hxs2
          obtain ⟨ys, hys⟩ : ∃ ys, xs2 ++ [(⟨⟨y.f0.f0, y.f0.f1⟩, wrap64 (Kn - y.f1)⟩ : S66)] = ys := ⟨_, rfl⟩
          have HYS := aM_ hys
          clear hys
          have hkI : (k : Int) < (m.length : Int) := by omega
          have i1 : wr.cell? ⟨g1, 1, none⟩ = some (.slice (some ad) m.length d) := (kC_ hT.h1 1).trans rfl
          go_upto_region 15 with (fail)
          clear i1
          have hTv := hT.drew
          have hRv := aM_ (rD_ hR.out)
          have hSv := aM_ (rD_ hS.out)
          clear hT hR hS
          refine start_ (n := 21) (S := fun w' => w'.cell? ⟨g4, 1, none⟩ = some (.slice A2 xs2.length c2) ∧ w'.cell? ⟨g1, 1, none⟩ = some (.slice (some ad) m.length d) ∧ w'.cell? (ad.add (k * 3)) = some (.int .i64 y.f0.f0) ∧ w'.cell? ⟨(ad.add (k * 3)).block, (ad.add (k * 3)).off + 1, none⟩ = some (.int .i64 y.f0.f1) ∧ w'.cell? ⟨(ad.add (k * 3)).block, (ad.add (k * 3)).off + 2, none⟩ = some (.int .i64 y.f1)) (ds := [20]) #[F_, F_, F_, F_, F_, F_, F_, F_, F_, F_, F_, F_, F_, F_, F_, F_, F_, F_, F_, F_, F_] (by kernel_rfl) rfl rfl ⟨(kC_ hTv.h4 1).trans rfl, (kC_ hTv.h1 1).trans rfl, ((hTv.bel.cell (bL_ w _ e0)).trans e0), ((hTv.bel.cell (bL_ w _ e1)).trans e1), ((hTv.bel.cell (bL_ w _ e2)).trans e2)⟩ (fun hHeld => ?_)
          refine pure_ (i := 0) (N := some 64) (v := ?_) (a' := ?_) #[T_, F_, F_, F_, F_, F_, F_, F_, F_, F_, F_, F_, F_, F_, F_, F_, F_, F_, F_, F_, F_] rfl rfl (by kernel_rfl) (fun _ _ _ h => h) (Or.inl ⟨by rfl, ?_⟩) ?_ ?_
          rotate_left
          · intro w'
            go_simp
            with_reducible rfl
          rotate_left
          · simp only [Act.put, sA_, sB_, sC_, i64_w, i32_w]
            rfl
          refine pure_ (i := 2) (N := some 66) (v := ?_) (a' := ?_) #[T_, F_, T_, F_, F_, F_, F_, F_, F_, F_, F_, F_, F_, F_, F_, F_, F_, F_, F_, F_, F_] rfl rfl (by kernel_rfl) (fun _ _ _ h => h) (Or.inl ⟨by rfl, ?_⟩) ?_ ?_
          rotate_left
          · intro w'
            go_simp
            with_reducible rfl
          rotate_left
          · simp only [Act.put, sA_, sB_, sC_, i64_w, i32_w]
            rfl
          refine pure_ (i := 4) (N := some 68) (v := ?_) (a' := ?_) #[T_, F_, T_, F_, T_, F_, F_, F_, F_, F_, F_, F_, F_, F_, F_, F_, F_, F_, F_, F_, F_] rfl rfl (by kernel_rfl) (fun _ _ _ h => h) (Or.inl ⟨by rfl, ?_⟩) ?_ ?_
          rotate_left
          · intro w'
            go_simp
            with_reducible rfl
          rotate_left
          · simp only [Act.put, sA_, sB_, sC_, i64_w, i32_w]
            rfl
          refine pure_ (i := 8) (N := some 72) (v := ?_) (a' := ?_) #[T_, F_, T_, F_, T_, F_, F_, F_, T_, F_, F_, F_, F_, F_, F_, F_, F_, F_, F_, F_, F_] rfl rfl (by kernel_rfl) (fun _ _ _ h => h) (Or.inl ⟨by rfl, ?_⟩) ?_ ?_
          rotate_left
          · intro w'
            go_simp
            with_reducible rfl
          rotate_left
          · simp only [Act.put, sA_, sB_, sC_, i64_w, i32_w]
            rfl
          refine pure_ (i := 9) (N := some 73) (v := ?_) (a' := ?_) #[T_, F_, T_, F_, T_, F_, F_, F_, T_, T_, F_, F_, F_, F_, F_, F_, F_, F_, F_, F_, F_] rfl rfl (by kernel_rfl) (fun _ _ _ h => h) (Or.inl ⟨by rfl, ?_⟩) ?_ ?_
          rotate_left
          · intro w'
            go_simp
            with_reducible rfl
          rotate_left
          · simp only [Act.put, sA_, sB_, sC_, i64_w, i32_w]
            rfl
          refine pure_ (i := 11) (N := some 75) (v := ?_) (a' := ?_) #[T_, F_, T_, F_, T_, F_, F_, F_, T_, T_, F_, T_, F_, F_, F_, F_, F_, F_, F_, F_, F_] rfl rfl (by kernel_rfl) (fun _ _ _ h => h) (Or.inl ⟨by rfl, ?_⟩) ?_ ?_
          rotate_left
          · intro w'
            go_simp
            with_reducible rfl
          rotate_left
          · simp only [Act.put, sA_, sB_, sC_, i64_w, i32_w]
            rfl
          refine take_ (i := 1) (N := some 65) (v := ?_) (a' := ?_) #[T_, T_, T_, F_, T_, F_, F_, F_, T_, T_, F_, T_, F_, F_, F_, F_, F_, F_, F_, F_, F_] rfl rfl (by kernel_rfl) (fun _ _ _ h => h) (Or.inl ⟨by rfl, ?_⟩) hHeld ?_ ?_
          rotate_left
          · rintro w' ⟨s0, s1, s2, s3, s4⟩
            go_simp
            with_reducible rfl
          rotate_left
          · simp only [Act.put, sA_, sB_, sC_, i64_w, i32_w]
            rfl
          refine take_ (i := 3) (N := some 67) (v := ?_) (a' := ?_) #[T_, T_, T_, T_, T_, F_, F_, F_, T_, T_, F_, T_, F_, F_, F_, F_, F_, F_, F_, F_, F_] rfl rfl (by kernel_rfl) (fun _ _ _ h => h) (Or.inl ⟨by rfl, ?_⟩) hHeld ?_ ?_
          rotate_left
          · rintro w' ⟨s0, s1, s2, s3, s4⟩
            go_simp
            with_reducible rfl
          rotate_left
          · simp only [Act.put, sA_, sB_, sC_, i64_w, i32_w]
            rfl
          refine pure_ (i := 5) (N := some 69) (v := ?_) (a' := ?_) #[T_, T_, T_, T_, T_, T_, F_, F_, T_, T_, F_, T_, F_, F_, F_, F_, F_, F_, F_, F_, F_] rfl rfl (by kernel_rfl) (fun _ _ _ h => h) (Or.inl ⟨by rfl, ?_⟩) ?_ ?_
          rotate_left
          · intro w'
            go_simp
            with_reducible rfl
          rotate_left
          · simp only [Act.put, sA_, sB_, sC_, i64_w, i32_w]
            rfl
          refine pure_ (i := 6) (N := some 70) (v := ?_) (a' := ?_) #[T_, T_, T_, T_, T_, T_, T_, F_, T_, T_, F_, T_, F_, F_, F_, F_, F_, F_, F_, F_, F_] rfl rfl (by kernel_rfl) (fun _ _ _ h => h) (Or.inl ⟨by rfl, ?_⟩) ?_ ?_
          rotate_left
          · intro w'
            go_simp
            with_reducible rfl
          rotate_left
          · simp only [Act.put, sA_, sB_, sC_, i64_w, i32_w]
            rfl
          refine take_ (i := 7) (N := some 71) (v := ?_) (a' := ?_) #[T_, T_, T_, T_, T_, T_, T_, T_, T_, T_, F_, T_, F_, F_, F_, F_, F_, F_, F_, F_, F_] rfl rfl (by kernel_rfl) (fun _ _ _ h => h) (Or.inl ⟨by rfl, ?_⟩) hHeld ?_ ?_
          rotate_left
          · rintro w' ⟨s0, s1, s2, s3, s4⟩
            go_simp
            with_reducible rfl
          rotate_left
          · simp only [Act.put, sA_, sB_, sC_, i64_w, i32_w]
            rfl
          refine take_ (i := 10) (N := some 74) (v := ?_) (a' := ?_) #[T_, T_, T_, T_, T_, T_, T_, T_, T_, T_, T_, T_, F_, F_, F_, F_, F_, F_, F_, F_, F_] rfl rfl (by kernel_rfl) (fun _ _ _ h => h) (Or.inl ⟨by rfl, ?_⟩) hHeld ?_ ?_
          rotate_left
          · rintro w' ⟨s0, s1, s2, s3, s4⟩
            go_simp
            with_reducible rfl
          rotate_left
          · simp only [Act.put, sA_, sB_, sC_, i64_w, i32_w]
            rfl
          refine pure_ (i := 12) (N := some 76) (v := ?_) (a' := ?_) #[T_, T_, T_, T_, T_, T_, T_, T_, T_, T_, T_, T_, T_, F_, F_, F_, F_, F_, F_, F_, F_] rfl rfl (by kernel_rfl) (fun _ _ _ h => h) (Or.inl ⟨by rfl, ?_⟩) ?_ ?_
          rotate_left
          · intro w'
            go_simp
            with_reducible rfl
          rotate_left
          · simp only [Act.put, sA_, sB_, sC_, i64_w, i32_w]
            rfl
          refine pure_ (i := 13) (N := some 77) (v := ?_) (a' := ?_) #[T_, T_, T_, T_, T_, T_, T_, T_, T_, T_, T_, T_, T_, T_, F_, F_, F_, F_, F_, F_, F_] rfl rfl (by kernel_rfl) (fun _ _ _ h => h) (Or.inl ⟨by rfl, ?_⟩) ?_ ?_
          rotate_left
          · intro w'
            go_simp
            with_reducible rfl
          rotate_left
          · simp only [Act.put, sA_, sB_, sC_, i64_w, i32_w]
            rfl
          refine take_ (i := 14) (N := some 78) (v := ?_) (a' := ?_) #[T_, T_, T_, T_, T_, T_, T_, T_, T_, T_, T_, T_, T_, T_, T_, F_, F_, F_, F_, F_, F_] rfl rfl (by kernel_rfl) (fun _ _ _ h => h) (Or.inl ⟨by rfl, ?_⟩) hHeld ?_ ?_
          rotate_left
          · rintro w' ⟨s0, s1, s2, s3, s4⟩
            go_simp
            with_reducible rfl
          rotate_left
          · simp only [Act.put, sA_, sB_, sC_, i64_w, i32_w]
            rfl
          refine pure_ (i := 15) (N := some 79) (v := ?_) (a' := ?_) #[T_, T_, T_, T_, T_, T_, T_, T_, T_, T_, T_, T_, T_, T_, T_, T_, F_, F_, F_, F_, F_] rfl rfl (by kernel_rfl) (fun _ _ _ h => h) (Or.inl ⟨by rfl, ?_⟩) ?_ ?_
          rotate_left
          · intro w'
            go_simp
            with_reducible rfl
          rotate_left
          · simp only [Act.put, sA_, sB_, sC_, i64_w, i32_w]
            rfl
          refine pure_ (i := 16) (N := some 80) (v := ?_) (a' := ?_) #[T_, T_, T_, T_, T_, T_, T_, T_, T_, T_, T_, T_, T_, T_, T_, T_, T_, F_, F_, F_, F_] rfl rfl (by kernel_rfl) (fun _ _ _ h => h) (Or.inl ⟨by rfl, ?_⟩) ?_ ?_
          rotate_left
          · intro w'
            go_simp
            with_reducible rfl
          rotate_left
          · simp only [Act.put, sA_, sB_, sC_, i64_w, i32_w]
            rfl
          refine one_ (i := 17) (N := some 81) #[T_, T_, T_, T_, T_, T_, T_, T_, T_, T_, T_, T_, T_, T_, T_, T_, T_, T_, F_, F_, F_] rfl rfl (by kernel_rfl) (by decide) (fun K hK => ?_)
          generalize wr.drew = wv at hTv hRv hSv hHeld ⊢
          refine value_ (w1 := ?_) (v := ?_) (by rfl) rfl ?_ ?_
          rotate_left 2
          · go_simp
            constructor
            · rfl
            · rfl
          refine hK.out _ _ ⟨(kC_ (hTv.alloc _).h4 1).trans rfl, (kC_ (hTv.alloc _).h1 1).trans rfl, (((hTv.alloc _).bel.cell (bL_ w _ e0)).trans e0), (((hTv.alloc _).bel.cell (bL_ w _ e1)).trans e1), (((hTv.alloc _).bel.cell (bL_ w _ e2)).trans e2)⟩ (fun hHeld => ?_)
          clear hK K
          refine norm_ (a' := ?_) ?_ ?_
          rotate_left
          · show Act.put _ (some 81) _ = _
            simp only [Act.put, sA_, sB_, sC_, i64_w, i32_w]
            rfl
          refine one_ (i := 18) (N := some 82) #[T_, T_, T_, T_, T_, T_, T_, T_, T_, T_, T_, T_, T_, T_, T_, T_, T_, T_, T_, F_, F_] rfl rfl (by kernel_rfl) (by decide) (fun K hK => ?_)
          refine Kd.R_append_step k66 (w0 := w) w.heap.size (by rfl) (.tmp 65) (.tmp 81) 29 66 (.agg #[(.int .i64 0), (.int .i64 0), (.int .i64 0)]) 24 rfl Tryz.underlying29 info66 rfl (by decide) (by omega) (.slice A2 xs2.length c2) xs2 (⟨⟨y.f0.f0, y.f0.f1⟩, wrap64 (Kn - y.f1)⟩ : S66) [.int .i64 y.f0.f0, .int .i64 y.f0.f1, .int .i64 (wrap64 (Kn - y.f1))] (fun _ => True) (fun _ => False) rfl rfl ?aP (fun _ hk => hk.elim) ?aF ?aO ?aB ?aS ?aL ?_
          (case aP => exact k66_mkM _ _ _ (⟨⟨y.f0.f0, y.f0.f1⟩, wrap64 (Kn - y.f1)⟩ : S66))
          (case aB => exact hTv.bel)
          (case aF => exact (fun _ _ => trivial))
          (case aO => exact hSv.out)
          (case aS => exact hTv.bel.size)
          (case aL => have := hHL.out; omega)
          intro v294 w11 ho hb hg hat
          rw [HYS.out] at ho
          have hT2 := hTv.grown hSv.out (by decide) hg hb
          have hR2 := aM_ (Kd.R_over' hRv.out (Kd.R_typed hSv.out) (by decide) hg)
          have HO := aM_ ho
          clear ho hb hg hat hTv hRv hSv
          obtain ⟨Ao, co, eo⟩ := Kd.R_slice HO.out
          subst eo
          refine hK.out _ _ ⟨(kC_ hT2.h4 1).trans rfl, (kC_ hT2.h1 1).trans rfl, ((hT2.bel.cell (bL_ w _ e0)).trans e0), ((hT2.bel.cell (bL_ w _ e1)).trans e1), ((hT2.bel.cell (bL_ w _ e2)).trans e2)⟩ (fun hHeld => ?_)
          clear hK K
          refine norm_ (a' := ?_) ?_ ?_
          rotate_left
          · show Act.put _ (some 82) _ = _
            simp only [Act.put, sA_, sB_, sC_, i64_w, i32_w]
            rfl
          refine pure_ (i := 19) (N := some 83) (v := ?_) (a' := ?_) #[T_, T_, T_, T_, T_, T_, T_, T_, T_, T_, T_, T_, T_, T_, T_, T_, T_, T_, T_, T_, F_] rfl rfl (by kernel_rfl) (fun _ _ _ h => h) (Or.inl ⟨by rfl, ?_⟩) ?_ ?_
          rotate_left
          · intro w'
            go_simp
            with_reducible rfl
          rotate_left
          · simp only [Act.put, sA_, sB_, sC_, i64_w, i32_w]
            rfl
          refine last_ (i := 20) (N := none) #[T_, T_, T_, T_, T_, T_, T_, T_, T_, T_, T_, T_, T_, T_, T_, T_, T_, T_, T_, T_, T_] rfl rfl (by kernel_rfl) (by decide) (fun K hK => ?_)
          have k1 : w11.cell? ⟨g4, 1, none⟩ = some (.slice A2 xs2.length c2) := (kC_ hT2.h4 1).trans rfl
          have q1 := blk_frozen hT2.h4 1
          refine skip_ (w1 := ?_) (by rfl) rfl ?_ ?_
          rotate_left
          · go_simp
            rfl
          refine hK.out _ _ ?_
          clear hK K
          refine done_ (by kernel_rfl) ?_
          go_wp2
          go_roundw
          case rel =>
            refine ⟨k + 1, _, by omega, by go_num, hT2.put1 _, ⟨tu_put tu48 hR2.out hT2.h4 (by decide) 1 _⟩, ⟨?_⟩⟩
            have e : (m.take (k + 1)).map (turnD Kn) = ys := by
              rw [List.take_succ_eq_append_getElem hkm, List.map_append, List.map_singleton, HXS2.out, ← hy.out, ← HYS.out]
              rfl
            rw [e]
            exact tu_put tu62 HO.out hT2.h4 (by decide) 1 _
          case measure => first | (simp [intOf]; done) | (simp [intOf]; omega)
        · have hke : k = m.length := by omega
          subst hke
          rw [List.take_of_length_le (Nat.le_refl _)] at hS
          obtain ⟨zs, hzs⟩ : ∃ zs, m.map (turnD Kn) = zs := ⟨_, rfl⟩
          rw [hzs] at hS
          have HZS := aM_ hzs
          clear hzs
          have d2 : decide ((m.length : Int) < (m.length : Int)) = false := by simp
          have i1 : wr.cell? ⟨g1, 1, none⟩ = some (.slice B m.length d) := (kC_ hT.h1 1).trans rfl
          obtain ⟨Au, cu, hu⟩ := Kd.R_slice hR.out
          subst hu
          obtain ⟨Av, cv, hv⟩ := Kd.R_slice hS.out
          subst hv
          have hR' := aM_ (tu_put tu48 (tu_put tu48 hR.out hT.h2 (by decide) 0 (.slice Au xs.length cu)) (kP_ hT.h2 0 (.slice Au xs.length cu) rfl) (by decide) 1 (.slice Av zs.length cv))
          have hS' := aM_ (tu_put tu62 (tu_put tu62 hS.out hT.h2 (by decide) 0 (.slice Au xs.length cu)) (kP_ hT.h2 0 (.slice Au xs.length cu) rfl) (by decide) 1 (.slice Av zs.length cv))
          have hB' : Aside0 (Below w.heap.size w ((wr.setCell ⟨g2, 0, none⟩ (.slice Au xs.length cu)).setCell ⟨g2, 1, none⟩ (.slice Av zs.length cv))) := ⟨below_set (bS_ hT.bel (by have := hT.b1; have := hT.b2; omega)) (by have := hT.b1; have := hT.b2; omega)⟩
          have hZ2 := aM_ (kP_ (cs := #[.slice Au xs.length cu, .slice none 0 0]) (kP_ (cs := #[.slice none 0 0, .slice none 0 0]) hT.h2 0 (.slice Au xs.length cu) rfl) 1 (.slice Av zs.length cv) rfl)
          (obtain ⟨k0, k1⟩ := cells2 hT.h4)
          have z0 := (kC_ hT.h2 0).trans rfl
          have z1 := (kC_ hT.h2 1).trans rfl
          (obtain ⟨q0, q1⟩ := frozen2 hT.h2)
          clear hT hR hS
          go_wp2
          refine bodyPost_ret (results_cell_row rfl _ _ g2 31 #[.slice Au xs.length cu, .slice Av zs.length cv] (0, 0) _ rfl hZ2.out Tryz.underlying31 rfl (by kernel_rfl)) rfl ?_
          refine ⟨_, _, rfl, ?_, ?_, hB'.out⟩
          · first | rw [hKn, HXS0.out] | rw [HXS0.out]
            exact hR'.out
          · first | rw [hKn, HZS.out] | rw [HZS.out]
            exact hS'.out
    | succ n =>
      obtain rfl : i = (n : Int) := by omega
      clear hi
      have hnl : n < l.length := by omega
      have d1 : decide ((n : Int) ≥ 0) = true := by simp
      obtain ⟨ad, rfl, e0, e1, e2, e3, e4, e5, e6, e7, e8, e9, e10, e11⟩ := at_T43 hC (n : Int) (by omega) (by omega)
      rw [Int.toNat_natCast] at e0 e1 e2 e3 e4 e5 e6 e7 e8 e9 e10 e11
      have i0 : wr.cell? ⟨g1, 0, none⟩ = some (.slice (some ad) l.length c) := (kC_ hT.h1 0).trans rfl
      have far : ∀ {a : Addr} {v : Value}, w.cell? a = some v → wr.cell? a = some v := fun e => (hT.bel.cell (bL_ _ _ e)).trans e
      replace e0 := far e0
      replace e1 := far e1
      replace e2 := far e2
      replace e3 := far e3
      replace e4 := far e4
      replace e5 := far e5
      replace e6 := far e6
      replace e7 := far e7
      replace e8 := far e8
      replace e9 := far e9
      replace e10 := far e10
      replace e11 := far e11
      clear far
      have hnI : (n : Int) < (l.length : Int) := by omega
      have hx : Aside0 (rd_T43 l (n : Int) = l[n]) := ⟨by unfold rd_T43; rw [Int.toNat_natCast, List.getD_eq_getElem?_getD, List.getElem?_eq_getElem hnl]; rfl⟩
      generalize rd_T43 l (n : Int) = x at *
      go_upto_region 7 with (fail)
      have hZ : (wr.alloc (.cells #[.int .i64 x.f0, .int .i64 x.f1, .int .i64 x.f2.f0, .int .i64 x.f2.f1, .int .i64 x.f2.f2.f0, .int .i64 x.f2.f2.f1, .bool x.f2.f3, .int .i64 x.f3.f0, .int .i64 x.f3.f1, .int .i64 x.f3.f2.f0, .int .i64 x.f3.f2.f1, .bool x.f3.f3] 43)).heap[wr.heap.size]? = some (.cells #[.int .i64 x.f0, .int .i64 x.f1, .int .i64 x.f2.f0, .int .i64 x.f2.f1, .int .i64 x.f2.f2.f0, .int .i64 x.f2.f2.f1, .bool x.f2.f3, .int .i64 x.f3.f0, .int .i64 x.f3.f1, .int .i64 x.f3.f2.f0, .int .i64 x.f3.f2.f1, .bool x.f3.f3] 43 (0, 0)) := heap_alloc_new wr _
      have hR6 := Kd.R_below (Kd.R_elderB hR.out wr.heap.size (Nat.le_refl _)) ((Below.refl _ _).alloc (Nat.le_refl _) (.cells #[.int .i64 x.f0, .int .i64 x.f1, .int .i64 x.f2.f0, .int .i64 x.f2.f1, .int .i64 x.f2.f2.f0, .int .i64 x.f2.f2.f1, .bool x.f2.f3, .int .i64 x.f3.f0, .int .i64 x.f3.f1, .int .i64 x.f3.f2.f0, .int .i64 x.f3.f2.f1, .bool x.f3.f3] 43))
      have hg6 := hT.lt
      replace hT := hT.alloc (.cells #[.int .i64 x.f0, .int .i64 x.f1, .int .i64 x.f2.f0, .int .i64 x.f2.f1, .int .i64 x.f2.f2.f0, .int .i64 x.f2.f2.f1, .bool x.f2.f3, .int .i64 x.f3.f0, .int .i64 x.f3.f1, .int .i64 x.f3.f2.f0, .int .i64 x.f3.f2.f1, .bool x.f3.f3] 43)
      clear e0 e1 e2 e3 e4 e5 e6 e7 e8 e9 e10 e11 hR i0
      generalize wr.alloc (Obj.cells _ 43) = w9 at hT hZ hR6 ⊢
      obtain ⟨g6, hg6'⟩ : ∃ g, wr.heap.size = g := ⟨_, rfl⟩
      rw [hg6'] at hZ hR6 hg6 ⊢
      clear hg6'
      have j2 : w9.cell? ⟨g6, 2, none⟩ = some (.int .i64 x.f2.f0) := (kC_ hZ 2).trans rfl
      have j3 : w9.cell? ⟨g6, 3, none⟩ = some (.int .i64 x.f2.f1) := (kC_ hZ 3).trans rfl
      have j7 : w9.cell? ⟨g6, 7, none⟩ = some (.int .i64 x.f3.f0) := (kC_ hZ 7).trans rfl
      have j8 : w9.cell? ⟨g6, 8, none⟩ = some (.int .i64 x.f3.f1) := (kC_ hZ 8).trans rfl
      have f3 := blk_frozen hZ 3
      have f8 := blk_frozen hZ 8
      by_cases ea : x.f2.f0 = 1
      · have ta : (x.f2.f0 != 1) = false := by simp [ea]
        by_cases eb1 : x.f3.f0 = 1
        · have tb : (x.f3.f0 != 1) = false := by simp [eb1]
          have eb : x.f3.f0 = 1 ∨ x.f3.f0 = 0 := .inl eb1
          clear eb1
          have hp : turnW Kn x = (⟨x.f0, x.f1, ⟨x.f2.f0, x.f2.f1, ⟨x.f2.f2.f0, x.f2.f2.f1⟩, x.f2.f3⟩, ⟨x.f3.f0, x.f3.f1, ⟨x.f3.f2.f0, x.f3.f2.f1⟩, x.f3.f3⟩⟩ : S43) := by unfold turnW; rw [if_pos ea, if_pos eb]
          clear ea eb
          go_upto_region 11 with (fail)
          have hZ' : w9.heap[g6]? = some (.cells #[.int .i64 x.f0, .int .i64 x.f1, .int .i64 x.f2.f0, .int .i64 x.f2.f1, .int .i64 x.f2.f2.f0, .int .i64 x.f2.f2.f1, .bool x.f2.f3, .int .i64 x.f3.f0, .int .i64 x.f3.f1, .int .i64 x.f3.f2.f0, .int .i64 x.f3.f2.f1, .bool x.f3.f3] 43 (0, 0)) := hZ
          have hT' := hT
          have hR' := hR6
          obtain ⟨w10, hw10⟩ : ∃ q, w9 = q := ⟨_, rfl⟩
          rw [hw10] at hZ' hT' hR' ⊢
          clear j2 j3 j7 j8 f3 f8 hZ hT hR6 hw10
          try clear ta
          try clear tb
          try clear tc
          have c0 : w10.cell? ⟨g6, 0, none⟩ = some (.int .i64 x.f0) := (kC_ hZ' 0).trans rfl
          have c1 : w10.cell? ⟨g6, 1, none⟩ = some (.int .i64 x.f1) := (kC_ hZ' 1).trans rfl
          have c2 : w10.cell? ⟨g6, 2, none⟩ = some (.int .i64 x.f2.f0) := (kC_ hZ' 2).trans rfl
          have c3 : w10.cell? ⟨g6, 3, none⟩ = some (.int .i64 x.f2.f1) := (kC_ hZ' 3).trans rfl
          have c4 : w10.cell? ⟨g6, 4, none⟩ = some (.int .i64 x.f2.f2.f0) := (kC_ hZ' 4).trans rfl
          have c5 : w10.cell? ⟨g6, 5, none⟩ = some (.int .i64 x.f2.f2.f1) := (kC_ hZ' 5).trans rfl
          have c6 : w10.cell? ⟨g6, 6, none⟩ = some (.bool x.f2.f3) := (kC_ hZ' 6).trans rfl
          have c7 : w10.cell? ⟨g6, 7, none⟩ = some (.int .i64 x.f3.f0) := (kC_ hZ' 7).trans rfl
          have c8 : w10.cell? ⟨g6, 8, none⟩ = some (.int .i64 x.f3.f1) := (kC_ hZ' 8).trans rfl
          have c9 : w10.cell? ⟨g6, 9, none⟩ = some (.int .i64 x.f3.f2.f0) := (kC_ hZ' 9).trans rfl
          have c10 : w10.cell? ⟨g6, 10, none⟩ = some (.int .i64 x.f3.f2.f1) := (kC_ hZ' 10).trans rfl
          have c11 : w10.cell? ⟨g6, 11, none⟩ = some (.bool x.f3.f3) := (kC_ hZ' 11).trans rfl
          have k0 : w10.cell? ⟨g4, 0, none⟩ = some u := (kC_ hT'.h4 0).trans rfl
          obtain ⟨Au, cu, hu⟩ := Kd.R_slice hR'
          obtain ⟨xs, hxs⟩ : ∃ xs, (l.drop (n + 1)).reverse.map (turnW Kn) = xs := ⟨_, rfl⟩
          have hxl : xs.length ≤ 1000000 := by rw [← hxs, List.length_map, List.length_reverse, lD_]; omega
          rw [hxs] at hR' hu
          subst hu
          have hHL := aM_ hxl
          clear hxl
          have HX := aM_ hx.out
          have HP := aM_ hp
          have HXS := aM_ hxs
          have HT := aM_ hT'
          have HR := aM_ hR'
          have HZ := aM_ hZ'
          clear hx hp hxs hT' hR' hZ'
          obtain ⟨ys, hys⟩ : ∃ ys, xs ++ [(⟨x.f0, x.f1, ⟨x.f2.f0, x.f2.f1, ⟨x.f2.f2.f0, x.f2.f2.f1⟩, x.f2.f3⟩, ⟨x.f3.f0, x.f3.f1, ⟨x.f3.f2.f0, x.f3.f2.f1⟩, x.f3.f3⟩⟩ : S43)] = ys := ⟨_, rfl⟩
          have HYS := aM_ hys
          clear hys
          go_wp2_with (first | ((with_reducible refine gate_dst (N := 55) rfl ?_); refine Kd.R_append k43 (w0 := w) w.heap.size rfl (.tmp 52) (.tmp 54) 28 43 (.agg #[(.int .i64 0), (.int .i64 0), (.int .i64 0), (.int .i64 0), (.int .i64 0), (.int .i64 0), (.bool false), (.int .i64 0), (.int .i64 0), (.int .i64 0), (.int .i64 0), (.bool false)]) 96 rfl Tryz.underlying28 info43 rfl (by decide) (by omega) (.slice Au xs.length cu) xs (⟨x.f0, x.f1, ⟨x.f2.f0, x.f2.f1, ⟨x.f2.f2.f0, x.f2.f2.f1⟩, x.f2.f3⟩, ⟨x.f3.f0, x.f3.f1, ⟨x.f3.f2.f0, x.f3.f2.f1⟩, x.f3.f3⟩⟩ : S43) [.int .i64 x.f0, .int .i64 x.f1, .int .i64 x.f2.f0, .int .i64 x.f2.f1, .int .i64 x.f2.f2.f0, .int .i64 x.f2.f2.f1, .bool x.f2.f3, .int .i64 x.f3.f0, .int .i64 x.f3.f1, .int .i64 x.f3.f2.f0, .int .i64 x.f3.f2.f1, .bool x.f3.f3] (fun k_ => True ∧ k_ ≠ g6) (fun _ => False) rfl (by first | (go_simp; done) | (go_simp; rfl)) ?aP (fun _ hk => hk.elim) ?aF ?aO ?aB ?aS ?aL ?_; (case aP => exact k43_mkM _ _ _ (⟨x.f0, x.f1, ⟨x.f2.f0, x.f2.f1, ⟨x.f2.f2.f0, x.f2.f2.f1⟩, x.f2.f3⟩, ⟨x.f3.f0, x.f3.f1, ⟨x.f3.f2.f0, x.f3.f2.f1⟩, x.f3.f3⟩⟩ : S43)); (case aF => exact fun k_ hk => ⟨trivial, Kd.freshB HZ.out k_ hk⟩); (case aO => exact HR.out); (case aB => exact HT.out.bel); (case aS => exact HT.out.bel.size); (case aL => have := hHL.out; omega); intro v1 w11 ho hb hg hat; rw [HYS.out] at ho; have HT2 := aM_ (HT.out.grown HR.out (by decide) hg hb); clear HT; have HO := aM_ ho; clear ho hb hg hat HR HZ; obtain ⟨Ao, co, eo⟩ := Kd.R_slice HO.out; subst eo; have k0 := (kC_ HT2.out.h4 0).trans rfl; have q0 := blk_frozen HT2.out.h4 0))
          go_roundw
          case rel =>
            refine ⟨n, (n : Int) - 1, _, by omega, rfl, by go_num, HT2.out.put0 _, ⟨?_⟩⟩
            have e : (l.drop n).reverse.map (turnW Kn) = ys := by
              rw [List.drop_eq_getElem_cons hnl, List.reverse_cons, List.map_append, List.map_singleton, HXS.out, ← HX.out, HP.out, HYS.out]
            rw [e]
            exact Kd.R_mono (tu_put tu48 HO.out HT2.out.h4 (by decide) 0 _) (fun _ _ => trivial)
          case measure => first | (simp [intOf]; done) | (simp [intOf]; omega)
        · by_cases eb0 : x.f3.f0 = 0
          · have tb : (x.f3.f0 != 1) = true := by simpa using eb1
            have tc : (x.f3.f0 != 0) = false := by simp [eb0]
            have eb : x.f3.f0 = 1 ∨ x.f3.f0 = 0 := .inr eb0
            clear eb1 eb0
            have hp : turnW Kn x = (⟨x.f0, x.f1, ⟨x.f2.f0, x.f2.f1, ⟨x.f2.f2.f0, x.f2.f2.f1⟩, x.f2.f3⟩, ⟨x.f3.f0, x.f3.f1, ⟨x.f3.f2.f0, x.f3.f2.f1⟩, x.f3.f3⟩⟩ : S43) := by unfold turnW; rw [if_pos ea, if_pos eb]
            clear ea eb
            go_upto_region 11 with (fail)
            have hZ' : w9.heap[g6]? = some (.cells #[.int .i64 x.f0, .int .i64 x.f1, .int .i64 x.f2.f0, .int .i64 x.f2.f1, .int .i64 x.f2.f2.f0, .int .i64 x.f2.f2.f1, .bool x.f2.f3, .int .i64 x.f3.f0, .int .i64 x.f3.f1, .int .i64 x.f3.f2.f0, .int .i64 x.f3.f2.f1, .bool x.f3.f3] 43 (0, 0)) := hZ
            have hT' := hT
            have hR' := hR6
            obtain ⟨w10, hw10⟩ : ∃ q, w9 = q := ⟨_, rfl⟩
            rw [hw10] at hZ' hT' hR' ⊢
            clear j2 j3 j7 j8 f3 f8 hZ hT hR6 hw10
            try clear ta
            try clear tb
            try clear tc
            have c0 : w10.cell? ⟨g6, 0, none⟩ = some (.int .i64 x.f0) := (kC_ hZ' 0).trans rfl
            have c1 : w10.cell? ⟨g6, 1, none⟩ = some (.int .i64 x.f1) := (kC_ hZ' 1).trans rfl
            have c2 : w10.cell? ⟨g6, 2, none⟩ = some (.int .i64 x.f2.f0) := (kC_ hZ' 2).trans rfl
            have c3 : w10.cell? ⟨g6, 3, none⟩ = some (.int .i64 x.f2.f1) := (kC_ hZ' 3).trans rfl
            have c4 : w10.cell? ⟨g6, 4, none⟩ = some (.int .i64 x.f2.f2.f0) := (kC_ hZ' 4).trans rfl
            have c5 : w10.cell? ⟨g6, 5, none⟩ = some (.int .i64 x.f2.f2.f1) := (kC_ hZ' 5).trans rfl
            have c6 : w10.cell? ⟨g6, 6, none⟩ = some (.bool x.f2.f3) := (kC_ hZ' 6).trans rfl
            have c7 : w10.cell? ⟨g6, 7, none⟩ = some (.int .i64 x.f3.f0) := (kC_ hZ' 7).trans rfl
            have c8 : w10.cell? ⟨g6, 8, none⟩ = some (.int .i64 x.f3.f1) := (kC_ hZ' 8).trans rfl
            have c9 : w10.cell? ⟨g6, 9, none⟩ = some (.int .i64 x.f3.f2.f0) := (kC_ hZ' 9).trans rfl
            have c10 : w10.cell? ⟨g6, 10, none⟩ = some (.int .i64 x.f3.f2.f1) := (kC_ hZ' 10).trans rfl
            have c11 : w10.cell? ⟨g6, 11, none⟩ = some (.bool x.f3.f3) := (kC_ hZ' 11).trans rfl
            have k0 : w10.cell? ⟨g4, 0, none⟩ = some u := (kC_ hT'.h4 0).trans rfl
            obtain ⟨Au, cu, hu⟩ := Kd.R_slice hR'
            obtain ⟨xs, hxs⟩ : ∃ xs, (l.drop (n + 1)).reverse.map (turnW Kn) = xs := ⟨_, rfl⟩
            have hxl : xs.length ≤ 1000000 := by rw [← hxs, List.length_map, List.length_reverse, lD_]; omega
            rw [hxs] at hR' hu
            subst hu
            have hHL := aM_ hxl
            clear hxl
            have HX := aM_ hx.out
            have HP := aM_ hp
            have HXS := aM_ hxs
            have HT := aM_ hT'
            have HR := aM_ hR'
            have HZ := aM_ hZ'
            clear hx hp hxs hT' hR' hZ'
            obtain ⟨ys, hys⟩ : ∃ ys, xs ++ [(⟨x.f0, x.f1, ⟨x.f2.f0, x.f2.f1, ⟨x.f2.f2.f0, x.f2.f2.f1⟩, x.f2.f3⟩, ⟨x.f3.f0, x.f3.f1, ⟨x.f3.f2.f0, x.f3.f2.f1⟩, x.f3.f3⟩⟩ : S43)] = ys := ⟨_, rfl⟩
            have HYS := aM_ hys
            clear hys
            go_wp2_with (first | ((with_reducible refine gate_dst (N := 55) rfl ?_); refine Kd.R_append k43 (w0 := w) w.heap.size rfl (.tmp 52) (.tmp 54) 28 43 (.agg #[(.int .i64 0), (.int .i64 0), (.int .i64 0), (.int .i64 0), (.int .i64 0), (.int .i64 0), (.bool false), (.int .i64 0), (.int .i64 0), (.int .i64 0), (.int .i64 0), (.bool false)]) 96 rfl Tryz.underlying28 info43 rfl (by decide) (by omega) (.slice Au xs.length cu) xs (⟨x.f0, x.f1, ⟨x.f2.f0, x.f2.f1, ⟨x.f2.f2.f0, x.f2.f2.f1⟩, x.f2.f3⟩, ⟨x.f3.f0, x.f3.f1, ⟨x.f3.f2.f0, x.f3.f2.f1⟩, x.f3.f3⟩⟩ : S43) [.int .i64 x.f0, .int .i64 x.f1, .int .i64 x.f2.f0, .int .i64 x.f2.f1, .int .i64 x.f2.f2.f0, .int .i64 x.f2.f2.f1, .bool x.f2.f3, .int .i64 x.f3.f0, .int .i64 x.f3.f1, .int .i64 x.f3.f2.f0, .int .i64 x.f3.f2.f1, .bool x.f3.f3] (fun k_ => True ∧ k_ ≠ g6) (fun _ => False) rfl (by first | (go_simp; done) | (go_simp; rfl)) ?aP (fun _ hk => hk.elim) ?aF ?aO ?aB ?aS ?aL ?_; (case aP => exact k43_mkM _ _ _ (⟨x.f0, x.f1, ⟨x.f2.f0, x.f2.f1, ⟨x.f2.f2.f0, x.f2.f2.f1⟩, x.f2.f3⟩, ⟨x.f3.f0, x.f3.f1, ⟨x.f3.f2.f0, x.f3.f2.f1⟩, x.f3.f3⟩⟩ : S43)); (case aF => exact fun k_ hk => ⟨trivial, Kd.freshB HZ.out k_ hk⟩); (case aO => exact HR.out); (case aB => exact HT.out.bel); (case aS => exact HT.out.bel.size); (case aL => have := hHL.out; omega); intro v1 w11 ho hb hg hat; rw [HYS.out] at ho; have HT2 := aM_ (HT.out.grown HR.out (by decide) hg hb); clear HT; have HO := aM_ ho; clear ho hb hg hat HR HZ; obtain ⟨Ao, co, eo⟩ := Kd.R_slice HO.out; subst eo; have k0 := (kC_ HT2.out.h4 0).trans rfl; have q0 := blk_frozen HT2.out.h4 0))
            go_roundw
            case rel =>
              refine ⟨n, (n : Int) - 1, _, by omega, rfl, by go_num, HT2.out.put0 _, ⟨?_⟩⟩
              have e : (l.drop n).reverse.map (turnW Kn) = ys := by
                rw [List.drop_eq_getElem_cons hnl, List.reverse_cons, List.map_append, List.map_singleton, HXS.out, ← HX.out, HP.out, HYS.out]
              rw [e]
              exact Kd.R_mono (tu_put tu48 HO.out HT2.out.h4 (by decide) 0 _) (fun _ _ => trivial)
            case measure => first | (simp [intOf]; done) | (simp [intOf]; omega)
          · have tb : (x.f3.f0 != 1) = true := by simpa using eb1
            have tc : (x.f3.f0 != 0) = true := by simpa using eb0
            have eb : ¬ (x.f3.f0 = 1 ∨ x.f3.f0 = 0) := fun h => h.elim eb1 eb0
            clear eb1 eb0
            have hp : turnW Kn x = (⟨x.f0, x.f1, ⟨x.f2.f0, x.f2.f1, ⟨x.f2.f2.f0, x.f2.f2.f1⟩, x.f2.f3⟩, ⟨x.f3.f0, (wrap64 (Kn - x.f3.f1)), ⟨x.f3.f2.f0, x.f3.f2.f1⟩, x.f3.f3⟩⟩ : S43) := by unfold turnW; rw [if_pos ea, if_neg eb]
            clear ea eb
            go_upto_region 11 with (fail)
            have hZ' : (w9.setCell ⟨g6, 8, none⟩ (.int .i64 (wrap64 (Kn - x.f3.f1)))).heap[g6]? = some (.cells #[.int .i64 x.f0, .int .i64 x.f1, .int .i64 x.f2.f0, .int .i64 x.f2.f1, .int .i64 x.f2.f2.f0, .int .i64 x.f2.f2.f1, .bool x.f2.f3, .int .i64 x.f3.f0, .int .i64 (wrap64 (Kn - x.f3.f1)), .int .i64 x.f3.f2.f0, .int .i64 x.f3.f2.f1, .bool x.f3.f3] 43 (0, 0)) := (kP_ hZ 8 (.int .i64 (wrap64 (Kn - x.f3.f1))) rfl)
            have hT' := (hT.far hg6 8 (.int .i64 (wrap64 (Kn - x.f3.f1))))
            have hR' := (rF_ (p := ⟨g6, 8, none⟩) hR6 (fun _ hk => hk.2) (.int .i64 (wrap64 (Kn - x.f3.f1))))
            generalize (w9.setCell ⟨g6, 8, none⟩ (.int .i64 (wrap64 (Kn - x.f3.f1)))) = w10 at hZ' hT' hR' ⊢
            clear j2 j3 j7 j8 f3 f8 hZ hT hR6 w9
            try clear ta
            try clear tb
            try clear tc
            have c0 : w10.cell? ⟨g6, 0, none⟩ = some (.int .i64 x.f0) := (kC_ hZ' 0).trans rfl
            have c1 : w10.cell? ⟨g6, 1, none⟩ = some (.int .i64 x.f1) := (kC_ hZ' 1).trans rfl
            have c2 : w10.cell? ⟨g6, 2, none⟩ = some (.int .i64 x.f2.f0) := (kC_ hZ' 2).trans rfl
            have c3 : w10.cell? ⟨g6, 3, none⟩ = some (.int .i64 x.f2.f1) := (kC_ hZ' 3).trans rfl
            have c4 : w10.cell? ⟨g6, 4, none⟩ = some (.int .i64 x.f2.f2.f0) := (kC_ hZ' 4).trans rfl
            have c5 : w10.cell? ⟨g6, 5, none⟩ = some (.int .i64 x.f2.f2.f1) := (kC_ hZ' 5).trans rfl
            have c6 : w10.cell? ⟨g6, 6, none⟩ = some (.bool x.f2.f3) := (kC_ hZ' 6).trans rfl
            have c7 : w10.cell? ⟨g6, 7, none⟩ = some (.int .i64 x.f3.f0) := (kC_ hZ' 7).trans rfl
            have c8 : w10.cell? ⟨g6, 8, none⟩ = some (.int .i64 (wrap64 (Kn - x.f3.f1))) := (kC_ hZ' 8).trans rfl
            have c9 : w10.cell? ⟨g6, 9, none⟩ = some (.int .i64 x.f3.f2.f0) := (kC_ hZ' 9).trans rfl
            have c10 : w10.cell? ⟨g6, 10, none⟩ = some (.int .i64 x.f3.f2.f1) := (kC_ hZ' 10).trans rfl
            have c11 : w10.cell? ⟨g6, 11, none⟩ = some (.bool x.f3.f3) := (kC_ hZ' 11).trans rfl
            have k0 : w10.cell? ⟨g4, 0, none⟩ = some u := (kC_ hT'.h4 0).trans rfl
            obtain ⟨Au, cu, hu⟩ := Kd.R_slice hR'
            obtain ⟨xs, hxs⟩ : ∃ xs, (l.drop (n + 1)).reverse.map (turnW Kn) = xs := ⟨_, rfl⟩
            have hxl : xs.length ≤ 1000000 := by rw [← hxs, List.length_map, List.length_reverse, lD_]; omega
            rw [hxs] at hR' hu
            subst hu
            have hHL := aM_ hxl
            clear hxl
            have HX := aM_ hx.out
            have HP := aM_ hp
            have HXS := aM_ hxs
            have HT := aM_ hT'
            have HR := aM_ hR'
            have HZ := aM_ hZ'
            clear hx hp hxs hT' hR' hZ'
            obtain ⟨ys, hys⟩ : ∃ ys, xs ++ [(⟨x.f0, x.f1, ⟨x.f2.f0, x.f2.f1, ⟨x.f2.f2.f0, x.f2.f2.f1⟩, x.f2.f3⟩, ⟨x.f3.f0, (wrap64 (Kn - x.f3.f1)), ⟨x.f3.f2.f0, x.f3.f2.f1⟩, x.f3.f3⟩⟩ : S43)] = ys := ⟨_, rfl⟩
            have HYS := aM_ hys
            clear hys
            go_wp2_with (first | ((with_reducible refine gate_dst (N := 55) rfl ?_); refine Kd.R_append k43 (w0 := w) w.heap.size rfl (.tmp 52) (.tmp 54) 28 43 (.agg #[(.int .i64 0), (.int .i64 0), (.int .i64 0), (.int .i64 0), (.int .i64 0), (.int .i64 0), (.bool false), (.int .i64 0), (.int .i64 0), (.int .i64 0), (.int .i64 0), (.bool false)]) 96 rfl Tryz.underlying28 info43 rfl (by decide) (by omega) (.slice Au xs.length cu) xs (⟨x.f0, x.f1, ⟨x.f2.f0, x.f2.f1, ⟨x.f2.f2.f0, x.f2.f2.f1⟩, x.f2.f3⟩, ⟨x.f3.f0, (wrap64 (Kn - x.f3.f1)), ⟨x.f3.f2.f0, x.f3.f2.f1⟩, x.f3.f3⟩⟩ : S43) [.int .i64 x.f0, .int .i64 x.f1, .int .i64 x.f2.f0, .int .i64 x.f2.f1, .int .i64 x.f2.f2.f0, .int .i64 x.f2.f2.f1, .bool x.f2.f3, .int .i64 x.f3.f0, .int .i64 (wrap64 (Kn - x.f3.f1)), .int .i64 x.f3.f2.f0, .int .i64 x.f3.f2.f1, .bool x.f3.f3] (fun k_ => True ∧ k_ ≠ g6) (fun _ => False) rfl (by first | (go_simp; done) | (go_simp; rfl)) ?aP (fun _ hk => hk.elim) ?aF ?aO ?aB ?aS ?aL ?_; (case aP => exact k43_mkM _ _ _ (⟨x.f0, x.f1, ⟨x.f2.f0, x.f2.f1, ⟨x.f2.f2.f0, x.f2.f2.f1⟩, x.f2.f3⟩, ⟨x.f3.f0, (wrap64 (Kn - x.f3.f1)), ⟨x.f3.f2.f0, x.f3.f2.f1⟩, x.f3.f3⟩⟩ : S43)); (case aF => exact fun k_ hk => ⟨trivial, Kd.freshB HZ.out k_ hk⟩); (case aO => exact HR.out); (case aB => exact HT.out.bel); (case aS => exact HT.out.bel.size); (case aL => have := hHL.out; omega); intro v1 w11 ho hb hg hat; rw [HYS.out] at ho; have HT2 := aM_ (HT.out.grown HR.out (by decide) hg hb); clear HT; have HO := aM_ ho; clear ho hb hg hat HR HZ; obtain ⟨Ao, co, eo⟩ := Kd.R_slice HO.out; subst eo; have k0 := (kC_ HT2.out.h4 0).trans rfl; have q0 := blk_frozen HT2.out.h4 0))
            go_roundw
            case rel =>
              refine ⟨n, (n : Int) - 1, _, by omega, rfl, by go_num, HT2.out.put0 _, ⟨?_⟩⟩
              have e : (l.drop n).reverse.map (turnW Kn) = ys := by
                rw [List.drop_eq_getElem_cons hnl, List.reverse_cons, List.map_append, List.map_singleton, HXS.out, ← HX.out, HP.out, HYS.out]
              rw [e]
              exact Kd.R_mono (tu_put tu48 HO.out HT2.out.h4 (by decide) 0 _) (fun _ _ => trivial)
            case measure => first | (simp [intOf]; done) | (simp [intOf]; omega)
      · have ta : (x.f2.f0 != 1) = true := by simpa using ea
        by_cases eb1 : x.f3.f0 = 1
        · have tb : (x.f3.f0 != 1) = false := by simp [eb1]
          have eb : x.f3.f0 = 1 ∨ x.f3.f0 = 0 := .inl eb1
          clear eb1
          have hp : turnW Kn x = (⟨x.f0, x.f1, ⟨x.f2.f0, (wrap64 (Kn - x.f2.f1)), ⟨x.f2.f2.f0, x.f2.f2.f1⟩, x.f2.f3⟩, ⟨x.f3.f0, x.f3.f1, ⟨x.f3.f2.f0, x.f3.f2.f1⟩, x.f3.f3⟩⟩ : S43) := by unfold turnW; rw [if_neg ea, if_pos eb]
          clear ea eb
          go_upto_region 11 with (fail)
          have hZ' : (w9.setCell ⟨g6, 3, none⟩ (.int .i64 (wrap64 (Kn - x.f2.f1)))).heap[g6]? = some (.cells #[.int .i64 x.f0, .int .i64 x.f1, .int .i64 x.f2.f0, .int .i64 (wrap64 (Kn - x.f2.f1)), .int .i64 x.f2.f2.f0, .int .i64 x.f2.f2.f1, .bool x.f2.f3, .int .i64 x.f3.f0, .int .i64 x.f3.f1, .int .i64 x.f3.f2.f0, .int .i64 x.f3.f2.f1, .bool x.f3.f3] 43 (0, 0)) := (kP_ hZ 3 (.int .i64 (wrap64 (Kn - x.f2.f1))) rfl)
          have hT' := (hT.far hg6 3 (.int .i64 (wrap64 (Kn - x.f2.f1))))
          have hR' := (rF_ (p := ⟨g6, 3, none⟩) hR6 (fun _ hk => hk.2) (.int .i64 (wrap64 (Kn - x.f2.f1))))
          generalize (w9.setCell ⟨g6, 3, none⟩ (.int .i64 (wrap64 (Kn - x.f2.f1)))) = w10 at hZ' hT' hR' ⊢
          clear j2 j3 j7 j8 f3 f8 hZ hT hR6 w9
          try clear ta
          try clear tb
          try clear tc
          have c0 : w10.cell? ⟨g6, 0, none⟩ = some (.int .i64 x.f0) := (kC_ hZ' 0).trans rfl
          have c1 : w10.cell? ⟨g6, 1, none⟩ = some (.int .i64 x.f1) := (kC_ hZ' 1).trans rfl
          have c2 : w10.cell? ⟨g6, 2, none⟩ = some (.int .i64 x.f2.f0) := (kC_ hZ' 2).trans rfl
          have c3 : w10.cell? ⟨g6, 3, none⟩ = some (.int .i64 (wrap64 (Kn - x.f2.f1))) := (kC_ hZ' 3).trans rfl
          have c4 : w10.cell? ⟨g6, 4, none⟩ = some (.int .i64 x.f2.f2.f0) := (kC_ hZ' 4).trans rfl
          have c5 : w10.cell? ⟨g6, 5, none⟩ = some (.int .i64 x.f2.f2.f1) := (kC_ hZ' 5).trans rfl
          have c6 : w10.cell? ⟨g6, 6, none⟩ = some (.bool x.f2.f3) := (kC_ hZ' 6).trans rfl
          have c7 : w10.cell? ⟨g6, 7, none⟩ = some (.int .i64 x.f3.f0) := (kC_ hZ' 7).trans rfl
          have c8 : w10.cell? ⟨g6, 8, none⟩ = some (.int .i64 x.f3.f1) := (kC_ hZ' 8).trans rfl
          have c9 : w10.cell? ⟨g6, 9, none⟩ = some (.int .i64 x.f3.f2.f0) := (kC_ hZ' 9).trans rfl
          have c10 : w10.cell? ⟨g6, 10, none⟩ = some (.int .i64 x.f3.f2.f1) := (kC_ hZ' 10).trans rfl
          have c11 : w10.cell? ⟨g6, 11, none⟩ = some (.bool x.f3.f3) := (kC_ hZ' 11).trans rfl
          have k0 : w10.cell? ⟨g4, 0, none⟩ = some u := (kC_ hT'.h4 0).trans rfl
          obtain ⟨Au, cu, hu⟩ := Kd.R_slice hR'
          obtain ⟨xs, hxs⟩ : ∃ xs, (l.drop (n + 1)).reverse.map (turnW Kn) = xs := ⟨_, rfl⟩
          have hxl : xs.length ≤ 1000000 := by rw [← hxs, List.length_map, List.length_reverse, lD_]; omega
          rw [hxs] at hR' hu
          subst hu
          have hHL := aM_ hxl
          clear hxl
          have HX := aM_ hx.out
          have HP := aM_ hp
          have HXS := aM_ hxs
          have HT := aM_ hT'
          have HR := aM_ hR'
          have HZ := aM_ hZ'
          clear hx hp hxs hT' hR' hZ'
          obtain ⟨ys, hys⟩ : ∃ ys, xs ++ [(⟨x.f0, x.f1, ⟨x.f2.f0, (wrap64 (Kn - x.f2.f1)), ⟨x.f2.f2.f0, x.f2.f2.f1⟩, x.f2.f3⟩, ⟨x.f3.f0, x.f3.f1, ⟨x.f3.f2.f0, x.f3.f2.f1⟩, x.f3.f3⟩⟩ : S43)] = ys := ⟨_, rfl⟩
          have HYS := aM_ hys
          clear hys
          go_wp2_with (first | ((with_reducible refine gate_dst (N := 55) rfl ?_); refine Kd.R_append k43 (w0 := w) w.heap.size rfl (.tmp 52) (.tmp 54) 28 43 (.agg #[(.int .i64 0), (.int .i64 0), (.int .i64 0), (.int .i64 0), (.int .i64 0), (.int .i64 0), (.bool false), (.int .i64 0), (.int .i64 0), (.int .i64 0), (.int .i64 0), (.bool false)]) 96 rfl Tryz.underlying28 info43 rfl (by decide) (by omega) (.slice Au xs.length cu) xs (⟨x.f0, x.f1, ⟨x.f2.f0, (wrap64 (Kn - x.f2.f1)), ⟨x.f2.f2.f0, x.f2.f2.f1⟩, x.f2.f3⟩, ⟨x.f3.f0, x.f3.f1, ⟨x.f3.f2.f0, x.f3.f2.f1⟩, x.f3.f3⟩⟩ : S43) [.int .i64 x.f0, .int .i64 x.f1, .int .i64 x.f2.f0, .int .i64 (wrap64 (Kn - x.f2.f1)), .int .i64 x.f2.f2.f0, .int .i64 x.f2.f2.f1, .bool x.f2.f3, .int .i64 x.f3.f0, .int .i64 x.f3.f1, .int .i64 x.f3.f2.f0, .int .i64 x.f3.f2.f1, .bool x.f3.f3] (fun k_ => True ∧ k_ ≠ g6) (fun _ => False) rfl (by first | (go_simp; done) | (go_simp; rfl)) ?aP (fun _ hk => hk.elim) ?aF ?aO ?aB ?aS ?aL ?_; (case aP => exact k43_mkM _ _ _ (⟨x.f0, x.f1, ⟨x.f2.f0, (wrap64 (Kn - x.f2.f1)), ⟨x.f2.f2.f0, x.f2.f2.f1⟩, x.f2.f3⟩, ⟨x.f3.f0, x.f3.f1, ⟨x.f3.f2.f0, x.f3.f2.f1⟩, x.f3.f3⟩⟩ : S43)); (case aF => exact fun k_ hk => ⟨trivial, Kd.freshB HZ.out k_ hk⟩); (case aO => exact HR.out); (case aB => exact HT.out.bel); (case aS => exact HT.out.bel.size); (case aL => have := hHL.out; omega); intro v1 w11 ho hb hg hat; rw [HYS.out] at ho; have HT2 := aM_ (HT.out.grown HR.out (by decide) hg hb); clear HT; have HO := aM_ ho; clear ho hb hg hat HR HZ; obtain ⟨Ao, co, eo⟩ := Kd.R_slice HO.out; subst eo; have k0 := (kC_ HT2.out.h4 0).trans rfl; have q0 := blk_frozen HT2.out.h4 0))
          go_roundw
          case rel =>
            refine ⟨n, (n : Int) - 1, _, by omega, rfl, by go_num, HT2.out.put0 _, ⟨?_⟩⟩
            have e : (l.drop n).reverse.map (turnW Kn) = ys := by
              rw [List.drop_eq_getElem_cons hnl, List.reverse_cons, List.map_append, List.map_singleton, HXS.out, ← HX.out, HP.out, HYS.out]
            rw [e]
            exact Kd.R_mono (tu_put tu48 HO.out HT2.out.h4 (by decide) 0 _) (fun _ _ => trivial)
          case measure => first | (simp [intOf]; done) | (simp [intOf]; omega)
        · by_cases eb0 : x.f3.f0 = 0
          · have tb : (x.f3.f0 != 1) = true := by simpa using eb1
            have tc : (x.f3.f0 != 0) = false := by simp [eb0]
            have eb : x.f3.f0 = 1 ∨ x.f3.f0 = 0 := .inr eb0
            clear eb1 eb0
            have hp : turnW Kn x = (⟨x.f0, x.f1, ⟨x.f2.f0, (wrap64 (Kn - x.f2.f1)), ⟨x.f2.f2.f0, x.f2.f2.f1⟩, x.f2.f3⟩, ⟨x.f3.f0, x.f3.f1, ⟨x.f3.f2.f0, x.f3.f2.f1⟩, x.f3.f3⟩⟩ : S43) := by unfold turnW; rw [if_neg ea, if_pos eb]
            clear ea eb
            go_upto_region 11 with (fail)
            have hZ' : (w9.setCell ⟨g6, 3, none⟩ (.int .i64 (wrap64 (Kn - x.f2.f1)))).heap[g6]? = some (.cells #[.int .i64 x.f0, .int .i64 x.f1, .int .i64 x.f2.f0, .int .i64 (wrap64 (Kn - x.f2.f1)), .int .i64 x.f2.f2.f0, .int .i64 x.f2.f2.f1, .bool x.f2.f3, .int .i64 x.f3.f0, .int .i64 x.f3.f1, .int .i64 x.f3.f2.f0, .int .i64 x.f3.f2.f1, .bool x.f3.f3] 43 (0, 0)) := (kP_ hZ 3 (.int .i64 (wrap64 (Kn - x.f2.f1))) rfl)
            have hT' := (hT.far hg6 3 (.int .i64 (wrap64 (Kn - x.f2.f1))))
            have hR' := (rF_ (p := ⟨g6, 3, none⟩) hR6 (fun _ hk => hk.2) (.int .i64 (wrap64 (Kn - x.f2.f1))))
            generalize (w9.setCell ⟨g6, 3, none⟩ (.int .i64 (wrap64 (Kn - x.f2.f1)))) = w10 at hZ' hT' hR' ⊢
            clear j2 j3 j7 j8 f3 f8 hZ hT hR6 w9
            try clear ta
            try clear tb
            try clear tc
            have c0 : w10.cell? ⟨g6, 0, none⟩ = some (.int .i64 x.f0) := (kC_ hZ' 0).trans rfl
            have c1 : w10.cell? ⟨g6, 1, none⟩ = some (.int .i64 x.f1) := (kC_ hZ' 1).trans rfl
            have c2 : w10.cell? ⟨g6, 2, none⟩ = some (.int .i64 x.f2.f0) := (kC_ hZ' 2).trans rfl
            have c3 : w10.cell? ⟨g6, 3, none⟩ = some (.int .i64 (wrap64 (Kn - x.f2.f1))) := (kC_ hZ' 3).trans rfl
            have c4 : w10.cell? ⟨g6, 4, none⟩ = some (.int .i64 x.f2.f2.f0) := (kC_ hZ' 4).trans rfl
            have c5 : w10.cell? ⟨g6, 5, none⟩ = some (.int .i64 x.f2.f2.f1) := (kC_ hZ' 5).trans rfl
            have c6 : w10.cell? ⟨g6, 6, none⟩ = some (.bool x.f2.f3) := (kC_ hZ' 6).trans rfl
            have c7 : w10.cell? ⟨g6, 7, none⟩ = some (.int .i64 x.f3.f0) := (kC_ hZ' 7).trans rfl
            have c8 : w10.cell? ⟨g6, 8, none⟩ = some (.int .i64 x.f3.f1) := (kC_ hZ' 8).trans rfl
            have c9 : w10.cell? ⟨g6, 9, none⟩ = some (.int .i64 x.f3.f2.f0) := (kC_ hZ' 9).trans rfl
            have c10 : w10.cell? ⟨g6, 10, none⟩ = some (.int .i64 x.f3.f2.f1) := (kC_ hZ' 10).trans rfl
            have c11 : w10.cell? ⟨g6, 11, none⟩ = some (.bool x.f3.f3) := (kC_ hZ' 11).trans rfl
            have k0 : w10.cell? ⟨g4, 0, none⟩ = some u := (kC_ hT'.h4 0).trans rfl
            obtain ⟨Au, cu, hu⟩ := Kd.R_slice hR'
            obtain ⟨xs, hxs⟩ : ∃ xs, (l.drop (n + 1)).reverse.map (turnW Kn) = xs := ⟨_, rfl⟩
            have hxl : xs.length ≤ 1000000 := by rw [← hxs, List.length_map, List.length_reverse, lD_]; omega
            rw [hxs] at hR' hu
            subst hu
            have hHL := aM_ hxl
            clear hxl
            have HX := aM_ hx.out
            have HP := aM_ hp
            have HXS := aM_ hxs
            have HT := aM_ hT'
            have HR := aM_ hR'
            have HZ := aM_ hZ'
            clear hx hp hxs hT' hR' hZ'
            obtain ⟨ys, hys⟩ : ∃ ys, xs ++ [(⟨x.f0, x.f1, ⟨x.f2.f0, (wrap64 (Kn - x.f2.f1)), ⟨x.f2.f2.f0, x.f2.f2.f1⟩, x.f2.f3⟩, ⟨x.f3.f0, x.f3.f1, ⟨x.f3.f2.f0, x.f3.f2.f1⟩, x.f3.f3⟩⟩ : S43)] = ys := ⟨_, rfl⟩
            have HYS := aM_ hys
            clear hys
            go_wp2_with (first | ((with_reducible refine gate_dst (N := 55) rfl ?_); refine Kd.R_append k43 (w0 := w) w.heap.size rfl (.tmp 52) (.tmp 54) 28 43 (.agg #[(.int .i64 0), (.int .i64 0), (.int .i64 0), (.int .i64 0), (.int .i64 0), (.int .i64 0), (.bool false), (.int .i64 0), (.int .i64 0), (.int .i64 0), (.int .i64 0), (.bool false)]) 96 rfl Tryz.underlying28 info43 rfl (by decide) (by omega) (.slice Au xs.length cu) xs (⟨x.f0, x.f1, ⟨x.f2.f0, (wrap64 (Kn - x.f2.f1)), ⟨x.f2.f2.f0, x.f2.f2.f1⟩, x.f2.f3⟩, ⟨x.f3.f0, x.f3.f1, ⟨x.f3.f2.f0, x.f3.f2.f1⟩, x.f3.f3⟩⟩ : S43) [.int .i64 x.f0, .int .i64 x.f1, .int .i64 x.f2.f0, .int .i64 (wrap64 (Kn - x.f2.f1)), .int .i64 x.f2.f2.f0, .int .i64 x.f2.f2.f1, .bool x.f2.f3, .int .i64 x.f3.f0, .int .i64 x.f3.f1, .int .i64 x.f3.f2.f0, .int .i64 x.f3.f2.f1, .bool x.f3.f3] (fun k_ => True ∧ k_ ≠ g6) (fun _ => False) rfl (by first | (go_simp; done) | (go_simp; rfl)) ?aP (fun _ hk => hk.elim) ?aF ?aO ?aB ?aS ?aL ?_; (case aP => exact k43_mkM _ _ _ (⟨x.f0, x.f1, ⟨x.f2.f0, (wrap64 (Kn - x.f2.f1)), ⟨x.f2.f2.f0, x.f2.f2.f1⟩, x.f2.f3⟩, ⟨x.f3.f0, x.f3.f1, ⟨x.f3.f2.f0, x.f3.f2.f1⟩, x.f3.f3⟩⟩ : S43)); (case aF => exact fun k_ hk => ⟨trivial, Kd.freshB HZ.out k_ hk⟩); (case aO => exact HR.out); (case aB => exact HT.out.bel); (case aS => exact HT.out.bel.size); (case aL => have := hHL.out; omega); intro v1 w11 ho hb hg hat; rw [HYS.out] at ho; have HT2 := aM_ (HT.out.grown HR.out (by decide) hg hb); clear HT; have HO := aM_ ho; clear ho hb hg hat HR HZ; obtain ⟨Ao, co, eo⟩ := Kd.R_slice HO.out; subst eo; have k0 := (kC_ HT2.out.h4 0).trans rfl; have q0 := blk_frozen HT2.out.h4 0))
            go_roundw
            case rel =>
              refine ⟨n, (n : Int) - 1, _, by omega, rfl, by go_num, HT2.out.put0 _, ⟨?_⟩⟩
              have e : (l.drop n).reverse.map (turnW Kn) = ys := by
                rw [List.drop_eq_getElem_cons hnl, List.reverse_cons, List.map_append, List.map_singleton, HXS.out, ← HX.out, HP.out, HYS.out]
              rw [e]
              exact Kd.R_mono (tu_put tu48 HO.out HT2.out.h4 (by decide) 0 _) (fun _ _ => trivial)
            case measure => first | (simp [intOf]; done) | (simp [intOf]; omega)
          · have tb : (x.f3.f0 != 1) = true := by simpa using eb1
            have tc : (x.f3.f0 != 0) = true := by simpa using eb0
            have eb : ¬ (x.f3.f0 = 1 ∨ x.f3.f0 = 0) := fun h => h.elim eb1 eb0
            clear eb1 eb0
            have hp : turnW Kn x = (⟨x.f0, x.f1, ⟨x.f2.f0, (wrap64 (Kn - x.f2.f1)), ⟨x.f2.f2.f0, x.f2.f2.f1⟩, x.f2.f3⟩, ⟨x.f3.f0, (wrap64 (Kn - x.f3.f1)), ⟨x.f3.f2.f0, x.f3.f2.f1⟩, x.f3.f3⟩⟩ : S43) := by unfold turnW; rw [if_neg ea, if_neg eb]
            clear ea eb
            go_upto_region 11 with (fail)
            have hZ' : ((w9.setCell ⟨g6, 3, none⟩ (.int .i64 (wrap64 (Kn - x.f2.f1)))).setCell ⟨g6, 8, none⟩ (.int .i64 (wrap64 (Kn - x.f3.f1)))).heap[g6]? = some (.cells #[.int .i64 x.f0, .int .i64 x.f1, .int .i64 x.f2.f0, .int .i64 (wrap64 (Kn - x.f2.f1)), .int .i64 x.f2.f2.f0, .int .i64 x.f2.f2.f1, .bool x.f2.f3, .int .i64 x.f3.f0, .int .i64 (wrap64 (Kn - x.f3.f1)), .int .i64 x.f3.f2.f0, .int .i64 x.f3.f2.f1, .bool x.f3.f3] 43 (0, 0)) := (kP_ (kP_ hZ 3 (.int .i64 (wrap64 (Kn - x.f2.f1))) rfl) 8 (.int .i64 (wrap64 (Kn - x.f3.f1))) rfl)
            have hT' := ((hT.far hg6 3 (.int .i64 (wrap64 (Kn - x.f2.f1)))).far hg6 8 (.int .i64 (wrap64 (Kn - x.f3.f1))))
            have hR' := (rF_ (p := ⟨g6, 8, none⟩) (rF_ (p := ⟨g6, 3, none⟩) hR6 (fun _ hk => hk.2) (.int .i64 (wrap64 (Kn - x.f2.f1)))) (fun _ hk => hk.2) (.int .i64 (wrap64 (Kn - x.f3.f1))))
            generalize ((w9.setCell ⟨g6, 3, none⟩ (.int .i64 (wrap64 (Kn - x.f2.f1)))).setCell ⟨g6, 8, none⟩ (.int .i64 (wrap64 (Kn - x.f3.f1)))) = w10 at hZ' hT' hR' ⊢
            clear j2 j3 j7 j8 f3 f8 hZ hT hR6 w9
            try clear ta
            try clear tb
            try clear tc
            have c0 : w10.cell? ⟨g6, 0, none⟩ = some (.int .i64 x.f0) := (kC_ hZ' 0).trans rfl
            have c1 : w10.cell? ⟨g6, 1, none⟩ = some (.int .i64 x.f1) := (kC_ hZ' 1).trans rfl
            have c2 : w10.cell? ⟨g6, 2, none⟩ = some (.int .i64 x.f2.f0) := (kC_ hZ' 2).trans rfl
            have c3 : w10.cell? ⟨g6, 3, none⟩ = some (.int .i64 (wrap64 (Kn - x.f2.f1))) := (kC_ hZ' 3).trans rfl
            have c4 : w10.cell? ⟨g6, 4, none⟩ = some (.int .i64 x.f2.f2.f0) := (kC_ hZ' 4).trans rfl
            have c5 : w10.cell? ⟨g6, 5, none⟩ = some (.int .i64 x.f2.f2.f1) := (kC_ hZ' 5).trans rfl
            have c6 : w10.cell? ⟨g6, 6, none⟩ = some (.bool x.f2.f3) := (kC_ hZ' 6).trans rfl
            have c7 : w10.cell? ⟨g6, 7, none⟩ = some (.int .i64 x.f3.f0) := (kC_ hZ' 7).trans rfl
            have c8 : w10.cell? ⟨g6, 8, none⟩ = some (.int .i64 (wrap64 (Kn - x.f3.f1))) := (kC_ hZ' 8).trans rfl
            have c9 : w10.cell? ⟨g6, 9, none⟩ = some (.int .i64 x.f3.f2.f0) := (kC_ hZ' 9).trans rfl
            have c10 : w10.cell? ⟨g6, 10, none⟩ = some (.int .i64 x.f3.f2.f1) := (kC_ hZ' 10).trans rfl
            have c11 : w10.cell? ⟨g6, 11, none⟩ = some (.bool x.f3.f3) := (kC_ hZ' 11).trans rfl
            have k0 : w10.cell? ⟨g4, 0, none⟩ = some u := (kC_ hT'.h4 0).trans rfl
            obtain ⟨Au, cu, hu⟩ := Kd.R_slice hR'
            obtain ⟨xs, hxs⟩ : ∃ xs, (l.drop (n + 1)).reverse.map (turnW Kn) = xs := ⟨_, rfl⟩
            have hxl : xs.length ≤ 1000000 := by rw [← hxs, List.length_map, List.length_reverse, lD_]; omega
            rw [hxs] at hR' hu
            subst hu
            have hHL := aM_ hxl
            clear hxl
            have HX := aM_ hx.out
            have HP := aM_ hp
            have HXS := aM_ hxs
            have HT := aM_ hT'
            have HR := aM_ hR'
            have HZ := aM_ hZ'
            clear hx hp hxs hT' hR' hZ'
            obtain ⟨ys, hys⟩ : ∃ ys, xs ++ [(⟨x.f0, x.f1, ⟨x.f2.f0, (wrap64 (Kn - x.f2.f1)), ⟨x.f2.f2.f0, x.f2.f2.f1⟩, x.f2.f3⟩, ⟨x.f3.f0, (wrap64 (Kn - x.f3.f1)), ⟨x.f3.f2.f0, x.f3.f2.f1⟩, x.f3.f3⟩⟩ : S43)] = ys := ⟨_, rfl⟩
            have HYS := aM_ hys
            clear hys
            go_wp2_with (first | ((with_reducible refine gate_dst (N := 55) rfl ?_); refine Kd.R_append k43 (w0 := w) w.heap.size rfl (.tmp 52) (.tmp 54) 28 43 (.agg #[(.int .i64 0), (.int .i64 0), (.int .i64 0), (.int .i64 0), (.int .i64 0), (.int .i64 0), (.bool false), (.int .i64 0), (.int .i64 0), (.int .i64 0), (.int .i64 0), (.bool false)]) 96 rfl Tryz.underlying28 info43 rfl (by decide) (by omega) (.slice Au xs.length cu) xs (⟨x.f0, x.f1, ⟨x.f2.f0, (wrap64 (Kn - x.f2.f1)), ⟨x.f2.f2.f0, x.f2.f2.f1⟩, x.f2.f3⟩, ⟨x.f3.f0, (wrap64 (Kn - x.f3.f1)), ⟨x.f3.f2.f0, x.f3.f2.f1⟩, x.f3.f3⟩⟩ : S43) [.int .i64 x.f0, .int .i64 x.f1, .int .i64 x.f2.f0, .int .i64 (wrap64 (Kn - x.f2.f1)), .int .i64 x.f2.f2.f0, .int .i64 x.f2.f2.f1, .bool x.f2.f3, .int .i64 x.f3.f0, .int .i64 (wrap64 (Kn - x.f3.f1)), .int .i64 x.f3.f2.f0, .int .i64 x.f3.f2.f1, .bool x.f3.f3] (fun k_ => True ∧ k_ ≠ g6) (fun _ => False) rfl (by first | (go_simp; done) | (go_simp; rfl)) ?aP (fun _ hk => hk.elim) ?aF ?aO ?aB ?aS ?aL ?_; (case aP => exact k43_mkM _ _ _ (⟨x.f0, x.f1, ⟨x.f2.f0, (wrap64 (Kn - x.f2.f1)), ⟨x.f2.f2.f0, x.f2.f2.f1⟩, x.f2.f3⟩, ⟨x.f3.f0, (wrap64 (Kn - x.f3.f1)), ⟨x.f3.f2.f0, x.f3.f2.f1⟩, x.f3.f3⟩⟩ : S43)); (case aF => exact fun k_ hk => ⟨trivial, Kd.freshB HZ.out k_ hk⟩); (case aO => exact HR.out); (case aB => exact HT.out.bel); (case aS => exact HT.out.bel.size); (case aL => have := hHL.out; omega); intro v1 w11 ho hb hg hat; rw [HYS.out] at ho; have HT2 := aM_ (HT.out.grown HR.out (by decide) hg hb); clear HT; have HO := aM_ ho; clear ho hb hg hat HR HZ; obtain ⟨Ao, co, eo⟩ := Kd.R_slice HO.out; subst eo; have k0 := (kC_ HT2.out.h4 0).trans rfl; have q0 := blk_frozen HT2.out.h4 0))
            go_roundw
            case rel =>
              refine ⟨n, (n : Int) - 1, _, by omega, rfl, by go_num, HT2.out.put0 _, ⟨?_⟩⟩
              have e : (l.drop n).reverse.map (turnW Kn) = ys := by
                rw [List.drop_eq_getElem_cons hnl, List.reverse_cons, List.map_append, List.map_singleton, HXS.out, ← HX.out, HP.out, HYS.out]
              rw [e]
              exact Kd.R_mono (tu_put tu48 HO.out HT2.out.h4 (by decide) 0 _) (fun _ _ => trivial)
            case measure => first | (simp [intOf]; done) | (simp [intOf]; omega)
theorem spec_l7Turned.calls (k : Nat) (A0_0 : Option Addr) (c0_0 : Nat) (l0_0 : List (S43)) (A0_1 : Option Addr) (c0_1 : Nat) (l0_1 : List (S66)) (r1 : List (S43)) (r2 : List (S66)) (w : World) (hr0_0 : Kd.C k43 w A0_0 l0_0.length l0_0) (hc0_0 : l0_0.length ≤ c0_0) (hr0_1 : Kd.C k66 w A0_1 l0_1.length l0_1) (hc0_1 : l0_1.length ≤ c0_1) (h : spec_l7Turned.f k l0_0 l0_1 = some (r1, r2)) :
    Calls Tryz.prog 65 #[.agg #[.slice A0_0 l0_0.length c0_0, .slice A0_1 l0_1.length c0_1]] w fun e w' => ∃ v0_ v1_ : Value, e = .returned (.agg #[v0_, v1_]) ∧ Kd.R k43 43 w' w.heap.size (fun _ => True) v0_ r1 ∧ Kd.R k66 66 w' w.heap.size (fun _ => True) v1_ r2 ∧ Below w.heap.size w w' := by
 unfold spec_l7Turned.f at h
 by_cases hl : l0_0.length ≤ 1000000 ∧ l0_1.length ≤ 1000000
 rotate_left
 · rw [if_neg hl] at h; cases h
 rw [if_pos hl] at h
 simp only [Option.some.injEq, Prod.mk.injEq] at h
 obtain ⟨rfl, rfl⟩ := h
 exact turned l0_0 l0_1 A0_0 A0_1 c0_0 c0_1 w hr0_0 hc0_0 hr0_1 hc0_1 hl.1 hl.2
end Go.Proofs.YtphblfmjdiigkaaGreatDoor.HFnNetSame
