/- spec.l7Net: its plain form as printed, and the walk by hand, for every state. No condition but that the plain form answers. -/
import Derived.Test.YtphblfmjdiigkaaGreatDoorTFnNetSameHFnNetSamex11
import Derived.Test.YtphblfmjdiigkaaGreatDoorTFnNetSameHFnNetSamex7
import Derived.Test.YtphblfmjdiigkaaGreatDoorTFnNetSameHFnNetSamex13
namespace Go.Proofs.YtphblfmjdiigkaaGreatDoor.HFnNetSame
open Go.RowKit Go.Proofs.YtphblfmjdiigkaaGreatDoorW.PrintWords Go.Proofs.YtphblfmjdiigkaaGreatDoorW.PrintLast Go.Proofs.YtphblfmjdiigkaaGreatDoorW.PrintMore
attribute [local go_sem] max2_int min2_int max_two min_two max_three min_three max_four min_four
set_option linter.unusedVariables false
set_option linter.unusedSimpArgs false
mutual
def spec_l7Net.l0 : Nat → Int → Int → List Int → Int → List (S43) → Option ((List (S43)) × (List (S66)) × Int)
  | 0, _, _, _, _, _ => none
  | k + 1, x4, x5, x1000, x1001, x230000 => if x5 < x4 then ((spec_l12Rd_pick.f k x1000 x1001 3).bind fun bt232 => ((spec_l12Rd_pick.f k x1000 bt232.2 2).bind fun bt235 => (if bt235.1 = 0 then ((spec_l6Kind.f k x1000 bt235.2).bind fun bt237 => (spec_l7Net.j1 k x4 x5 x1000 bt237.2.2 x230000 bt237.1 bt237.2.1 0 0 0 0 false 0 0 0 0 false)) else (spec_l7Net.j1 k x4 x5 x1000 bt235.2 x230000 (wrap64 (11 + bt232.1)) 0 0 0 0 0 false 0 0 0 0 false)))) else ((spec_l12Rd_pick.f k x1000 x1001 4).bind fun bt259 => (spec_l7Net.l1 k x4 bt259.1 x1000 bt259.2 x230000 ([] : List (S66))))
def spec_l7Net.j1 : Nat → Int → Int → List Int → Int → List (S43) → Int → Int → Int → Int → Int → Int → Bool → Int → Int → Int → Int → Bool → Option ((List (S43)) × (List (S66)) × Int)
  | 0, _, _, _, _, _, _, _, _, _, _, _, _, _, _, _, _, _ => none
  | k + 1, x4, x5, x1000, x1001, x230000, x235000, x235001, x235002, x235003, x235004, x235005, x235006, x235007, x235008, x235009, x235010, x235011 => (spec_l7SrcDraw.f k x1000 x1001 x4 x5).bind fun bt240 => ((spec_l7Two.f x235000).bind fun t246 => (if t246 = true then ((spec_l7SrcDraw.f k x1000 bt240.2.2.2.2.2 x4 x5).bind fun bt247 => (if x230000.length < 1466015503701 then (spec_l7Net.l0 k x4 (wrap64 (x5 + 1)) x1000 bt247.2.2.2.2.2 (x230000 ++ [(⟨x235000, x235001, (⟨bt240.1, bt240.2.1, (⟨bt240.2.2.1, bt240.2.2.2.1⟩ : S39), bt240.2.2.2.2.1⟩ : S41), (⟨bt247.1, bt247.2.1, (⟨bt247.2.2.1, bt247.2.2.2.1⟩ : S39), bt247.2.2.2.2.1⟩ : S41)⟩ : S43)])) else (none))) else (if x230000.length < 1466015503701 then (spec_l7Net.l0 k x4 (wrap64 (x5 + 1)) x1000 bt240.2.2.2.2.2 (x230000 ++ [(⟨x235000, x235001, (⟨bt240.1, bt240.2.1, (⟨bt240.2.2.1, bt240.2.2.2.1⟩ : S39), bt240.2.2.2.2.1⟩ : S41), (⟨x235007, x235008, (⟨x235009, x235010⟩ : S39), x235011⟩ : S41)⟩ : S43)])) else (none))))
def spec_l7Net.l1 : Nat → Int → Int → List Int → Int → List (S43) → List (S66) → Option ((List (S43)) × (List (S66)) × Int)
  | 0, _, _, _, _, _, _ => none
  | k + 1, x4, x9, x1000, x1001, x230000, x230001 => if x9 > 0 then (spec_l7Net.j3 k x4 x9 (decide (x4 > 0)) x1000 x1001 x230000 x230001) else (spec_l7Net.j3 k x4 x9 false x1000 x1001 x230000 x230001)
def spec_l7Net.j3 : Nat → Int → Int → Bool → List Int → Int → List (S43) → List (S66) → Option ((List (S43)) × (List (S66)) × Int)
  | 0, _, _, _, _, _, _, _ => none
  | k + 1, x4, x9, x60, x1000, x1001, x230000, x230001 => if x60 = true then ((spec_l12Rd_pick.f k x1000 x1001 2).bind fun bt261 => ((spec_l12Rd_pick.f k x1000 bt261.2 x4).bind fun bt263 => (if x230001.length < 5864062014805 then (spec_l7Net.l1 k x4 (wrap64 (x9 - 1)) x1000 bt263.2 x230000 (x230001 ++ [(⟨(⟨wrap64 (2 + bt261.1), x9⟩ : S39), bt263.1⟩ : S66)])) else (none)))) else (some (x230000, x230001, x1001))
end
def spec_l7Net.f (k : Nat) (s0_0 : List Int) (s0_1 : Int) : Option ((List (S43)) × (List (S66)) × Int) := (spec_l12Rd_pick.f k s0_0 s0_1 6).bind fun bt230 => (spec_l7Net.l0 k bt230.1 0 s0_0 bt230.2 ([] : List (S43)))
structure LN (w0 w : World) (g g2 g3 : Nat) (s : List Int) (p : Int) (u v : Value) (W : World) : Prop where
  h2 : W.heap[g2]? = some (.cells #[.slice none 0 0, .slice none 0 0] 31 (0, 0))
  h3 : W.heap[g3]? = some (.cells #[u, v] 31 (0, 0))
  b2 : w.heap.size ≤ g2
  b3 : g2 < g3
  gl : g < w.heap.size
  sz : w0.heap.size ≤ w.heap.size
  st : IsS116 w0 W g s p
  bel : Below w0.heap.size w0 W
  kp : KeepBut w W g none
theorem LN.call {w0 w W W' : World} {g g2 g3 : Nat} {s : List Int} {p p' : Int} {u v : Value} (h : LN w0 w g g2 g3 s p u v W) (i : IsS116 w0 W' g s p') (b : Below w0.heap.size w0 W') (k : KeepBut W W' g none) : LN w0 w g g2 g3 s p' u v W' :=
  ⟨k.blk h.h2 (by have := h.gl; have := h.b2; omega) (by simp), k.blk h.h3 (by have := h.gl; have := h.b2; have := h.b3; omega) (by simp), h.b2, h.b3, h.gl, h.sz, i, b, h.kp.trans k (.inl rfl)⟩
theorem LN.below {w0 w W W' : World} {g g2 g3 : Nat} {s : List Int} {p : Int} {u v : Value} (h : LN w0 w g g2 g3 s p u v W) (k : Below W.heap.size W W') : LN w0 w g g2 g3 s p u v W' :=
  h.call (h.st.below k) (h.bel.trans (k.mono h.bel.size)) (KeepBut.of_below k g none)
theorem LN.alloc {w0 w W : World} {g g2 g3 : Nat} {s : List Int} {p : Int} {u v : Value} (h : LN w0 w g g2 g3 s p u v W) (o : Obj) : LN w0 w g g2 g3 s p u v (W.alloc o) := h.below ((Below.refl _ _).alloc (Nat.le_refl _) _)
theorem LN.drew {w0 w W : World} {g g2 g3 : Nat} {s : List Int} {p : Int} {u v : Value} (h : LN w0 w g g2 g3 s p u v W) : LN w0 w g g2 g3 s p u v W.drew := h.below (b1_ (Below.refl _ _))
theorem LN.lt {w0 w W : World} {g g2 g3 : Nat} {s : List Int} {p : Int} {u v : Value} (h : LN w0 w g g2 g3 s p u v W) : g3 < W.heap.size := blk_lt h.h3
theorem kp_set {w W : World} {g z : Nat} (h : KeepBut w W g none) (hz : w.heap.size ≤ z) (j : Nat) (v : Value) : KeepBut w (W.setCell ⟨z, j, none⟩ v) g none :=
  ⟨by simpa [World.setCell] using h.1, fun i hi hg hr => (Below.heap_setCell W ⟨z, j, none⟩ v i (by show i ≠ z; omega)).trans (h.2 i hi hg hr)⟩
theorem st_set {w0 W : World} {g z : Nat} {s : List Int} {p : Int} (h : IsS116 w0 W g s p) (hz : g < z) (j : Nat) (v : Value) : IsS116 w0 (W.setCell ⟨z, j, none⟩ v) g s p := by
  obtain ⟨A0, c0, hb, hg, hr⟩ := h
  exact ⟨A0, c0, blk_far hb (by simp; omega) v, hg, hr⟩
theorem LN.far {w0 w W : World} {g g2 g3 : Nat} {s : List Int} {p : Int} {u v : Value} (h : LN w0 w g g2 g3 s p u v W) {z : Nat} (hz : g3 < z) (j : Nat) (q : Value) : LN w0 w g g2 g3 s p u v (W.setCell ⟨z, j, none⟩ q) :=
  ⟨blk_far h.h2 (by have := h.b3; simp; omega) q, blk_far h.h3 (by simp; omega) q, h.b2, h.b3, h.gl, h.sz, st_set h.st (by have := h.gl; have := h.b2; have := h.b3; omega) j q, bS_ h.bel (by have := h.sz; have := h.b2; have := h.b3; omega), kp_set h.kp (by have := h.b2; have := h.b3; omega) j q⟩
theorem LN.put0 {w0 w W : World} {g g2 g3 : Nat} {s : List Int} {p : Int} {u v : Value} (h : LN w0 w g g2 g3 s p u v W) (q : Value) : LN w0 w g g2 g3 s p q v (W.setCell ⟨g3, 0, none⟩ q) :=
  ⟨blk_far h.h2 (by have := h.b3; simp; omega) q, kP_ h.h3 0 _ rfl, h.b2, h.b3, h.gl, h.sz, st_set h.st (by have := h.gl; have := h.b2; have := h.b3; omega) 0 q, bS_ h.bel (by have := h.sz; have := h.b2; have := h.b3; omega), kp_set h.kp (by have := h.b2; have := h.b3; omega) 0 q⟩
theorem LN.put1 {w0 w W : World} {g g2 g3 : Nat} {s : List Int} {p : Int} {u v : Value} (h : LN w0 w g g2 g3 s p u v W) (q : Value) : LN w0 w g g2 g3 s p u q (W.setCell ⟨g3, 1, none⟩ q) :=
  ⟨blk_far h.h2 (by have := h.b3; simp; omega) q, kP_ h.h3 1 _ rfl, h.b2, h.b3, h.gl, h.sz, st_set h.st (by have := h.gl; have := h.b2; have := h.b3; omega) 1 q, bS_ h.bel (by have := h.sz; have := h.b2; have := h.b3; omega), kp_set h.kp (by have := h.b2; have := h.b3; omega) 1 q⟩
theorem LN.grown {α : Type} {d : Kd α} {e base : Nat} {ok : Nat → Prop} {x : Value} {xs : List α} {w0 w W W' : World} {g g2 g3 : Nat} {s : List Int} {p : Int} {u v : Value} (h : LN w0 w g g2 g3 s p u v W) (hR : d.R e W base ok x xs) (he : (31 : Nat) ≠ e) (he2 : e ≠ 116) (hb : w.heap.size ≤ base) (hg : W.grownBy W' x.ownBlock) : LN w0 w g g2 g3 s p u v W' :=
  ⟨blk_grown h.h2 hg (tu_own hR h.h2 he), blk_grown h.h3 hg (tu_own hR h.h3 he), h.b2, h.b3, h.gl, h.sz, h.st.grown hg (h.st.own_ne hR he2), pw_below_grown h.bel x.ownBlock h.bel.size hg (fun k hk => Nat.le_trans h.sz (Nat.le_trans hb ((Kd.R_bound hR).1 k hk).2.1)), h.kp.trans (KeepBut.of_grown hg g) (by
    cases hx : x.ownBlock with
    | none => exact .inl rfl
    | some k => exact .inr ⟨k, rfl, Nat.le_trans hb ((Kd.R_bound hR).1 k hx).2.1⟩)⟩
theorem LN.start (w0 w : World) (g : Nat) (s : List Int) (p : Int) (hI : IsS116 w0 w g s p) (hB : Below w0.heap.size w0 w) : LN w0 w g w.heap.size (w.heap.size + 1) s p (.slice none 0 0) (.slice none 0 0) ((w.alloc (.cells #[.slice none 0 0, .slice none 0 0] 31)).alloc (.cells #[.slice none 0 0, .slice none 0 0] 31)) := by
  have e1 : (w.alloc (.cells #[.slice none 0 0, .slice none 0 0] 31)).heap.size = w.heap.size + 1 := Array.size_push ..
  have gl : g < w.heap.size := by obtain ⟨A0, c0, hb, _, _⟩ := hI; exact blk_lt hb
  refine ⟨blk_alloc (heap_alloc_new _ _) _, ?_, Nat.le_refl _, by omega, gl, hB.size, (hI.alloc _).alloc _, (hB.alloc hB.size _).alloc (by rw [e1]; have := hB.size; omega) _, pA_ (pA_ (KeepBut.refl _ _ _) _) _⟩
  have h := heap_alloc_new (w.alloc (.cells #[.slice none 0 0, .slice none 0 0] 31)) (.cells #[.slice none 0 0, .slice none 0 0] 31)
  rw [e1] at h
  exact h
theorem R_st {α : Type} {d : Kd α} {e base : Nat} {ok : Nat → Prop} {x : Value} {xs : List α} {w0 W W' : World} {g : Nat} {s : List Int} {p : Int} (hE : d.E = []) (h : d.R e W base ok x xs) (i : IsS116 w0 W g s p) (he : e ≠ 116) (k : KeepBut W W' g none) : d.R e W' base ok x xs :=
  Kd.R_mono (Kd.R_keep (i.apart h (fun q hq => by rw [hE] at hq; simp at hq; omega)) k (fun _ hk => hk.2)) (fun _ hk => hk.1)
set_option maxRecDepth 100000 in
set_option maxHeartbeats 25600000 in
theorem spec_l7Net.calls (k : Nat) (g : Nat) (s0_0 : List Int) (s0_1 : Int) (r1 : List (S43)) (r2 : List (S66)) (r3 : Int) (w0 w : World) (hI : IsS116 w0 w g s0_0 s0_1) (hB : Below w0.heap.size w0 w) (h : spec_l7Net.f k s0_0 s0_1 = some (r1, r2, r3)) :
    Calls Tryz.prog 63 #[.pointer (some ⟨g, 0, none⟩)] w fun e w' => ∃ v0_ v1_ : Value, e = .returned (.agg #[v0_, v1_]) ∧ Kd.R k43 43 w' w.heap.size (fun _ => True) v0_ r1 ∧ Kd.R k66 66 w' w.heap.size (fun _ => True) v1_ r2 ∧ IsS116 w0 w' g s0_0 r3 ∧ Below w0.heap.size w0 w' ∧ KeepBut w w' g none := by
  have hu32 := Tryz.underlying31
  have hu48 := Tryz.underlying43
  have hu46 := Tryz.underlying41
  have hu44 := Tryz.underlying39
  have hu62 := Tryz.underlying66
  unfold spec_l7Net.f at h
  obtain ⟨⟨t4, p1⟩, hp, h⟩ := Option.bind_eq_some_iff.mp h
  have H : Aside0 (spec_l7Net.l0 k t4 0 s0_0 p1 [] = some (r1, r2, r3)) := ⟨h⟩
  clear h
  have hT := LN.start w0 w g s0_0 s0_1 hI hB
  clear hI hB
  go_enter Tryz.func63, Tryz.ntmps63
  go_upto_region 2 with (fail)
  generalize World.alloc (World.alloc _ _) _ = w3 at hT ⊢
  obtain ⟨g3, hg3⟩ : ∃ q, w.heap.size + 1 = q := ⟨_, rfl⟩
  rw [hg3] at hT ⊢
  obtain ⟨g2, hg2⟩ : ∃ q, w.heap.size = q := ⟨_, rfl⟩
  rw [hg2] at hT hg3 ⊢
  clear hg2 hg3
  have hc := spec_l12Rd_pick.calls k g s0_0 s0_1 6 t4 p1 w0 w3 hT.st hT.bel hp
  go_wp2_with fail
  refine hc.mono ?_
  rintro e w4 ⟨rfl, i1, b1, k1⟩
  replace hT := hT.call i1 b1 k1
  clear i1 b1 k1 hp hc
  go_wp2
  go_loopg [5] k (fun kq v wr => ∃ (i p : Int) (xs : List S43) (u : Value), v = .int .i64 i ∧ Aside0 (spec_l7Net.l0 kq t4 i s0_0 p xs = some (r1, r2, r3)) ∧ Aside0 (kq ≤ k) ∧ LN w0 w g g2 g3 s0_0 p u (.slice none 0 0) wr ∧ Aside0 (Kd.R k43 43 wr w.heap.size (fun _ => True) u xs))
  case atStart => exact ⟨0, p1, [], _, rfl, H, ⟨Nat.le_refl _⟩, hT, ⟨Kd.R_nil _ _ _ _ _⟩⟩
  case round =>
    clear hT H
    obtain ⟨i, p, xs, u, rfl, HA, HK1, hT, hR⟩ := hrel
    cases gk with
    | zero => exact absurd HA.out (by simp [spec_l7Net.l0])
    | succ kk =>
      have H := HA.out
      clear HA
      simp only [spec_l7Net.l0] at H
      by_cases hc : i < t4
      · rw [if_pos hc] at H
        have d1 : decide (i < t4) = true := dT_ hc
        clear hc
        obtain ⟨⟨a1, p2⟩, c1, H⟩ := Option.bind_eq_some_iff.mp H
        obtain ⟨⟨a2, p3⟩, c2, H⟩ := Option.bind_eq_some_iff.mp H
        have H' := aM_ H
        clear H
        have cc := spec_l12Rd_pick.calls kk g s0_0 p 3 a1 p2 w0 wr hT.st hT.bel c1
        clear c1
        go_wp2_with fail
        refine cc.mono ?_
        rintro e v1 ⟨rfl, q1, q2, q3⟩
        replace hR := aM_ (R_st tu48 hR.out hT.st (by decide) q3)
        replace hT := hT.call q1 q2 q3
        clear q1 q2 q3 cc
        go_upto_region 7 with (fail)
        have hZ : (v1.alloc (.cells #[.int .i64 (wrap64 (11 + a1)), .int .i64 0, .int .i64 0, .int .i64 0, .int .i64 0, .int .i64 0, .bool false, .int .i64 0, .int .i64 0, .int .i64 0, .int .i64 0, .bool false] 43)).heap[v1.heap.size]? = some (.cells #[.int .i64 (wrap64 (11 + a1)), .int .i64 0, .int .i64 0, .int .i64 0, .int .i64 0, .int .i64 0, .bool false, .int .i64 0, .int .i64 0, .int .i64 0, .int .i64 0, .bool false] 43 (0, 0)) := heap_alloc_new v1 _
        have hR6 := Kd.R_below (Kd.R_elderB hR.out v1.heap.size (Nat.le_refl _)) ((Below.refl _ _).alloc (Nat.le_refl _) (.cells #[.int .i64 (wrap64 (11 + a1)), .int .i64 0, .int .i64 0, .int .i64 0, .int .i64 0, .int .i64 0, .bool false, .int .i64 0, .int .i64 0, .int .i64 0, .int .i64 0, .bool false] 43))
        have hz := hT.lt
        replace hT := hT.alloc (.cells #[.int .i64 (wrap64 (11 + a1)), .int .i64 0, .int .i64 0, .int .i64 0, .int .i64 0, .int .i64 0, .bool false, .int .i64 0, .int .i64 0, .int .i64 0, .int .i64 0, .bool false] 43)
        clear hR
        generalize v1.alloc (Obj.cells _ 43) = v2 at hT hZ hR6 ⊢
        obtain ⟨gz, hgz⟩ : ∃ g, v1.heap.size = g := ⟨_, rfl⟩
        rw [hgz] at hZ hR6 hz ⊢
        clear hgz
        have cc := spec_l12Rd_pick.calls kk g s0_0 p2 2 a2 p3 w0 v2 hT.st hT.bel c2
        clear c2
        have nz : gz ≠ g := by have := hT.gl; have := hT.b2; have := hT.b3; omega
        have NZ := aM_ nz
        clear nz
        go_wp2_with fail
        refine cc.mono ?_
        rintro e v3 ⟨rfl, q1, q2, q3⟩
        replace hR6 := R_st tu48 hR6 hT.st (by decide) q3
        replace hT := hT.call q1 q2 q3
        replace hZ := q3.blk hZ NZ.out (by simp)
        clear q1 q2 q3 cc
        have H := H'.out
        clear H'
        cases kk with
        | zero => exact absurd H (by
            by_cases h : a2 = 0
            · rw [if_pos h]; intro h; obtain ⟨_, _, h⟩ := Option.bind_eq_some_iff.mp h; simp [spec_l7Net.j1] at h
            · rw [if_neg h]; simp [spec_l7Net.j1])
        | succ kj =>
          by_cases ha2 : a2 = 0
          · have d2 : (a2 == 0) = true := by simpa using ha2
            rw [if_pos ha2] at H
            obtain ⟨⟨b1, b2, p4⟩, c3, H⟩ := Option.bind_eq_some_iff.mp H
            simp only [] at H
            have H' := aM_ H
            clear H ha2
            have cc := spec_l6Kind.calls (kj + 1) g s0_0 p3 b1 b2 p4 w0 v3 hT.st hT.bel c3
            go_wp2_with fail
            refine cc.mono ?_
            rintro e v3b ⟨rfl, q1, q2, q3⟩
            replace hR6 := R_st tu48 hR6 hT.st (by decide) q3
            replace hT := hT.call q1 q2 q3
            replace hZ := q3.blk hZ NZ.out (by simp)
            clear q1 q2 q3 cc c3 d2
            have j0 : v3b.cell? ⟨gz, 0, none⟩ = some (.int .i64 (wrap64 (11 + a1))) := (kC_ hZ 0).trans rfl
            have j1 : v3b.cell? ⟨gz, 1, none⟩ = some (.int .i64 0) := (kC_ hZ 1).trans rfl
            (obtain ⟨f0, f1⟩ := frozen2 hZ)
            go_upto_region 11 with (fail)
            clear j0 f0 j1 f1
            have hZ' : ((v3b.setCell ⟨gz, 0, none⟩ (.int .i64 b1)).setCell ⟨gz, 1, none⟩ (.int .i64 b2)).heap[gz]? = some (.cells #[.int .i64 b1, .int .i64 b2, .int .i64 0, .int .i64 0, .int .i64 0, .int .i64 0, .bool false, .int .i64 0, .int .i64 0, .int .i64 0, .int .i64 0, .bool false] 43 (0, 0)) := (kP_ (kP_ hZ 0 (.int .i64 b1) rfl) 1 (.int .i64 b2) rfl)
            have hT' := ((hT.far hz 0 (.int .i64 b1)).far hz 1 (.int .i64 b2))
            have hR' := (rF_ (p := ⟨gz, 1, none⟩) (rF_ (p := ⟨gz, 0, none⟩) hR6 (fun _ hk => hk.2) (.int .i64 b1)) (fun _ hk => hk.2) (.int .i64 b2))
            generalize ((v3b.setCell ⟨gz, 0, none⟩ (.int .i64 b1)).setCell ⟨gz, 1, none⟩ (.int .i64 b2)) = v4 at hZ' hT' hR' ⊢
            clear hZ hT hR6
            have hZ := hZ'
            have hT := hT'
            have hR6 := hR'
            clear hZ' hT' hR'
            have H := H'.out
            clear H'
            simp only [spec_l7Net.j1] at H
            obtain ⟨⟨s1, s2, s3, s4, s5, p5⟩, c4, H⟩ := Option.bind_eq_some_iff.mp H
            obtain ⟨tb, c5, H⟩ := Option.bind_eq_some_iff.mp H
            simp only [] at H
            have H' := aM_ H
            clear H
            have cc := spec_l7SrcDraw.calls kj g s0_0 p4 t4 i s1 s2 s3 s4 s5 p5 w0 v4 hT.st hT.bel c4
            go_wp2_with fail
            refine cc.mono ?_
            rintro e v5 ⟨rfl, q1, q2, q3⟩
            replace hR6 := R_st tu48 hR6 hT.st (by decide) q3
            replace hT := hT.call q1 q2 q3
            replace hZ := q3.blk hZ NZ.out (by simp)
            clear q1 q2 q3 cc c4
            have j2 : v5.cell? ⟨gz, 2, none⟩ = some (.int .i64 0) := (kC_ hZ 2).trans rfl
            have j3 : v5.cell? ⟨gz, 3, none⟩ = some (.int .i64 0) := (kC_ hZ 3).trans rfl
            have j4 : v5.cell? ⟨gz, 4, none⟩ = some (.int .i64 0) := (kC_ hZ 4).trans rfl
            have j5 : v5.cell? ⟨gz, 5, none⟩ = some (.int .i64 0) := (kC_ hZ 5).trans rfl
            have j6 : v5.cell? ⟨gz, 6, none⟩ = some (.bool false) := (kC_ hZ 6).trans rfl
            have f2 := blk_frozen hZ 2
            have f3 := blk_frozen hZ 3
            have f4 := blk_frozen hZ 4
            have f5 := blk_frozen hZ 5
            have f6 := blk_frozen hZ 6
            go_upto_region 12 with (fail)
            clear j2 f2 j3 f3 j4 f4 j5 f5 j6 f6
            have hZ' : (((((v5.setCell ⟨gz, 2, none⟩ (.int .i64 s1)).setCell ⟨gz, 3, none⟩ (.int .i64 s2)).setCell ⟨gz, 4, none⟩ (.int .i64 s3)).setCell ⟨gz, 5, none⟩ (.int .i64 s4)).setCell ⟨gz, 6, none⟩ (.bool s5)).heap[gz]? = some (.cells #[.int .i64 b1, .int .i64 b2, .int .i64 s1, .int .i64 s2, .int .i64 s3, .int .i64 s4, .bool s5, .int .i64 0, .int .i64 0, .int .i64 0, .int .i64 0, .bool false] 43 (0, 0)) := (kP_ (kP_ (kP_ (kP_ (kP_ hZ 2 (.int .i64 s1) rfl) 3 (.int .i64 s2) rfl) 4 (.int .i64 s3) rfl) 5 (.int .i64 s4) rfl) 6 (.bool s5) rfl)
            have hT' := (((((hT.far hz 2 (.int .i64 s1)).far hz 3 (.int .i64 s2)).far hz 4 (.int .i64 s3)).far hz 5 (.int .i64 s4)).far hz 6 (.bool s5))
            have hR' := (rF_ (p := ⟨gz, 6, none⟩) (rF_ (p := ⟨gz, 5, none⟩) (rF_ (p := ⟨gz, 4, none⟩) (rF_ (p := ⟨gz, 3, none⟩) (rF_ (p := ⟨gz, 2, none⟩) hR6 (fun _ hk => hk.2) (.int .i64 s1)) (fun _ hk => hk.2) (.int .i64 s2)) (fun _ hk => hk.2) (.int .i64 s3)) (fun _ hk => hk.2) (.int .i64 s4)) (fun _ hk => hk.2) (.bool s5))
            generalize (((((v5.setCell ⟨gz, 2, none⟩ (.int .i64 s1)).setCell ⟨gz, 3, none⟩ (.int .i64 s2)).setCell ⟨gz, 4, none⟩ (.int .i64 s3)).setCell ⟨gz, 5, none⟩ (.int .i64 s4)).setCell ⟨gz, 6, none⟩ (.bool s5)) = v6 at hZ' hT' hR' ⊢
            clear hZ hT hR6
            have hZ := hZ'
            have hT := hT'
            have hR6 := hR'
            clear hZ' hT' hR'
            have j0 : v6.cell? ⟨gz, 0, none⟩ = some (.int .i64 b1) := (kC_ hZ 0).trans rfl
            have cc := spec_l7Two.calls b1 tb v6 c5
            clear c5
            go_wp2_with fail
            refine cc.mono ?_
            rintro e v7 ⟨rfl, hd⟩
            replace hd := hd.below
            replace hT := hT.below hd
            replace hZ := blk_below hZ hd
            replace hR6 := Kd.R_below hR6 hd
            clear hd cc j0
            have H := H'.out
            clear H'
            cases tb with
            | true =>
              rw [if_pos rfl] at H
              obtain ⟨⟨z1, z2, z3, z4, z5, p6⟩, c6, H⟩ := Option.bind_eq_some_iff.mp H
              simp only [] at H
              have H' := aM_ H
              clear H
              have cc := spec_l7SrcDraw.calls kj g s0_0 p5 t4 i z1 z2 z3 z4 z5 p6 w0 v7 hT.st hT.bel c6
              go_wp2_with fail
              refine cc.mono ?_
              rintro e v7b ⟨rfl, q1, q2, q3⟩
              replace hR6 := R_st tu48 hR6 hT.st (by decide) q3
              replace hT := hT.call q1 q2 q3
              replace hZ := q3.blk hZ NZ.out (by simp)
              clear q1 q2 q3 cc c6
              have j7 : v7b.cell? ⟨gz, 7, none⟩ = some (.int .i64 0) := (kC_ hZ 7).trans rfl
              have j8 : v7b.cell? ⟨gz, 8, none⟩ = some (.int .i64 0) := (kC_ hZ 8).trans rfl
              have j9 : v7b.cell? ⟨gz, 9, none⟩ = some (.int .i64 0) := (kC_ hZ 9).trans rfl
              have j10 : v7b.cell? ⟨gz, 10, none⟩ = some (.int .i64 0) := (kC_ hZ 10).trans rfl
              have j11 : v7b.cell? ⟨gz, 11, none⟩ = some (.bool false) := (kC_ hZ 11).trans rfl
              have f7 := blk_frozen hZ 7
              have f8 := blk_frozen hZ 8
              have f9 := blk_frozen hZ 9
              have f10 := blk_frozen hZ 10
              have f11 := blk_frozen hZ 11
              go_upto_region 14 with (fail)
              clear j7 f7 j8 f8 j9 f9 j10 f10 j11 f11
              have hZ' : (((((v7b.setCell ⟨gz, 7, none⟩ (.int .i64 z1)).setCell ⟨gz, 8, none⟩ (.int .i64 z2)).setCell ⟨gz, 9, none⟩ (.int .i64 z3)).setCell ⟨gz, 10, none⟩ (.int .i64 z4)).setCell ⟨gz, 11, none⟩ (.bool z5)).heap[gz]? = some (.cells #[.int .i64 b1, .int .i64 b2, .int .i64 s1, .int .i64 s2, .int .i64 s3, .int .i64 s4, .bool s5, .int .i64 z1, .int .i64 z2, .int .i64 z3, .int .i64 z4, .bool z5] 43 (0, 0)) := (kP_ (kP_ (kP_ (kP_ (kP_ hZ 7 (.int .i64 z1) rfl) 8 (.int .i64 z2) rfl) 9 (.int .i64 z3) rfl) 10 (.int .i64 z4) rfl) 11 (.bool z5) rfl)
              have hT' := (((((hT.far hz 7 (.int .i64 z1)).far hz 8 (.int .i64 z2)).far hz 9 (.int .i64 z3)).far hz 10 (.int .i64 z4)).far hz 11 (.bool z5))
              have hR' := (rF_ (p := ⟨gz, 11, none⟩) (rF_ (p := ⟨gz, 10, none⟩) (rF_ (p := ⟨gz, 9, none⟩) (rF_ (p := ⟨gz, 8, none⟩) (rF_ (p := ⟨gz, 7, none⟩) hR6 (fun _ hk => hk.2) (.int .i64 z1)) (fun _ hk => hk.2) (.int .i64 z2)) (fun _ hk => hk.2) (.int .i64 z3)) (fun _ hk => hk.2) (.int .i64 z4)) (fun _ hk => hk.2) (.bool z5))
              generalize (((((v7b.setCell ⟨gz, 7, none⟩ (.int .i64 z1)).setCell ⟨gz, 8, none⟩ (.int .i64 z2)).setCell ⟨gz, 9, none⟩ (.int .i64 z3)).setCell ⟨gz, 10, none⟩ (.int .i64 z4)).setCell ⟨gz, 11, none⟩ (.bool z5)) = v8 at hZ' hT' hR' ⊢
              clear hZ hT hR6
              have hZ := hZ'
              have hT := hT'
              have hR6 := hR'
              clear hZ' hT' hR'
              have H := H'.out
              clear H'
              by_cases hxl : xs.length < 1466015503701
              · rw [if_pos hxl] at H
                have HL := aM_ hxl
                clear hxl
                obtain ⟨Au, cu, hu⟩ := Kd.R_slice hR6
                subst hu
                (obtain ⟨c0, c1, c2, c3, c4, c5, c6, c7, c8, c9, c10, c11⟩ := cells12 hZ)
                have k0 : v8.cell? ⟨g3, 0, none⟩ = some (.slice Au xs.length cu) := (kC_ hT.h3 0).trans rfl
                obtain ⟨ys, hys⟩ : ∃ ys, xs ++ [(⟨b1, b2, ⟨s1, s2, ⟨s3, s4⟩, s5⟩, ⟨z1, z2, ⟨z3, z4⟩, z5⟩⟩ : S43)] = ys := ⟨_, rfl⟩
                rw [hys] at H
                have HYS := aM_ hys
                clear hys
                have H' := aM_ H
                clear H
                have HT := aM_ hT
                have HR := aM_ hR6
                have HZ := aM_ hZ
                clear hT hR6 hZ
                go_wp2_with (first | ((with_reducible refine gate_dst (N := 51) rfl ?_); refine Kd.R_append k43 w.heap.size rfl (.tmp 48) (.tmp 50) 28 43 (.agg #[(.int .i64 0), (.int .i64 0), (.int .i64 0), (.int .i64 0), (.int .i64 0), (.int .i64 0), (.bool false), (.int .i64 0), (.int .i64 0), (.int .i64 0), (.int .i64 0), (.bool false)]) 96 rfl Tryz.underlying28 info43 rfl (by decide) (by omega) (.slice Au xs.length cu) xs (⟨b1, b2, ⟨s1, s2, ⟨s3, s4⟩, s5⟩, ⟨z1, z2, ⟨z3, z4⟩, z5⟩⟩ : S43) [.int .i64 b1, .int .i64 b2, .int .i64 s1, .int .i64 s2, .int .i64 s3, .int .i64 s4, .bool s5, .int .i64 z1, .int .i64 z2, .int .i64 z3, .int .i64 z4, .bool z5] (fun k_ => True ∧ k_ ≠ gz) (fun _ => False) rfl (by first | (go_simp; done) | (go_simp; rfl)) ?aP (fun _ hk => hk.elim) ?aF ?aO (Below.refl _ _) ?aS ?aL ?_; (case aP => exact k43_mkM _ _ _ (⟨b1, b2, ⟨s1, s2, ⟨s3, s4⟩, s5⟩, ⟨z1, z2, ⟨z3, z4⟩, z5⟩⟩ : S43)); (case aF => exact fun k_ hk => ⟨trivial, Kd.freshB HZ.out k_ hk⟩); (case aO => exact HR.out); (case aS => exact HT.out.kp.1); (case aL => have := HL.out; omega); intro x1 v9 ho hb hg hat; rw [HYS.out] at ho; have HT2 := aM_ (HT.out.grown HR.out (by decide) (by decide) (Nat.le_refl _) hg); clear HT; have HO := aM_ ho; clear ho hb hg hat HR HZ; obtain ⟨Ao, co, eo⟩ := Kd.R_slice HO.out; subst eo; have k0 := (kC_ HT2.out.h3 0).trans rfl; have q0 := blk_frozen HT2.out.h3 0))
                go_roundg kj
                case measure => have := HK1.out; omega
                case rel => exact ⟨_, _, ys, _, rfl, H', ⟨by have := HK1.out; omega⟩, HT2.out.put0 _, ⟨Kd.R_mono (tu_put tu48 HO.out HT2.out.h3 (by decide) 0 _) (fun _ _ => trivial)⟩⟩
              · rw [if_neg hxl] at H
                exact absurd H (by simp)
            | false =>
              rw [if_neg (by decide)] at H
              go_upto_region 14 with (fail)
              obtain ⟨v8, hv8⟩ : ∃ q, v7 = q := ⟨_, rfl⟩
              rw [hv8] at hZ hT hR6 ⊢
              clear hv8
              by_cases hxl : xs.length < 1466015503701
              · rw [if_pos hxl] at H
                have HL := aM_ hxl
                clear hxl
                obtain ⟨Au, cu, hu⟩ := Kd.R_slice hR6
                subst hu
                (obtain ⟨c0, c1, c2, c3, c4, c5, c6, c7, c8, c9, c10, c11⟩ := cells12 hZ)
                have k0 : v8.cell? ⟨g3, 0, none⟩ = some (.slice Au xs.length cu) := (kC_ hT.h3 0).trans rfl
                obtain ⟨ys, hys⟩ : ∃ ys, xs ++ [(⟨b1, b2, ⟨s1, s2, ⟨s3, s4⟩, s5⟩, ⟨0, 0, ⟨0, 0⟩, false⟩⟩ : S43)] = ys := ⟨_, rfl⟩
                rw [hys] at H
                have HYS := aM_ hys
                clear hys
                have H' := aM_ H
                clear H
                have HT := aM_ hT
                have HR := aM_ hR6
                have HZ := aM_ hZ
                clear hT hR6 hZ
                go_wp2_with (first | ((with_reducible refine gate_dst (N := 51) rfl ?_); refine Kd.R_append k43 w.heap.size rfl (.tmp 48) (.tmp 50) 28 43 (.agg #[(.int .i64 0), (.int .i64 0), (.int .i64 0), (.int .i64 0), (.int .i64 0), (.int .i64 0), (.bool false), (.int .i64 0), (.int .i64 0), (.int .i64 0), (.int .i64 0), (.bool false)]) 96 rfl Tryz.underlying28 info43 rfl (by decide) (by omega) (.slice Au xs.length cu) xs (⟨b1, b2, ⟨s1, s2, ⟨s3, s4⟩, s5⟩, ⟨0, 0, ⟨0, 0⟩, false⟩⟩ : S43) [.int .i64 b1, .int .i64 b2, .int .i64 s1, .int .i64 s2, .int .i64 s3, .int .i64 s4, .bool s5, .int .i64 0, .int .i64 0, .int .i64 0, .int .i64 0, .bool false] (fun k_ => True ∧ k_ ≠ gz) (fun _ => False) rfl (by first | (go_simp; done) | (go_simp; rfl)) ?aP (fun _ hk => hk.elim) ?aF ?aO (Below.refl _ _) ?aS ?aL ?_; (case aP => exact k43_mkM _ _ _ (⟨b1, b2, ⟨s1, s2, ⟨s3, s4⟩, s5⟩, ⟨0, 0, ⟨0, 0⟩, false⟩⟩ : S43)); (case aF => exact fun k_ hk => ⟨trivial, Kd.freshB HZ.out k_ hk⟩); (case aO => exact HR.out); (case aS => exact HT.out.kp.1); (case aL => have := HL.out; omega); intro x1 v9 ho hb hg hat; rw [HYS.out] at ho; have HT2 := aM_ (HT.out.grown HR.out (by decide) (by decide) (Nat.le_refl _) hg); clear HT; have HO := aM_ ho; clear ho hb hg hat HR HZ; obtain ⟨Ao, co, eo⟩ := Kd.R_slice HO.out; subst eo; have k0 := (kC_ HT2.out.h3 0).trans rfl; have q0 := blk_frozen HT2.out.h3 0))
                go_roundg kj
                case measure => have := HK1.out; omega
                case rel => exact ⟨_, _, ys, _, rfl, H', ⟨by have := HK1.out; omega⟩, HT2.out.put0 _, ⟨Kd.R_mono (tu_put tu48 HO.out HT2.out.h3 (by decide) 0 _) (fun _ _ => trivial)⟩⟩
              · rw [if_neg hxl] at H
                exact absurd H (by simp)
          · have d2 : (a2 == 0) = false := by simpa using ha2
            rw [if_neg ha2] at H
            have H' := aM_ H
            clear H ha2
            go_upto_region 11 with (fail)
            obtain ⟨v4, hv4⟩ : ∃ q, v3 = q := ⟨_, rfl⟩
            rw [hv4] at hZ hT hR6 ⊢
            clear hv4 d2
            have H := H'.out
            clear H'
            simp only [spec_l7Net.j1] at H
            obtain ⟨⟨s1, s2, s3, s4, s5, p5⟩, c4, H⟩ := Option.bind_eq_some_iff.mp H
            obtain ⟨tb, c5, H⟩ := Option.bind_eq_some_iff.mp H
            simp only [] at H
            have H' := aM_ H
            clear H
            have cc := spec_l7SrcDraw.calls kj g s0_0 p3 t4 i s1 s2 s3 s4 s5 p5 w0 v4 hT.st hT.bel c4
            go_wp2_with fail
            refine cc.mono ?_
            rintro e v5 ⟨rfl, q1, q2, q3⟩
            replace hR6 := R_st tu48 hR6 hT.st (by decide) q3
            replace hT := hT.call q1 q2 q3
            replace hZ := q3.blk hZ NZ.out (by simp)
            clear q1 q2 q3 cc c4
            have j2 : v5.cell? ⟨gz, 2, none⟩ = some (.int .i64 0) := (kC_ hZ 2).trans rfl
            have j3 : v5.cell? ⟨gz, 3, none⟩ = some (.int .i64 0) := (kC_ hZ 3).trans rfl
            have j4 : v5.cell? ⟨gz, 4, none⟩ = some (.int .i64 0) := (kC_ hZ 4).trans rfl
            have j5 : v5.cell? ⟨gz, 5, none⟩ = some (.int .i64 0) := (kC_ hZ 5).trans rfl
            have j6 : v5.cell? ⟨gz, 6, none⟩ = some (.bool false) := (kC_ hZ 6).trans rfl
            have f2 := blk_frozen hZ 2
            have f3 := blk_frozen hZ 3
            have f4 := blk_frozen hZ 4
            have f5 := blk_frozen hZ 5
            have f6 := blk_frozen hZ 6
            go_upto_region 12 with (fail)
            clear j2 f2 j3 f3 j4 f4 j5 f5 j6 f6
            have hZ' : (((((v5.setCell ⟨gz, 2, none⟩ (.int .i64 s1)).setCell ⟨gz, 3, none⟩ (.int .i64 s2)).setCell ⟨gz, 4, none⟩ (.int .i64 s3)).setCell ⟨gz, 5, none⟩ (.int .i64 s4)).setCell ⟨gz, 6, none⟩ (.bool s5)).heap[gz]? = some (.cells #[.int .i64 (wrap64 (11 + a1)), .int .i64 0, .int .i64 s1, .int .i64 s2, .int .i64 s3, .int .i64 s4, .bool s5, .int .i64 0, .int .i64 0, .int .i64 0, .int .i64 0, .bool false] 43 (0, 0)) := (kP_ (kP_ (kP_ (kP_ (kP_ hZ 2 (.int .i64 s1) rfl) 3 (.int .i64 s2) rfl) 4 (.int .i64 s3) rfl) 5 (.int .i64 s4) rfl) 6 (.bool s5) rfl)
            have hT' := (((((hT.far hz 2 (.int .i64 s1)).far hz 3 (.int .i64 s2)).far hz 4 (.int .i64 s3)).far hz 5 (.int .i64 s4)).far hz 6 (.bool s5))
            have hR' := (rF_ (p := ⟨gz, 6, none⟩) (rF_ (p := ⟨gz, 5, none⟩) (rF_ (p := ⟨gz, 4, none⟩) (rF_ (p := ⟨gz, 3, none⟩) (rF_ (p := ⟨gz, 2, none⟩) hR6 (fun _ hk => hk.2) (.int .i64 s1)) (fun _ hk => hk.2) (.int .i64 s2)) (fun _ hk => hk.2) (.int .i64 s3)) (fun _ hk => hk.2) (.int .i64 s4)) (fun _ hk => hk.2) (.bool s5))
            generalize (((((v5.setCell ⟨gz, 2, none⟩ (.int .i64 s1)).setCell ⟨gz, 3, none⟩ (.int .i64 s2)).setCell ⟨gz, 4, none⟩ (.int .i64 s3)).setCell ⟨gz, 5, none⟩ (.int .i64 s4)).setCell ⟨gz, 6, none⟩ (.bool s5)) = v6 at hZ' hT' hR' ⊢
            clear hZ hT hR6
            have hZ := hZ'
            have hT := hT'
            have hR6 := hR'
            clear hZ' hT' hR'
            have j0 : v6.cell? ⟨gz, 0, none⟩ = some (.int .i64 (wrap64 (11 + a1))) := (kC_ hZ 0).trans rfl
            have cc := spec_l7Two.calls (wrap64 (11 + a1)) tb v6 c5
            clear c5
            go_wp2_with fail
            refine cc.mono ?_
            rintro e v7 ⟨rfl, hd⟩
            replace hd := hd.below
            replace hT := hT.below hd
            replace hZ := blk_below hZ hd
            replace hR6 := Kd.R_below hR6 hd
            clear hd cc j0
            have H := H'.out
            clear H'
            cases tb with
            | true =>
              rw [if_pos rfl] at H
              obtain ⟨⟨z1, z2, z3, z4, z5, p6⟩, c6, H⟩ := Option.bind_eq_some_iff.mp H
              simp only [] at H
              have H' := aM_ H
              clear H
              have cc := spec_l7SrcDraw.calls kj g s0_0 p5 t4 i z1 z2 z3 z4 z5 p6 w0 v7 hT.st hT.bel c6
              go_wp2_with fail
              refine cc.mono ?_
              rintro e v7b ⟨rfl, q1, q2, q3⟩
              replace hR6 := R_st tu48 hR6 hT.st (by decide) q3
              replace hT := hT.call q1 q2 q3
              replace hZ := q3.blk hZ NZ.out (by simp)
              clear q1 q2 q3 cc c6
              have j7 : v7b.cell? ⟨gz, 7, none⟩ = some (.int .i64 0) := (kC_ hZ 7).trans rfl
              have j8 : v7b.cell? ⟨gz, 8, none⟩ = some (.int .i64 0) := (kC_ hZ 8).trans rfl
              have j9 : v7b.cell? ⟨gz, 9, none⟩ = some (.int .i64 0) := (kC_ hZ 9).trans rfl
              have j10 : v7b.cell? ⟨gz, 10, none⟩ = some (.int .i64 0) := (kC_ hZ 10).trans rfl
              have j11 : v7b.cell? ⟨gz, 11, none⟩ = some (.bool false) := (kC_ hZ 11).trans rfl
              have f7 := blk_frozen hZ 7
              have f8 := blk_frozen hZ 8
              have f9 := blk_frozen hZ 9
              have f10 := blk_frozen hZ 10
              have f11 := blk_frozen hZ 11
              go_upto_region 14 with (fail)
              clear j7 f7 j8 f8 j9 f9 j10 f10 j11 f11
              have hZ' : (((((v7b.setCell ⟨gz, 7, none⟩ (.int .i64 z1)).setCell ⟨gz, 8, none⟩ (.int .i64 z2)).setCell ⟨gz, 9, none⟩ (.int .i64 z3)).setCell ⟨gz, 10, none⟩ (.int .i64 z4)).setCell ⟨gz, 11, none⟩ (.bool z5)).heap[gz]? = some (.cells #[.int .i64 (wrap64 (11 + a1)), .int .i64 0, .int .i64 s1, .int .i64 s2, .int .i64 s3, .int .i64 s4, .bool s5, .int .i64 z1, .int .i64 z2, .int .i64 z3, .int .i64 z4, .bool z5] 43 (0, 0)) := (kP_ (kP_ (kP_ (kP_ (kP_ hZ 7 (.int .i64 z1) rfl) 8 (.int .i64 z2) rfl) 9 (.int .i64 z3) rfl) 10 (.int .i64 z4) rfl) 11 (.bool z5) rfl)
              have hT' := (((((hT.far hz 7 (.int .i64 z1)).far hz 8 (.int .i64 z2)).far hz 9 (.int .i64 z3)).far hz 10 (.int .i64 z4)).far hz 11 (.bool z5))
              have hR' := (rF_ (p := ⟨gz, 11, none⟩) (rF_ (p := ⟨gz, 10, none⟩) (rF_ (p := ⟨gz, 9, none⟩) (rF_ (p := ⟨gz, 8, none⟩) (rF_ (p := ⟨gz, 7, none⟩) hR6 (fun _ hk => hk.2) (.int .i64 z1)) (fun _ hk => hk.2) (.int .i64 z2)) (fun _ hk => hk.2) (.int .i64 z3)) (fun _ hk => hk.2) (.int .i64 z4)) (fun _ hk => hk.2) (.bool z5))
              generalize (((((v7b.setCell ⟨gz, 7, none⟩ (.int .i64 z1)).setCell ⟨gz, 8, none⟩ (.int .i64 z2)).setCell ⟨gz, 9, none⟩ (.int .i64 z3)).setCell ⟨gz, 10, none⟩ (.int .i64 z4)).setCell ⟨gz, 11, none⟩ (.bool z5)) = v8 at hZ' hT' hR' ⊢
              clear hZ hT hR6
              have hZ := hZ'
              have hT := hT'
              have hR6 := hR'
              clear hZ' hT' hR'
              have H := H'.out
              clear H'
              by_cases hxl : xs.length < 1466015503701
              · rw [if_pos hxl] at H
                have HL := aM_ hxl
                clear hxl
                obtain ⟨Au, cu, hu⟩ := Kd.R_slice hR6
                subst hu
                (obtain ⟨c0, c1, c2, c3, c4, c5, c6, c7, c8, c9, c10, c11⟩ := cells12 hZ)
                have k0 : v8.cell? ⟨g3, 0, none⟩ = some (.slice Au xs.length cu) := (kC_ hT.h3 0).trans rfl
                obtain ⟨ys, hys⟩ : ∃ ys, xs ++ [(⟨(wrap64 (11 + a1)), 0, ⟨s1, s2, ⟨s3, s4⟩, s5⟩, ⟨z1, z2, ⟨z3, z4⟩, z5⟩⟩ : S43)] = ys := ⟨_, rfl⟩
                rw [hys] at H
                have HYS := aM_ hys
                clear hys
                have H' := aM_ H
                clear H
                have HT := aM_ hT
                have HR := aM_ hR6
                have HZ := aM_ hZ
                clear hT hR6 hZ
                go_wp2_with (first | ((with_reducible refine gate_dst (N := 51) rfl ?_); refine Kd.R_append k43 w.heap.size rfl (.tmp 48) (.tmp 50) 28 43 (.agg #[(.int .i64 0), (.int .i64 0), (.int .i64 0), (.int .i64 0), (.int .i64 0), (.int .i64 0), (.bool false), (.int .i64 0), (.int .i64 0), (.int .i64 0), (.int .i64 0), (.bool false)]) 96 rfl Tryz.underlying28 info43 rfl (by decide) (by omega) (.slice Au xs.length cu) xs (⟨(wrap64 (11 + a1)), 0, ⟨s1, s2, ⟨s3, s4⟩, s5⟩, ⟨z1, z2, ⟨z3, z4⟩, z5⟩⟩ : S43) [.int .i64 (wrap64 (11 + a1)), .int .i64 0, .int .i64 s1, .int .i64 s2, .int .i64 s3, .int .i64 s4, .bool s5, .int .i64 z1, .int .i64 z2, .int .i64 z3, .int .i64 z4, .bool z5] (fun k_ => True ∧ k_ ≠ gz) (fun _ => False) rfl (by first | (go_simp; done) | (go_simp; rfl)) ?aP (fun _ hk => hk.elim) ?aF ?aO (Below.refl _ _) ?aS ?aL ?_; (case aP => exact k43_mkM _ _ _ (⟨(wrap64 (11 + a1)), 0, ⟨s1, s2, ⟨s3, s4⟩, s5⟩, ⟨z1, z2, ⟨z3, z4⟩, z5⟩⟩ : S43)); (case aF => exact fun k_ hk => ⟨trivial, Kd.freshB HZ.out k_ hk⟩); (case aO => exact HR.out); (case aS => exact HT.out.kp.1); (case aL => have := HL.out; omega); intro x1 v9 ho hb hg hat; rw [HYS.out] at ho; have HT2 := aM_ (HT.out.grown HR.out (by decide) (by decide) (Nat.le_refl _) hg); clear HT; have HO := aM_ ho; clear ho hb hg hat HR HZ; obtain ⟨Ao, co, eo⟩ := Kd.R_slice HO.out; subst eo; have k0 := (kC_ HT2.out.h3 0).trans rfl; have q0 := blk_frozen HT2.out.h3 0))
                go_roundg kj
                case measure => have := HK1.out; omega
                case rel => exact ⟨_, _, ys, _, rfl, H', ⟨by have := HK1.out; omega⟩, HT2.out.put0 _, ⟨Kd.R_mono (tu_put tu48 HO.out HT2.out.h3 (by decide) 0 _) (fun _ _ => trivial)⟩⟩
              · rw [if_neg hxl] at H
                exact absurd H (by simp)
            | false =>
              rw [if_neg (by decide)] at H
              go_upto_region 14 with (fail)
              obtain ⟨v8, hv8⟩ : ∃ q, v7 = q := ⟨_, rfl⟩
              rw [hv8] at hZ hT hR6 ⊢
              clear hv8
              by_cases hxl : xs.length < 1466015503701
              · rw [if_pos hxl] at H
                have HL := aM_ hxl
                clear hxl
                obtain ⟨Au, cu, hu⟩ := Kd.R_slice hR6
                subst hu
                (obtain ⟨c0, c1, c2, c3, c4, c5, c6, c7, c8, c9, c10, c11⟩ := cells12 hZ)
                have k0 : v8.cell? ⟨g3, 0, none⟩ = some (.slice Au xs.length cu) := (kC_ hT.h3 0).trans rfl
                obtain ⟨ys, hys⟩ : ∃ ys, xs ++ [(⟨(wrap64 (11 + a1)), 0, ⟨s1, s2, ⟨s3, s4⟩, s5⟩, ⟨0, 0, ⟨0, 0⟩, false⟩⟩ : S43)] = ys := ⟨_, rfl⟩
                rw [hys] at H
                have HYS := aM_ hys
                clear hys
                have H' := aM_ H
                clear H
                have HT := aM_ hT
                have HR := aM_ hR6
                have HZ := aM_ hZ
                clear hT hR6 hZ
                go_wp2_with (first | ((with_reducible refine gate_dst (N := 51) rfl ?_); refine Kd.R_append k43 w.heap.size rfl (.tmp 48) (.tmp 50) 28 43 (.agg #[(.int .i64 0), (.int .i64 0), (.int .i64 0), (.int .i64 0), (.int .i64 0), (.int .i64 0), (.bool false), (.int .i64 0), (.int .i64 0), (.int .i64 0), (.int .i64 0), (.bool false)]) 96 rfl Tryz.underlying28 info43 rfl (by decide) (by omega) (.slice Au xs.length cu) xs (⟨(wrap64 (11 + a1)), 0, ⟨s1, s2, ⟨s3, s4⟩, s5⟩, ⟨0, 0, ⟨0, 0⟩, false⟩⟩ : S43) [.int .i64 (wrap64 (11 + a1)), .int .i64 0, .int .i64 s1, .int .i64 s2, .int .i64 s3, .int .i64 s4, .bool s5, .int .i64 0, .int .i64 0, .int .i64 0, .int .i64 0, .bool false] (fun k_ => True ∧ k_ ≠ gz) (fun _ => False) rfl (by first | (go_simp; done) | (go_simp; rfl)) ?aP (fun _ hk => hk.elim) ?aF ?aO (Below.refl _ _) ?aS ?aL ?_; (case aP => exact k43_mkM _ _ _ (⟨(wrap64 (11 + a1)), 0, ⟨s1, s2, ⟨s3, s4⟩, s5⟩, ⟨0, 0, ⟨0, 0⟩, false⟩⟩ : S43)); (case aF => exact fun k_ hk => ⟨trivial, Kd.freshB HZ.out k_ hk⟩); (case aO => exact HR.out); (case aS => exact HT.out.kp.1); (case aL => have := HL.out; omega); intro x1 v9 ho hb hg hat; rw [HYS.out] at ho; have HT2 := aM_ (HT.out.grown HR.out (by decide) (by decide) (Nat.le_refl _) hg); clear HT; have HO := aM_ ho; clear ho hb hg hat HR HZ; obtain ⟨Ao, co, eo⟩ := Kd.R_slice HO.out; subst eo; have k0 := (kC_ HT2.out.h3 0).trans rfl; have q0 := blk_frozen HT2.out.h3 0))
                go_roundg kj
                case measure => have := HK1.out; omega
                case rel => exact ⟨_, _, ys, _, rfl, H', ⟨by have := HK1.out; omega⟩, HT2.out.put0 _, ⟨Kd.R_mono (tu_put tu48 HO.out HT2.out.h3 (by decide) 0 _) (fun _ _ => trivial)⟩⟩
              · rw [if_neg hxl] at H
                exact absurd H (by simp)
      · rw [if_neg hc] at H
        have d1 : decide (i < t4) = false := dF_ hc
        clear hc
        obtain ⟨⟨t9, p2⟩, c1, H⟩ := Option.bind_eq_some_iff.mp H
        have H' : Aside0 (spec_l7Net.l1 kk t4 t9 s0_0 p2 xs [] = some (r1, r2, r3)) := ⟨H⟩
        clear H
        have cc := spec_l12Rd_pick.calls kk g s0_0 p 4 t9 p2 w0 wr hT.st hT.bel c1
        clear c1
        go_wp2_with fail
        refine cc.mono ?_
        rintro e v1 ⟨rfl, q1, q2, q3⟩
        replace hR := aM_ (R_st tu48 hR.out hT.st (by decide) q3)
        replace hT := hT.call q1 q2 q3
        clear q1 q2 q3 cc
        go_wp2
        go_loopg [9] kk (fun kq v wr => ∃ (i p : Int) (ys : List S66) (u2 : Value), v = .int .i64 i ∧ Aside0 (spec_l7Net.l1 kq t4 i s0_0 p xs ys = some (r1, r2, r3)) ∧ Aside0 (kq ≤ kk) ∧ LN w0 w g g2 g3 s0_0 p u u2 wr ∧ Aside0 (Kd.R k43 43 wr w.heap.size (fun _ => True) u xs) ∧ Aside0 (Kd.R k66 66 wr w.heap.size (fun _ => True) u2 ys))
        case atStart => exact ⟨t9, p2, [], _, rfl, H', ⟨Nat.le_refl _⟩, hT, hR, ⟨Kd.R_nil _ _ _ _ _⟩⟩
        case round =>
          clear hT H' hR d1
          obtain ⟨i, p, ys, u2, rfl, HA, HK2, hT, hR, hS⟩ := hrel
          cases gk with
          | zero => exact absurd HA.out (by simp [spec_l7Net.l1])
          | succ kk2 =>
            have H := HA.out
            clear HA
            simp only [spec_l7Net.l1] at H
            cases kk2 with
            | zero => exact absurd H (by simp [spec_l7Net.j3])
            | succ kj2 =>
              simp only [spec_l7Net.j3] at H
              by_cases h1 : i > 0
              · rw [if_pos h1] at H
                have d1 : decide (i > 0) = true := dT_ h1
                have d1' : decide (0 < i) = true := dT_ h1
                clear h1
                by_cases h2 : t4 > 0
                · rw [dT_ h2, if_pos rfl] at H
                  have d2 : decide (t4 > 0) = true := dT_ h2
                  have d2' : decide (0 < t4) = true := dT_ h2
                  clear h2
                  obtain ⟨⟨a1, p2⟩, c1, H⟩ := Option.bind_eq_some_iff.mp H
                  obtain ⟨⟨a2, p3⟩, c2, H⟩ := Option.bind_eq_some_iff.mp H
                  simp only [] at H
                  by_cases hyl : ys.length < 5864062014805
                  · rw [if_pos hyl] at H
                    have HL := aM_ hyl
                    clear hyl
                    obtain ⟨zs, hzs⟩ : ∃ zs, ys ++ [(⟨⟨wrap64 (2 + a1), i⟩, a2⟩ : S66)] = zs := ⟨_, rfl⟩
                    rw [hzs] at H
                    have HZS := aM_ hzs
                    have H' := aM_ H
                    clear H hzs
                    obtain ⟨A2, cA2, hu2⟩ := Kd.R_slice hS.out
                    subst hu2
                    have C1 := aM_ c1
                    have C2 := aM_ c2
                    clear c1 c2
                    go_upto_region 18 with (fail)
                    have hTv := hT.drew
                    have hRv := aM_ (rD_ hR.out)
                    have hSv := aM_ (rD_ hS.out)
                    clear hT hR hS
                    refine start_ (n := 15) (S := fun w' => w'.cell? ⟨g3, 1, none⟩ = some (.slice A2 ys.length cA2)) (ds := [14]) #[F_, F_, F_, F_, F_, F_, F_, F_, F_, F_, F_, F_, F_, F_, F_] (by kernel_rfl) rfl rfl ((kC_ hTv.h3 1).trans rfl) (fun hHeld => ?_)
                    refine pure_ (i := 0) (N := some 63) (v := ?_) (a' := ?_) #[T_, F_, F_, F_, F_, F_, F_, F_, F_, F_, F_, F_, F_, F_, F_] rfl rfl (by kernel_rfl) (fun _ _ _ h => h) (Or.inl ⟨by rfl, ?_⟩) ?_ ?_
                    rotate_left
                    · intro w'
                      go_simp
                      with_reducible rfl
                    rotate_left
                    · simp only [Act.put, sA_, sB_, sC_, i64_w, i32_w]
                      rfl
                    refine pure_ (i := 2) (N := some 65) (v := ?_) (a' := ?_) #[T_, F_, T_, F_, F_, F_, F_, F_, F_, F_, F_, F_, F_, F_, F_] rfl rfl (by kernel_rfl) (fun _ _ _ h => h) (Or.inl ⟨by rfl, ?_⟩) ?_ ?_
                    rotate_left
                    · intro w'
                      go_simp
                      with_reducible rfl
                    rotate_left
                    · simp only [Act.put, sA_, sB_, sC_, i64_w, i32_w]
                      rfl
                    refine pure_ (i := 5) (N := some 68) (v := ?_) (a' := ?_) #[T_, F_, T_, F_, F_, T_, F_, F_, F_, F_, F_, F_, F_, F_, F_] rfl rfl (by kernel_rfl) (fun _ _ _ h => h) (Or.inl ⟨by rfl, ?_⟩) ?_ ?_
                    rotate_left
                    · intro w'
                      go_simp
                      with_reducible rfl
                    rotate_left
                    · simp only [Act.put, sA_, sB_, sC_, i64_w, i32_w]
                      rfl
                    refine pure_ (i := 7) (N := some 70) (v := ?_) (a' := ?_) #[T_, F_, T_, F_, F_, T_, F_, T_, F_, F_, F_, F_, F_, F_, F_] rfl rfl (by kernel_rfl) (fun _ _ _ h => h) (Or.inl ⟨by rfl, ?_⟩) ?_ ?_
                    rotate_left
                    · intro w'
                      go_simp
                      with_reducible rfl
                    rotate_left
                    · simp only [Act.put, sA_, sB_, sC_, i64_w, i32_w]
                      rfl
                    refine pure_ (i := 8) (N := some 71) (v := ?_) (a' := ?_) #[T_, F_, T_, F_, F_, T_, F_, T_, T_, F_, F_, F_, F_, F_, F_] rfl rfl (by kernel_rfl) (fun _ _ _ h => h) (Or.inl ⟨by rfl, ?_⟩) ?_ ?_
                    rotate_left
                    · intro w'
                      go_simp
                      with_reducible rfl
                    rotate_left
                    · simp only [Act.put, sA_, sB_, sC_, i64_w, i32_w]
                      rfl
                    refine take_ (i := 1) (N := some 64) (v := ?_) (a' := ?_) #[T_, T_, T_, F_, F_, T_, F_, T_, T_, F_, F_, F_, F_, F_, F_] rfl rfl (by kernel_rfl) (fun _ _ _ h => h) (Or.inl ⟨by rfl, ?_⟩) hHeld ?_ ?_
                    rotate_left
                    · intro w' s0
                      go_simp
                      with_reducible rfl
                    rotate_left
                    · simp only [Act.put, sA_, sB_, sC_, i64_w, i32_w]
                      rfl
                    refine one_ (i := 3) (N := some 66) #[T_, T_, T_, T_, F_, T_, F_, T_, T_, F_, F_, F_, F_, F_, F_] rfl rfl (by kernel_rfl) (by decide) (fun K hK => ?_)
                    generalize wr.drew = wv at hTv hRv hSv hHeld ⊢
                    refine goes_ Tryz.func64 (by kernel_rfl) rfl #[.pointer (some ⟨g, 0, none⟩), .int .i64 2] (by rfl) rfl rfl (by simp only [mA_, List.map_cons, List.map_nil]; rfl) ?_
                    with_reducible refine (spec_l12Rd_pick.calls (kj2) g s0_0 p 2 a1 p2 w0 _ hTv.st hTv.bel C1.out).mono ?_
                    rintro e v1 ⟨rfl, q1, q2, q3⟩
                    refine ⟨_, rfl, ?_⟩
                    have hR1 := aM_ (R_st tu48 hRv.out hTv.st (by decide) q3)
                    have hS1 := aM_ (R_st tu62 hSv.out hTv.st (by decide) q3)
                    have hT1 := hTv.call q1 q2 q3
                    clear q1 q2 q3 hRv hSv hTv
                    refine hK.out _ _ ((kC_ hT1.h3 1).trans rfl) (fun hHeld => ?_)
                    clear hK K
                    refine norm_ (a' := ?_) ?_ ?_
                    rotate_left
                    · show Act.put _ (some 66) _ = _
                      simp only [Act.put, sA_, sB_, sC_, i64_w, i32_w]
                      rfl
                    refine pure_ (i := 4) (N := some 67) (v := ?_) (a' := ?_) #[T_, T_, T_, T_, T_, T_, F_, T_, T_, F_, F_, F_, F_, F_, F_] rfl rfl (by kernel_rfl) (fun _ _ _ h => h) (Or.inl ⟨by rfl, ?_⟩) ?_ ?_
                    rotate_left
                    · intro w'
                      go_simp
                      with_reducible rfl
                    rotate_left
                    · simp only [Act.put, sA_, sB_, sC_, i64_w, i32_w]
                      rfl
                    refine pure_ (i := 6) (N := some 69) (v := ?_) (a' := ?_) #[T_, T_, T_, T_, T_, T_, T_, T_, T_, F_, F_, F_, F_, F_, F_] rfl rfl (by kernel_rfl) (fun _ _ _ h => h) (Or.inl ⟨by rfl, ?_⟩) ?_ ?_
                    rotate_left
                    · intro w'
                      go_simp
                      with_reducible rfl
                    rotate_left
                    · simp only [Act.put, sA_, sB_, sC_, i64_w, i32_w]
                      rfl
                    refine one_ (i := 9) (N := some 72) #[T_, T_, T_, T_, T_, T_, T_, T_, T_, T_, F_, F_, F_, F_, F_] rfl rfl (by kernel_rfl) (by decide) (fun K hK => ?_)
                    refine goes_ Tryz.func64 (by kernel_rfl) rfl #[.pointer (some ⟨g, 0, none⟩), .int .i64 t4] (by rfl) rfl rfl (by simp only [mA_, List.map_cons, List.map_nil]; rfl) ?_
                    with_reducible refine (spec_l12Rd_pick.calls (kj2) g s0_0 p2 t4 a2 p3 w0 _ hT1.st hT1.bel C2.out).mono ?_
                    rintro e v2 ⟨rfl, q1, q2, q3⟩
                    refine ⟨_, rfl, ?_⟩
                    have hR2 := aM_ (R_st tu48 hR1.out hT1.st (by decide) q3)
                    have hS2 := aM_ (R_st tu62 hS1.out hT1.st (by decide) q3)
                    have hT2 := hT1.call q1 q2 q3
                    clear q1 q2 q3 hR1 hS1 hT1
                    refine hK.out _ _ ((kC_ hT2.h3 1).trans rfl) (fun hHeld => ?_)
                    clear hK K
                    refine norm_ (a' := ?_) ?_ ?_
                    rotate_left
                    · show Act.put _ (some 72) _ = _
                      simp only [Act.put, sA_, sB_, sC_, i64_w, i32_w]
                      rfl
                    refine pure_ (i := 10) (N := some 73) (v := ?_) (a' := ?_) #[T_, T_, T_, T_, T_, T_, T_, T_, T_, T_, T_, F_, F_, F_, F_] rfl rfl (by kernel_rfl) (fun _ _ _ h => h) (Or.inl ⟨by rfl, ?_⟩) ?_ ?_
                    rotate_left
                    · intro w'
                      go_simp
                      with_reducible rfl
                    rotate_left
                    · simp only [Act.put, sA_, sB_, sC_, i64_w, i32_w]
                      rfl
                    refine one_ (i := 11) (N := some 74) #[T_, T_, T_, T_, T_, T_, T_, T_, T_, T_, T_, T_, F_, F_, F_] rfl rfl (by kernel_rfl) (by decide) (fun K hK => ?_)
                    refine value_ (w1 := ?_) (v := ?_) (by rfl) rfl ?_ ?_
                    rotate_left 2
                    · go_simp
                      constructor
                      · rfl
                      · rfl
                    refine hK.out _ _ ((kC_ (hT2.alloc _).h3 1).trans rfl) (fun hHeld => ?_)
                    clear hK K
                    refine norm_ (a' := ?_) ?_ ?_
                    rotate_left
                    · show Act.put _ (some 74) _ = _
                      simp only [Act.put, sA_, sB_, sC_, i64_w, i32_w]
                      rfl
                    refine one_ (i := 12) (N := some 75) #[T_, T_, T_, T_, T_, T_, T_, T_, T_, T_, T_, T_, T_, F_, F_] rfl rfl (by kernel_rfl) (by decide) (fun K hK => ?_)
                    refine Kd.R_append_step k66 w.heap.size (by rfl) (.tmp 64) (.tmp 74) 29 66 (.agg #[(.int .i64 0), (.int .i64 0), (.int .i64 0)]) 24 rfl Tryz.underlying29 info66 rfl (by decide) (by omega) (.slice A2 ys.length cA2) ys (⟨⟨wrap64 (2 + a1), i⟩, a2⟩ : S66) [.int .i64 (wrap64 (2 + a1)), .int .i64 i, .int .i64 a2] (fun _ => True) (fun _ => False) rfl rfl ?aP (fun _ hk => hk.elim) ?aF ?aO (Below.refl _ _) ?aS ?aL ?_
                    (case aP => exact k66_mkM _ _ _ (⟨⟨wrap64 (2 + a1), i⟩, a2⟩ : S66))
                    (case aF => exact (fun _ _ => trivial))
                    (case aO => exact hS2.out)
                    (case aS => exact hT2.kp.1)
                    (case aL => have := HL.out; omega)
                    intro v294 v3 ho hb hg hat
                    rw [HZS.out] at ho
                    have hT3 := hT2.grown hS2.out (by decide) (by decide) (Nat.le_refl _) hg
                    have hR3 := aM_ (Kd.R_over' hR2.out (Kd.R_typed hS2.out) (by decide) hg)
                    have HO := aM_ ho
                    clear ho hb hg hat hT2 hR2 hS2
                    obtain ⟨Ao, co, eo⟩ := Kd.R_slice HO.out
                    subst eo
                    refine hK.out _ _ ((kC_ hT3.h3 1).trans rfl) (fun hHeld => ?_)
                    clear hK K
                    refine norm_ (a' := ?_) ?_ ?_
                    rotate_left
                    · show Act.put _ (some 75) _ = _
                      simp only [Act.put, sA_, sB_, sC_, i64_w, i32_w]
                      rfl
                    refine pure_ (i := 13) (N := some 76) (v := ?_) (a' := ?_) #[T_, T_, T_, T_, T_, T_, T_, T_, T_, T_, T_, T_, T_, T_, F_] rfl rfl (by kernel_rfl) (fun _ _ _ h => h) (Or.inl ⟨by rfl, ?_⟩) ?_ ?_
                    rotate_left
                    · intro w'
                      go_simp
                      with_reducible rfl
                    rotate_left
                    · simp only [Act.put, sA_, sB_, sC_, i64_w, i32_w]
                      rfl
                    refine last_ (i := 14) (N := none) #[T_, T_, T_, T_, T_, T_, T_, T_, T_, T_, T_, T_, T_, T_, T_] rfl rfl (by kernel_rfl) (by decide) (fun K hK => ?_)
                    have k1 : v3.cell? ⟨g3, 1, none⟩ = some (.slice A2 ys.length cA2) := (kC_ hT3.h3 1).trans rfl
                    have q1 := blk_frozen hT3.h3 1
                    refine skip_ (w1 := ?_) (by rfl) rfl ?_ ?_
                    rotate_left
                    · go_simp
                      rfl
                    refine hK.out _ _ ?_
                    clear hK K
                    refine done_ (by kernel_rfl) ?_
                    go_wp2
                    go_roundg kj2
                    case measure => have := HK2.out; omega
                    case rel => exact ⟨_, _, zs, _, rfl, H', ⟨by have := HK2.out; omega⟩, hT3.put1 _, ⟨Kd.R_mono (tu_put tu48 hR3.out hT3.h3 (by decide) 1 _) (fun _ _ => trivial)⟩, ⟨Kd.R_mono (tu_put tu62 HO.out hT3.h3 (by decide) 1 _) (fun _ _ => trivial)⟩⟩
                  · rw [if_neg hyl] at H
                    exact absurd H (by simp)
                · rw [dF_ h2, if_neg (by decide)] at H
                  have d2 : decide (t4 > 0) = false := dF_ h2
                  have d2' : decide (0 < t4) = false := dF_ h2
                  clear h2
                  simp only [Option.some.injEq, Prod.mk.injEq] at H
                  obtain ⟨rfl, rfl, rfl⟩ := H
                  obtain ⟨Au, cu, hu⟩ := Kd.R_slice hR.out
                  subst hu
                  obtain ⟨Av, cv, hv⟩ := Kd.R_slice hS.out
                  subst hv
                  have hR' := aM_ (tu_put tu48 (tu_put tu48 hR.out hT.h2 (by decide) 0 (.slice Au xs.length cu)) (kP_ hT.h2 0 (.slice Au xs.length cu) rfl) (by decide) 1 (.slice Av ys.length cv))
                  have hS' := aM_ (tu_put tu62 (tu_put tu62 hS.out hT.h2 (by decide) 0 (.slice Au xs.length cu)) (kP_ hT.h2 0 (.slice Au xs.length cu) rfl) (by decide) 1 (.slice Av ys.length cv))
                  have g2g : g < g2 := by have := hT.gl; have := hT.b2; omega
                  have hI' := aM_ (st_set (st_set hT.st g2g 0 (.slice Au xs.length cu)) g2g 1 (.slice Av ys.length cv))
                  have hK' := aM_ (kp_set (kp_set hT.kp hT.b2 0 (.slice Au xs.length cu)) hT.b2 1 (.slice Av ys.length cv))
                  have hB' : Aside0 (Below w0.heap.size w0 ((wr.setCell ⟨g2, 0, none⟩ (.slice Au xs.length cu)).setCell ⟨g2, 1, none⟩ (.slice Av ys.length cv))) := ⟨below_set (bS_ hT.bel (by have := hT.sz; have := hT.b2; omega)) (by have := hT.sz; have := hT.b2; omega)⟩
                  have hZ2 := aM_ (kP_ (cs := #[.slice Au xs.length cu, .slice none 0 0]) (kP_ (cs := #[.slice none 0 0, .slice none 0 0]) hT.h2 0 (.slice Au xs.length cu) rfl) 1 (.slice Av ys.length cv) rfl)
                  (obtain ⟨k0, k1⟩ := cells2 hT.h3)
                  have z0 := (kC_ hT.h2 0).trans rfl
                  have z1 := (kC_ hT.h2 1).trans rfl
                  (obtain ⟨q0, q1⟩ := frozen2 hT.h2)
                  clear hT hR hS g2g
                  go_wp2
                  refine bodyPost_ret (results_cell_row rfl _ _ g2 31 #[.slice Au xs.length cu, .slice Av ys.length cv] (0, 0) _ rfl hZ2.out Tryz.underlying31 rfl (by kernel_rfl)) rfl ?_
                  exact ⟨_, _, rfl, hR'.out, hS'.out, hI'.out, hB'.out, hK'.out⟩
              · rw [if_neg h1, if_neg (by decide)] at H
                have d1 : decide (i > 0) = false := dF_ h1
                have d1' : decide (0 < i) = false := dF_ h1
                clear h1
                simp only [Option.some.injEq, Prod.mk.injEq] at H
                obtain ⟨rfl, rfl, rfl⟩ := H
                obtain ⟨Au, cu, hu⟩ := Kd.R_slice hR.out
                subst hu
                obtain ⟨Av, cv, hv⟩ := Kd.R_slice hS.out
                subst hv
                have hR' := aM_ (tu_put tu48 (tu_put tu48 hR.out hT.h2 (by decide) 0 (.slice Au xs.length cu)) (kP_ hT.h2 0 (.slice Au xs.length cu) rfl) (by decide) 1 (.slice Av ys.length cv))
                have hS' := aM_ (tu_put tu62 (tu_put tu62 hS.out hT.h2 (by decide) 0 (.slice Au xs.length cu)) (kP_ hT.h2 0 (.slice Au xs.length cu) rfl) (by decide) 1 (.slice Av ys.length cv))
                have g2g : g < g2 := by have := hT.gl; have := hT.b2; omega
                have hI' := aM_ (st_set (st_set hT.st g2g 0 (.slice Au xs.length cu)) g2g 1 (.slice Av ys.length cv))
                have hK' := aM_ (kp_set (kp_set hT.kp hT.b2 0 (.slice Au xs.length cu)) hT.b2 1 (.slice Av ys.length cv))
                have hB' : Aside0 (Below w0.heap.size w0 ((wr.setCell ⟨g2, 0, none⟩ (.slice Au xs.length cu)).setCell ⟨g2, 1, none⟩ (.slice Av ys.length cv))) := ⟨below_set (bS_ hT.bel (by have := hT.sz; have := hT.b2; omega)) (by have := hT.sz; have := hT.b2; omega)⟩
                have hZ2 := aM_ (kP_ (cs := #[.slice Au xs.length cu, .slice none 0 0]) (kP_ (cs := #[.slice none 0 0, .slice none 0 0]) hT.h2 0 (.slice Au xs.length cu) rfl) 1 (.slice Av ys.length cv) rfl)
                (obtain ⟨k0, k1⟩ := cells2 hT.h3)
                have z0 := (kC_ hT.h2 0).trans rfl
                have z1 := (kC_ hT.h2 1).trans rfl
                (obtain ⟨q0, q1⟩ := frozen2 hT.h2)
                clear hT hR hS g2g
                go_wp2
                refine bodyPost_ret (results_cell_row rfl _ _ g2 31 #[.slice Au xs.length cu, .slice Av ys.length cv] (0, 0) _ rfl hZ2.out Tryz.underlying31 rfl (by kernel_rfl)) rfl ?_
                exact ⟨_, _, rfl, hR'.out, hS'.out, hI'.out, hB'.out, hK'.out⟩
end Go.Proofs.YtphblfmjdiigkaaGreatDoor.HFnNetSame
