/- The walk of the law FnExactExprAlike: it returns true for every two trees. No condition. -/
import Derived.Test.YtcigooccnlbkjaaHe2
import Derived.Test.YtcigooccnlbkjaaHe3
import Derived.Test.YtcigooccnlbkjaaHe4
namespace Go.Proofs.Ytcigooccnlbkjaa.He6
open Go.RowKit Go.Proofs.Ytcigooccnlbkjaa.He1 Go.Proofs.Ytcigooccnlbkjaa.He2 Go.Proofs.Ytcigooccnlbkjaa.He3 Go.Proofs.Ytcigooccnlbkjaa.He4 Go.Proofs.Ytcigooccnlbkjaa.PFnExactStmtsSame Go.Proofs.YtcigooccnlbkjaaW.PrintWords Go.Proofs.YtcigooccnlbkjaaW.PrintLast Go.Proofs.YtcigooccnlbkjaaW.PrintMore
set_option linter.unusedVariables false
set_option linter.unusedSimpArgs false
attribute [local go_sem] max2_int min2_int max_two min_two
theorem lenFs_mem : ∀ (l : List S55) (x : S55), lenFs l → x ∈ l → lenF x
  | y :: ys, x, h, hm => by
    rw [lenFs] at h
    rcases List.mem_cons.1 hm with rfl | hm
    · exact h.1
    · exact lenFs_mem ys x h.2 hm
theorem lenF_eq (x : S55) : lenF x ↔ x.f3.length ≤ 9223372036854775807 ∧ lenFs x.f3 := by cases x; rw [lenF]
mutual
theorem lenF_cv : ∀ x : S49, okE x → lenF (cvE x)
  | ⟨a, b, c, l⟩, h => by
    rw [okE] at h
    rw [cvE, lenF]
    exact ⟨by rw [cvEs_len]; omega, lenFs_cv l h.2⟩
theorem lenFs_cv : ∀ l : List S49, okEs l → lenFs (cvEs l)
  | [], h => by rw [cvEs, lenFs]; trivial
  | x :: xs, h => by
    rw [okEs] at h
    rw [cvEs, lenFs]
    exact ⟨lenF_cv x h.1, lenFs_cv xs h.2⟩
end
theorem spec_l0 (l m : List S55) (a b c d a' b' c' d' : Int) (hl : l.length = m.length) (hm : l.length ≤ 9223372036854775807)
    (IH : ∀ x y : S55, x ∈ l → ∃ k0, ∀ k, k0 ≤ k → spec_ExprAlike.f k x.f0 x.f1 x.f2.f0 x.f2.f1 x.f3 y.f0 y.f1 y.f2.f0 y.f2.f1 y.f3 = some (alk x y)) :
    ∀ (e i : Nat), i + e = l.length → ∃ k0, ∀ k, k0 ≤ k → spec_ExprAlike.l0 k (i : Int) a b c d l a' b' c' d' m = some (alks (l.drop i) (m.drop i))
  | 0, i, hi => ⟨1, fun k hk => by
    obtain ⟨k, rfl⟩ : ∃ q, k = q + 1 := ⟨k - 1, by omega⟩
    obtain rfl : i = l.length := by omega
    rw [spec_ExprAlike.l0, if_neg (by omega), alks_end l m hl]⟩
  | e + 1, i, hi => by
    have h1 : i < l.length := by omega
    have h2 : i < m.length := by omega
    obtain ⟨k1, hk1⟩ := spec_l0 l m a b c d a' b' c' d' hl hm IH e (i + 1) (by omega)
    obtain ⟨k2, hk2⟩ := IH l[i] m[i] (List.getElem_mem h1)
    refine ⟨max k1 k2 + 1, fun k hk => ?_⟩
    obtain ⟨k, rfl⟩ : ∃ q, k = q + 1 := ⟨k - 1, by omega⟩
    rw [spec_ExprAlike.l0, if_pos (by omega), if_pos (by omega), if_pos (by omega), rd55 l i h1, rd55 m i h2, hk2 k (by omega)]
    simp only [Option.bind_some]
    rw [alks_drop l m i h1 h2, wrap_id (by omega) (by omega)]
    have h3 := hk1 k (by omega)
    rw [show ((i + 1 : Nat) : Int) = (i : Int) + 1 from rfl] at h3
    rw [h3]
    cases alk l[i] m[i] <;> simp
theorem specA : ∀ (n : Nat) (x y : S55), dF x < n → lenF x → ∃ k0, ∀ k, k0 ≤ k → spec_ExprAlike.f k x.f0 x.f1 x.f2.f0 x.f2.f1 x.f3 y.f0 y.f1 y.f2.f0 y.f2.f1 y.f3 = some (alk x y)
  | 0, x, y, h, _ => absurd h (by omega)
  | n + 1, x, y, hd, hln => by
    have hx := dF_eq x
    obtain ⟨hl1, hl2⟩ := (lenF_eq x).1 hln
    have j0 : ∀ k a b c d l a' b' c' d' m, spec_ExprAlike.j0 (k + 1) true a b c d l a' b' c' d' m = some false := by
      intros; rw [spec_ExprAlike.j0, if_pos rfl]
    rw [alk_eq]
    by_cases h0 : x.f0 = y.f0
    · by_cases h1 : x.f1 = y.f1
      · cases h2 : (x.f2.f0 == y.f2.f0 && x.f2.f1 == y.f2.f1) with
        | false =>
          have h2' : (!(x.f2.f0 == y.f2.f0) || !(x.f2.f1 == y.f2.f1)) = true := by rw [← Bool.not_and, h2]; rfl
          refine ⟨2, fun k hk => ?_⟩
          obtain ⟨k, rfl⟩ : ∃ q, k = q + 2 := ⟨k - 2, by omega⟩
          rw [spec_ExprAlike.f, if_pos h0, if_pos h1, if_pos h2', j0]
          simp
        | true =>
          have h2' : ¬ (!(x.f2.f0 == y.f2.f0) || !(x.f2.f1 == y.f2.f1)) = true := by rw [← Bool.not_and, h2]; simp
          by_cases hl : x.f3.length = y.f3.length
          · obtain ⟨k0, hk0⟩ := spec_l0 x.f3 y.f3 x.f0 x.f1 x.f2.f0 x.f2.f1 y.f0 y.f1 y.f2.f0 y.f2.f1 hl hl1 (fun a b ha => specA n a b (by have := dFs_mem _ _ ha; omega) (lenFs_mem _ _ hl2 ha)) x.f3.length 0 (by omega)
            refine ⟨k0 + 2, fun k hk => ?_⟩
            obtain ⟨k, rfl⟩ : ∃ q, k = q + 2 := ⟨k - 2, by omega⟩
            have hf : ((x.f3.length : Int) != (y.f3.length : Int)) = false := by simp; omega
            rw [spec_ExprAlike.f, if_pos h0, if_pos h1, if_neg h2', hf, spec_ExprAlike.j0, if_neg (by simp)]
            have := hk0 k (by omega)
            rw [show ((0 : Nat) : Int) = 0 from rfl, List.drop_zero, List.drop_zero] at this
            rw [this]
            simp [h0, h1]
          · refine ⟨2, fun k hk => ?_⟩
            obtain ⟨k, rfl⟩ : ∃ q, k = q + 2 := ⟨k - 2, by omega⟩
            have hf : ((x.f3.length : Int) != (y.f3.length : Int)) = true := by simp; omega
            rw [spec_ExprAlike.f, if_pos h0, if_pos h1, if_neg h2', hf, j0, alks_len _ _ hl]
            simp
      · refine ⟨2, fun k hk => ?_⟩
        obtain ⟨k, rfl⟩ : ∃ q, k = q + 2 := ⟨k - 2, by omega⟩
        rw [spec_ExprAlike.f, if_pos h0, if_neg h1, j0, show (x.f1 == y.f1) = false by simpa using h1]
        simp
    · refine ⟨2, fun k hk => ?_⟩
      obtain ⟨k, rfl⟩ : ∃ q, k = q + 2 := ⟨k - 2, by omega⟩
      rw [spec_ExprAlike.f, if_neg h0, j0, show (x.f0 == y.f0) = false by simpa using h0]
      simp
structure E2 (w : World) (g1 g2 : Nat) (X Y : Array Value) (W : World) : Prop where
  h1 : W.heap[g1]? = some (.cells X 49 (0, 0))
  h2 : W.heap[g2]? = some (.cells Y 49 (0, 0))
  bel : Below w.heap.size w W
theorem E2.below {w W W' : World} {g1 g2 : Nat} {X Y : Array Value} (h : E2 w g1 g2 X Y W) (k : Below W.heap.size W W') : E2 w g1 g2 X Y W' := ⟨blk_below h.h1 k, blk_below h.h2 k, h.bel.trans (k.mono h.bel.size)⟩
theorem E2.two (w : World) (X Y : Array Value) : E2 w w.heap.size (w.heap.size + 1) X Y ((w.alloc (.cells X 49)).alloc (.cells Y 49)) := by
  have e1 : (w.alloc (.cells X 49)).heap.size = w.heap.size + 1 := Array.size_push ..
  refine ⟨blk_alloc (heap_alloc_new _ _) _, ?_, ((Below.refl _ _).alloc (Nat.le_refl _) _).alloc (by rw [e1]; omega) _⟩
  have h := heap_alloc_new (w.alloc (.cells X 49)) (.cells Y 49)
  rw [e1] at h
  exact h
structure E5 (w : World) (g1 g2 g3 g4 : Nat) (X Y : Array Value) (u v : S55) (P3 P4 : Option Addr) (p3 p4 : Nat) (W : World) : Prop where
  e : E2 w g1 g2 X Y W
  q3 : W.heap[g3]? = some (.cells #[.int .i64 u.f0, .int .i64 u.f1, .int .i64 u.f2.f0, .int .i64 u.f2.f1, .slice P3 u.f3.length p3] 55 (0, 0))
  q4 : W.heap[g4]? = some (.cells #[.int .i64 v.f0, .int .i64 v.f1, .int .i64 v.f2.f0, .int .i64 v.f2.f1, .slice P4 v.f3.length p4] 55 (0, 0))
  l3 : u.f3.length ≤ p3
  l4 : v.f3.length ≤ p4
  c3 : Kd.C k55 W P3 u.f3.length u.f3
  c4 : Kd.C k55 W P4 v.f3.length v.f3
theorem E5.below {w W W' : World} {g1 g2 g3 g4 : Nat} {X Y : Array Value} {u v : S55} {P3 P4 : Option Addr} {p3 p4 : Nat} (h : E5 w g1 g2 g3 g4 X Y u v P3 P4 p3 p4 W) (k : Below W.heap.size W W') : E5 w g1 g2 g3 g4 X Y u v P3 P4 p3 p4 W' := ⟨h.e.below k, blk_below h.q3 k, blk_below h.q4 k, h.l3, h.l4, Kd.C_below h.c3 k, Kd.C_below h.c4 k⟩
theorem toX (x : S49) (u : S55) (hu : cvE x = u) (ho : okE x) (A : Option Addr) (c : Nat) (w : World) (hc : x.f3.length ≤ c) (hC : Kd.C k49 w A x.f3.length x.f3) (W : World) (hb : Below w.heap.size w W) :
    Calls Try.prog 27 #[.agg #[.int .i64 x.f0, .int .i64 x.f1, .int .i64 x.f2.f0, .int .i64 x.f2.f1, .slice A x.f3.length c]] W fun e w' => ∃ P p, e = .returned (.agg #[.int .i64 u.f0, .int .i64 u.f1, .int .i64 u.f2.f0, .int .i64 u.f2.f1, .slice P u.f3.length p]) ∧ u.f3.length ≤ p ∧ Kd.C k55 w' P u.f3.length u.f3 ∧ Below W.heap.size W w' := by
  refine (te_all (dE x + 1) x A c W (by omega) ho hc (Kd.C_below hC hb)).mono ?_
  rintro e w' ⟨v, rfl, hR, hb'⟩
  obtain ⟨P, p, rfl, hl, hC'⟩ := Kd.R_reads hR
  rw [cvE_eq] at hu
  subst hu
  exact ⟨P, p, rfl, hl, hC', hb'⟩
set_option maxRecDepth 100000 in
set_option maxHeartbeats 12800000 in
theorem walk (x y : S49) (A B : Option Addr) (c d : Nat) (w : World) (hc : x.f3.length ≤ c) (hd : y.f3.length ≤ d) (hC : Kd.C k49 w A x.f3.length x.f3) (hD : Kd.C k49 w B y.f3.length y.f3) :
    Calls Try.prog 8 #[.agg #[.int .i64 x.f0, .int .i64 x.f1, .int .i64 x.f2.f0, .int .i64 x.f2.f1, .slice A x.f3.length c], .agg #[.int .i64 y.f0, .int .i64 y.f1, .int .i64 y.f2.f0, .int .i64 y.f2.f1, .slice B y.f3.length d]] w fun e w' => e = .returned (.bool true) ∧ Below w.heap.size w w' := by
  have hE := E2.two w #[.int .i64 x.f0, .int .i64 x.f1, .int .i64 x.f2.f0, .int .i64 x.f2.f1, .slice A x.f3.length c] #[.int .i64 y.f0, .int .i64 y.f1, .int .i64 y.f2.f0, .int .i64 y.f2.f1, .slice B y.f3.length d]
  have sx := fun W (h : Below w.heap.size w W) => szE_any x 1048576 A c W (by omega) (by omega) hc (Kd.C_below hC h)
  have rx := szE_rng x 1048576 (by omega)
  have ox := okE_of x 1048576 (by omega) (by omega)
  have hu49 := Try.underlying49
  have hu46 := Try.underlying46
  have hu55 := Try.underlying55
  have hu52 := Try.underlying52
  go_enter Try.func8, Try.ntmps8
  go_upto_region 2 with (fail)
  generalize (w.alloc (Obj.cells _ 49)).alloc (Obj.cells _ 49) = w2 at hE ⊢
  obtain ⟨g1, hg1⟩ : ∃ g, w.heap.size = g := ⟨_, rfl⟩
  obtain ⟨g2, hg2⟩ : ∃ g, g1 + 1 = g := ⟨_, rfl⟩
  rw [hg1, hg2] at hE ⊢
  clear hg1 hg2
  generalize szE x 1048576 = r1 at sx rx ox
  by_cases n1 : r1 < 0
  · have t1 : decide (r1 < 0) = true := decide_eq_true n1
    have hB := hE.bel
    clear n1 rx ox
    have i0 : w2.cell? ⟨g1, 0, none⟩ = some (.int .i64 x.f0) := (blk_cell hE.h1 0).trans rfl
    have i1 : w2.cell? ⟨g1, 1, none⟩ = some (.int .i64 x.f1) := (blk_cell hE.h1 1).trans rfl
    have i2 : w2.cell? ⟨g1, 2, none⟩ = some (.int .i64 x.f2.f0) := (blk_cell hE.h1 2).trans rfl
    have i3 : w2.cell? ⟨g1, 3, none⟩ = some (.int .i64 x.f2.f1) := (blk_cell hE.h1 3).trans rfl
    have i4 : w2.cell? ⟨g1, 4, none⟩ = some (.slice A x.f3.length c) := (blk_cell hE.h1 4).trans rfl
    go_wp2_with fail
    refine (sx _ hB).mono ?_
    rintro e w3 ⟨rfl, hb⟩
    clear i0 i1 i2 i3 i4 sx
    go_wp2
    go_ret
    exact ⟨rfl, hB.trans (hb.mono hB.size)⟩
  have hr1 : 0 ≤ r1 ∧ r1 ≤ 1048576 := by omega
  replace ox := ox (by omega)
  have t1 : decide (r1 < 0) = false := decide_eq_false n1
  have sy := fun W (h : Below w.heap.size w W) => szE_any y r1 B d W hr1.1 hr1.2 hd (Kd.C_below hD h)
  have ry := szE_rng y r1 hr1.1
  have oy := okE_of y r1 hr1.1 hr1.2
  generalize szE y r1 = r2 at sy ry oy
  by_cases n2 : r2 < 0
  · have t2 : decide (r2 < 0) = true := decide_eq_true n2
    have hB := hE.bel
    clear n1 rx ox ry oy n2 hr1
    have i0 : w2.cell? ⟨g1, 0, none⟩ = some (.int .i64 x.f0) := (blk_cell hE.h1 0).trans rfl
    have i1 : w2.cell? ⟨g1, 1, none⟩ = some (.int .i64 x.f1) := (blk_cell hE.h1 1).trans rfl
    have i2 : w2.cell? ⟨g1, 2, none⟩ = some (.int .i64 x.f2.f0) := (blk_cell hE.h1 2).trans rfl
    have i3 : w2.cell? ⟨g1, 3, none⟩ = some (.int .i64 x.f2.f1) := (blk_cell hE.h1 3).trans rfl
    have i4 : w2.cell? ⟨g1, 4, none⟩ = some (.slice A x.f3.length c) := (blk_cell hE.h1 4).trans rfl
    go_wp2_with fail
    refine (sx _ hB).mono ?_
    rintro e w3 ⟨rfl, hb⟩
    replace hE := hE.below hb
    have hB := hE.bel
    clear i0 i1 i2 i3 i4 sx
    have i0 : w3.cell? ⟨g2, 0, none⟩ = some (.int .i64 y.f0) := (blk_cell hE.h2 0).trans rfl
    have i1 : w3.cell? ⟨g2, 1, none⟩ = some (.int .i64 y.f1) := (blk_cell hE.h2 1).trans rfl
    have i2 : w3.cell? ⟨g2, 2, none⟩ = some (.int .i64 y.f2.f0) := (blk_cell hE.h2 2).trans rfl
    have i3 : w3.cell? ⟨g2, 3, none⟩ = some (.int .i64 y.f2.f1) := (blk_cell hE.h2 3).trans rfl
    have i4 : w3.cell? ⟨g2, 4, none⟩ = some (.slice B y.f3.length d) := (blk_cell hE.h2 4).trans rfl
    go_wp2_with fail
    refine (sy _ hB).mono ?_
    rintro e w4 ⟨rfl, hb⟩
    clear i0 i1 i2 i3 i4 sy
    go_wp2
    go_ret
    exact ⟨rfl, hB.trans (hb.mono hB.size)⟩
  · have t2 : decide (r2 < 0) = false := decide_eq_false n2
    replace oy := oy (by omega)
    have hB := hE.bel
    obtain ⟨u, hu⟩ : ∃ u, cvE x = u := ⟨_, rfl⟩
    obtain ⟨v, hv⟩ : ∃ v, cvE y = v := ⟨_, rfl⟩
    have tx := toX x u hu ox A c w hc hC
    have ty := toX y v hv oy B d w hd hD
    obtain ⟨k0, hk0⟩ := specA (dF u + 1) u v (by omega) (hu ▸ lenF_cv x ox)
    have sp := fun P1 P2 p1 p2 W h1 h2 h3 h4 => spec_ExprAlike.calls k0 u.f0 u.f1 u.f2.f0 u.f2.f1 P1 p1 u.f3 v.f0 v.f1 v.f2.f0 v.f2.f1 P2 p2 v.f3 (alk u v) W h3 h1 h4 h2 (hk0 k0 (Nat.le_refl _))
    have ip := fun P1 P2 p1 p2 W h1 h2 h3 h4 => alk_any u v P1 P2 p1 p2 W h1 h2 h3 h4
    have equ := fun P1 P2 p1 p2 W h1 h2 h3 h4 => eq_any u P1 P2 p1 p2 W h1 h2 h3 h4
    have eqv := fun P1 P2 p1 p2 W h1 h2 h3 h4 => eq_any v P1 P2 p1 p2 W h1 h2 h3 h4
    generalize alk u v = r at sp ip
    have dne : (r != r) = false := by simp
    clear n1 rx ox ry oy n2 hr1 hk0 hu hv
    have i0 : w2.cell? ⟨g1, 0, none⟩ = some (.int .i64 x.f0) := (blk_cell hE.h1 0).trans rfl
    have i1 : w2.cell? ⟨g1, 1, none⟩ = some (.int .i64 x.f1) := (blk_cell hE.h1 1).trans rfl
    have i2 : w2.cell? ⟨g1, 2, none⟩ = some (.int .i64 x.f2.f0) := (blk_cell hE.h1 2).trans rfl
    have i3 : w2.cell? ⟨g1, 3, none⟩ = some (.int .i64 x.f2.f1) := (blk_cell hE.h1 3).trans rfl
    have i4 : w2.cell? ⟨g1, 4, none⟩ = some (.slice A x.f3.length c) := (blk_cell hE.h1 4).trans rfl
    go_wp2_with fail
    refine (sx _ hB).mono ?_
    rintro e w3 ⟨rfl, hb⟩
    replace hE := hE.below hb
    have hB := hE.bel
    clear i0 i1 i2 i3 i4 sx
    have i0 : w3.cell? ⟨g2, 0, none⟩ = some (.int .i64 y.f0) := (blk_cell hE.h2 0).trans rfl
    have i1 : w3.cell? ⟨g2, 1, none⟩ = some (.int .i64 y.f1) := (blk_cell hE.h2 1).trans rfl
    have i2 : w3.cell? ⟨g2, 2, none⟩ = some (.int .i64 y.f2.f0) := (blk_cell hE.h2 2).trans rfl
    have i3 : w3.cell? ⟨g2, 3, none⟩ = some (.int .i64 y.f2.f1) := (blk_cell hE.h2 3).trans rfl
    have i4 : w3.cell? ⟨g2, 4, none⟩ = some (.slice B y.f3.length d) := (blk_cell hE.h2 4).trans rfl
    go_wp2_with fail
    refine (sy _ hB).mono ?_
    rintro e w4 ⟨rfl, hb⟩
    replace hE := hE.below hb
    clear i0 i1 i2 i3 i4 sy hB
    go_upto_region 8 with (fail)
    have hE_ : E2 w g1 g2 #[.int .i64 x.f0, .int .i64 x.f1, .int .i64 x.f2.f0, .int .i64 x.f2.f1, .slice A x.f3.length c] #[.int .i64 y.f0, .int .i64 y.f1, .int .i64 y.f2.f0, .int .i64 y.f2.f1, .slice B y.f3.length d] w4.drew := hE.below (below_drew1 (Below.refl _ _))
    clear hE
    have hE := hE_
    clear hE_
    refine start_ (n := 6) (S := fun w' => w'.cell? ⟨g1, 0, none⟩ = some (.int .i64 x.f0) ∧ w'.cell? ⟨g1, 1, none⟩ = some (.int .i64 x.f1) ∧ w'.cell? ⟨g1, 2, none⟩ = some (.int .i64 x.f2.f0) ∧ w'.cell? ⟨g1, 3, none⟩ = some (.int .i64 x.f2.f1) ∧ w'.cell? ⟨g1, 4, none⟩ = some (.slice A x.f3.length c) ∧ w'.cell? ⟨g2, 0, none⟩ = some (.int .i64 y.f0) ∧ w'.cell? ⟨g2, 1, none⟩ = some (.int .i64 y.f1) ∧ w'.cell? ⟨g2, 2, none⟩ = some (.int .i64 y.f2.f0) ∧ w'.cell? ⟨g2, 3, none⟩ = some (.int .i64 y.f2.f1) ∧ w'.cell? ⟨g2, 4, none⟩ = some (.slice B y.f3.length d) ∧ E2 w g1 g2 #[.int .i64 x.f0, .int .i64 x.f1, .int .i64 x.f2.f0, .int .i64 x.f2.f1, .slice A x.f3.length c] #[.int .i64 y.f0, .int .i64 y.f1, .int .i64 y.f2.f0, .int .i64 y.f2.f1, .slice B y.f3.length d] w') (ds := []) #[false, false, false, false, false, false] (by kernel_rfl) rfl rfl ⟨(blk_cell hE.h1 0).trans rfl, (blk_cell hE.h1 1).trans rfl, (blk_cell hE.h1 2).trans rfl, (blk_cell hE.h1 3).trans rfl, (blk_cell hE.h1 4).trans rfl, (blk_cell hE.h2 0).trans rfl, (blk_cell hE.h2 1).trans rfl, (blk_cell hE.h2 2).trans rfl, (blk_cell hE.h2 3).trans rfl, (blk_cell hE.h2 4).trans rfl, hE⟩ (fun hHeld => ?_)
    refine take_ (i := 0) (N := some 20) (v := ?_) (a' := ?_) #[true, false, false, false, false, false] rfl rfl (by kernel_rfl) (fun _ _ _ h => h) (Or.inl ⟨by rfl, ?_⟩) hHeld ?_ ?_
    rotate_left
    · rintro w' ⟨s0, s1, s2, s3, s4, s5, s6, s7, s8, s9, s10⟩
      go_simp
      with_reducible rfl
    rotate_left
    · simp only [Act.put, List.setIfInBounds_toArray, List.set_cons_zero, List.set_cons_succ, i64_w, i32_w]
      rfl
    refine take_ (i := 2) (N := some 22) (v := ?_) (a' := ?_) #[true, false, true, false, false, false] rfl rfl (by kernel_rfl) (fun _ _ _ h => h) (Or.inl ⟨by rfl, ?_⟩) hHeld ?_ ?_
    rotate_left
    · rintro w' ⟨s0, s1, s2, s3, s4, s5, s6, s7, s8, s9, s10⟩
      go_simp
      with_reducible rfl
    rotate_left
    · simp only [Act.put, List.setIfInBounds_toArray, List.set_cons_zero, List.set_cons_succ, i64_w, i32_w]
      rfl
    refine one_ (i := 1) (N := some 21) #[true, true, true, false, false, false] rfl rfl (by kernel_rfl) (by decide) (fun K hK => ?_)
    refine goes_ Try.func27 (by kernel_rfl) rfl #[.agg #[.int .i64 x.f0, .int .i64 x.f1, .int .i64 x.f2.f0, .int .i64 x.f2.f1, .slice A x.f3.length c]] (by rfl) rfl rfl (by simp only [List.map_toArray, List.map_cons, List.map_nil]; rfl) ?_
    with_reducible refine (tx _ hHeld.2.2.2.2.2.2.2.2.2.2.bel).mono ?_
    rintro e w3 ⟨P1, p1, rfl, hp1, hP1, hb1⟩
    refine ⟨_, rfl, ?_⟩
    have hb1E := E2.below hHeld.2.2.2.2.2.2.2.2.2.2 hb1
    refine hK.out _ _ ⟨(blk_cell hb1E.h1 0).trans rfl, (blk_cell hb1E.h1 1).trans rfl, (blk_cell hb1E.h1 2).trans rfl, (blk_cell hb1E.h1 3).trans rfl, (blk_cell hb1E.h1 4).trans rfl, (blk_cell hb1E.h2 0).trans rfl, (blk_cell hb1E.h2 1).trans rfl, (blk_cell hb1E.h2 2).trans rfl, (blk_cell hb1E.h2 3).trans rfl, (blk_cell hb1E.h2 4).trans rfl, hb1E⟩ (fun hHeld => ?_)
    clear hK K
    refine norm_ (a' := ?_) ?_ ?_
    rotate_left
    · show Act.put _ (some 21) _ = _
      simp only [Act.put, List.setIfInBounds_toArray, List.set_cons_zero, List.set_cons_succ, i64_w, i32_w]
      rfl
    refine one_ (i := 3) (N := some 23) #[true, true, true, true, false, false] rfl rfl (by kernel_rfl) (by decide) (fun K hK => ?_)
    refine goes_ Try.func27 (by kernel_rfl) rfl #[.agg #[.int .i64 y.f0, .int .i64 y.f1, .int .i64 y.f2.f0, .int .i64 y.f2.f1, .slice B y.f3.length d]] (by rfl) rfl rfl (by simp only [List.map_toArray, List.map_cons, List.map_nil]; rfl) ?_
    with_reducible refine (ty _ hb1E.bel).mono ?_
    rintro e w4 ⟨P2, p2, rfl, hp2, hP2, hb3⟩
    refine ⟨_, rfl, ?_⟩
    have hb3E := E2.below hb1E hb3
    have hP1' := Kd.C_below hP1 hb3
    refine hK.out _ _ ⟨(blk_cell hb3E.h1 0).trans rfl, (blk_cell hb3E.h1 1).trans rfl, (blk_cell hb3E.h1 2).trans rfl, (blk_cell hb3E.h1 3).trans rfl, (blk_cell hb3E.h1 4).trans rfl, (blk_cell hb3E.h2 0).trans rfl, (blk_cell hb3E.h2 1).trans rfl, (blk_cell hb3E.h2 2).trans rfl, (blk_cell hb3E.h2 3).trans rfl, (blk_cell hb3E.h2 4).trans rfl, hb3E⟩ (fun hHeld => ?_)
    clear hK K
    refine norm_ (a' := ?_) ?_ ?_
    rotate_left
    · show Act.put _ (some 23) _ = _
      simp only [Act.put, List.setIfInBounds_toArray, List.set_cons_zero, List.set_cons_succ, i64_w, i32_w]
      rfl
    refine one_ (i := 4) (N := some 24) #[true, true, true, true, true, false] rfl rfl (by kernel_rfl) (by decide) (fun K hK => ?_)
    refine goes_ Try.func26 (by kernel_rfl) rfl #[.agg #[.int .i64 u.f0, .int .i64 u.f1, .int .i64 u.f2.f0, .int .i64 u.f2.f1, .slice P1 u.f3.length p1], .agg #[.int .i64 v.f0, .int .i64 v.f1, .int .i64 v.f2.f0, .int .i64 v.f2.f1, .slice P2 v.f3.length p2]] (by rfl) rfl rfl (by simp only [List.map_toArray, List.map_cons, List.map_nil]; rfl) ?_
    with_reducible refine (sp _ _ _ _ _ hp1 hp2 hP1' hP2).mono ?_
    rintro e w5 ⟨rfl, hb4⟩
    refine ⟨_, rfl, ?_⟩
    have hb4E := E2.below hb3E hb4
    refine hK.out _ _ ⟨(blk_cell hb4E.h1 0).trans rfl, (blk_cell hb4E.h1 1).trans rfl, (blk_cell hb4E.h1 2).trans rfl, (blk_cell hb4E.h1 3).trans rfl, (blk_cell hb4E.h1 4).trans rfl, (blk_cell hb4E.h2 0).trans rfl, (blk_cell hb4E.h2 1).trans rfl, (blk_cell hb4E.h2 2).trans rfl, (blk_cell hb4E.h2 3).trans rfl, (blk_cell hb4E.h2 4).trans rfl, hb4E⟩ (fun hHeld => ?_)
    clear hK K
    refine norm_ (a' := ?_) ?_ ?_
    rotate_left
    · show Act.put _ (some 24) _ = _
      simp only [Act.put, List.setIfInBounds_toArray, List.set_cons_zero, List.set_cons_succ, i64_w, i32_w]
      rfl
    refine pure_ (i := 5) (N := some 6) (v := ?_) (a' := ?_) #[true, true, true, true, true, true] rfl rfl (by kernel_rfl) (fun _ _ _ h => h) (Or.inl ⟨by rfl, ?_⟩) ?_ ?_
    rotate_left
    · intro w'
      go_simp
      with_reducible rfl
    rotate_left
    · simp only [Act.put, List.setIfInBounds_toArray, List.set_cons_zero, List.set_cons_succ, i64_w, i32_w]
      rfl
    refine done_ (by kernel_rfl) ?_
    clear hE
    have hE := hHeld.2.2.2.2.2.2.2.2.2.2
    clear hHeld sp hP1' hP2 hP1 hp1 hp2 hb1E hb3E hb1 hb3
    generalize hw5 : w5 = W5 at hE ⊢
    clear hw5
    have hB := hE.bel
    have i0 : W5.cell? ⟨g1, 0, none⟩ = some (.int .i64 x.f0) := (blk_cell hE.h1 0).trans rfl
    have i1 : W5.cell? ⟨g1, 1, none⟩ = some (.int .i64 x.f1) := (blk_cell hE.h1 1).trans rfl
    have i2 : W5.cell? ⟨g1, 2, none⟩ = some (.int .i64 x.f2.f0) := (blk_cell hE.h1 2).trans rfl
    have i3 : W5.cell? ⟨g1, 3, none⟩ = some (.int .i64 x.f2.f1) := (blk_cell hE.h1 3).trans rfl
    have i4 : W5.cell? ⟨g1, 4, none⟩ = some (.slice A x.f3.length c) := (blk_cell hE.h1 4).trans rfl
    go_wp2_with fail
    refine (tx _ hB).mono ?_
    rintro e w6 ⟨P3, p3, rfl, l3, c3, hb⟩
    replace hE := hE.below hb
    clear i0 i1 i2 i3 i4 hB hb
    go_upto_region 10 with (fail)
    have q3 := heap_alloc_new w6 (.cells #[.int .i64 u.f0, .int .i64 u.f1, .int .i64 u.f2.f0, .int .i64 u.f2.f1, .slice P3 u.f3.length p3] 55)
    have hbq : Below w6.heap.size w6 (w6.alloc (.cells #[.int .i64 u.f0, .int .i64 u.f1, .int .i64 u.f2.f0, .int .i64 u.f2.f1, .slice P3 u.f3.length p3] 55)) := (Below.refl _ _).alloc (Nat.le_refl _) _
    replace hE := hE.below hbq
    replace c3 := Kd.C_below c3 hbq
    clear hbq
    generalize w6.alloc (Obj.cells _ 55) = w7 at hE c3 q3 ⊢
    obtain ⟨g3, hg3⟩ : ∃ g, w6.heap.size = g := ⟨_, rfl⟩
    rw [hg3] at q3 ⊢
    clear hg3
    have hB := hE.bel
    have i0 : w7.cell? ⟨g2, 0, none⟩ = some (.int .i64 y.f0) := (blk_cell hE.h2 0).trans rfl
    have i1 : w7.cell? ⟨g2, 1, none⟩ = some (.int .i64 y.f1) := (blk_cell hE.h2 1).trans rfl
    have i2 : w7.cell? ⟨g2, 2, none⟩ = some (.int .i64 y.f2.f0) := (blk_cell hE.h2 2).trans rfl
    have i3 : w7.cell? ⟨g2, 3, none⟩ = some (.int .i64 y.f2.f1) := (blk_cell hE.h2 3).trans rfl
    have i4 : w7.cell? ⟨g2, 4, none⟩ = some (.slice B y.f3.length d) := (blk_cell hE.h2 4).trans rfl
    go_wp2_with fail
    refine (ty _ hB).mono ?_
    rintro e w8 ⟨P4, p4, rfl, l4, c4, hb⟩
    replace hE := hE.below hb
    replace c3 := Kd.C_below c3 hb
    replace q3 := blk_below q3 hb
    clear i0 i1 i2 i3 i4 hB hb
    go_upto_region 11 with (fail)
    have q4 := heap_alloc_new w8 (.cells #[.int .i64 v.f0, .int .i64 v.f1, .int .i64 v.f2.f0, .int .i64 v.f2.f1, .slice P4 v.f3.length p4] 55)
    have hbq : Below w8.heap.size w8 (w8.alloc (.cells #[.int .i64 v.f0, .int .i64 v.f1, .int .i64 v.f2.f0, .int .i64 v.f2.f1, .slice P4 v.f3.length p4] 55)) := (Below.refl _ _).alloc (Nat.le_refl _) _
    replace hE := hE.below hbq
    replace c3 := Kd.C_below c3 hbq
    replace q3 := blk_below q3 hbq
    replace c4 := Kd.C_below c4 hbq
    clear hbq
    generalize w8.alloc (Obj.cells _ 55) = w9 at hE c3 q3 c4 q4 ⊢
    obtain ⟨g4, hg4⟩ : ∃ g, w8.heap.size = g := ⟨_, rfl⟩
    rw [hg4] at q4 ⊢
    clear hg4
    have hE5 : E5 w g1 g2 g3 g4 #[.int .i64 x.f0, .int .i64 x.f1, .int .i64 x.f2.f0, .int .i64 x.f2.f1, .slice A x.f3.length c] #[.int .i64 y.f0, .int .i64 y.f1, .int .i64 y.f2.f0, .int .i64 y.f2.f1, .slice B y.f3.length d] u v P3 P4 p3 p4 w9 := ⟨hE, q3, q4, l3, l4, c3, c4⟩
    clear hE q3 q4 c3 c4
    have c3 := hE5.c3
    have c4 := hE5.c4
    have m0 : w9.cell? ⟨g3, 0, none⟩ = some (.int .i64 u.f0) := (blk_cell hE5.q3 0).trans rfl
    have m1 : w9.cell? ⟨g3, 1, none⟩ = some (.int .i64 u.f1) := (blk_cell hE5.q3 1).trans rfl
    have m2 : w9.cell? ⟨g3, 2, none⟩ = some (.int .i64 u.f2.f0) := (blk_cell hE5.q3 2).trans rfl
    have m3 : w9.cell? ⟨g3, 3, none⟩ = some (.int .i64 u.f2.f1) := (blk_cell hE5.q3 3).trans rfl
    have m4 : w9.cell? ⟨g3, 4, none⟩ = some (.slice P3 u.f3.length p3) := (blk_cell hE5.q3 4).trans rfl
    have n0 : w9.cell? ⟨g4, 0, none⟩ = some (.int .i64 v.f0) := (blk_cell hE5.q4 0).trans rfl
    have n1 : w9.cell? ⟨g4, 1, none⟩ = some (.int .i64 v.f1) := (blk_cell hE5.q4 1).trans rfl
    have n2 : w9.cell? ⟨g4, 2, none⟩ = some (.int .i64 v.f2.f0) := (blk_cell hE5.q4 2).trans rfl
    have n3 : w9.cell? ⟨g4, 3, none⟩ = some (.int .i64 v.f2.f1) := (blk_cell hE5.q4 3).trans rfl
    have n4 : w9.cell? ⟨g4, 4, none⟩ = some (.slice P4 v.f3.length p4) := (blk_cell hE5.q4 4).trans rfl
    go_wp2_with fail
    refine (ip _ _ _ _ _ l3 l4 c3 c4).mono ?_
    rintro e w10 ⟨rfl, hb⟩
    replace hE5 := hE5.below hb
    clear m0 m1 m2 m3 m4 n0 n1 n2 n3 n4 c3 c4 hb ip
    go_upto_region 14 with (fail)
    have hE5d : E5 w g1 g2 g3 g4 #[.int .i64 x.f0, .int .i64 x.f1, .int .i64 x.f2.f0, .int .i64 x.f2.f1, .slice A x.f3.length c] #[.int .i64 y.f0, .int .i64 y.f1, .int .i64 y.f2.f0, .int .i64 y.f2.f1, .slice B y.f3.length d] u v P3 P4 p3 p4 w10.drew := hE5.below (below_drew1 (Below.refl _ _))
    clear hE5
    refine start_ (n := 5) (S := fun w' => w'.cell? ⟨g3, 0, none⟩ = some (.int .i64 u.f0) ∧ w'.cell? ⟨g3, 1, none⟩ = some (.int .i64 u.f1) ∧ w'.cell? ⟨g3, 2, none⟩ = some (.int .i64 u.f2.f0) ∧ w'.cell? ⟨g3, 3, none⟩ = some (.int .i64 u.f2.f1) ∧ w'.cell? ⟨g3, 4, none⟩ = some (.slice P3 u.f3.length p3) ∧ w'.cell? ⟨g1, 0, none⟩ = some (.int .i64 x.f0) ∧ w'.cell? ⟨g1, 1, none⟩ = some (.int .i64 x.f1) ∧ w'.cell? ⟨g1, 2, none⟩ = some (.int .i64 x.f2.f0) ∧ w'.cell? ⟨g1, 3, none⟩ = some (.int .i64 x.f2.f1) ∧ w'.cell? ⟨g1, 4, none⟩ = some (.slice A x.f3.length c) ∧ E5 w g1 g2 g3 g4 #[.int .i64 x.f0, .int .i64 x.f1, .int .i64 x.f2.f0, .int .i64 x.f2.f1, .slice A x.f3.length c] #[.int .i64 y.f0, .int .i64 y.f1, .int .i64 y.f2.f0, .int .i64 y.f2.f1, .slice B y.f3.length d] u v P3 P4 p3 p4 w') (ds := []) #[false, false, false, false, false] (by kernel_rfl) rfl rfl ⟨(blk_cell hE5d.q3 0).trans rfl, (blk_cell hE5d.q3 1).trans rfl, (blk_cell hE5d.q3 2).trans rfl, (blk_cell hE5d.q3 3).trans rfl, (blk_cell hE5d.q3 4).trans rfl, (blk_cell hE5d.e.h1 0).trans rfl, (blk_cell hE5d.e.h1 1).trans rfl, (blk_cell hE5d.e.h1 2).trans rfl, (blk_cell hE5d.e.h1 3).trans rfl, (blk_cell hE5d.e.h1 4).trans rfl, hE5d⟩ (fun hHeld => ?_)
    refine take_ (i := 0) (N := some 35) (v := ?_) (a' := ?_) #[true, false, false, false, false] rfl rfl (by kernel_rfl) (fun _ _ _ h => h) (Or.inl ⟨by rfl, ?_⟩) hHeld ?_ ?_
    rotate_left
    · rintro w' ⟨s0, s1, s2, s3, s4, s5, s6, s7, s8, s9, s10⟩
      go_simp
      with_reducible rfl
    rotate_left
    · simp only [Act.put, List.setIfInBounds_toArray, List.set_cons_zero, List.set_cons_succ, i64_w, i32_w]
      rfl
    refine take_ (i := 1) (N := some 36) (v := ?_) (a' := ?_) #[true, true, false, false, false] rfl rfl (by kernel_rfl) (fun _ _ _ h => h) (Or.inl ⟨by rfl, ?_⟩) hHeld ?_ ?_
    rotate_left
    · rintro w' ⟨s0, s1, s2, s3, s4, s5, s6, s7, s8, s9, s10⟩
      go_simp
      with_reducible rfl
    rotate_left
    · simp only [Act.put, List.setIfInBounds_toArray, List.set_cons_zero, List.set_cons_succ, i64_w, i32_w]
      rfl
    refine one_ (i := 2) (N := some 37) #[true, true, true, false, false] rfl rfl (by kernel_rfl) (by decide) (fun K hK => ?_)
    refine goes_ Try.func27 (by kernel_rfl) rfl #[.agg #[.int .i64 x.f0, .int .i64 x.f1, .int .i64 x.f2.f0, .int .i64 x.f2.f1, .slice A x.f3.length c]] (by rfl) rfl rfl (by simp only [List.map_toArray, List.map_cons, List.map_nil]; rfl) ?_
    with_reducible refine (tx _ hHeld.2.2.2.2.2.2.2.2.2.2.e.bel).mono ?_
    rintro e wa14 ⟨P1, p1, rfl, hp1, hP1, hb1⟩
    refine ⟨_, rfl, ?_⟩
    have hb1E := E5.below hHeld.2.2.2.2.2.2.2.2.2.2 hb1
    refine hK.out _ _ ⟨(blk_cell hb1E.q3 0).trans rfl, (blk_cell hb1E.q3 1).trans rfl, (blk_cell hb1E.q3 2).trans rfl, (blk_cell hb1E.q3 3).trans rfl, (blk_cell hb1E.q3 4).trans rfl, (blk_cell hb1E.e.h1 0).trans rfl, (blk_cell hb1E.e.h1 1).trans rfl, (blk_cell hb1E.e.h1 2).trans rfl, (blk_cell hb1E.e.h1 3).trans rfl, (blk_cell hb1E.e.h1 4).trans rfl, hb1E⟩ (fun hHeld => ?_)
    clear hK K
    refine norm_ (a' := ?_) ?_ ?_
    rotate_left
    · show Act.put _ (some 37) _ = _
      simp only [Act.put, List.setIfInBounds_toArray, List.set_cons_zero, List.set_cons_succ, i64_w, i32_w]
      rfl
    refine one_ (i := 3) (N := some 38) #[true, true, true, true, false] rfl rfl (by kernel_rfl) (by decide) (fun K hK => ?_)
    refine goes_ Try.func29 (by kernel_rfl) rfl #[.agg #[.int .i64 u.f0, .int .i64 u.f1, .int .i64 u.f2.f0, .int .i64 u.f2.f1, .slice P3 u.f3.length p3], .agg #[.int .i64 u.f0, .int .i64 u.f1, .int .i64 u.f2.f0, .int .i64 u.f2.f1, .slice P1 u.f3.length p1]] (by rfl) rfl rfl (by simp only [List.map_toArray, List.map_cons, List.map_nil]; rfl) ?_
    with_reducible refine (equ _ _ _ _ _ hb1E.l3 hp1 hb1E.c3 hP1).mono ?_
    rintro e wb14 ⟨rfl, hb3⟩
    refine ⟨_, rfl, ?_⟩
    have hb3E := E5.below hb1E hb3
    refine hK.out _ _ ⟨(blk_cell hb3E.q3 0).trans rfl, (blk_cell hb3E.q3 1).trans rfl, (blk_cell hb3E.q3 2).trans rfl, (blk_cell hb3E.q3 3).trans rfl, (blk_cell hb3E.q3 4).trans rfl, (blk_cell hb3E.e.h1 0).trans rfl, (blk_cell hb3E.e.h1 1).trans rfl, (blk_cell hb3E.e.h1 2).trans rfl, (blk_cell hb3E.e.h1 3).trans rfl, (blk_cell hb3E.e.h1 4).trans rfl, hb3E⟩ (fun hHeld => ?_)
    clear hK K
    refine norm_ (a' := ?_) ?_ ?_
    rotate_left
    · show Act.put _ (some 38) _ = _
      simp only [Act.put, List.setIfInBounds_toArray, List.set_cons_zero, List.set_cons_succ, i64_w, i32_w]
      rfl
    refine pure_ (i := 4) (N := some 39) (v := ?_) (a' := ?_) #[true, true, true, true, true] rfl rfl (by kernel_rfl) (fun _ _ _ h => h) (Or.inl ⟨by rfl, ?_⟩) ?_ ?_
    rotate_left
    · intro w'
      go_simp
      with_reducible rfl
    rotate_left
    · simp only [Act.put, List.setIfInBounds_toArray, List.set_cons_zero, List.set_cons_succ, i64_w, i32_w]
      rfl
    refine done_ (by kernel_rfl) ?_
    clear hE5d
    have hE5 := hHeld.2.2.2.2.2.2.2.2.2.2
    clear hHeld
    clear hP1 hp1 hb1E hb1 hb3
    go_upto_region 16 with (fail)
    have hE5d : E5 w g1 g2 g3 g4 #[.int .i64 x.f0, .int .i64 x.f1, .int .i64 x.f2.f0, .int .i64 x.f2.f1, .slice A x.f3.length c] #[.int .i64 y.f0, .int .i64 y.f1, .int .i64 y.f2.f0, .int .i64 y.f2.f1, .slice B y.f3.length d] u v P3 P4 p3 p4 wb14.drew := hE5.below (below_drew1 (Below.refl _ _))
    clear hE5
    refine start_ (n := 5) (S := fun w' => w'.cell? ⟨g4, 0, none⟩ = some (.int .i64 v.f0) ∧ w'.cell? ⟨g4, 1, none⟩ = some (.int .i64 v.f1) ∧ w'.cell? ⟨g4, 2, none⟩ = some (.int .i64 v.f2.f0) ∧ w'.cell? ⟨g4, 3, none⟩ = some (.int .i64 v.f2.f1) ∧ w'.cell? ⟨g4, 4, none⟩ = some (.slice P4 v.f3.length p4) ∧ w'.cell? ⟨g2, 0, none⟩ = some (.int .i64 y.f0) ∧ w'.cell? ⟨g2, 1, none⟩ = some (.int .i64 y.f1) ∧ w'.cell? ⟨g2, 2, none⟩ = some (.int .i64 y.f2.f0) ∧ w'.cell? ⟨g2, 3, none⟩ = some (.int .i64 y.f2.f1) ∧ w'.cell? ⟨g2, 4, none⟩ = some (.slice B y.f3.length d) ∧ E5 w g1 g2 g3 g4 #[.int .i64 x.f0, .int .i64 x.f1, .int .i64 x.f2.f0, .int .i64 x.f2.f1, .slice A x.f3.length c] #[.int .i64 y.f0, .int .i64 y.f1, .int .i64 y.f2.f0, .int .i64 y.f2.f1, .slice B y.f3.length d] u v P3 P4 p3 p4 w') (ds := []) #[false, false, false, false, false] (by kernel_rfl) rfl rfl ⟨(blk_cell hE5d.q4 0).trans rfl, (blk_cell hE5d.q4 1).trans rfl, (blk_cell hE5d.q4 2).trans rfl, (blk_cell hE5d.q4 3).trans rfl, (blk_cell hE5d.q4 4).trans rfl, (blk_cell hE5d.e.h2 0).trans rfl, (blk_cell hE5d.e.h2 1).trans rfl, (blk_cell hE5d.e.h2 2).trans rfl, (blk_cell hE5d.e.h2 3).trans rfl, (blk_cell hE5d.e.h2 4).trans rfl, hE5d⟩ (fun hHeld => ?_)
    refine take_ (i := 0) (N := some 40) (v := ?_) (a' := ?_) #[true, false, false, false, false] rfl rfl (by kernel_rfl) (fun _ _ _ h => h) (Or.inl ⟨by rfl, ?_⟩) hHeld ?_ ?_
    rotate_left
    · rintro w' ⟨s0, s1, s2, s3, s4, s5, s6, s7, s8, s9, s10⟩
      go_simp
      with_reducible rfl
    rotate_left
    · simp only [Act.put, List.setIfInBounds_toArray, List.set_cons_zero, List.set_cons_succ, i64_w, i32_w]
      rfl
    refine take_ (i := 1) (N := some 41) (v := ?_) (a' := ?_) #[true, true, false, false, false] rfl rfl (by kernel_rfl) (fun _ _ _ h => h) (Or.inl ⟨by rfl, ?_⟩) hHeld ?_ ?_
    rotate_left
    · rintro w' ⟨s0, s1, s2, s3, s4, s5, s6, s7, s8, s9, s10⟩
      go_simp
      with_reducible rfl
    rotate_left
    · simp only [Act.put, List.setIfInBounds_toArray, List.set_cons_zero, List.set_cons_succ, i64_w, i32_w]
      rfl
    refine one_ (i := 2) (N := some 42) #[true, true, true, false, false] rfl rfl (by kernel_rfl) (by decide) (fun K hK => ?_)
    refine goes_ Try.func27 (by kernel_rfl) rfl #[.agg #[.int .i64 y.f0, .int .i64 y.f1, .int .i64 y.f2.f0, .int .i64 y.f2.f1, .slice B y.f3.length d]] (by rfl) rfl rfl (by simp only [List.map_toArray, List.map_cons, List.map_nil]; rfl) ?_
    with_reducible refine (ty _ hHeld.2.2.2.2.2.2.2.2.2.2.e.bel).mono ?_
    rintro e wa16 ⟨P1, p1, rfl, hp1, hP1, hb1⟩
    refine ⟨_, rfl, ?_⟩
    have hb1E := E5.below hHeld.2.2.2.2.2.2.2.2.2.2 hb1
    refine hK.out _ _ ⟨(blk_cell hb1E.q4 0).trans rfl, (blk_cell hb1E.q4 1).trans rfl, (blk_cell hb1E.q4 2).trans rfl, (blk_cell hb1E.q4 3).trans rfl, (blk_cell hb1E.q4 4).trans rfl, (blk_cell hb1E.e.h2 0).trans rfl, (blk_cell hb1E.e.h2 1).trans rfl, (blk_cell hb1E.e.h2 2).trans rfl, (blk_cell hb1E.e.h2 3).trans rfl, (blk_cell hb1E.e.h2 4).trans rfl, hb1E⟩ (fun hHeld => ?_)
    clear hK K
    refine norm_ (a' := ?_) ?_ ?_
    rotate_left
    · show Act.put _ (some 42) _ = _
      simp only [Act.put, List.setIfInBounds_toArray, List.set_cons_zero, List.set_cons_succ, i64_w, i32_w]
      rfl
    refine one_ (i := 3) (N := some 43) #[true, true, true, true, false] rfl rfl (by kernel_rfl) (by decide) (fun K hK => ?_)
    refine goes_ Try.func29 (by kernel_rfl) rfl #[.agg #[.int .i64 v.f0, .int .i64 v.f1, .int .i64 v.f2.f0, .int .i64 v.f2.f1, .slice P4 v.f3.length p4], .agg #[.int .i64 v.f0, .int .i64 v.f1, .int .i64 v.f2.f0, .int .i64 v.f2.f1, .slice P1 v.f3.length p1]] (by rfl) rfl rfl (by simp only [List.map_toArray, List.map_cons, List.map_nil]; rfl) ?_
    with_reducible refine (eqv _ _ _ _ _ hb1E.l4 hp1 hb1E.c4 hP1).mono ?_
    rintro e wb16 ⟨rfl, hb3⟩
    refine ⟨_, rfl, ?_⟩
    have hb3E := E5.below hb1E hb3
    refine hK.out _ _ ⟨(blk_cell hb3E.q4 0).trans rfl, (blk_cell hb3E.q4 1).trans rfl, (blk_cell hb3E.q4 2).trans rfl, (blk_cell hb3E.q4 3).trans rfl, (blk_cell hb3E.q4 4).trans rfl, (blk_cell hb3E.e.h2 0).trans rfl, (blk_cell hb3E.e.h2 1).trans rfl, (blk_cell hb3E.e.h2 2).trans rfl, (blk_cell hb3E.e.h2 3).trans rfl, (blk_cell hb3E.e.h2 4).trans rfl, hb3E⟩ (fun hHeld => ?_)
    clear hK K
    refine norm_ (a' := ?_) ?_ ?_
    rotate_left
    · show Act.put _ (some 43) _ = _
      simp only [Act.put, List.setIfInBounds_toArray, List.set_cons_zero, List.set_cons_succ, i64_w, i32_w]
      rfl
    refine pure_ (i := 4) (N := some 44) (v := ?_) (a' := ?_) #[true, true, true, true, true] rfl rfl (by kernel_rfl) (fun _ _ _ h => h) (Or.inl ⟨by rfl, ?_⟩) ?_ ?_
    rotate_left
    · intro w'
      go_simp
      with_reducible rfl
    rotate_left
    · simp only [Act.put, List.setIfInBounds_toArray, List.set_cons_zero, List.set_cons_succ, i64_w, i32_w]
      rfl
    refine done_ (by kernel_rfl) ?_
    clear hE5d
    have hE5 := hHeld.2.2.2.2.2.2.2.2.2.2
    clear hHeld
    have hB := hE5.e.bel
    go_wp2
    go_ret
    exact ⟨rfl, hB⟩
end Go.Proofs.Ytcigooccnlbkjaa.He6
