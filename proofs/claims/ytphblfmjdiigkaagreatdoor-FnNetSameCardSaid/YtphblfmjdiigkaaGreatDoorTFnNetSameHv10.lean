/- spec.DrawNetSame. No condition. -/
import Derived.Test.YtphblfmjdiigkaaGreatDoorTFnNetSameHu8
import Derived.Test.YtphblfmjdiigkaaGreatDoorTFnNetSameHFnNetSamex16
import Derived.WalkSmall
namespace Go.Proofs.YtphblfmjdiigkaaGreatDoor.Hv10
open Go.RowKit Go.Proofs.YtphblfmjdiigkaaGreatDoor.Hv1 Go.Proofs.YtphblfmjdiigkaaGreatDoor.HFnNetSame Go.Proofs.YtphblfmjdiigkaaGreatDoorW.PrintWords Go.Proofs.YtphblfmjdiigkaaGreatDoorW.PrintLast Go.Proofs.YtphblfmjdiigkaaGreatDoorW.PrintMore
set_option linter.unusedVariables false
set_option linter.unusedSimpArgs false
theorem z43E : k43.E = [] := rfl
theorem z66E : k66.E = [] := rfl
theorem ne_of {α : Type} {d : Kd α} {e t : Nat} (hE : d.E = []) (h : e ≠ t) : ∀ q, q ∈ e :: d.E → q ≠ t := by
  intro q hq; rw [hE] at hq; simp at hq; omega
structure R2 (ok : Nat → Prop) (base : Nat) (W : World) (v0 v1 : Value) (l : List S43) (m : List S66) : Prop where
  a : Kd.R k43 43 W base ok v0 l
  b : Kd.R k66 66 W base ok v1 m
section
variable {ok : Nat → Prop} {base : Nat} {W W' : World} {v0 v1 : Value} {l : List S43} {m : List S66}
theorem R2.below (h : R2 ok base W v0 v1 l m) (k : Below W.heap.size W W') : R2 ok base W' v0 v1 l m := ⟨Kd.R_below h.a k, Kd.R_below h.b k⟩
theorem R2.drew (h : R2 ok base W v0 v1 l m) : R2 ok base W.drew v0 v1 l m := ⟨Kd.R_drew h.a, rD_ h.b⟩
theorem R2.alloc (h : R2 ok base W v0 v1 l m) (o : Obj) : R2 ok base (W.alloc o) v0 v1 l m := h.below ((Below.refl _ _).alloc (Nat.le_refl _) _)
theorem R2.keep (h : R2 ok base W v0 v1 l m) {g t : Nat} {cs : Array Value} (hk : KeepBut W W' g none) (hg : W.heap[g]? = some (.cells cs t (0, 0))) (h1 : 43 ≠ t) (h2 : 66 ≠ t) : R2 ok base W' v0 v1 l m :=
  ⟨Kd.R_mono (Kd.R_keep (Kd.R_types h.a hg (ne_of z43E h1)) hk (fun _ h => h.2)) (fun _ h => h.1), Kd.R_mono (Kd.R_keep (Kd.R_types h.b hg (ne_of z66E h2)) hk (fun _ h => h.2)) (fun _ h => h.1)⟩
theorem R2.set (h : R2 ok base W v0 v1 l m) {g t : Nat} {cs : Array Value} (hg : W.heap[g]? = some (.cells cs t (0, 0))) (h1 : 43 ≠ t) (h2 : 66 ≠ t) (j : Nat) (u : Value) : R2 ok base (W.setCell ⟨g, j, none⟩ u) v0 v1 l m :=
  ⟨Kd.R_set h.a hg (ne_of z43E h1) j u, Kd.R_set h.b hg (ne_of z66E h2) j u⟩
theorem R2.lower {base' : Nat} (h : R2 ok base W v0 v1 l m) (hb : base' ≤ base) : R2 ok base' W v0 v1 l m := ⟨Kd.R_lower h.a hb, Kd.R_lower h.b hb⟩
theorem R2.slices (h : R2 ok base W v0 v1 l m) : ∃ A c B d, v0 = .slice A l.length c ∧ v1 = .slice B m.length d := by
  obtain ⟨A, c, e⟩ := Kd.R_slice h.a
  obtain ⟨B, d, e'⟩ := Kd.R_slice h.b
  exact ⟨A, c, B, d, e, e'⟩
theorem R2.bound (h : R2 ok base W v0 v1 l m) : R2 (fun k => k < W.heap.size) base W v0 v1 l m := ⟨Kd.R_mono (Kd.R_bound h.a) (fun _ h => h.2.2.1), Kd.R_mono (Kd.R_bound h.b) (fun _ h => h.2.2.1)⟩
theorem R2.all (h : R2 ok base W v0 v1 l m) : R2 (fun _ => True) base W v0 v1 l m := ⟨Kd.R_mono h.a (fun _ _ => trivial), Kd.R_mono h.b (fun _ _ => trivial)⟩
theorem R2.far {n : Nat} (h : R2 (fun k => k < n) base W v0 v1 l m) {p : Addr} (hp : n ≤ p.block) (u : Value) : R2 (fun k => k < n) base (W.setCell p u) v0 v1 l m := ⟨Kd.R_far h.a (fun k hk => by omega) u, rF_ h.b (fun k hk => by omega) u⟩
end
def chg (x : S43) (n : Int) : S43 := ⟨x.f0, n, x.f2, x.f3⟩
def ch (W : World) (z : Nat) (v0 v1 : Value) : World := (W.setCell ⟨z, 0, none⟩ v0).setCell ⟨z, 1, none⟩ v1
theorem ch_put {W : World} {z : Nat} {u0 u1 : Value} (hz : W.heap[z]? = some (.cells #[u0, u1] 31 (0, 0))) (v0 v1 : Value) : (ch W z v0 v1).heap[z]? = some (.cells #[v0, v1] 31 (0, 0)) := kP_ (kP_ hz 0 v0 rfl) 1 v1 rfl
theorem ch_far {W : World} {z g t : Nat} {cs : Array Value} (h : W.heap[g]? = some (.cells cs t (0, 0))) (ne : g ≠ z) (v0 v1 : Value) : (ch W z v0 v1).heap[g]? = some (.cells cs t (0, 0)) := blk_far (blk_far h (by exact ne) v0) (by exact ne) v1
theorem ch_R2 {ok : Nat → Prop} {base : Nat} {W : World} {x0 x1 : Value} {l : List S43} {m : List S66} (h : R2 ok base W x0 x1 l m) {z : Nat} {u0 u1 : Value} (hz : W.heap[z]? = some (.cells #[u0, u1] 31 (0, 0))) (v0 v1 : Value) : R2 ok base (ch W z v0 v1) x0 x1 l m := (h.set (j := 0) hz (by decide) (by decide) v0).set (j := 1) (kP_ hz 0 v0 rfl) (by decide) (by decide) v1
theorem ch_below {w W : World} (h : Below w.heap.size w W) {z : Nat} (hz : w.heap.size ≤ z) (v0 v1 : Value) : Below w.heap.size w (ch W z v0 v1) := bS_ (bS_ h hz) hz
structure Q (w : World) (L : List (Nat × Array Value)) (W : World) : Prop where
  hL : ∀ x ∈ L, W.heap[x.1]? = some (.cells x.2 31 (0, 0))
  bel : Below w.heap.size w W
section
variable {w W W' : World} {L : List (Nat × Array Value)}
theorem Q.below (h : Q w L W) (hb : Below W.heap.size W W') : Q w L W' := ⟨fun x hx => blk_below (h.hL x hx) hb, h.bel.trans (hb.mono h.bel.size)⟩
theorem Q.box (h : Q w L W) (cs : Array Value) : Q w ((W.heap.size, cs) :: L) (W.alloc (.cells cs 31)) := by
  have h2 := h.below ((Below.refl W.heap.size W).alloc (Nat.le_refl _) (.cells cs 31))
  refine ⟨fun x hx => ?_, h2.bel⟩
  rcases List.mem_cons.1 hx with rfl | hx
  · exact heap_alloc_new _ _
  · exact h2.hL x hx
theorem Q.keep (h : Q w L W) {g t : Nat} {cs : Array Value} (hk : KeepBut W W' g none) (hg : W.heap[g]? = some (.cells cs t (0, 0))) (ht : t ≠ 31) (hb : Below w.heap.size w W') : Q w L W' := by
  refine ⟨fun x hx => KeepBut.blk hk (h.hL x hx) (fun e => ?_) (fun e => by cases e), hb⟩
  have h1 := h.hL x hx
  rw [e, hg] at h1
  simp only [Option.some.injEq, Obj.cells.injEq] at h1
  exact ht h1.2.1
end
theorem alloc_size (w : World) (o : Obj) : (w.alloc o).heap.size = w.heap.size + 1 := Array.size_push ..
theorem add0 (ad : Addr) : ad.add 0 = ad := by
  unfold Addr.add; split
  · subst_vars; rfl
  · rename_i h; exact absurd rfl h
theorem bent_open {l : List Int} (h : Byt l) : ∃ l' xs ys q, spec_l12Open.f l = some (l', 0) ∧ spec_l7Bent.f 1000 l' 0 = some (xs, ys, q) := by
  obtain ⟨l', ho, hb⟩ := open_some h
  obtain ⟨xs, ys, q, e⟩ := bent_some hb
  exact ⟨l', xs, ys, q, ho, e⟩
set_option maxRecDepth 100000 in
set_option maxHeartbeats 25600000 in
theorem draw14 (A : Option Addr) (cc : Nat) (l : List Int) (w : World) (hr : Kd.C (Kd.int .u8) w A l.length l) (hc : l.length ≤ cc) (hb : Byt l) :
    Calls Tryz.prog 14 #[.slice A l.length cc] w fun e w' => ∃ x1 y1 x2 y2 M0 M1 m0 m1 N0 N1 n0 n1, e = .returned (.tuple #[.agg #[.slice M0 x1.length m0, .slice M1 y1.length m1], .agg #[.slice N0 x2.length n0, .slice N1 y2.length n1]]) ∧ R2 (fun _ => True) w.heap.size w' (.slice M0 x1.length m0) (.slice M1 y1.length m1) x1 y1 ∧ R2 (fun _ => True) w.heap.size w' (.slice N0 x2.length n0) (.slice N1 y2.length n1) x2 y2 ∧ Below w.heap.size w w' := by
  obtain ⟨l', xs, ys, q, ho, hm⟩ := bent_open hb
  have hu31 := Tryz.underlying31
  have hu43 := Tryz.underlying43
  have gO := fun W hW => spec_l12Open.calls A cc l l' 0 w W hW hr hc ho
  have gB := fun g W hI hW => spec_l7Bent.calls 1000 g l' 0 xs ys q w W hI hW hm
  clear ho hm
  go_enter Tryz.func14, Tryz.ntmps14
  go_wp2_with fail
  have hQ : Q w [(w.heap.size + 1, #[.slice none 0 0, .slice none 0 0]), (w.heap.size, #[.slice none 0 0, .slice none 0 0])] ((w.alloc (Obj.cells #[.slice none 0 0, .slice none 0 0] 31)).alloc (Obj.cells #[.slice none 0 0, .slice none 0 0] 31)) := by
    have h0 : Q w [] w := ⟨fun x hx => by simp at hx, Below.refl _ _⟩
    have h2 := (h0.box #[.slice none 0 0, .slice none 0 0]).box #[.slice none 0 0, .slice none 0 0]
    rw [alloc_size] at h2
    exact h2
  generalize (w.alloc (Obj.cells _ 31)).alloc (Obj.cells _ 31) = w0 at hQ ⊢
  obtain ⟨b2, hb2⟩ : ∃ g, w.heap.size = g := ⟨_, rfl⟩
  have hQ' : Q w [(b2 + 1, #[.slice none 0 0, .slice none 0 0]), (b2, #[.slice none 0 0, .slice none 0 0])] w0 := by rw [← hb2]; exact hQ
  have hb2a := aM_ hb2
  rw [hb2]
  clear hQ hb2
  refine (gO _ hQ'.bel).mono ?_
  rintro e w1 ⟨g, rfl, hI, hB1, hb1⟩
  replace hQ' := hQ'.below hb1
  go_wp2_with fail
  obtain ⟨_, _, hg, _⟩ := id hI
  refine (gB g _ hI hB1).mono ?_
  rintro e w2 ⟨v0, v1, rfl, h0, h1, _, hB2, hk⟩
  have hM : R2 (fun _ => True) w.heap.size w2 v0 v1 xs ys := R2.lower ⟨h0, h1⟩ hB1.size
  obtain ⟨M0, m0, M1, m1, rfl, rfl⟩ := hM.slices
  replace hQ' := hQ'.keep hk hg (by decide) hB2
  clear hI hg hk h0 h1 hb1 hB1 hB2
  have hZ3_ := hQ'.hL _ List.mem_cons_self
  go_wp2_with fail
  replace hQ' := hQ'.box #[.slice M0 xs.length m0, .slice M1 ys.length m1]
  replace hM := hM.alloc (Obj.cells #[.slice M0 xs.length m0, .slice M1 ys.length m1] 31)
  have lt4 : b2 + 1 < w2.heap.size := blk_lt hZ3_
  clear hZ3_
  generalize w2.alloc (Obj.cells _ 31) = w3 at hQ' hM ⊢
  generalize w2.heap.size = b4 at hQ' lt4 ⊢
  refine (gO _ hQ'.bel).mono ?_
  rintro e w4 ⟨g, rfl, hI, hB1, hb1⟩
  replace hQ' := hQ'.below hb1
  replace hM := hM.below hb1
  replace hM := hM.bound
  go_wp2_with fail
  obtain ⟨_, _, hg, _⟩ := id hI
  refine (gB g _ hI hB1).mono ?_
  rintro e w5 ⟨v0, v1, rfl, h0, h1, _, hB2, hk⟩
  have hN : R2 (fun _ => True) w.heap.size w5 v0 v1 xs ys := R2.lower ⟨h0, h1⟩ hB1.size
  have gN0 := Kd.R_base h0
  obtain ⟨N0, n0, N1, n1, rfl, rfl⟩ := hN.slices
  replace hM := hM.keep hk hg (by decide) (by decide)
  replace hQ' := hQ'.keep hk hg (by decide) hB2
  clear hI hg hk h0 h1 hb1 hB1 hB2 gO gB
  generalize w4.heap.size = s4 at hM gN0
  have hZ4_ := hQ'.hL _ List.mem_cons_self
  go_upto_region 3 with (fail)
  have lt5 : b4 < w5.heap.size := blk_lt hZ4_
  clear hZ4_
  replace hQ' := hQ'.box #[.slice N0 xs.length n0, .slice N1 ys.length n1]
  replace hM := hM.alloc (Obj.cells #[.slice N0 xs.length n0, .slice N1 ys.length n1] 31)
  replace hN := hN.alloc (Obj.cells #[.slice N0 xs.length n0, .slice N1 ys.length n1] 31)
  generalize w5.alloc (Obj.cells _ 31) = w6 at hQ' hM hN ⊢
  generalize w5.heap.size = b5 at hQ' lt5 ⊢
  have z5 := hQ'.hL _ List.mem_cons_self
  have z4 := hQ'.hL _ (List.mem_cons_of_mem _ List.mem_cons_self)
  have z3 := hQ'.hL _ (List.mem_cons_of_mem _ (List.mem_cons_of_mem _ List.mem_cons_self))
  have z2 := hQ'.hL _ (List.mem_cons_of_mem _ (List.mem_cons_of_mem _ (List.mem_cons_of_mem _ List.mem_cons_self)))
  have hbw := hQ'.bel
  clear hQ'
  have i50 : w6.cell? ⟨b5, 0, none⟩ = some (.slice N0 xs.length n0) := (kC_ z5 0).trans rfl
  have nw2 : w.heap.size ≤ b2 := Nat.le_of_eq hb2a.out
  clear hb2a
  have hr6 := Kd.C_below hr hbw
  clear hr
  by_cases hl0 : 0 < l.length
  · have d1 : decide (0 < l.length) = true := dT_ hl0
    obtain ⟨ad, hA, hcell⟩ := Kd.at_int hr6 0 (by omega) (by omega)
    subst hA
    clear hr6
    have hbx := rd_byt hb 0
    generalize rd l 0 = x0 at hcell hbx
    have hc0 : w6.cell? ad = some (.int .u8 x0) := by rw [show (0 : Int).toNat = 0 from rfl, add0] at hcell; exact hcell
    clear hcell
    obtain ⟨q, hq⟩ : ∃ q, (x0 % 2 == 1) = q := ⟨_, rfl⟩
    obtain ⟨t, ht⟩ : ∃ t, decide (0 < xs.length) = t := ⟨_, rfl⟩
    cases q with
    | false =>
      go_upto_region 5 with (fail)
      have z20 : w6.drew.heap[b2]? = some (.cells #[.slice none 0 0, .slice none 0 0] 31 (0, 0)) := z2
      have z30 : w6.drew.heap[b2 + 1]? = some (.cells #[.slice none 0 0, .slice none 0 0] 31 (0, 0)) := z3
      have z40 : w6.drew.heap[b4]? = some (.cells #[.slice M0 xs.length m0, .slice M1 ys.length m1] 31 (0, 0)) := z4
      have z50 : w6.drew.heap[b5]? = some (.cells #[.slice N0 xs.length n0, .slice N1 ys.length n1] 31 (0, 0)) := z5
      have hM0 := hM.drew
      have hN0 := hN.drew
      have hbw0 := b1_ hbw
      refine start_ (n := 4) (S := fun w' => w'.cell? ⟨b4, 0, none⟩ = some (.slice M0 xs.length m0) ∧ w'.cell? ⟨b4, 1, none⟩ = some (.slice M1 ys.length m1) ∧ w'.cell? ⟨b5, 0, none⟩ = some (.slice N0 xs.length n0) ∧ w'.cell? ⟨b5, 1, none⟩ = some (.slice N1 ys.length n1) ∧ w'.heap[b4]? = some (.cells #[.slice M0 xs.length m0, .slice M1 ys.length m1] 31 (0, 0)) ∧ w'.heap[b5]? = some (.cells #[.slice N0 xs.length n0, .slice N1 ys.length n1] 31 (0, 0)) ∧ w'.heap[b2 + 1]? = some (.cells #[.slice none 0 0, .slice none 0 0] 31 (0, 0)) ∧ R2 (fun k => k < s4) w.heap.size w' (.slice M0 xs.length m0) (.slice M1 ys.length m1) xs ys ∧ R2 (fun _ => True) w.heap.size w' (.slice N0 xs.length n0) (.slice N1 ys.length n1) (xs) ys ∧ Below w.heap.size w w') (ds := [3]) #[F_, F_, F_, F_] (by kernel_rfl) rfl rfl ⟨(kC_ z40 0).trans rfl, (kC_ z40 1).trans rfl, (kC_ z50 0).trans rfl, (kC_ z50 1).trans rfl, z40, z50, z30, hM0, hN0, hbw0⟩ (fun hHeld => ?_)
      refine take_ (i := 0) (N := some 38) (v := ?_) (a' := ?_) #[T_, F_, F_, F_] rfl rfl (by kernel_rfl) (fun _ _ _ h => h) (Or.inl ⟨by rfl, ?_⟩) hHeld ?_ ?_
      rotate_left
      · rintro w' ⟨s0, s1, s2, s3, s4, s5, s6, s7, s8, s9⟩
        go_simp
        with_reducible rfl
      rotate_left
      · simp only [Act.put, sA_, sB_, sC_, i64_w, i32_w]
        rfl
      refine take_ (i := 1) (N := some 39) (v := ?_) (a' := ?_) #[T_, T_, F_, F_] rfl rfl (by kernel_rfl) (fun _ _ _ h => h) (Or.inl ⟨by rfl, ?_⟩) hHeld ?_ ?_
      rotate_left
      · rintro w' ⟨s0, s1, s2, s3, s4, s5, s6, s7, s8, s9⟩
        go_simp
        with_reducible rfl
      rotate_left
      · simp only [Act.put, sA_, sB_, sC_, i64_w, i32_w]
        rfl
      refine one_ (i := 2) (N := none) #[T_, T_, T_, F_] rfl rfl (by kernel_rfl) (by decide) (fun K hK => ?_)
      generalize w6.drew = w7 at z20 hHeld ⊢
      refine skip_ (w1 := ?_) (by rfl) rfl ?_ ?_
      rotate_left
      · skip
        (obtain ⟨i0, i1⟩ := HFnNetSame.cells2 z20)
        (obtain ⟨j0, j1⟩ := frozen2 z20)
        go_simp
        rfl
      have y4 := ch_far hHeld.2.2.2.2.1 (by omega : b4 ≠ b2) (.slice M0 xs.length m0) (.slice M1 ys.length m1)
      have y5 := ch_far hHeld.2.2.2.2.2.1 (by omega : b5 ≠ b2) (.slice M0 xs.length m0) (.slice M1 ys.length m1)
      have y3 := ch_far hHeld.2.2.2.2.2.2.1 (by omega : b2 + 1 ≠ b2) (.slice M0 xs.length m0) (.slice M1 ys.length m1)
      have yM := ch_R2 hHeld.2.2.2.2.2.2.2.1 z20 (.slice M0 xs.length m0) (.slice M1 ys.length m1)
      have yN := ch_R2 hHeld.2.2.2.2.2.2.2.2.1 z20 (.slice M0 xs.length m0) (.slice M1 ys.length m1)
      have yb := ch_below hHeld.2.2.2.2.2.2.2.2.2 nw2 (.slice M0 xs.length m0) (.slice M1 ys.length m1)
      have y2 := ch_put z20 (.slice M0 xs.length m0) (.slice M1 ys.length m1)
      unfold ch at y4 y5 y3 yM yN yb y2
      generalize ((w7.setCell ⟨b2, 0, none⟩ (.slice M0 xs.length m0)).setCell ⟨b2, 1, none⟩ (.slice M1 ys.length m1)) = w8 at y4 y5 y3 yM yN yb y2 ⊢
      refine hK.out _ _ ⟨(kC_ y4 0).trans rfl, (kC_ y4 1).trans rfl, (kC_ y5 0).trans rfl, (kC_ y5 1).trans rfl, y4, y5, y3, yM, yN, yb⟩ (fun hHeld => ?_)
      clear hK K
      refine last_ (i := 3) (N := none) #[T_, T_, T_, T_] rfl rfl (by kernel_rfl) (by decide) (fun K hK => ?_)
      refine skip_ (w1 := ?_) (by rfl) rfl ?_ ?_
      rotate_left
      · skip
        have i0 : w8.cell? ⟨b2 + 1, 0, none⟩ = some (.slice none 0 0) := (kC_ y3 0).trans rfl
        have i1 : w8.cell? ⟨b2 + 1, 1, none⟩ = some (.slice none 0 0) := (kC_ y3 1).trans rfl
        (obtain ⟨j0, j1⟩ := frozen2 y3)
        go_simp
        rfl
      have x2 := ch_far y2 (by omega : b2 ≠ b2 + 1) (.slice N0 xs.length n0) (.slice N1 ys.length n1)
      have xM := ch_R2 yM y3 (.slice N0 xs.length n0) (.slice N1 ys.length n1)
      have xN := ch_R2 yN y3 (.slice N0 xs.length n0) (.slice N1 ys.length n1)
      have xb := ch_below yb (by omega : w.heap.size ≤ b2 + 1) (.slice N0 xs.length n0) (.slice N1 ys.length n1)
      have x3 := ch_put y3 (.slice N0 xs.length n0) (.slice N1 ys.length n1)
      unfold ch at x2 xM xN xb x3
      generalize ((w8.setCell ⟨b2 + 1, 0, none⟩ (.slice N0 xs.length n0)).setCell ⟨b2 + 1, 1, none⟩ (.slice N1 ys.length n1)) = w9 at x2 xM xN xb x3 ⊢
      refine hK.out _ _ ?_
      clear hK K
      refine done_ (by kernel_rfl) ?_
      clear hHeld
      go_wp2
      refine bodyPost_ret (results_cc rfl _ _ b2 (b2 + 1) 31 31 #[.slice M0 xs.length m0, .slice M1 ys.length m1] #[.slice N0 xs.length n0, .slice N1 ys.length n1] (0, 0) (0, 0) _ _ rfl x2 Tryz.underlying31 rfl (by kernel_rfl) rfl x3 Tryz.underlying31 rfl (by kernel_rfl)) rfl ?_
      refine ⟨xs, ys, xs, ys, M0, M1, m0, m1, N0, N1, n0, n1, ?_, xM.all, ?_, xb⟩
      · rfl
      · exact xN
    | true =>
      cases t with
      | false =>
        go_upto_region 5 with (fail)
        have z20 : w6.drew.heap[b2]? = some (.cells #[.slice none 0 0, .slice none 0 0] 31 (0, 0)) := z2
        have z30 : w6.drew.heap[b2 + 1]? = some (.cells #[.slice none 0 0, .slice none 0 0] 31 (0, 0)) := z3
        have z40 : w6.drew.heap[b4]? = some (.cells #[.slice M0 xs.length m0, .slice M1 ys.length m1] 31 (0, 0)) := z4
        have z50 : w6.drew.heap[b5]? = some (.cells #[.slice N0 xs.length n0, .slice N1 ys.length n1] 31 (0, 0)) := z5
        have hM0 := hM.drew
        have hN0 := hN.drew
        have hbw0 := b1_ hbw
        refine start_ (n := 4) (S := fun w' => w'.cell? ⟨b4, 0, none⟩ = some (.slice M0 xs.length m0) ∧ w'.cell? ⟨b4, 1, none⟩ = some (.slice M1 ys.length m1) ∧ w'.cell? ⟨b5, 0, none⟩ = some (.slice N0 xs.length n0) ∧ w'.cell? ⟨b5, 1, none⟩ = some (.slice N1 ys.length n1) ∧ w'.heap[b4]? = some (.cells #[.slice M0 xs.length m0, .slice M1 ys.length m1] 31 (0, 0)) ∧ w'.heap[b5]? = some (.cells #[.slice N0 xs.length n0, .slice N1 ys.length n1] 31 (0, 0)) ∧ w'.heap[b2 + 1]? = some (.cells #[.slice none 0 0, .slice none 0 0] 31 (0, 0)) ∧ R2 (fun k => k < s4) w.heap.size w' (.slice M0 xs.length m0) (.slice M1 ys.length m1) xs ys ∧ R2 (fun _ => True) w.heap.size w' (.slice N0 xs.length n0) (.slice N1 ys.length n1) (xs) ys ∧ Below w.heap.size w w') (ds := [3]) #[F_, F_, F_, F_] (by kernel_rfl) rfl rfl ⟨(kC_ z40 0).trans rfl, (kC_ z40 1).trans rfl, (kC_ z50 0).trans rfl, (kC_ z50 1).trans rfl, z40, z50, z30, hM0, hN0, hbw0⟩ (fun hHeld => ?_)
        refine take_ (i := 0) (N := some 38) (v := ?_) (a' := ?_) #[T_, F_, F_, F_] rfl rfl (by kernel_rfl) (fun _ _ _ h => h) (Or.inl ⟨by rfl, ?_⟩) hHeld ?_ ?_
        rotate_left
        · rintro w' ⟨s0, s1, s2, s3, s4, s5, s6, s7, s8, s9⟩
          go_simp
          with_reducible rfl
        rotate_left
        · simp only [Act.put, sA_, sB_, sC_, i64_w, i32_w]
          rfl
        refine take_ (i := 1) (N := some 39) (v := ?_) (a' := ?_) #[T_, T_, F_, F_] rfl rfl (by kernel_rfl) (fun _ _ _ h => h) (Or.inl ⟨by rfl, ?_⟩) hHeld ?_ ?_
        rotate_left
        · rintro w' ⟨s0, s1, s2, s3, s4, s5, s6, s7, s8, s9⟩
          go_simp
          with_reducible rfl
        rotate_left
        · simp only [Act.put, sA_, sB_, sC_, i64_w, i32_w]
          rfl
        refine one_ (i := 2) (N := none) #[T_, T_, T_, F_] rfl rfl (by kernel_rfl) (by decide) (fun K hK => ?_)
        generalize w6.drew = w7 at z20 hHeld ⊢
        refine skip_ (w1 := ?_) (by rfl) rfl ?_ ?_
        rotate_left
        · skip
          (obtain ⟨i0, i1⟩ := HFnNetSame.cells2 z20)
          (obtain ⟨j0, j1⟩ := frozen2 z20)
          go_simp
          rfl
        have y4 := ch_far hHeld.2.2.2.2.1 (by omega : b4 ≠ b2) (.slice M0 xs.length m0) (.slice M1 ys.length m1)
        have y5 := ch_far hHeld.2.2.2.2.2.1 (by omega : b5 ≠ b2) (.slice M0 xs.length m0) (.slice M1 ys.length m1)
        have y3 := ch_far hHeld.2.2.2.2.2.2.1 (by omega : b2 + 1 ≠ b2) (.slice M0 xs.length m0) (.slice M1 ys.length m1)
        have yM := ch_R2 hHeld.2.2.2.2.2.2.2.1 z20 (.slice M0 xs.length m0) (.slice M1 ys.length m1)
        have yN := ch_R2 hHeld.2.2.2.2.2.2.2.2.1 z20 (.slice M0 xs.length m0) (.slice M1 ys.length m1)
        have yb := ch_below hHeld.2.2.2.2.2.2.2.2.2 nw2 (.slice M0 xs.length m0) (.slice M1 ys.length m1)
        have y2 := ch_put z20 (.slice M0 xs.length m0) (.slice M1 ys.length m1)
        unfold ch at y4 y5 y3 yM yN yb y2
        generalize ((w7.setCell ⟨b2, 0, none⟩ (.slice M0 xs.length m0)).setCell ⟨b2, 1, none⟩ (.slice M1 ys.length m1)) = w8 at y4 y5 y3 yM yN yb y2 ⊢
        refine hK.out _ _ ⟨(kC_ y4 0).trans rfl, (kC_ y4 1).trans rfl, (kC_ y5 0).trans rfl, (kC_ y5 1).trans rfl, y4, y5, y3, yM, yN, yb⟩ (fun hHeld => ?_)
        clear hK K
        refine last_ (i := 3) (N := none) #[T_, T_, T_, T_] rfl rfl (by kernel_rfl) (by decide) (fun K hK => ?_)
        refine skip_ (w1 := ?_) (by rfl) rfl ?_ ?_
        rotate_left
        · skip
          have i0 : w8.cell? ⟨b2 + 1, 0, none⟩ = some (.slice none 0 0) := (kC_ y3 0).trans rfl
          have i1 : w8.cell? ⟨b2 + 1, 1, none⟩ = some (.slice none 0 0) := (kC_ y3 1).trans rfl
          (obtain ⟨j0, j1⟩ := frozen2 y3)
          go_simp
          rfl
        have x2 := ch_far y2 (by omega : b2 ≠ b2 + 1) (.slice N0 xs.length n0) (.slice N1 ys.length n1)
        have xM := ch_R2 yM y3 (.slice N0 xs.length n0) (.slice N1 ys.length n1)
        have xN := ch_R2 yN y3 (.slice N0 xs.length n0) (.slice N1 ys.length n1)
        have xb := ch_below yb (by omega : w.heap.size ≤ b2 + 1) (.slice N0 xs.length n0) (.slice N1 ys.length n1)
        have x3 := ch_put y3 (.slice N0 xs.length n0) (.slice N1 ys.length n1)
        unfold ch at x2 xM xN xb x3
        generalize ((w8.setCell ⟨b2 + 1, 0, none⟩ (.slice N0 xs.length n0)).setCell ⟨b2 + 1, 1, none⟩ (.slice N1 ys.length n1)) = w9 at x2 xM xN xb x3 ⊢
        refine hK.out _ _ ?_
        clear hK K
        refine done_ (by kernel_rfl) ?_
        clear hHeld
        go_wp2
        refine bodyPost_ret (results_cc rfl _ _ b2 (b2 + 1) 31 31 #[.slice M0 xs.length m0, .slice M1 ys.length m1] #[.slice N0 xs.length n0, .slice N1 ys.length n1] (0, 0) (0, 0) _ _ rfl x2 Tryz.underlying31 rfl (by kernel_rfl) rfl x3 Tryz.underlying31 rfl (by kernel_rfl)) rfl ?_
        refine ⟨xs, ys, xs, ys, M0, M1, m0, m1, N0, N1, n0, n1, ?_, xM.all, ?_, xb⟩
        · rfl
        · exact xN
      | true =>
        go_upto_region 4 with (fail)
        have hx0 : 0 < xs.length := oD_ ht
        obtain ⟨gv, cv, ev, gB_, gL_, _, hcv⟩ := Kd.R_form hN.a hx0
        injection ev with e1 e2 e3
        subst e1 e3
        have hgs : s4 ≤ gv := gN0 gv (by simp [Value.ownBlock])
        have nb2 : b2 ≠ gv := fun e => by rw [e, hcv] at z2; simp at z2
        have nb3 : b2 + 1 ≠ gv := fun e => by rw [e, hcv] at z3; simp at z3
        have nb4 : b4 ≠ gv := fun e => by rw [e, hcv] at z4; simp at z4
        have nb5 : b5 ≠ gv := fun e => by rw [e, hcv] at z5; simp at z5
        have k5 : w6.drew.heap[b5]? = some (.cells #[.slice (some ⟨gv, 0, none⟩) xs.length n0, .slice N1 ys.length n1] 31 (0, 0)) := z5
        have k4 : w6.drew.heap[b4]? = some (.cells #[.slice M0 xs.length m0, .slice M1 ys.length m1] 31 (0, 0)) := z4
        have k3 : w6.drew.heap[b2 + 1]? = some (.cells #[.slice none 0 0, .slice none 0 0] 31 (0, 0)) := z3
        have k2 : w6.drew.heap[b2]? = some (.cells #[.slice none 0 0, .slice none 0 0] 31 (0, 0)) := z2
        have hM0 := hM.drew
        have hN0 := hN.drew
        have hbw0 := b1_ hbw
        obtain ⟨ce, hcl, hMe, hcc, hfr⟩ := Kd.R_elem hN0.a z43 (0 : Int) (by decide) (by omega)
        obtain rfl := k43_openM hMe
        have kel : w6.drew.cell? ⟨gv, 1, none⟩ = some (.int .i64 (xs.getD 0 z43).f1) := hcc 1 _ rfl
        have kfz : w6.drew.frozen? ⟨gv, 1, none⟩ = false := hfr 1
        have k52 : w6.drew.cell? ⟨b5, 0, none⟩ = some (.slice (some ⟨gv, 0, none⟩) xs.length n0) := (kC_ k5 0).trans rfl
        obtain ⟨x, hx⟩ : ∃ q, (xs.getD 0 z43).f1 = q := ⟨_, rfl⟩
        have HX := aM_ hx
        rw [hx] at kel
        clear hx hcc hfr hMe hcl
        have hcv7 : w6.drew.heap[gv]? = some (.cells _ 43 (0, 0)) := hcv
        refine start_ (n := 11) (S := fun w' => w'.cell? ⟨b5, 0, none⟩ = some (.slice (some ⟨gv, 0, none⟩) xs.length n0) ∧ w'.cell? ⟨gv, 1, none⟩ = some (.int .i64 x)) (ds := [10]) #[F_, F_, F_, F_, F_, F_, F_, F_, F_, F_, F_] (by kernel_rfl) rfl rfl ⟨k52, kel⟩ (fun hHeld => ?_)
        refine pure_ (i := 0) (N := some 28) (v := ?_) (a' := ?_) #[T_, F_, F_, F_, F_, F_, F_, F_, F_, F_, F_] rfl rfl (by kernel_rfl) (fun _ _ _ h => h) (Or.inl ⟨by rfl, ?_⟩) ?_ ?_
        rotate_left
        · intro w'
          go_simp
          with_reducible rfl
        rotate_left
        · simp only [Act.put, sA_, sB_, sC_, i64_w, i32_w]
          rfl
        refine pure_ (i := 2) (N := some 30) (v := ?_) (a' := ?_) #[T_, F_, T_, F_, F_, F_, F_, F_, F_, F_, F_] rfl rfl (by kernel_rfl) (fun _ _ _ h => h) (Or.inl ⟨by rfl, ?_⟩) ?_ ?_
        rotate_left
        · intro w'
          go_simp
          with_reducible rfl
        rotate_left
        · simp only [Act.put, sA_, sB_, sC_, i64_w, i32_w]
          rfl
        refine take_ (i := 1) (N := some 29) (v := ?_) (a' := ?_) #[T_, T_, T_, F_, F_, F_, F_, F_, F_, F_, F_] rfl rfl (by kernel_rfl) (fun _ _ _ h => h) (Or.inl ⟨by rfl, ?_⟩) hHeld ?_ ?_
        rotate_left
        · rintro w' ⟨s0, s1⟩
          go_simp
          with_reducible rfl
        rotate_left
        · simp only [Act.put, sA_, sB_, sC_, i64_w, i32_w]
          rfl
        refine take_ (i := 3) (N := some 31) (v := ?_) (a' := ?_) #[T_, T_, T_, T_, F_, F_, F_, F_, F_, F_, F_] rfl rfl (by kernel_rfl) (fun _ _ _ h => h) (Or.inl ⟨by rfl, ?_⟩) hHeld ?_ ?_
        rotate_left
        · rintro w' ⟨s0, s1⟩
          go_simp
          with_reducible rfl
        rotate_left
        · simp only [Act.put, sA_, sB_, sC_, i64_w, i32_w]
          rfl
        refine pure_ (i := 4) (N := some 32) (v := ?_) (a' := ?_) #[T_, T_, T_, T_, T_, F_, F_, F_, F_, F_, F_] rfl rfl (by kernel_rfl) (fun _ _ _ h => h) (Or.inl ⟨by rfl, ?_⟩) ?_ ?_
        rotate_left
        · intro w'
          go_simp
          with_reducible rfl
        rotate_left
        · simp only [Act.put, sA_, sB_, sC_, i64_w, i32_w]
          rfl
        refine pure_ (i := 5) (N := some 33) (v := ?_) (a' := ?_) #[T_, T_, T_, T_, T_, T_, F_, F_, F_, F_, F_] rfl rfl (by kernel_rfl) (fun _ _ _ h => h) (Or.inl ⟨by rfl, ?_⟩) ?_ ?_
        rotate_left
        · intro w'
          go_simp
          with_reducible rfl
        rotate_left
        · simp only [Act.put, sA_, sB_, sC_, i64_w, i32_w]
          rfl
        refine take_ (i := 6) (N := some 34) (v := ?_) (a' := ?_) #[T_, T_, T_, T_, T_, T_, T_, F_, F_, F_, F_] rfl rfl (by kernel_rfl) (fun _ _ _ h => h) (Or.inl ⟨by rfl, ?_⟩) hHeld ?_ ?_
        rotate_left
        · rintro w' ⟨s0, s1⟩
          go_simp
          with_reducible rfl
        rotate_left
        · simp only [Act.put, sA_, sB_, sC_, i64_w, i32_w]
          rfl
        refine pure_ (i := 7) (N := some 35) (v := ?_) (a' := ?_) #[T_, T_, T_, T_, T_, T_, T_, T_, F_, F_, F_] rfl rfl (by kernel_rfl) (fun _ _ _ h => h) (Or.inl ⟨by rfl, ?_⟩) ?_ ?_
        rotate_left
        · intro w'
          go_simp
          with_reducible rfl
        rotate_left
        · simp only [Act.put, sA_, sB_, sC_, i64_w, i32_w]
          rfl
        refine pure_ (i := 8) (N := some 36) (v := ?_) (a' := ?_) #[T_, T_, T_, T_, T_, T_, T_, T_, T_, F_, F_] rfl rfl (by kernel_rfl) (fun _ _ _ h => h) (Or.inl ⟨by rfl, ?_⟩) ?_ ?_
        rotate_left
        · intro w'
          go_simp
          with_reducible rfl
        rotate_left
        · simp only [Act.put, sA_, sB_, sC_, i64_w, i32_w]
          rfl
        refine pure_ (i := 9) (N := some 37) (v := ?_) (a' := ?_) #[T_, T_, T_, T_, T_, T_, T_, T_, T_, T_, F_] rfl rfl (by kernel_rfl) (fun _ _ _ h => h) (Or.inl ⟨by rfl, ?_⟩) ?_ ?_
        rotate_left
        · intro w'
          go_simp
          with_reducible rfl
        rotate_left
        · simp only [Act.put, sA_, sB_, sC_, i64_w, i32_w]
          rfl
        refine last_ (i := 10) (N := none) #[T_, T_, T_, T_, T_, T_, T_, T_, T_, T_, T_] rfl rfl (by kernel_rfl) (by decide) (fun K hK => ?_)
        generalize w6.drew = w7 at hcv7 kel kfz k52 k2 k3 k4 k5 hM0 hN0 hbw0 hHeld ⊢
        refine skip_ (w1 := ?_) (by rfl) rfl ?_ ?_
        rotate_left
        · go_simp
          rfl
        refine hK.out _ _ ?_
        clear hK K
        refine done_ (by kernel_rfl) ?_
        obtain ⟨ce, hcl, hMe, hcc, hfr⟩ := Kd.R_elem hN0.a z43 (0 : Int) (by decide) (by omega)
        obtain rfl := k43_openM hMe
        have HP := (Kd.R_seg hN0.a (0 : Int) (by decide) (by omega) (seg := [.int .i64 (wrap64 (x + 1))]) (j := 1) hcl hcc (show 2 ≤ 12 by decide) (x' := chg (xs.getD 0 z43) (wrap64 (x + 1))) (k43_mkM _ _ _ (chg (xs.getD 0 z43) (wrap64 (x + 1)))) (fun _ hk => hk)).1
        have HP2 : Kd.R k43 43 (w7.setCell ⟨gv, 1, none⟩ (.int .i64 (wrap64 (x + 1)))) w.heap.size (fun _ => True) (.slice (some ⟨gv, 0, none⟩) xs.length n0) (xs.set 0 (chg (xs.getD 0 z43) (wrap64 (x + 1)))) := HP
        have hNN : R2 (fun _ => True) w.heap.size (w7.setCell ⟨gv, 1, none⟩ (.int .i64 (wrap64 (x + 1)))) (.slice (some ⟨gv, 0, none⟩) xs.length n0) (.slice N1 ys.length n1) (xs.set 0 (chg (xs.getD 0 z43) (wrap64 (x + 1)))) ys := ⟨HP2, Kd.R_set hN0.b hcv7 (ne_of z66E (by decide)) 1 _⟩
        have hMM := hM0.far (p := ⟨gv, 1, none⟩) hgs (.int .i64 (wrap64 (x + 1)))
        have y2 := blk_far k2 (p := ⟨gv, 1, none⟩) nb2 (.int .i64 (wrap64 (x + 1)))
        have y3 := blk_far k3 (p := ⟨gv, 1, none⟩) nb3 (.int .i64 (wrap64 (x + 1)))
        have y4 := blk_far k4 (p := ⟨gv, 1, none⟩) nb4 (.int .i64 (wrap64 (x + 1)))
        have y5 := blk_far k5 (p := ⟨gv, 1, none⟩) nb5 (.int .i64 (wrap64 (x + 1)))
        have ybw : Below w.heap.size w (w7.setCell ⟨gv, 1, none⟩ (.int .i64 (wrap64 (x + 1)))) := bS_ hbw0 gB_
        have HLN : Aside0 ((xs.set 0 (chg (xs.getD 0 z43) (wrap64 (x + 1)))).length = xs.length) := ⟨List.length_set ..⟩
        generalize xs.set 0 (chg (xs.getD 0 z43) (wrap64 (x + 1))) = xs2 at hNN HLN
        clear HP HP2 hcl hcc hfr hM0 hN0 hM hN z2 z3 z4 z5 k2 k3 k4 k5 hbw hbw0 kel kfz k52 hc0 hx0 ht d1 hcv hcv7 i50 gN0 nb2 nb3 nb4 nb5 hHeld HX
        generalize w7.setCell _ _ = wk at hNN hMM y2 y3 y4 y5 ybw ⊢
        generalize (some (⟨gv, 0, none⟩ : Addr)) = N0 at hNN y5 ⊢
        have hN := hNN
        have hM := hMM
        have z2 := y2
        have z3 := y3
        have z4 := y4
        have z5 := y5
        have hbw := ybw
        clear hNN hMM y2 y3 y4 y5 ybw
        go_upto_region 5 with (fail)
        have z20 : wk.drew.heap[b2]? = some (.cells #[.slice none 0 0, .slice none 0 0] 31 (0, 0)) := z2
        have z30 : wk.drew.heap[b2 + 1]? = some (.cells #[.slice none 0 0, .slice none 0 0] 31 (0, 0)) := z3
        have z40 : wk.drew.heap[b4]? = some (.cells #[.slice M0 xs.length m0, .slice M1 ys.length m1] 31 (0, 0)) := z4
        have z50 : wk.drew.heap[b5]? = some (.cells #[.slice N0 xs.length n0, .slice N1 ys.length n1] 31 (0, 0)) := z5
        have hM0 := hM.drew
        have hN0 := hN.drew
        have hbw0 := b1_ hbw
        refine start_ (n := 4) (S := fun w' => w'.cell? ⟨b4, 0, none⟩ = some (.slice M0 xs.length m0) ∧ w'.cell? ⟨b4, 1, none⟩ = some (.slice M1 ys.length m1) ∧ w'.cell? ⟨b5, 0, none⟩ = some (.slice N0 xs.length n0) ∧ w'.cell? ⟨b5, 1, none⟩ = some (.slice N1 ys.length n1) ∧ w'.heap[b4]? = some (.cells #[.slice M0 xs.length m0, .slice M1 ys.length m1] 31 (0, 0)) ∧ w'.heap[b5]? = some (.cells #[.slice N0 xs.length n0, .slice N1 ys.length n1] 31 (0, 0)) ∧ w'.heap[b2 + 1]? = some (.cells #[.slice none 0 0, .slice none 0 0] 31 (0, 0)) ∧ R2 (fun k => k < s4) w.heap.size w' (.slice M0 xs.length m0) (.slice M1 ys.length m1) xs ys ∧ R2 (fun _ => True) w.heap.size w' (.slice N0 xs.length n0) (.slice N1 ys.length n1) (xs2) ys ∧ Below w.heap.size w w') (ds := [3]) #[F_, F_, F_, F_] (by kernel_rfl) rfl rfl ⟨(kC_ z40 0).trans rfl, (kC_ z40 1).trans rfl, (kC_ z50 0).trans rfl, (kC_ z50 1).trans rfl, z40, z50, z30, hM0, hN0, hbw0⟩ (fun hHeld => ?_)
        refine take_ (i := 0) (N := some 38) (v := ?_) (a' := ?_) #[T_, F_, F_, F_] rfl rfl (by kernel_rfl) (fun _ _ _ h => h) (Or.inl ⟨by rfl, ?_⟩) hHeld ?_ ?_
        rotate_left
        · rintro w' ⟨s0, s1, s2, s3, s4, s5, s6, s7, s8, s9⟩
          go_simp
          with_reducible rfl
        rotate_left
        · simp only [Act.put, sA_, sB_, sC_, i64_w, i32_w]
          rfl
        refine take_ (i := 1) (N := some 39) (v := ?_) (a' := ?_) #[T_, T_, F_, F_] rfl rfl (by kernel_rfl) (fun _ _ _ h => h) (Or.inl ⟨by rfl, ?_⟩) hHeld ?_ ?_
        rotate_left
        · rintro w' ⟨s0, s1, s2, s3, s4, s5, s6, s7, s8, s9⟩
          go_simp
          with_reducible rfl
        rotate_left
        · simp only [Act.put, sA_, sB_, sC_, i64_w, i32_w]
          rfl
        refine one_ (i := 2) (N := none) #[T_, T_, T_, F_] rfl rfl (by kernel_rfl) (by decide) (fun K hK => ?_)
        generalize wk.drew = w7 at z20 hHeld ⊢
        refine skip_ (w1 := ?_) (by rfl) rfl ?_ ?_
        rotate_left
        · skip
          (obtain ⟨i0, i1⟩ := HFnNetSame.cells2 z20)
          (obtain ⟨j0, j1⟩ := frozen2 z20)
          go_simp
          rfl
        have y4 := ch_far hHeld.2.2.2.2.1 (by omega : b4 ≠ b2) (.slice M0 xs.length m0) (.slice M1 ys.length m1)
        have y5 := ch_far hHeld.2.2.2.2.2.1 (by omega : b5 ≠ b2) (.slice M0 xs.length m0) (.slice M1 ys.length m1)
        have y3 := ch_far hHeld.2.2.2.2.2.2.1 (by omega : b2 + 1 ≠ b2) (.slice M0 xs.length m0) (.slice M1 ys.length m1)
        have yM := ch_R2 hHeld.2.2.2.2.2.2.2.1 z20 (.slice M0 xs.length m0) (.slice M1 ys.length m1)
        have yN := ch_R2 hHeld.2.2.2.2.2.2.2.2.1 z20 (.slice M0 xs.length m0) (.slice M1 ys.length m1)
        have yb := ch_below hHeld.2.2.2.2.2.2.2.2.2 nw2 (.slice M0 xs.length m0) (.slice M1 ys.length m1)
        have y2 := ch_put z20 (.slice M0 xs.length m0) (.slice M1 ys.length m1)
        unfold ch at y4 y5 y3 yM yN yb y2
        generalize ((w7.setCell ⟨b2, 0, none⟩ (.slice M0 xs.length m0)).setCell ⟨b2, 1, none⟩ (.slice M1 ys.length m1)) = w8 at y4 y5 y3 yM yN yb y2 ⊢
        refine hK.out _ _ ⟨(kC_ y4 0).trans rfl, (kC_ y4 1).trans rfl, (kC_ y5 0).trans rfl, (kC_ y5 1).trans rfl, y4, y5, y3, yM, yN, yb⟩ (fun hHeld => ?_)
        clear hK K
        refine last_ (i := 3) (N := none) #[T_, T_, T_, T_] rfl rfl (by kernel_rfl) (by decide) (fun K hK => ?_)
        refine skip_ (w1 := ?_) (by rfl) rfl ?_ ?_
        rotate_left
        · skip
          have i0 : w8.cell? ⟨b2 + 1, 0, none⟩ = some (.slice none 0 0) := (kC_ y3 0).trans rfl
          have i1 : w8.cell? ⟨b2 + 1, 1, none⟩ = some (.slice none 0 0) := (kC_ y3 1).trans rfl
          (obtain ⟨j0, j1⟩ := frozen2 y3)
          go_simp
          rfl
        have x2 := ch_far y2 (by omega : b2 ≠ b2 + 1) (.slice N0 xs.length n0) (.slice N1 ys.length n1)
        have xM := ch_R2 yM y3 (.slice N0 xs.length n0) (.slice N1 ys.length n1)
        have xN := ch_R2 yN y3 (.slice N0 xs.length n0) (.slice N1 ys.length n1)
        have xb := ch_below yb (by omega : w.heap.size ≤ b2 + 1) (.slice N0 xs.length n0) (.slice N1 ys.length n1)
        have x3 := ch_put y3 (.slice N0 xs.length n0) (.slice N1 ys.length n1)
        unfold ch at x2 xM xN xb x3
        generalize ((w8.setCell ⟨b2 + 1, 0, none⟩ (.slice N0 xs.length n0)).setCell ⟨b2 + 1, 1, none⟩ (.slice N1 ys.length n1)) = w9 at x2 xM xN xb x3 ⊢
        refine hK.out _ _ ?_
        clear hK K
        refine done_ (by kernel_rfl) ?_
        clear hHeld
        go_wp2
        refine bodyPost_ret (results_cc rfl _ _ b2 (b2 + 1) 31 31 #[.slice M0 xs.length m0, .slice M1 ys.length m1] #[.slice N0 xs.length n0, .slice N1 ys.length n1] (0, 0) (0, 0) _ _ rfl x2 Tryz.underlying31 rfl (by kernel_rfl) rfl x3 Tryz.underlying31 rfl (by kernel_rfl)) rfl ?_
        refine ⟨xs, ys, xs2, ys, M0, M1, m0, m1, N0, N1, n0, n1, ?_, xM.all, ?_, xb⟩
        · rw [HLN.out]
        · rw [HLN.out]; exact xN
  · have d1 : decide (0 < l.length) = false := dF_ hl0
    clear hr6
    go_wp2_with fail
    have z20 : w6.drew.heap[b2]? = some (.cells #[.slice none 0 0, .slice none 0 0] 31 (0, 0)) := z2
    have z30 : w6.drew.heap[b2 + 1]? = some (.cells #[.slice none 0 0, .slice none 0 0] 31 (0, 0)) := z3
    have z40 : w6.drew.heap[b4]? = some (.cells #[.slice M0 xs.length m0, .slice M1 ys.length m1] 31 (0, 0)) := z4
    have z50 : w6.drew.heap[b5]? = some (.cells #[.slice N0 xs.length n0, .slice N1 ys.length n1] 31 (0, 0)) := z5
    have hM0 := hM.drew
    have hN0 := hN.drew
    have hbw0 := b1_ hbw
    refine start_ (n := 4) (S := fun w' => w'.cell? ⟨b4, 0, none⟩ = some (.slice M0 xs.length m0) ∧ w'.cell? ⟨b4, 1, none⟩ = some (.slice M1 ys.length m1) ∧ w'.cell? ⟨b5, 0, none⟩ = some (.slice N0 xs.length n0) ∧ w'.cell? ⟨b5, 1, none⟩ = some (.slice N1 ys.length n1) ∧ w'.heap[b4]? = some (.cells #[.slice M0 xs.length m0, .slice M1 ys.length m1] 31 (0, 0)) ∧ w'.heap[b5]? = some (.cells #[.slice N0 xs.length n0, .slice N1 ys.length n1] 31 (0, 0)) ∧ w'.heap[b2 + 1]? = some (.cells #[.slice none 0 0, .slice none 0 0] 31 (0, 0)) ∧ R2 (fun k => k < s4) w.heap.size w' (.slice M0 xs.length m0) (.slice M1 ys.length m1) xs ys ∧ R2 (fun _ => True) w.heap.size w' (.slice N0 xs.length n0) (.slice N1 ys.length n1) (xs) ys ∧ Below w.heap.size w w') (ds := [3]) #[F_, F_, F_, F_] (by kernel_rfl) rfl rfl ⟨(kC_ z40 0).trans rfl, (kC_ z40 1).trans rfl, (kC_ z50 0).trans rfl, (kC_ z50 1).trans rfl, z40, z50, z30, hM0, hN0, hbw0⟩ (fun hHeld => ?_)
    refine take_ (i := 0) (N := some 38) (v := ?_) (a' := ?_) #[T_, F_, F_, F_] rfl rfl (by kernel_rfl) (fun _ _ _ h => h) (Or.inl ⟨by rfl, ?_⟩) hHeld ?_ ?_
    rotate_left
    · rintro w' ⟨s0, s1, s2, s3, s4, s5, s6, s7, s8, s9⟩
      go_simp
      with_reducible rfl
    rotate_left
    · simp only [Act.put, sA_, sB_, sC_, i64_w, i32_w]
      rfl
    refine take_ (i := 1) (N := some 39) (v := ?_) (a' := ?_) #[T_, T_, F_, F_] rfl rfl (by kernel_rfl) (fun _ _ _ h => h) (Or.inl ⟨by rfl, ?_⟩) hHeld ?_ ?_
    rotate_left
    · rintro w' ⟨s0, s1, s2, s3, s4, s5, s6, s7, s8, s9⟩
      go_simp
      with_reducible rfl
    rotate_left
    · simp only [Act.put, sA_, sB_, sC_, i64_w, i32_w]
      rfl
    refine one_ (i := 2) (N := none) #[T_, T_, T_, F_] rfl rfl (by kernel_rfl) (by decide) (fun K hK => ?_)
    generalize w6.drew = w7 at z20 hHeld ⊢
    refine skip_ (w1 := ?_) (by rfl) rfl ?_ ?_
    rotate_left
    · skip
      (obtain ⟨i0, i1⟩ := HFnNetSame.cells2 z20)
      (obtain ⟨j0, j1⟩ := frozen2 z20)
      go_simp
      rfl
    have y4 := ch_far hHeld.2.2.2.2.1 (by omega : b4 ≠ b2) (.slice M0 xs.length m0) (.slice M1 ys.length m1)
    have y5 := ch_far hHeld.2.2.2.2.2.1 (by omega : b5 ≠ b2) (.slice M0 xs.length m0) (.slice M1 ys.length m1)
    have y3 := ch_far hHeld.2.2.2.2.2.2.1 (by omega : b2 + 1 ≠ b2) (.slice M0 xs.length m0) (.slice M1 ys.length m1)
    have yM := ch_R2 hHeld.2.2.2.2.2.2.2.1 z20 (.slice M0 xs.length m0) (.slice M1 ys.length m1)
    have yN := ch_R2 hHeld.2.2.2.2.2.2.2.2.1 z20 (.slice M0 xs.length m0) (.slice M1 ys.length m1)
    have yb := ch_below hHeld.2.2.2.2.2.2.2.2.2 nw2 (.slice M0 xs.length m0) (.slice M1 ys.length m1)
    have y2 := ch_put z20 (.slice M0 xs.length m0) (.slice M1 ys.length m1)
    unfold ch at y4 y5 y3 yM yN yb y2
    generalize ((w7.setCell ⟨b2, 0, none⟩ (.slice M0 xs.length m0)).setCell ⟨b2, 1, none⟩ (.slice M1 ys.length m1)) = w8 at y4 y5 y3 yM yN yb y2 ⊢
    refine hK.out _ _ ⟨(kC_ y4 0).trans rfl, (kC_ y4 1).trans rfl, (kC_ y5 0).trans rfl, (kC_ y5 1).trans rfl, y4, y5, y3, yM, yN, yb⟩ (fun hHeld => ?_)
    clear hK K
    refine last_ (i := 3) (N := none) #[T_, T_, T_, T_] rfl rfl (by kernel_rfl) (by decide) (fun K hK => ?_)
    refine skip_ (w1 := ?_) (by rfl) rfl ?_ ?_
    rotate_left
    · skip
      have i0 : w8.cell? ⟨b2 + 1, 0, none⟩ = some (.slice none 0 0) := (kC_ y3 0).trans rfl
      have i1 : w8.cell? ⟨b2 + 1, 1, none⟩ = some (.slice none 0 0) := (kC_ y3 1).trans rfl
      (obtain ⟨j0, j1⟩ := frozen2 y3)
      go_simp
      rfl
    have x2 := ch_far y2 (by omega : b2 ≠ b2 + 1) (.slice N0 xs.length n0) (.slice N1 ys.length n1)
    have xM := ch_R2 yM y3 (.slice N0 xs.length n0) (.slice N1 ys.length n1)
    have xN := ch_R2 yN y3 (.slice N0 xs.length n0) (.slice N1 ys.length n1)
    have xb := ch_below yb (by omega : w.heap.size ≤ b2 + 1) (.slice N0 xs.length n0) (.slice N1 ys.length n1)
    have x3 := ch_put y3 (.slice N0 xs.length n0) (.slice N1 ys.length n1)
    unfold ch at x2 xM xN xb x3
    generalize ((w8.setCell ⟨b2 + 1, 0, none⟩ (.slice N0 xs.length n0)).setCell ⟨b2 + 1, 1, none⟩ (.slice N1 ys.length n1)) = w9 at x2 xM xN xb x3 ⊢
    refine hK.out _ _ ?_
    clear hK K
    refine done_ (by kernel_rfl) ?_
    clear hHeld
    go_wp2
    refine bodyPost_ret (results_cc rfl _ _ b2 (b2 + 1) 31 31 #[.slice M0 xs.length m0, .slice M1 ys.length m1] #[.slice N0 xs.length n0, .slice N1 ys.length n1] (0, 0) (0, 0) _ _ rfl x2 Tryz.underlying31 rfl (by kernel_rfl) rfl x3 Tryz.underlying31 rfl (by kernel_rfl)) rfl ?_
    refine ⟨xs, ys, xs, ys, M0, M1, m0, m1, N0, N1, n0, n1, ?_, xM.all, ?_, xb⟩
    · rfl
    · exact xN
end Go.Proofs.YtphblfmjdiigkaaGreatDoor.Hv10
