/- impl.depths answers what Hp.dep says. No condition. -/
import Derived.Test.YtjamfddhcigchaaGreatDoorTFnCodeSameHr
import Derived.Test.YtjamfddhcigchaaGreatDoorTFnCodeSameHp
namespace Go.Proofs.YtjamfddhcigchaaGreatDoor.Hd
open Go.RowKit Go.Proofs.YtjamfddhcigchaaGreatDoor.Ht Go.Proofs.YtjamfddhcigchaaGreatDoor.Hr Go.Proofs.YtjamfddhcigchaaGreatDoor.Hp Go.Proofs.YtjamfddhcigchaaGreatDoor.HFnCodeSame Go.Proofs.YtjamfddhcigchaaGreatDoorW.PrintWords Go.Proofs.YtjamfddhcigchaaGreatDoorW.PrintLast Go.Proofs.YtjamfddhcigchaaGreatDoorW.PrintMore
set_option linter.unusedVariables false
set_option linter.unusedSimpArgs false
attribute [local go_sem] max2_int min2_int max_two min_two
structure D (w : World) (g4 g N c : Nat) (l : List Int) (W : World) : Prop where
 h4 : W.heap[g4]? = some (.cells #[.slice (some ⟨g, 0, none⟩) N c] 31 (0, 0))
 r : RR w.heap.size W g N c l
 b4 : w.heap.size ≤ g4
 bg : w.heap.size ≤ g
 ne : g4 ≠ g
 bel : Below w.heap.size w W
section
variable {w W W' : World} {g4 g N c : Nat} {l : List Int}
theorem D.below (h : D w g4 g N c l W) (hb : Below W.heap.size W W') : D w g4 g N c l W' := ⟨blk_below h.h4 hb, Kd.R_below h.r hb, h.b4, h.bg, h.ne, h.bel.trans (hb.mono h.bel.size)⟩
theorem D.drew (h : D w g4 g N c l W) : D w g4 g N c l W.drew := h.below (below_drew1 (Below.refl _ _))
theorem D.alloc (h : D w g4 g N c l W) (o : Obj) : D w g4 g N c l (W.alloc o) := h.below ((Below.refl _ _).alloc (Nat.le_refl _) _)
theorem D.x4 (h : D w g4 g N c l W) : W.cell? ⟨g4, 0, none⟩ = some (.slice (some ⟨g, 0, none⟩) N c) := (blk_cell h.h4 0).trans rfl
theorem D.len (h : D w g4 g N c l W) : l.length = N := (Kd.R_reads' h.r).1.symm
theorem D.at_ (h : D w g4 g N c l W) (j : Nat) (hj : j < N) : W.cell? ⟨g, j, none⟩ = some (.int .i64 (rd l j)) := by
 obtain ⟨hx, _⟩ := Kd.R_celln 0 h.r (j : Int) (by omega) (by omega)
 rw [Int.toNat_natCast] at hx
 exact hx
theorem D.tell (h : D w g4 g N c l W) (j : Nat) (n : Int) (hj : j < N) {g7 : Nat} {I : Array Value} (h7 : W.heap[g7]? = some (.cells I 30 (0, 0))) :
  Calls Tryz.prog 67 #[.int .i64 (j : Int), .int .i64 n, .pointer (some ⟨g4, 0, none⟩)] W fun e w' => e = .returned (.bool (told l j n)) ∧ D w g4 g N c (Ht.tell l j n) w' ∧ w'.heap[g7]? = some (.cells I 30 (0, 0)) := by
 refine (tell_any g4 g N c l j n w.heap.size W h.h4 h.ne h.r hj).mono ?_
 rintro e w' ⟨rfl, hR, hw⟩
 obtain ⟨g', c', ev, _, _, cells, hg⟩ := Kd.R_form h.r (by rw [h.len]; omega)
 injection ev with e1 _ _
 injection e1 with e1
 injection e1 with e1 _ _
 subst e1
 have n7 : g7 ≠ g := fun e => by rw [e, hg] at h7; simp at h7
 rcases hw with rfl | rfl
 ·exact ⟨rfl, ⟨h.h4, hR, h.b4, h.bg, h.ne, h.bel⟩, h7⟩
 ·exact ⟨rfl, ⟨blk_far h.h4 h.ne _, hR, h.b4, h.bg, h.ne, below_set h.bel h.bg⟩, blk_far h7 n7 _⟩
end
theorem D.tellB {w W : World} {g4 g N c : Nat} {l : List Int} (h : D w g4 g N c l W) (b n : Int) (b0 : 0 ≤ b) (b1 : b < N) {g7 : Nat} {I : Array Value} (h7 : W.heap[g7]? = some (.cells I 30 (0, 0))) (t : Bool) (ht : told l b n = t) :
  Calls Tryz.prog 67 #[.int .i64 b, .int .i64 n, .pointer (some ⟨g4, 0, none⟩)] W fun e w' => e = .returned (.bool t) ∧ D w g4 g N c (Ht.tell l b n) w' ∧ w'.heap[g7]? = some (.cells I 30 (0, 0)) := by
 obtain ⟨j, rfl⟩ := Int.eq_ofNat_of_zero_le b0
 subst ht; exact h.tell j n (by omega) h7
abbrev IA (i : S30) : Array Value := #[.int .i64 i.f0, .int .i64 i.f1, .int .i64 i.f2.f0, .int .i64 i.f2.f1]
theorem okC (i : S30) (k n : Nat) (t : Bool) (h : okI i.f0 i.f1 i.f2.f0 i.f2.f1 k n = t) (W : World) : Calls Tryz.prog 68 #[.agg (IA i), .int .i64 (k : Int), .int .i64 (n : Int)] W fun e w' => e = .returned (.bool t) ∧ Below W.heap.size W w' := by
 subst h; exact impl_Ins_ok.calls 1 _ _ _ _ _ _ _ W (ok_some 0 _ _ _ _ _ _)
theorem takesC (i : S30) (T : Int) (h : tk i.f0 = T) (W : World) : Calls Tryz.prog 69 #[.agg (IA i)] W fun e w' => e = .returned (.int .i64 T) ∧ Below W.heap.size W w' := by
 subst h; exact impl_Ins_takes.calls 1 _ _ _ _ _ W (takes_some 0 _ _ _ _)
theorem givesC (i : S30) (T : Int) (h : gv i.f0 = T) (W : World) : Calls Tryz.prog 70 #[.agg (IA i)] W fun e w' => e = .returned (.int .i64 T) ∧ Below W.heap.size W w' := by
 subst h; exact impl_Ins_gives.calls _ _ _ _ _ W (gives_some _ _ _ _)
theorem goesC (i : S30) (T : Bool) (h : goB i.f0 = T) (W : World) : Calls Tryz.prog 71 #[.agg (IA i)] W fun e w' => e = .returned (.bool T) ∧ Below W.heap.size W w' := by
 subst h; exact impl_Ins_goes.calls _ _ _ _ _ W (goes_some _ _ _ _)
theorem followsC (i : S30) (T : Bool) (h : foB i.f0 = T) (W : World) : Calls Tryz.prog 72 #[.agg (IA i)] W fun e w' => e = .returned (.bool T) ∧ Below W.heap.size W w' := by
 subst h; exact impl_Ins_follows.calls _ _ _ _ _ W (follows_some _ _ _ _)
theorem D.tellS {w W : World} {g4 g N c : Nat} {l : List Int} (h : D w g4 g N c l W) (k : Nat) (n : Int) (hj : k + 1 < N) {g7 : Nat} {I : Array Value} (h7 : W.heap[g7]? = some (.cells I 30 (0, 0))) (t : Bool) (ht : told l ((k + 1 : Nat) : Int) n = t) :
  Calls Tryz.prog 67 #[.int .i64 ((k : Int) + 1), .int .i64 n, .pointer (some ⟨g4, 0, none⟩)] W fun e w' => e = .returned (.bool t) ∧ D w g4 g N c (Ht.tell l ((k + 1 : Nat) : Int) n) w' ∧ w'.heap[g7]? = some (.cells I 30 (0, 0)) := by
 subst ht; exact h.tell (k + 1) n hj h7
set_option maxRecDepth 100000 in
set_option maxHeartbeats 25600000 in
theorem depths_any (A : Option Addr) (cc : Nat) (ps : List S30) (w : World) (hr : Kd.C k30 w A ps.length ps) (hc : ps.length ≤ cc) :
  Calls Tryz.prog 40 #[.slice A ps.length cc] w fun e w' => ∃ v, e = .returned (.tuple #[v, .bool (okB ps)]) ∧ (okB ps = true → ∃ g c l, dep ps = some l ∧ v = .slice (some ⟨g, 0, none⟩) (ps.length + 1) c ∧ RR w.heap.size w' g (ps.length + 1) c l) ∧ Below w.heap.size w w' := by
 by_cases hm : 400 < ps.length
 ·have d1 : decide (400 < (ps.length : Int)) = true := by simp; omega
  have hd : okB ps = false := by unfold okB dep; rw [if_pos hm]
  rw [hd]
  clear hm hd
  go_enter Tryz.func40, Tryz.ntmps40
  go_wp2
  go_ret2
  exact ⟨.slice none 0 0, rfl, (fun h => absurd h (by simp)), Below.refl _ _⟩
 have d1 : decide (400 < (ps.length : Int)) = false := by simp; omega
 have wn : wrap64 ((ps.length : Int) + 1) = ((ps.length + 1 : Nat) : Int) := by unfold wrap64; omega
 have hrep : ∀ A0 c0 W, Kd.C (Kd.int .i64) W A0 1 [-1] → Calls Tryz.prog 66 #[.slice A0 1 c0, .int .i64 ((ps.length : Int) + 1)] W fun e w' => ∃ g c, e = .returned (.slice (some ⟨g, 0, none⟩) (ps.length + 1) c) ∧ RR W.heap.size w' g (ps.length + 1) c (List.replicate (ps.length + 1) (-1)) ∧ Below W.heap.size W w' :=
  fun A0 c0 W h => repeat_any A0 c0 (-1) (ps.length + 1) W h (by omega) (by omega)
 have hle : ps.length ≤ 400 := by omega
 have hle' := Aside0.mk hle
 clear hm hle
 go_enter Tryz.func40, Tryz.ntmps40
 go_wp2_with fail
 refine (hrep _ _ _ (Kd.C_of_reads (d := (0 : Int)) (h1 := fun _ => rfl) ⟨rfl, by omega, fun _ => ⟨_, rfl, fun j hj => ?_⟩⟩)).mono ?_
 ·have : j = 0 := by omega
  subst this
  exact (blk_cell (heap_alloc_new w (Obj.cells #[.int .i64 (-1)] 3)) 0).trans rfl
 rintro e w1 ⟨g, c, rfl, hR, hb1⟩
 have hbA : Below w.heap.size w (w.alloc (Obj.cells #[.int .i64 (-1)] 3)) := (Below.refl _ _).alloc (Nat.le_refl _) _
 have hb : Below w.heap.size w w1 := hbA.trans (hb1.mono hbA.size)
 have hR1 : RR w.heap.size w1 g (ps.length + 1) c (List.replicate (ps.length + 1) (-1)) := Kd.R_lower hR hbA.size
 clear hR hb1 hrep hbA
 obtain ⟨g', c', ev, hgB, hgL, _⟩ := Kd.R_form hR1 (by rw [List.length_replicate]; omega)
 injection ev with e1 e2 e3
 clear e2 e3
 injection e1 with e1
 injection e1 with e1
 subst e1
 have hgB' := Aside0.mk hgB
 have hgL' := Aside0.mk hgL
 clear hgB hgL wn
 go_upto_region 4 with (fail)
 have hgB := hgB'.out
 have hgL := hgL'.out
 have hD : D w w1.heap.size g (ps.length + 1) c (List.replicate (ps.length + 1) (-1)) (w1.alloc (.cells #[.slice (some ⟨g, 0, none⟩) (ps.length + 1) c] 31 (0, 0))) :=
  ⟨heap_alloc_new _ _, Kd.R_alloc hR1 _, hb.size, hgB, by omega, hb.alloc hb.size _⟩
 clear hR1 hb
 generalize w1.alloc (Obj.cells _ 31) = w2 at hD ⊢
 have hg4 : w1.heap.size ≠ g := by omega
 generalize w1.heap.size = g4 at hD hg4 ⊢
 clear hgL
 have i4 := hD.x4
 obtain ⟨h0c, h0f⟩ := Kd.R_celln 0 hD.r (0 : Int) (by omega) (by omega)
 replace h0c : w2.cell? ⟨g, 0, none⟩ = some (.int .i64 (rdOf 0 (List.replicate (ps.length + 1) (-1)) 0)) := h0c
 replace h0f : w2.frozen? ⟨g, 0, none⟩ = false := h0f
 generalize rdOf (0 : Int) (List.replicate (ps.length + 1) (-1)) 0 = q at h0c
 go_upto_region 5 with (fail)
 have hD2 : D w g4 g (ps.length + 1) c ((List.replicate (ps.length + 1) (-1)).set 0 0) (w2.setCell ⟨g, 0, none⟩ (.int .i64 0)) :=
  ⟨blk_far hD.h4 hg4 _, Kd.R_putn hD.r 0 0, hD.b4, hD.bg, hg4, below_set hD.bel hD.bg⟩
 clear hD i4 h0c h0f hg4 hgB
 generalize w2.setCell _ _ = w3 at hD2 ⊢
 have hdep : Hp.run ps ps.length 0 ((List.replicate (ps.length + 1) (-1)).set 0 0) = dep ps := by
  unfold dep; rw [if_neg (by have := hle'.out; omega)]
 have hbd0 : ∀ x ∈ (List.replicate (ps.length + 1) (-1 : Int)).set 0 0, -1 ≤ x ∧ x ≤ 12 := by
  intro x hx
  rcases List.mem_or_eq_of_mem_set hx with h1 | rfl
  ·rw [List.mem_replicate] at h1; omega
  ·omega
 generalize (List.replicate (ps.length + 1) (-1 : Int)).set 0 0 = l0 at hD2 hdep hbd0
 have hdep' := Aside0.mk hdep
 have hbd' := Aside0.mk hbd0
 have hu34 := Tryz.underlying30
 clear hdep hbd0
 go_wp2_with fail
 go_loopw [22] (fun i wr => ∃ (k : Nat) (l : List Int), k ≤ ps.length ∧ i = .int .i64 (k : Int) ∧ Hp.run ps (ps.length - k) k l = dep ps ∧ (∀ x ∈ l, -1 ≤ x ∧ x ≤ 12) ∧ D w g4 g (ps.length + 1) c l wr) (fun i _ => ps.length - (intOf i).toNat)
 case atStart => exact ⟨0, l0, by omega, rfl, hdep'.out, hbd'.out, hD2⟩
 case round =>
  clear hdep' hbd' hD2
  obtain ⟨k, l, hk, rfl, hrun, hbd, hD⟩ := hrel
  by_cases hkn : k < ps.length
  ·have d2 : decide (k < ps.length) = true := by simpa using hkn
   obtain ⟨ad, hA, e0, e1, e2, e3⟩ := at_T30 (Kd.C_below hr hD.bel) (k : Int) (by omega) (by omega)
   subst hA
   rw [Int.toNat_natCast] at e0 e1 e2 e3
   have hs : dep ps = (match Hp.step (rd_T30 ps (k : Int)) k ps.length l with | none => none | some l' => Hp.run ps (ps.length - (k + 1)) (k + 1) l') := by
    rw [← hrun, show ps.length - k = (ps.length - (k + 1)) + 1 by omega]; rfl
   generalize rd_T30 ps (k : Int) = ins at e0 e1 e2 e3 hs
   have hln := hD.len
   have hv := rd_bd (a := (k : Int)) hbd
   have ht := tk_bd ins.f0
   have hg := gv_bd ins.f0
   have hs' := Aside0.mk hs
   have hbd' := Aside0.mk hbd
   have hkn' := Aside0.mk hkn
   have hk1 : k < ps.length + 1 := by omega
   have kk : (k : Int) < (ps.length : Int) + 1 := by omega
   obtain ⟨v, evv⟩ : ∃ v, rd l (k : Int) = v := ⟨_, rfl⟩
   obtain ⟨T, eT⟩ : ∃ v, tk ins.f0 = v := ⟨_, rfl⟩
   obtain ⟨G, eG⟩ : ∃ v, gv ins.f0 = v := ⟨_, rfl⟩
   rw [evv] at hv
   rw [eT] at ht
   rw [eG] at hg
   have w1_ : wrap64 (v - T) = v - T := by unfold wrap64; omega
   have w2_ : wrap64 (v - T + G) = v - T + G := by unfold wrap64; omega
   have hvb := Aside0.mk hv
   have htb := Aside0.mk ht
   have hgb := Aside0.mk hg
   clear hrun hbd hk hs hln hv ht hg
   go_upto_region 9 with (fail)
   try clear hkn
   have n7 := heap_alloc_new wr (Obj.cells (IA ins) 30)
   have hDa := hD.alloc (Obj.cells (IA ins) 30)
   clear hD
   have hDd : D w g4 g (ps.length + 1) c l (wr.alloc (Obj.cells (IA ins) 30)).drew := hDa.drew
   have n7d : (wr.alloc (Obj.cells (IA ins) 30)).drew.heap[wr.heap.size]? = some (.cells (IA ins) 30 (0, 0)) := n7
   have evv' := Aside0.mk evv
   have eT' := Aside0.mk eT
   have eG' := Aside0.mk eG
   have hck : ∀ {W : World}, D w g4 g (ps.length + 1) c l W → W.cell? ⟨g, k, none⟩ = some (.int .i64 v) := fun h => by rw [← evv'.out]; exact h.at_ k hk1
   generalize wr.alloc (Obj.cells _ 30) = wr2 at n7d hDd ⊢
   generalize wr.heap.size = g7 at n7d ⊢
   clear n7 hDa e0 e1 e2 e3 evv eT eG
   cases hok : okI ins.f0 ins.f1 ins.f2.f0 ins.f2.f1 k ps.length with
   | false =>
    have hok' := Aside0.mk hok
    clear hok
    refine start_ (n := 22) (S := fun w' => w'.cell? ⟨g4, 0, none⟩ = some (.slice (some ⟨g, 0, none⟩) (ps.length + 1) c) ∧ w'.cell? ⟨g, k, none⟩ = some (.int .i64 v) ∧ w'.cell? ⟨g7, 0, none⟩ = some (.int .i64 ins.f0) ∧ w'.cell? ⟨g7, 1, none⟩ = some (.int .i64 ins.f1) ∧ w'.cell? ⟨g7, 2, none⟩ = some (.int .i64 ins.f2.f0) ∧ w'.cell? ⟨g7, 3, none⟩ = some (.int .i64 ins.f2.f1) ∧ w'.heap[g7]? = some (.cells (IA ins) 30 (0, 0)) ∧ D w g4 g (ps.length + 1) c l w') (ds := []) #[F_, F_, F_, F_, F_, F_, F_, F_, F_, F_, F_, F_, F_, F_, F_, F_, F_, F_, F_, F_, F_, F_] (by kernel_rfl) rfl rfl ⟨hDd.x4, hck hDd, (blk_cell n7d 0).trans rfl, (blk_cell n7d 1).trans rfl, (blk_cell n7d 2).trans rfl, (blk_cell n7d 3).trans rfl, n7d, hDd⟩ (fun hHeld => ?_)
    refine pure_ (i := 1) (N := some 28) (v := ?_) (a' := ?_) #[F_, T_, F_, F_, F_, F_, F_, F_, F_, F_, F_, F_, F_, F_, F_, F_, F_, F_, F_, F_, F_, F_] rfl rfl (by kernel_rfl) (fun _ _ _ h => h) (Or.inl ⟨by rfl, ?_⟩) ?_ ?_
    rotate_left
    ·intro w'
     go_simp
     with_reducible rfl
    rotate_left
    ·simp only [Act.put, sA_, sB_, sC_, i64_w, i32_w]
     rfl
    refine pure_ (i := 2) (N := some 29) (v := ?_) (a' := ?_) #[F_, T_, T_, F_, F_, F_, F_, F_, F_, F_, F_, F_, F_, F_, F_, F_, F_, F_, F_, F_, F_, F_] rfl rfl (by kernel_rfl) (fun _ _ _ h => h) (Or.inl ⟨by rfl, ?_⟩) ?_ ?_
    rotate_left
    ·intro w'
     go_simp
     with_reducible rfl
    rotate_left
    ·simp only [Act.put, sA_, sB_, sC_, i64_w, i32_w]
     rfl
    refine pure_ (i := 3) (N := some 30) (v := ?_) (a' := ?_) #[F_, T_, T_, T_, F_, F_, F_, F_, F_, F_, F_, F_, F_, F_, F_, F_, F_, F_, F_, F_, F_, F_] rfl rfl (by kernel_rfl) (fun _ _ _ h => h) (Or.inl ⟨by rfl, ?_⟩) ?_ ?_
    rotate_left
    ·intro w'
     go_simp
     with_reducible rfl
    rotate_left
    ·simp only [Act.put, sA_, sB_, sC_, i64_w, i32_w]
     rfl
    refine take_ (i := 0) (N := some 27) (v := ?_) (a' := ?_) #[T_, T_, T_, T_, F_, F_, F_, F_, F_, F_, F_, F_, F_, F_, F_, F_, F_, F_, F_, F_, F_, F_] rfl rfl (by kernel_rfl) (fun _ _ _ h => h) (Or.inl ⟨by rfl, ?_⟩) hHeld ?_ ?_
    rotate_left
    ·rintro w' ⟨s0, s1, s2, s3, s4, s5, s6, s7⟩
     go_simp
     with_reducible rfl
    rotate_left
    ·simp only [Act.put, sA_, sB_, sC_, i64_w, i32_w]
     rfl
    refine one_ (i := 4) (N := some 31) #[T_, T_, T_, T_, T_, F_, F_, F_, F_, F_, F_, F_, F_, F_, F_, F_, F_, F_, F_, F_, F_, F_] rfl rfl (by kernel_rfl) (by decide) (fun K hK => ?_)
    refine goes_ Tryz.func68 (by kernel_rfl) rfl #[.agg (IA ins), .int .i64 (k : Int), .int .i64 (ps.length : Int)] (by rfl) rfl rfl (by simp only [List.map_toArray, List.map_cons, List.map_nil]; rfl) ?_
    with_reducible refine (okC ins k ps.length false hok'.out _).mono ?_
    rintro e wa ⟨rfl, hba⟩
    refine ⟨_, rfl, ?_⟩
    have waG := D.below hHeld.2.2.2.2.2.2.2 hba
    have waN := blk_below hHeld.2.2.2.2.2.2.1 hba
    refine hK.out _ _ ⟨waG.x4, hck waG, (blk_cell waN 0).trans rfl, (blk_cell waN 1).trans rfl, (blk_cell waN 2).trans rfl, (blk_cell waN 3).trans rfl, waN, waG⟩ (fun hHeld => ?_)
    clear hK K
    refine norm_ (a' := ?_) ?_ ?_
    rotate_left
    ·show Act.put _ (some 31) _ = _
     simp only [Act.put, sA_, sB_, sC_, i64_w, i32_w]
     rfl
    refine pure_ (i := 5) (N := some 32) (v := ?_) (a' := ?_) #[T_, T_, T_, T_, T_, T_, F_, F_, F_, F_, F_, F_, F_, F_, F_, F_, F_, F_, F_, F_, F_, F_] rfl rfl (by kernel_rfl) (fun _ _ _ h => h) (Or.inl ⟨by rfl, ?_⟩) ?_ ?_
    rotate_left
    ·intro w'
     go_simp
     with_reducible rfl
    rotate_left
    ·simp only [Act.put, sA_, sB_, sC_, i64_w, i32_w]
     rfl
    refine pure_ (i := 6) (N := some 33) (v := ?_) (a' := ?_) #[T_, T_, T_, T_, T_, T_, T_, F_, F_, F_, F_, F_, F_, F_, F_, F_, F_, F_, F_, F_, F_, F_] rfl rfl (by kernel_rfl) (fun _ _ _ h => h) (Or.inl ⟨by rfl, ?_⟩) ?_ ?_
    rotate_left
    ·intro w'
     go_simp
     with_reducible rfl
    rotate_left
    ·simp only [Act.put, sA_, sB_, sC_, i64_w, i32_w]
     rfl
    refine pure_ (i := 7) (N := some 34) (v := undef) (a' := ?_) #[T_, T_, T_, T_, T_, T_, T_, T_, F_, F_, F_, F_, F_, F_, F_, F_, F_, F_, F_, F_, F_, F_] rfl rfl (by kernel_rfl) (fun _ _ _ h => h) (Or.inr ⟨by rfl, rfl⟩) ?_ ?_
    rotate_left
    ·simp only [Act.put, sA_, sB_, sC_, i64_w, i32_w]
     rfl
    refine pure_ (i := 8) (N := some 35) (v := undef) (a' := ?_) #[T_, T_, T_, T_, T_, T_, T_, T_, T_, F_, F_, F_, F_, F_, F_, F_, F_, F_, F_, F_, F_, F_] rfl rfl (by kernel_rfl) (fun _ _ _ h => h) (Or.inr ⟨by rfl, rfl⟩) ?_ ?_
    rotate_left
    ·simp only [Act.put, sA_, sB_, sC_, i64_w, i32_w]
     rfl
    refine pure_ (i := 9) (N := some 36) (v := undef) (a' := ?_) #[T_, T_, T_, T_, T_, T_, T_, T_, T_, T_, F_, F_, F_, F_, F_, F_, F_, F_, F_, F_, F_, F_] rfl rfl (by kernel_rfl) (fun _ _ _ h => h) (Or.inr ⟨by rfl, rfl⟩) ?_ ?_
    rotate_left
    ·simp only [Act.put, sA_, sB_, sC_, i64_w, i32_w]
     rfl
    refine pure_ (i := 10) (N := some 37) (v := undef) (a' := ?_) #[T_, T_, T_, T_, T_, T_, T_, T_, T_, T_, T_, F_, F_, F_, F_, F_, F_, F_, F_, F_, F_, F_] rfl rfl (by kernel_rfl) (fun _ _ _ h => h) (Or.inr ⟨by rfl, rfl⟩) ?_ ?_
    rotate_left
    ·simp only [Act.put, sA_, sB_, sC_, i64_w, i32_w]
     rfl
    refine pure_ (i := 11) (N := some 38) (v := undef) (a' := ?_) #[T_, T_, T_, T_, T_, T_, T_, T_, T_, T_, T_, T_, F_, F_, F_, F_, F_, F_, F_, F_, F_, F_] rfl rfl (by kernel_rfl) (fun _ _ _ h => h) (Or.inr ⟨by rfl, rfl⟩) ?_ ?_
    rotate_left
    ·simp only [Act.put, sA_, sB_, sC_, i64_w, i32_w]
     rfl
    refine pure_ (i := 12) (N := some 39) (v := ?_) (a' := ?_) #[T_, T_, T_, T_, T_, T_, T_, T_, T_, T_, T_, T_, T_, F_, F_, F_, F_, F_, F_, F_, F_, F_] rfl rfl (by kernel_rfl) (fun _ _ _ h => h) (Or.inl ⟨by rfl, ?_⟩) ?_ ?_
    rotate_left
    ·intro w'
     go_simp
     with_reducible rfl
    rotate_left
    ·simp only [Act.put, sA_, sB_, sC_, i64_w, i32_w]
     rfl
    refine pure_ (i := 13) (N := some 40) (v := ?_) (a' := ?_) #[T_, T_, T_, T_, T_, T_, T_, T_, T_, T_, T_, T_, T_, T_, F_, F_, F_, F_, F_, F_, F_, F_] rfl rfl (by kernel_rfl) (fun _ _ _ h => h) (Or.inl ⟨by rfl, ?_⟩) ?_ ?_
    rotate_left
    ·intro w'
     go_simp
     with_reducible rfl
    rotate_left
    ·simp only [Act.put, sA_, sB_, sC_, i64_w, i32_w]
     rfl
    refine pure_ (i := 14) (N := some 41) (v := undef) (a' := ?_) #[T_, T_, T_, T_, T_, T_, T_, T_, T_, T_, T_, T_, T_, T_, T_, F_, F_, F_, F_, F_, F_, F_] rfl rfl (by kernel_rfl) (fun _ _ _ h => h) (Or.inr ⟨by rfl, rfl⟩) ?_ ?_
    rotate_left
    ·simp only [Act.put, sA_, sB_, sC_, i64_w, i32_w]
     rfl
    refine pure_ (i := 15) (N := some 42) (v := undef) (a' := ?_) #[T_, T_, T_, T_, T_, T_, T_, T_, T_, T_, T_, T_, T_, T_, T_, T_, F_, F_, F_, F_, F_, F_] rfl rfl (by kernel_rfl) (fun _ _ _ h => h) (Or.inr ⟨by rfl, rfl⟩) ?_ ?_
    rotate_left
    ·simp only [Act.put, sA_, sB_, sC_, i64_w, i32_w]
     rfl
    refine pure_ (i := 16) (N := some 43) (v := undef) (a' := ?_) #[T_, T_, T_, T_, T_, T_, T_, T_, T_, T_, T_, T_, T_, T_, T_, T_, T_, F_, F_, F_, F_, F_] rfl rfl (by kernel_rfl) (fun _ _ _ h => h) (Or.inr ⟨by rfl, rfl⟩) ?_ ?_
    rotate_left
    ·simp only [Act.put, sA_, sB_, sC_, i64_w, i32_w]
     rfl
    refine pure_ (i := 17) (N := some 44) (v := undef) (a' := ?_) #[T_, T_, T_, T_, T_, T_, T_, T_, T_, T_, T_, T_, T_, T_, T_, T_, T_, T_, F_, F_, F_, F_] rfl rfl (by kernel_rfl) (fun _ _ _ h => h) (Or.inr ⟨by rfl, rfl⟩) ?_ ?_
    rotate_left
    ·simp only [Act.put, sA_, sB_, sC_, i64_w, i32_w]
     rfl
    refine pure_ (i := 18) (N := some 45) (v := undef) (a' := ?_) #[T_, T_, T_, T_, T_, T_, T_, T_, T_, T_, T_, T_, T_, T_, T_, T_, T_, T_, T_, F_, F_, F_] rfl rfl (by kernel_rfl) (fun _ _ _ h => h) (Or.inr ⟨by rfl, rfl⟩) ?_ ?_
    rotate_left
    ·simp only [Act.put, sA_, sB_, sC_, i64_w, i32_w]
     rfl
    refine pure_ (i := 19) (N := some 46) (v := undef) (a' := ?_) #[T_, T_, T_, T_, T_, T_, T_, T_, T_, T_, T_, T_, T_, T_, T_, T_, T_, T_, T_, T_, F_, F_] rfl rfl (by kernel_rfl) (fun _ _ _ h => h) (Or.inr ⟨by rfl, rfl⟩) ?_ ?_
    rotate_left
    ·simp only [Act.put, sA_, sB_, sC_, i64_w, i32_w]
     rfl
    refine pure_ (i := 20) (N := some 47) (v := undef) (a' := ?_) #[T_, T_, T_, T_, T_, T_, T_, T_, T_, T_, T_, T_, T_, T_, T_, T_, T_, T_, T_, T_, T_, F_] rfl rfl (by kernel_rfl) (fun _ _ _ h => h) (Or.inr ⟨by rfl, rfl⟩) ?_ ?_
    rotate_left
    ·simp only [Act.put, sA_, sB_, sC_, i64_w, i32_w]
     rfl
    refine pure_ (i := 21) (N := some 48) (v := ?_) (a' := ?_) #[T_, T_, T_, T_, T_, T_, T_, T_, T_, T_, T_, T_, T_, T_, T_, T_, T_, T_, T_, T_, T_, T_] rfl rfl (by kernel_rfl) (fun _ _ _ h => h) (Or.inl ⟨by rfl, ?_⟩) ?_ ?_
    rotate_left
    ·intro w'
     go_simp
     with_reducible rfl
    rotate_left
    ·simp only [Act.put, sA_, sB_, sC_, i64_w, i32_w]
     rfl
    refine done_ (by kernel_rfl) ?_
    have hD := hHeld.2.2.2.2.2.2.2
    clear hHeld
    have hdn : dep ps = none := by rw [hs'.out]; unfold Hp.step; rw [if_neg (by rw [hok'.out]; simp)]
    have hB : okB ps = false := by unfold okB; rw [hdn]
    clear hdn
    go_wp2
    go_ret2
    rw [hB]
    exact ⟨.slice none 0 0, rfl, (fun h => absurd h (by simp)), hD.bel⟩
   | true =>
    have hok' := Aside0.mk hok
    clear hok
    cases hm1 : (v == -1) with
    | true =>
     refine start_ (n := 22) (S := fun w' => w'.cell? ⟨g4, 0, none⟩ = some (.slice (some ⟨g, 0, none⟩) (ps.length + 1) c) ∧ w'.cell? ⟨g, k, none⟩ = some (.int .i64 v) ∧ w'.cell? ⟨g7, 0, none⟩ = some (.int .i64 ins.f0) ∧ w'.cell? ⟨g7, 1, none⟩ = some (.int .i64 ins.f1) ∧ w'.cell? ⟨g7, 2, none⟩ = some (.int .i64 ins.f2.f0) ∧ w'.cell? ⟨g7, 3, none⟩ = some (.int .i64 ins.f2.f1) ∧ w'.heap[g7]? = some (.cells (IA ins) 30 (0, 0)) ∧ D w g4 g (ps.length + 1) c l w') (ds := []) #[F_, F_, F_, F_, F_, F_, F_, F_, F_, F_, F_, F_, F_, F_, F_, F_, F_, F_, F_, F_, F_, F_] (by kernel_rfl) rfl rfl ⟨hDd.x4, hck hDd, (blk_cell n7d 0).trans rfl, (blk_cell n7d 1).trans rfl, (blk_cell n7d 2).trans rfl, (blk_cell n7d 3).trans rfl, n7d, hDd⟩ (fun hHeld => ?_)
     refine pure_ (i := 1) (N := some 28) (v := ?_) (a' := ?_) #[F_, T_, F_, F_, F_, F_, F_, F_, F_, F_, F_, F_, F_, F_, F_, F_, F_, F_, F_, F_, F_, F_] rfl rfl (by kernel_rfl) (fun _ _ _ h => h) (Or.inl ⟨by rfl, ?_⟩) ?_ ?_
     rotate_left
     ·intro w'
      go_simp
      with_reducible rfl
     rotate_left
     ·simp only [Act.put, sA_, sB_, sC_, i64_w, i32_w]
      rfl
     refine pure_ (i := 2) (N := some 29) (v := ?_) (a' := ?_) #[F_, T_, T_, F_, F_, F_, F_, F_, F_, F_, F_, F_, F_, F_, F_, F_, F_, F_, F_, F_, F_, F_] rfl rfl (by kernel_rfl) (fun _ _ _ h => h) (Or.inl ⟨by rfl, ?_⟩) ?_ ?_
     rotate_left
     ·intro w'
      go_simp
      with_reducible rfl
     rotate_left
     ·simp only [Act.put, sA_, sB_, sC_, i64_w, i32_w]
      rfl
     refine pure_ (i := 3) (N := some 30) (v := ?_) (a' := ?_) #[F_, T_, T_, T_, F_, F_, F_, F_, F_, F_, F_, F_, F_, F_, F_, F_, F_, F_, F_, F_, F_, F_] rfl rfl (by kernel_rfl) (fun _ _ _ h => h) (Or.inl ⟨by rfl, ?_⟩) ?_ ?_
     rotate_left
     ·intro w'
      go_simp
      with_reducible rfl
     rotate_left
     ·simp only [Act.put, sA_, sB_, sC_, i64_w, i32_w]
      rfl
     refine take_ (i := 0) (N := some 27) (v := ?_) (a' := ?_) #[T_, T_, T_, T_, F_, F_, F_, F_, F_, F_, F_, F_, F_, F_, F_, F_, F_, F_, F_, F_, F_, F_] rfl rfl (by kernel_rfl) (fun _ _ _ h => h) (Or.inl ⟨by rfl, ?_⟩) hHeld ?_ ?_
     rotate_left
     ·rintro w' ⟨s0, s1, s2, s3, s4, s5, s6, s7⟩
      go_simp
      with_reducible rfl
     rotate_left
     ·simp only [Act.put, sA_, sB_, sC_, i64_w, i32_w]
      rfl
     refine one_ (i := 4) (N := some 31) #[T_, T_, T_, T_, T_, F_, F_, F_, F_, F_, F_, F_, F_, F_, F_, F_, F_, F_, F_, F_, F_, F_] rfl rfl (by kernel_rfl) (by decide) (fun K hK => ?_)
     refine goes_ Tryz.func68 (by kernel_rfl) rfl #[.agg (IA ins), .int .i64 (k : Int), .int .i64 (ps.length : Int)] (by rfl) rfl rfl (by simp only [List.map_toArray, List.map_cons, List.map_nil]; rfl) ?_
     with_reducible refine (okC ins k ps.length true hok'.out _).mono ?_
     rintro e wa ⟨rfl, hba⟩
     refine ⟨_, rfl, ?_⟩
     have waG := D.below hHeld.2.2.2.2.2.2.2 hba
     have waN := blk_below hHeld.2.2.2.2.2.2.1 hba
     refine hK.out _ _ ⟨waG.x4, hck waG, (blk_cell waN 0).trans rfl, (blk_cell waN 1).trans rfl, (blk_cell waN 2).trans rfl, (blk_cell waN 3).trans rfl, waN, waG⟩ (fun hHeld => ?_)
     clear hK K
     refine norm_ (a' := ?_) ?_ ?_
     rotate_left
     ·show Act.put _ (some 31) _ = _
      simp only [Act.put, sA_, sB_, sC_, i64_w, i32_w]
      rfl
     refine pure_ (i := 5) (N := some 32) (v := ?_) (a' := ?_) #[T_, T_, T_, T_, T_, T_, F_, F_, F_, F_, F_, F_, F_, F_, F_, F_, F_, F_, F_, F_, F_, F_] rfl rfl (by kernel_rfl) (fun _ _ _ h => h) (Or.inl ⟨by rfl, ?_⟩) ?_ ?_
     rotate_left
     ·intro w'
      go_simp
      with_reducible rfl
     rotate_left
     ·simp only [Act.put, sA_, sB_, sC_, i64_w, i32_w]
      rfl
     refine pure_ (i := 6) (N := some 33) (v := ?_) (a' := ?_) #[T_, T_, T_, T_, T_, T_, T_, F_, F_, F_, F_, F_, F_, F_, F_, F_, F_, F_, F_, F_, F_, F_] rfl rfl (by kernel_rfl) (fun _ _ _ h => h) (Or.inl ⟨by rfl, ?_⟩) ?_ ?_
     rotate_left
     ·intro w'
      go_simp
      with_reducible rfl
     rotate_left
     ·simp only [Act.put, sA_, sB_, sC_, i64_w, i32_w]
      rfl
     refine pure_ (i := 8) (N := some 35) (v := ?_) (a' := ?_) #[T_, T_, T_, T_, T_, T_, T_, F_, T_, F_, F_, F_, F_, F_, F_, F_, F_, F_, F_, F_, F_, F_] rfl rfl (by kernel_rfl) (fun _ _ _ h => h) (Or.inl ⟨by rfl, ?_⟩) ?_ ?_
     rotate_left
     ·intro w'
      go_simp
      with_reducible rfl
     rotate_left
     ·simp only [Act.put, sA_, sB_, sC_, i64_w, i32_w]
      rfl
     refine take_ (i := 7) (N := some 34) (v := ?_) (a' := ?_) #[T_, T_, T_, T_, T_, T_, T_, T_, T_, F_, F_, F_, F_, F_, F_, F_, F_, F_, F_, F_, F_, F_] rfl rfl (by kernel_rfl) (fun _ _ _ h => h) (Or.inl ⟨by rfl, ?_⟩) hHeld ?_ ?_
     rotate_left
     ·rintro w' ⟨s0, s1, s2, s3, s4, s5, s6, s7⟩
      go_simp
      with_reducible rfl
     rotate_left
     ·simp only [Act.put, sA_, sB_, sC_, i64_w, i32_w]
      rfl
     refine pure_ (i := 9) (N := some 36) (v := ?_) (a' := ?_) #[T_, T_, T_, T_, T_, T_, T_, T_, T_, T_, F_, F_, F_, F_, F_, F_, F_, F_, F_, F_, F_, F_] rfl rfl (by kernel_rfl) (fun _ _ _ h => h) (Or.inl ⟨by rfl, ?_⟩) ?_ ?_
     rotate_left
     ·intro w'
      go_simp
      with_reducible rfl
     rotate_left
     ·simp only [Act.put, sA_, sB_, sC_, i64_w, i32_w]
      rfl
     refine take_ (i := 10) (N := some 37) (v := ?_) (a' := ?_) #[T_, T_, T_, T_, T_, T_, T_, T_, T_, T_, T_, F_, F_, F_, F_, F_, F_, F_, F_, F_, F_, F_] rfl rfl (by kernel_rfl) (fun _ _ _ h => h) (Or.inl ⟨by rfl, ?_⟩) hHeld ?_ ?_
     rotate_left
     ·rintro w' ⟨s0, s1, s2, s3, s4, s5, s6, s7⟩
      go_simp
      with_reducible rfl
     rotate_left
     ·simp only [Act.put, sA_, sB_, sC_, i64_w, i32_w]
      rfl
     refine pure_ (i := 11) (N := some 38) (v := ?_) (a' := ?_) #[T_, T_, T_, T_, T_, T_, T_, T_, T_, T_, T_, T_, F_, F_, F_, F_, F_, F_, F_, F_, F_, F_] rfl rfl (by kernel_rfl) (fun _ _ _ h => h) (Or.inl ⟨by rfl, ?_⟩) ?_ ?_
     rotate_left
     ·intro w'
      go_simp
      with_reducible rfl
     rotate_left
     ·simp only [Act.put, sA_, sB_, sC_, i64_w, i32_w]
      rfl
     refine pure_ (i := 12) (N := some 39) (v := ?_) (a' := ?_) #[T_, T_, T_, T_, T_, T_, T_, T_, T_, T_, T_, T_, T_, F_, F_, F_, F_, F_, F_, F_, F_, F_] rfl rfl (by kernel_rfl) (fun _ _ _ h => h) (Or.inl ⟨by rfl, ?_⟩) ?_ ?_
     rotate_left
     ·intro w'
      go_simp
      with_reducible rfl
     rotate_left
     ·simp only [Act.put, sA_, sB_, sC_, i64_w, i32_w]
      rfl
     refine pure_ (i := 13) (N := some 40) (v := ?_) (a' := ?_) #[T_, T_, T_, T_, T_, T_, T_, T_, T_, T_, T_, T_, T_, T_, F_, F_, F_, F_, F_, F_, F_, F_] rfl rfl (by kernel_rfl) (fun _ _ _ h => h) (Or.inl ⟨by rfl, ?_⟩) ?_ ?_
     rotate_left
     ·intro w'
      go_simp
      with_reducible rfl
     rotate_left
     ·simp only [Act.put, sA_, sB_, sC_, i64_w, i32_w]
      rfl
     refine pure_ (i := 14) (N := some 41) (v := undef) (a' := ?_) #[T_, T_, T_, T_, T_, T_, T_, T_, T_, T_, T_, T_, T_, T_, T_, F_, F_, F_, F_, F_, F_, F_] rfl rfl (by kernel_rfl) (fun _ _ _ h => h) (Or.inr ⟨by rfl, rfl⟩) ?_ ?_
     rotate_left
     ·simp only [Act.put, sA_, sB_, sC_, i64_w, i32_w]
      rfl
     refine pure_ (i := 15) (N := some 42) (v := undef) (a' := ?_) #[T_, T_, T_, T_, T_, T_, T_, T_, T_, T_, T_, T_, T_, T_, T_, T_, F_, F_, F_, F_, F_, F_] rfl rfl (by kernel_rfl) (fun _ _ _ h => h) (Or.inr ⟨by rfl, rfl⟩) ?_ ?_
     rotate_left
     ·simp only [Act.put, sA_, sB_, sC_, i64_w, i32_w]
      rfl
     refine pure_ (i := 16) (N := some 43) (v := undef) (a' := ?_) #[T_, T_, T_, T_, T_, T_, T_, T_, T_, T_, T_, T_, T_, T_, T_, T_, T_, F_, F_, F_, F_, F_] rfl rfl (by kernel_rfl) (fun _ _ _ h => h) (Or.inr ⟨by rfl, rfl⟩) ?_ ?_
     rotate_left
     ·simp only [Act.put, sA_, sB_, sC_, i64_w, i32_w]
      rfl
     refine pure_ (i := 17) (N := some 44) (v := undef) (a' := ?_) #[T_, T_, T_, T_, T_, T_, T_, T_, T_, T_, T_, T_, T_, T_, T_, T_, T_, T_, F_, F_, F_, F_] rfl rfl (by kernel_rfl) (fun _ _ _ h => h) (Or.inr ⟨by rfl, rfl⟩) ?_ ?_
     rotate_left
     ·simp only [Act.put, sA_, sB_, sC_, i64_w, i32_w]
      rfl
     refine pure_ (i := 18) (N := some 45) (v := undef) (a' := ?_) #[T_, T_, T_, T_, T_, T_, T_, T_, T_, T_, T_, T_, T_, T_, T_, T_, T_, T_, T_, F_, F_, F_] rfl rfl (by kernel_rfl) (fun _ _ _ h => h) (Or.inr ⟨by rfl, rfl⟩) ?_ ?_
     rotate_left
     ·simp only [Act.put, sA_, sB_, sC_, i64_w, i32_w]
      rfl
     refine pure_ (i := 19) (N := some 46) (v := undef) (a' := ?_) #[T_, T_, T_, T_, T_, T_, T_, T_, T_, T_, T_, T_, T_, T_, T_, T_, T_, T_, T_, T_, F_, F_] rfl rfl (by kernel_rfl) (fun _ _ _ h => h) (Or.inr ⟨by rfl, rfl⟩) ?_ ?_
     rotate_left
     ·simp only [Act.put, sA_, sB_, sC_, i64_w, i32_w]
      rfl
     refine pure_ (i := 20) (N := some 47) (v := undef) (a' := ?_) #[T_, T_, T_, T_, T_, T_, T_, T_, T_, T_, T_, T_, T_, T_, T_, T_, T_, T_, T_, T_, T_, F_] rfl rfl (by kernel_rfl) (fun _ _ _ h => h) (Or.inr ⟨by rfl, rfl⟩) ?_ ?_
     rotate_left
     ·simp only [Act.put, sA_, sB_, sC_, i64_w, i32_w]
      rfl
     refine pure_ (i := 21) (N := some 48) (v := ?_) (a' := ?_) #[T_, T_, T_, T_, T_, T_, T_, T_, T_, T_, T_, T_, T_, T_, T_, T_, T_, T_, T_, T_, T_, T_] rfl rfl (by kernel_rfl) (fun _ _ _ h => h) (Or.inl ⟨by rfl, ?_⟩) ?_ ?_
     rotate_left
     ·intro w'
      go_simp
      with_reducible rfl
     rotate_left
     ·simp only [Act.put, sA_, sB_, sC_, i64_w, i32_w]
      rfl
     refine done_ (by kernel_rfl) ?_
     have hD := hHeld.2.2.2.2.2.2.2
     clear hHeld
     have hdn : dep ps = none := by rw [hs'.out]; unfold Hp.step; rw [if_pos hok'.out, evv'.out, if_pos (by simpa using hm1)]
     have hB : okB ps = false := by unfold okB; rw [hdn]
     clear hdn
     go_wp2
     go_ret2
     rw [hB]
     exact ⟨.slice none 0 0, rfl, (fun h => absurd h (by simp)), hD.bel⟩
    | false =>
     have hm1' := Aside0.mk hm1
     obtain ⟨lt, hlt⟩ : ∃ q, decide (v < T) = q := ⟨_, rfl⟩
     refine start_ (n := 22) (S := fun w' => w'.cell? ⟨g4, 0, none⟩ = some (.slice (some ⟨g, 0, none⟩) (ps.length + 1) c) ∧ w'.cell? ⟨g, k, none⟩ = some (.int .i64 v) ∧ w'.cell? ⟨g7, 0, none⟩ = some (.int .i64 ins.f0) ∧ w'.cell? ⟨g7, 1, none⟩ = some (.int .i64 ins.f1) ∧ w'.cell? ⟨g7, 2, none⟩ = some (.int .i64 ins.f2.f0) ∧ w'.cell? ⟨g7, 3, none⟩ = some (.int .i64 ins.f2.f1) ∧ w'.heap[g7]? = some (.cells (IA ins) 30 (0, 0)) ∧ D w g4 g (ps.length + 1) c l w') (ds := []) #[F_, F_, F_, F_, F_, F_, F_, F_, F_, F_, F_, F_, F_, F_, F_, F_, F_, F_, F_, F_, F_, F_] (by kernel_rfl) rfl rfl ⟨hDd.x4, hck hDd, (blk_cell n7d 0).trans rfl, (blk_cell n7d 1).trans rfl, (blk_cell n7d 2).trans rfl, (blk_cell n7d 3).trans rfl, n7d, hDd⟩ (fun hHeld => ?_)
     refine pure_ (i := 1) (N := some 28) (v := ?_) (a' := ?_) #[F_, T_, F_, F_, F_, F_, F_, F_, F_, F_, F_, F_, F_, F_, F_, F_, F_, F_, F_, F_, F_, F_] rfl rfl (by kernel_rfl) (fun _ _ _ h => h) (Or.inl ⟨by rfl, ?_⟩) ?_ ?_
     rotate_left
     ·intro w'
      go_simp
      with_reducible rfl
     rotate_left
     ·simp only [Act.put, sA_, sB_, sC_, i64_w, i32_w]
      rfl
     refine pure_ (i := 2) (N := some 29) (v := ?_) (a' := ?_) #[F_, T_, T_, F_, F_, F_, F_, F_, F_, F_, F_, F_, F_, F_, F_, F_, F_, F_, F_, F_, F_, F_] rfl rfl (by kernel_rfl) (fun _ _ _ h => h) (Or.inl ⟨by rfl, ?_⟩) ?_ ?_
     rotate_left
     ·intro w'
      go_simp
      with_reducible rfl
     rotate_left
     ·simp only [Act.put, sA_, sB_, sC_, i64_w, i32_w]
      rfl
     refine pure_ (i := 3) (N := some 30) (v := ?_) (a' := ?_) #[F_, T_, T_, T_, F_, F_, F_, F_, F_, F_, F_, F_, F_, F_, F_, F_, F_, F_, F_, F_, F_, F_] rfl rfl (by kernel_rfl) (fun _ _ _ h => h) (Or.inl ⟨by rfl, ?_⟩) ?_ ?_
     rotate_left
     ·intro w'
      go_simp
      with_reducible rfl
     rotate_left
     ·simp only [Act.put, sA_, sB_, sC_, i64_w, i32_w]
      rfl
     refine take_ (i := 0) (N := some 27) (v := ?_) (a' := ?_) #[T_, T_, T_, T_, F_, F_, F_, F_, F_, F_, F_, F_, F_, F_, F_, F_, F_, F_, F_, F_, F_, F_] rfl rfl (by kernel_rfl) (fun _ _ _ h => h) (Or.inl ⟨by rfl, ?_⟩) hHeld ?_ ?_
     rotate_left
     ·rintro w' ⟨s0, s1, s2, s3, s4, s5, s6, s7⟩
      go_simp
      with_reducible rfl
     rotate_left
     ·simp only [Act.put, sA_, sB_, sC_, i64_w, i32_w]
      rfl
     refine one_ (i := 4) (N := some 31) #[T_, T_, T_, T_, T_, F_, F_, F_, F_, F_, F_, F_, F_, F_, F_, F_, F_, F_, F_, F_, F_, F_] rfl rfl (by kernel_rfl) (by decide) (fun K hK => ?_)
     refine goes_ Tryz.func68 (by kernel_rfl) rfl #[.agg (IA ins), .int .i64 (k : Int), .int .i64 (ps.length : Int)] (by rfl) rfl rfl (by simp only [List.map_toArray, List.map_cons, List.map_nil]; rfl) ?_
     with_reducible refine (okC ins k ps.length true hok'.out _).mono ?_
     rintro e wa ⟨rfl, hba⟩
     refine ⟨_, rfl, ?_⟩
     have waG := D.below hHeld.2.2.2.2.2.2.2 hba
     have waN := blk_below hHeld.2.2.2.2.2.2.1 hba
     refine hK.out _ _ ⟨waG.x4, hck waG, (blk_cell waN 0).trans rfl, (blk_cell waN 1).trans rfl, (blk_cell waN 2).trans rfl, (blk_cell waN 3).trans rfl, waN, waG⟩ (fun hHeld => ?_)
     clear hK K
     refine norm_ (a' := ?_) ?_ ?_
     rotate_left
     ·show Act.put _ (some 31) _ = _
      simp only [Act.put, sA_, sB_, sC_, i64_w, i32_w]
      rfl
     refine pure_ (i := 5) (N := some 32) (v := ?_) (a' := ?_) #[T_, T_, T_, T_, T_, T_, F_, F_, F_, F_, F_, F_, F_, F_, F_, F_, F_, F_, F_, F_, F_, F_] rfl rfl (by kernel_rfl) (fun _ _ _ h => h) (Or.inl ⟨by rfl, ?_⟩) ?_ ?_
     rotate_left
     ·intro w'
      go_simp
      with_reducible rfl
     rotate_left
     ·simp only [Act.put, sA_, sB_, sC_, i64_w, i32_w]
      rfl
     refine pure_ (i := 6) (N := some 33) (v := ?_) (a' := ?_) #[T_, T_, T_, T_, T_, T_, T_, F_, F_, F_, F_, F_, F_, F_, F_, F_, F_, F_, F_, F_, F_, F_] rfl rfl (by kernel_rfl) (fun _ _ _ h => h) (Or.inl ⟨by rfl, ?_⟩) ?_ ?_
     rotate_left
     ·intro w'
      go_simp
      with_reducible rfl
     rotate_left
     ·simp only [Act.put, sA_, sB_, sC_, i64_w, i32_w]
      rfl
     refine pure_ (i := 8) (N := some 35) (v := ?_) (a' := ?_) #[T_, T_, T_, T_, T_, T_, T_, F_, T_, F_, F_, F_, F_, F_, F_, F_, F_, F_, F_, F_, F_, F_] rfl rfl (by kernel_rfl) (fun _ _ _ h => h) (Or.inl ⟨by rfl, ?_⟩) ?_ ?_
     rotate_left
     ·intro w'
      go_simp
      with_reducible rfl
     rotate_left
     ·simp only [Act.put, sA_, sB_, sC_, i64_w, i32_w]
      rfl
     refine take_ (i := 7) (N := some 34) (v := ?_) (a' := ?_) #[T_, T_, T_, T_, T_, T_, T_, T_, T_, F_, F_, F_, F_, F_, F_, F_, F_, F_, F_, F_, F_, F_] rfl rfl (by kernel_rfl) (fun _ _ _ h => h) (Or.inl ⟨by rfl, ?_⟩) hHeld ?_ ?_
     rotate_left
     ·rintro w' ⟨s0, s1, s2, s3, s4, s5, s6, s7⟩
      go_simp
      with_reducible rfl
     rotate_left
     ·simp only [Act.put, sA_, sB_, sC_, i64_w, i32_w]
      rfl
     refine pure_ (i := 9) (N := some 36) (v := ?_) (a' := ?_) #[T_, T_, T_, T_, T_, T_, T_, T_, T_, T_, F_, F_, F_, F_, F_, F_, F_, F_, F_, F_, F_, F_] rfl rfl (by kernel_rfl) (fun _ _ _ h => h) (Or.inl ⟨by rfl, ?_⟩) ?_ ?_
     rotate_left
     ·intro w'
      go_simp
      with_reducible rfl
     rotate_left
     ·simp only [Act.put, sA_, sB_, sC_, i64_w, i32_w]
      rfl
     refine take_ (i := 10) (N := some 37) (v := ?_) (a' := ?_) #[T_, T_, T_, T_, T_, T_, T_, T_, T_, T_, T_, F_, F_, F_, F_, F_, F_, F_, F_, F_, F_, F_] rfl rfl (by kernel_rfl) (fun _ _ _ h => h) (Or.inl ⟨by rfl, ?_⟩) hHeld ?_ ?_
     rotate_left
     ·rintro w' ⟨s0, s1, s2, s3, s4, s5, s6, s7⟩
      go_simp
      with_reducible rfl
     rotate_left
     ·simp only [Act.put, sA_, sB_, sC_, i64_w, i32_w]
      rfl
     refine pure_ (i := 11) (N := some 38) (v := ?_) (a' := ?_) #[T_, T_, T_, T_, T_, T_, T_, T_, T_, T_, T_, T_, F_, F_, F_, F_, F_, F_, F_, F_, F_, F_] rfl rfl (by kernel_rfl) (fun _ _ _ h => h) (Or.inl ⟨by rfl, ?_⟩) ?_ ?_
     rotate_left
     ·intro w'
      go_simp
      with_reducible rfl
     rotate_left
     ·simp only [Act.put, sA_, sB_, sC_, i64_w, i32_w]
      rfl
     refine pure_ (i := 12) (N := some 39) (v := ?_) (a' := ?_) #[T_, T_, T_, T_, T_, T_, T_, T_, T_, T_, T_, T_, T_, F_, F_, F_, F_, F_, F_, F_, F_, F_] rfl rfl (by kernel_rfl) (fun _ _ _ h => h) (Or.inl ⟨by rfl, ?_⟩) ?_ ?_
     rotate_left
     ·intro w'
      go_simp
      with_reducible rfl
     rotate_left
     ·simp only [Act.put, sA_, sB_, sC_, i64_w, i32_w]
      rfl
     refine pure_ (i := 13) (N := some 40) (v := ?_) (a' := ?_) #[T_, T_, T_, T_, T_, T_, T_, T_, T_, T_, T_, T_, T_, T_, F_, F_, F_, F_, F_, F_, F_, F_] rfl rfl (by kernel_rfl) (fun _ _ _ h => h) (Or.inl ⟨by rfl, ?_⟩) ?_ ?_
     rotate_left
     ·intro w'
      go_simp
      with_reducible rfl
     rotate_left
     ·simp only [Act.put, sA_, sB_, sC_, i64_w, i32_w]
      rfl
     refine pure_ (i := 15) (N := some 42) (v := ?_) (a' := ?_) #[T_, T_, T_, T_, T_, T_, T_, T_, T_, T_, T_, T_, T_, T_, F_, T_, F_, F_, F_, F_, F_, F_] rfl rfl (by kernel_rfl) (fun _ _ _ h => h) (Or.inl ⟨by rfl, ?_⟩) ?_ ?_
     rotate_left
     ·intro w'
      go_simp
      with_reducible rfl
     rotate_left
     ·simp only [Act.put, sA_, sB_, sC_, i64_w, i32_w]
      rfl
     refine take_ (i := 14) (N := some 41) (v := ?_) (a' := ?_) #[T_, T_, T_, T_, T_, T_, T_, T_, T_, T_, T_, T_, T_, T_, T_, T_, F_, F_, F_, F_, F_, F_] rfl rfl (by kernel_rfl) (fun _ _ _ h => h) (Or.inl ⟨by rfl, ?_⟩) hHeld ?_ ?_
     rotate_left
     ·rintro w' ⟨s0, s1, s2, s3, s4, s5, s6, s7⟩
      go_simp
      with_reducible rfl
     rotate_left
     ·simp only [Act.put, sA_, sB_, sC_, i64_w, i32_w]
      rfl
     refine pure_ (i := 16) (N := some 43) (v := ?_) (a' := ?_) #[T_, T_, T_, T_, T_, T_, T_, T_, T_, T_, T_, T_, T_, T_, T_, T_, T_, F_, F_, F_, F_, F_] rfl rfl (by kernel_rfl) (fun _ _ _ h => h) (Or.inl ⟨by rfl, ?_⟩) ?_ ?_
     rotate_left
     ·intro w'
      go_simp
      with_reducible rfl
     rotate_left
     ·simp only [Act.put, sA_, sB_, sC_, i64_w, i32_w]
      rfl
     refine take_ (i := 17) (N := some 44) (v := ?_) (a' := ?_) #[T_, T_, T_, T_, T_, T_, T_, T_, T_, T_, T_, T_, T_, T_, T_, T_, T_, T_, F_, F_, F_, F_] rfl rfl (by kernel_rfl) (fun _ _ _ h => h) (Or.inl ⟨by rfl, ?_⟩) hHeld ?_ ?_
     rotate_left
     ·rintro w' ⟨s0, s1, s2, s3, s4, s5, s6, s7⟩
      go_simp
      with_reducible rfl
     rotate_left
     ·simp only [Act.put, sA_, sB_, sC_, i64_w, i32_w]
      rfl
     refine take_ (i := 18) (N := some 45) (v := ?_) (a' := ?_) #[T_, T_, T_, T_, T_, T_, T_, T_, T_, T_, T_, T_, T_, T_, T_, T_, T_, T_, T_, F_, F_, F_] rfl rfl (by kernel_rfl) (fun _ _ _ h => h) (Or.inl ⟨by rfl, ?_⟩) hHeld ?_ ?_
     rotate_left
     ·rintro w' ⟨s0, s1, s2, s3, s4, s5, s6, s7⟩
      go_simp
      with_reducible rfl
     rotate_left
     ·simp only [Act.put, sA_, sB_, sC_, i64_w, i32_w]
      rfl
     refine one_ (i := 19) (N := some 46) #[T_, T_, T_, T_, T_, T_, T_, T_, T_, T_, T_, T_, T_, T_, T_, T_, T_, T_, T_, T_, F_, F_] rfl rfl (by kernel_rfl) (by decide) (fun K hK => ?_)
     refine goes_ Tryz.func69 (by kernel_rfl) rfl #[.agg (IA ins)] (by rfl) rfl rfl (by simp only [List.map_toArray, List.map_cons, List.map_nil]; rfl) ?_
     with_reducible refine (takesC ins T eT'.out _).mono ?_
     rintro e wb ⟨rfl, hbb⟩
     refine ⟨_, rfl, ?_⟩
     have wbG := D.below hHeld.2.2.2.2.2.2.2 hbb
     have wbN := blk_below hHeld.2.2.2.2.2.2.1 hbb
     refine hK.out _ _ ⟨wbG.x4, hck wbG, (blk_cell wbN 0).trans rfl, (blk_cell wbN 1).trans rfl, (blk_cell wbN 2).trans rfl, (blk_cell wbN 3).trans rfl, wbN, wbG⟩ (fun hHeld => ?_)
     clear hK K
     refine norm_ (a' := ?_) ?_ ?_
     rotate_left
     ·show Act.put _ (some 46) _ = _
      simp only [Act.put, sA_, sB_, sC_, i64_w, i32_w]
      rfl
     refine pure_ (i := 20) (N := some 47) (v := ?_) (a' := ?_) #[T_, T_, T_, T_, T_, T_, T_, T_, T_, T_, T_, T_, T_, T_, T_, T_, T_, T_, T_, T_, T_, F_] rfl rfl (by kernel_rfl) (fun _ _ _ h => h) (Or.inl ⟨by rfl, ?_⟩) ?_ ?_
     rotate_left
     ·intro w'
      go_simp
      with_reducible rfl
     rotate_left
     ·simp only [Act.put, sA_, sB_, sC_, i64_w, i32_w]
      rfl
     refine pure_ (i := 21) (N := some 48) (v := ?_) (a' := ?_) #[T_, T_, T_, T_, T_, T_, T_, T_, T_, T_, T_, T_, T_, T_, T_, T_, T_, T_, T_, T_, T_, T_] rfl rfl (by kernel_rfl) (fun _ _ _ h => h) (Or.inl ⟨by rfl, ?_⟩) ?_ ?_
     rotate_left
     ·intro w'
      go_simp
      with_reducible rfl
     rotate_left
     ·simp only [Act.put, sA_, sB_, sC_, i64_w, i32_w]
      rfl
     refine done_ (by kernel_rfl) ?_
     have hD := hHeld.2.2.2.2.2.2.2
     have n7 := hHeld.2.2.2.2.2.2.1
     clear hHeld
     cases lt with
     | true =>
      have hdn : dep ps = none := by rw [hs'.out]; unfold Hp.step; rw [if_pos hok'.out, evv'.out, if_neg (by simpa using hm1'.out), eT'.out, if_pos (of_decide_eq_true hlt)]
      have hB : okB ps = false := by unfold okB; rw [hdn]
      clear hdn
      go_wp2
      go_ret2
      rw [hB]
      exact ⟨.slice none 0 0, rfl, (fun h => absurd h (by simp)), hD.bel⟩
     | false =>
      have hlt' := Aside0.mk hlt
      clear hlt hm1 hDd n7d
      go_upto_region 11 with (fail)
      have hDd := hD.drew
      have n7d := blk_drew n7
      clear hD n7
      refine start_ (n := 11) (S := fun w' => w'.cell? ⟨g4, 0, none⟩ = some (.slice (some ⟨g, 0, none⟩) (ps.length + 1) c) ∧ w'.cell? ⟨g, k, none⟩ = some (.int .i64 v) ∧ w'.cell? ⟨g7, 0, none⟩ = some (.int .i64 ins.f0) ∧ w'.cell? ⟨g7, 1, none⟩ = some (.int .i64 ins.f1) ∧ w'.cell? ⟨g7, 2, none⟩ = some (.int .i64 ins.f2.f0) ∧ w'.cell? ⟨g7, 3, none⟩ = some (.int .i64 ins.f2.f1) ∧ w'.heap[g7]? = some (.cells (IA ins) 30 (0, 0)) ∧ D w g4 g (ps.length + 1) c l w') (ds := []) #[F_, F_, F_, F_, F_, F_, F_, F_, F_, F_, F_] (by kernel_rfl) rfl rfl ⟨hDd.x4, hck hDd, (blk_cell n7d 0).trans rfl, (blk_cell n7d 1).trans rfl, (blk_cell n7d 2).trans rfl, (blk_cell n7d 3).trans rfl, n7d, hDd⟩ (fun hHeld => ?_)
      refine pure_ (i := 1) (N := some 50) (v := ?_) (a' := ?_) #[F_, T_, F_, F_, F_, F_, F_, F_, F_, F_, F_] rfl rfl (by kernel_rfl) (fun _ _ _ h => h) (Or.inl ⟨by rfl, ?_⟩) ?_ ?_
      rotate_left
      ·intro w'
       go_simp
       with_reducible rfl
      rotate_left
      ·simp only [Act.put, sA_, sB_, sC_, i64_w, i32_w]
       rfl
      refine take_ (i := 0) (N := some 49) (v := ?_) (a' := ?_) #[T_, T_, F_, F_, F_, F_, F_, F_, F_, F_, F_] rfl rfl (by kernel_rfl) (fun _ _ _ h => h) (Or.inl ⟨by rfl, ?_⟩) hHeld ?_ ?_
      rotate_left
      ·rintro w' ⟨s0, s1, s2, s3, s4, s5, s6, s7⟩
       go_simp
       with_reducible rfl
      rotate_left
      ·simp only [Act.put, sA_, sB_, sC_, i64_w, i32_w]
       rfl
      refine pure_ (i := 2) (N := some 51) (v := ?_) (a' := ?_) #[T_, T_, T_, F_, F_, F_, F_, F_, F_, F_, F_] rfl rfl (by kernel_rfl) (fun _ _ _ h => h) (Or.inl ⟨by rfl, ?_⟩) ?_ ?_
      rotate_left
      ·intro w'
       go_simp
       with_reducible rfl
      rotate_left
      ·simp only [Act.put, sA_, sB_, sC_, i64_w, i32_w]
       rfl
      refine take_ (i := 3) (N := some 52) (v := ?_) (a' := ?_) #[T_, T_, T_, T_, F_, F_, F_, F_, F_, F_, F_] rfl rfl (by kernel_rfl) (fun _ _ _ h => h) (Or.inl ⟨by rfl, ?_⟩) hHeld ?_ ?_
      rotate_left
      ·rintro w' ⟨s0, s1, s2, s3, s4, s5, s6, s7⟩
       go_simp
       with_reducible rfl
      rotate_left
      ·simp only [Act.put, sA_, sB_, sC_, i64_w, i32_w]
       rfl
      refine take_ (i := 4) (N := some 53) (v := ?_) (a' := ?_) #[T_, T_, T_, T_, T_, F_, F_, F_, F_, F_, F_] rfl rfl (by kernel_rfl) (fun _ _ _ h => h) (Or.inl ⟨by rfl, ?_⟩) hHeld ?_ ?_
      rotate_left
      ·rintro w' ⟨s0, s1, s2, s3, s4, s5, s6, s7⟩
       go_simp
       with_reducible rfl
      rotate_left
      ·simp only [Act.put, sA_, sB_, sC_, i64_w, i32_w]
       rfl
      refine take_ (i := 7) (N := some 56) (v := ?_) (a' := ?_) #[T_, T_, T_, T_, T_, F_, F_, T_, F_, F_, F_] rfl rfl (by kernel_rfl) (fun _ _ _ h => h) (Or.inl ⟨by rfl, ?_⟩) hHeld ?_ ?_
      rotate_left
      ·rintro w' ⟨s0, s1, s2, s3, s4, s5, s6, s7⟩
       go_simp
       with_reducible rfl
      rotate_left
      ·simp only [Act.put, sA_, sB_, sC_, i64_w, i32_w]
       rfl
      refine one_ (i := 5) (N := some 54) #[T_, T_, T_, T_, T_, T_, F_, T_, F_, F_, F_] rfl rfl (by kernel_rfl) (by decide) (fun K hK => ?_)
      refine goes_ Tryz.func69 (by kernel_rfl) rfl #[.agg (IA ins)] (by rfl) rfl rfl (by simp only [List.map_toArray, List.map_cons, List.map_nil]; rfl) ?_
      with_reducible refine (takesC ins T eT'.out _).mono ?_
      rintro e wb ⟨rfl, hbb⟩
      refine ⟨_, rfl, ?_⟩
      have wbG := D.below hHeld.2.2.2.2.2.2.2 hbb
      have wbN := blk_below hHeld.2.2.2.2.2.2.1 hbb
      refine hK.out _ _ ⟨wbG.x4, hck wbG, (blk_cell wbN 0).trans rfl, (blk_cell wbN 1).trans rfl, (blk_cell wbN 2).trans rfl, (blk_cell wbN 3).trans rfl, wbN, wbG⟩ (fun hHeld => ?_)
      clear hK K
      refine norm_ (a' := ?_) ?_ ?_
      rotate_left
      ·show Act.put _ (some 54) _ = _
       simp only [Act.put, sA_, sB_, sC_, i64_w, i32_w]
       rfl
      refine pure_ (i := 6) (N := some 55) (v := ?_) (a' := ?_) #[T_, T_, T_, T_, T_, T_, T_, T_, F_, F_, F_] rfl rfl (by kernel_rfl) (fun _ _ _ h => h) (Or.inl ⟨by rfl, ?_⟩) ?_ ?_
      rotate_left
      ·intro w'
       go_simp
       with_reducible rfl
      rotate_left
      ·simp only [Act.put, sA_, sB_, sC_, i64_w, i32_w]
       rfl
      refine one_ (i := 8) (N := some 57) #[T_, T_, T_, T_, T_, T_, T_, T_, T_, F_, F_] rfl rfl (by kernel_rfl) (by decide) (fun K hK => ?_)
      refine goes_ Tryz.func70 (by kernel_rfl) rfl #[.agg (IA ins)] (by rfl) rfl rfl (by simp only [List.map_toArray, List.map_cons, List.map_nil]; rfl) ?_
      with_reducible refine (givesC ins G eG'.out _).mono ?_
      rintro e wc ⟨rfl, hbc⟩
      refine ⟨_, rfl, ?_⟩
      have wcG := D.below hHeld.2.2.2.2.2.2.2 hbc
      have wcN := blk_below hHeld.2.2.2.2.2.2.1 hbc
      refine hK.out _ _ ⟨wcG.x4, hck wcG, (blk_cell wcN 0).trans rfl, (blk_cell wcN 1).trans rfl, (blk_cell wcN 2).trans rfl, (blk_cell wcN 3).trans rfl, wcN, wcG⟩ (fun hHeld => ?_)
      clear hK K
      refine norm_ (a' := ?_) ?_ ?_
      rotate_left
      ·show Act.put _ (some 57) _ = _
       simp only [Act.put, sA_, sB_, sC_, i64_w, i32_w]
       rfl
      refine pure_ (i := 9) (N := some 58) (v := ?_) (a' := ?_) #[T_, T_, T_, T_, T_, T_, T_, T_, T_, T_, F_] rfl rfl (by kernel_rfl) (fun _ _ _ h => h) (Or.inl ⟨by rfl, ?_⟩) ?_ ?_
      rotate_left
      ·intro w'
       go_simp
       with_reducible rfl
      rotate_left
      ·simp only [Act.put, sA_, sB_, sC_, i64_w, i32_w]
       rfl
      refine pure_ (i := 10) (N := some 8) (v := ?_) (a' := ?_) #[T_, T_, T_, T_, T_, T_, T_, T_, T_, T_, T_] rfl rfl (by kernel_rfl) (fun _ _ _ h => h) (Or.inl ⟨by rfl, ?_⟩) ?_ ?_
      rotate_left
      ·intro w'
       go_simp
       with_reducible rfl
      rotate_left
      ·simp only [Act.put, sA_, sB_, sC_, i64_w, i32_w]
       rfl
      refine done_ (by kernel_rfl) ?_
      have hD := hHeld.2.2.2.2.2.2.2
      have n7 := hHeld.2.2.2.2.2.2.1
      clear hHeld hDd n7d
      obtain ⟨t, et⟩ : ∃ q, v - T + G = q := ⟨_, rfl⟩
      rw [et]
      have et' := Aside0.mk et
      clear w1_ w2_ et
      have hst : Hp.step ins k ps.length l = (if 12 < t then none else
       if goB ins.f0 = true then
        if told l ins.f1 t = true then
         if foB ins.f0 = true then
          if told (Ht.tell l ins.f1 t) ((k + 1 : Nat) : Int) t = true then some (Ht.tell (Ht.tell l ins.f1 t) ((k + 1 : Nat) : Int) t) else none
         else some (Ht.tell l ins.f1 t)
        else none
       else if foB ins.f0 = true then
        if told l ((k + 1 : Nat) : Int) t = true then some (Ht.tell l ((k + 1 : Nat) : Int) t) else none
       else some l) := by
       unfold Hp.step
       rw [if_pos hok'.out, evv'.out, if_neg (by simpa using hm1'.out), eT'.out, if_neg (of_decide_eq_false hlt'.out), eG'.out, et'.out]
      have hst' := Aside0.mk hst
      clear hst
      cases h12 : decide (12 < t) with
      | true =>
       have hdn : dep ps = none := by rw [hs'.out, hst'.out, if_pos (of_decide_eq_true h12)]
       have hB : okB ps = false := by unfold okB; rw [hdn]
       clear hdn
       go_wp2
       go_ret2
       rw [hB]
       exact ⟨.slice none 0 0, rfl, (fun h => absurd h (by simp)), hD.bel⟩
      | false =>
       have h12' := Aside0.mk h12
       have tb : -1 ≤ t ∧ t ≤ 12 := by have := of_decide_eq_false h12; have := hvb.out; have := htb.out; have := hgb.out; have h3 := et'.out; have h4 := of_decide_eq_false hlt'.out; omega
       have tb' := Aside0.mk tb
       clear tb
       have i70 : wc.cell? ⟨g7, 0, none⟩ = some (.int .i64 ins.f0) := (blk_cell n7 0).trans rfl
       have i71 : wc.cell? ⟨g7, 1, none⟩ = some (.int .i64 ins.f1) := (blk_cell n7 1).trans rfl
       have i72 : wc.cell? ⟨g7, 2, none⟩ = some (.int .i64 ins.f2.f0) := (blk_cell n7 2).trans rfl
       have i73 : wc.cell? ⟨g7, 3, none⟩ = some (.int .i64 ins.f2.f1) := (blk_cell n7 3).trans rfl
       have hkn := hkn'.out
       have hle := hle'.out
       cases hgo : goB ins.f0 with
       | false =>
        have hgo' := Aside0.mk hgo
        clear hgo
        go_wp2_with fail
        refine (goesC ins false hgo'.out _).mono ?_
        rintro e wa ⟨rfl, hba⟩
        replace hD := hD.below hba
        replace n7 := blk_below n7 hba
        clear i70 i71 i72 i73
        have i70 : wa.cell? ⟨g7, 0, none⟩ = some (.int .i64 ins.f0) := (blk_cell n7 0).trans rfl
        have i71 : wa.cell? ⟨g7, 1, none⟩ = some (.int .i64 ins.f1) := (blk_cell n7 1).trans rfl
        have i72 : wa.cell? ⟨g7, 2, none⟩ = some (.int .i64 ins.f2.f0) := (blk_cell n7 2).trans rfl
        have i73 : wa.cell? ⟨g7, 3, none⟩ = some (.int .i64 ins.f2.f1) := (blk_cell n7 3).trans rfl
        cases hfo : foB ins.f0 with
        | false =>
         have hfo' := Aside0.mk hfo
         clear hfo
         go_wp2_with fail
         refine (followsC ins false hfo'.out _).mono ?_
         rintro e wf ⟨rfl, hbf⟩
         replace hD := hD.below hbf
         clear i70 i71 i72 i73
         have hnx : Hp.run ps (ps.length - (k + 1)) (k + 1) (l) = dep ps := by
          have h_ := hs'.out
          rw [hst'.out, if_neg (of_decide_eq_false h12'.out), if_neg (by rw [hgo'.out]; simp), if_neg (by rw [hfo'.out]; simp)] at h_
          exact h_.symm
         have hbx : ∀ x ∈ l, -1 ≤ x ∧ x ≤ 12 := hbd'.out
         have hnx' := Aside0.mk hnx
         have hbx' := Aside0.mk hbx
         clear hnx hbx
         have hkk := hkn'.out
         go_wp2
         have wk : wrap64 ((k : Int) + 1) = ((k + 1 : Nat) : Int) := by unfold wrap64; omega
         go_roundw
         case rel => exact ⟨k + 1, _, hkk, by first | (rw [wk]; done) | rfl | (simp [wk]; done) | go_num, hnx'.out, hbx'.out, hD⟩
         case measure => first | (simp only [intOf, wk, Int.toNat_natCast]; omega) | (simp [intOf]; omega)
        | true =>
         have hfo' := Aside0.mk hfo
         clear hfo
         go_wp2_with fail
         refine (followsC ins true hfo'.out _).mono ?_
         rintro e wf ⟨rfl, hbf⟩
         replace hD := hD.below hbf
         replace n7 := blk_below n7 hbf
         clear i70 i71 i72 i73
         have hk2 : k + 1 < ps.length + 1 := by have := hkn'.out; omega
         cases ht2 : told (l) ((k + 1 : Nat) : Int) t with
         | false =>
          have ht2' := Aside0.mk ht2
          clear ht2
          go_wp2_with fail
          refine (hD.tellS k t hk2 n7 false ht2'.out).mono ?_
          rintro e wt ⟨rfl, hD9, _⟩
          have hD := hD9
          have hdn : dep ps = none := by rw [hs'.out, hst'.out, if_neg (of_decide_eq_false h12'.out), if_neg (by rw [hgo'.out]; simp), if_pos hfo'.out, if_neg (by rw [ht2'.out]; simp)]
          have hB : okB ps = false := by unfold okB; rw [hdn]
          clear hdn
          go_wp2
          go_ret2
          rw [hB]
          exact ⟨.slice none 0 0, rfl, (fun h => absurd h (by simp)), hD.bel⟩
         | true =>
          have ht2' := Aside0.mk ht2
          clear ht2
          go_wp2_with fail
          refine (hD.tellS k t hk2 n7 true ht2'.out).mono ?_
          rintro e wt ⟨rfl, hD9, _⟩
          have hD := hD9
          have hnx : Hp.run ps (ps.length - (k + 1)) (k + 1) (Ht.tell (l) ((k + 1 : Nat) : Int) t) = dep ps := by
           have h_ := hs'.out
           rw [hst'.out, if_neg (of_decide_eq_false h12'.out), if_neg (by rw [hgo'.out]; simp), if_pos hfo'.out, if_pos ht2'.out] at h_
           exact h_.symm
          have hbx : ∀ x ∈ Ht.tell (l) ((k + 1 : Nat) : Int) t, -1 ≤ x ∧ x ≤ 12 := tell_bd (hbd'.out) tb'.out
          have hnx' := Aside0.mk hnx
          have hbx' := Aside0.mk hbx
          clear hnx hbx
          have hkk := hkn'.out
          go_wp2
          have wk : wrap64 ((k : Int) + 1) = ((k + 1 : Nat) : Int) := by unfold wrap64; omega
          go_roundw
          case rel => exact ⟨k + 1, _, hkk, by first | (rw [wk]; done) | rfl | (simp [wk]; done) | go_num, hnx'.out, hbx'.out, hD⟩
          case measure => first | (simp only [intOf, wk, Int.toNat_natCast]; omega) | (simp [intOf]; omega)
       | true =>
        have hgo' := Aside0.mk hgo
        clear hgo
        obtain ⟨b0, b1⟩ := ok_goes hok'.out hgo'.out (by omega) (by have := hkn'.out; omega)
        go_wp2_with fail
        refine (goesC ins true hgo'.out _).mono ?_
        rintro e wa ⟨rfl, hba⟩
        replace hD := hD.below hba
        replace n7 := blk_below n7 hba
        clear i70 i71 i72 i73
        have i70 : wa.cell? ⟨g7, 0, none⟩ = some (.int .i64 ins.f0) := (blk_cell n7 0).trans rfl
        have i71 : wa.cell? ⟨g7, 1, none⟩ = some (.int .i64 ins.f1) := (blk_cell n7 1).trans rfl
        have i72 : wa.cell? ⟨g7, 2, none⟩ = some (.int .i64 ins.f2.f0) := (blk_cell n7 2).trans rfl
        have i73 : wa.cell? ⟨g7, 3, none⟩ = some (.int .i64 ins.f2.f1) := (blk_cell n7 3).trans rfl
        cases ht1 : told l ins.f1 t with
        | false =>
         have ht1' := Aside0.mk ht1
         clear ht1
         go_wp2_with fail
         refine (hD.tellB ins.f1 t b0 (by omega) n7 false ht1'.out).mono ?_
         rintro e wt ⟨rfl, hD9, _⟩
         have hD := hD9
         have hdn : dep ps = none := by rw [hs'.out, hst'.out, if_neg (of_decide_eq_false h12'.out), if_pos hgo'.out, if_neg (by rw [ht1'.out]; simp)]
         have hB : okB ps = false := by unfold okB; rw [hdn]
         clear hdn
         go_wp2
         go_ret2
         rw [hB]
         exact ⟨.slice none 0 0, rfl, (fun h => absurd h (by simp)), hD.bel⟩
        | true =>
         have ht1' := Aside0.mk ht1
         clear ht1
         go_wp2_with fail
         refine (hD.tellB ins.f1 t b0 (by omega) n7 true ht1'.out).mono ?_
         rintro e wt ⟨rfl, hD9, n79⟩
         replace hD := hD9
         clear n7 hD9 i70 i71 i72 i73 b0 b1
         have n7 := n79
         clear n79
         have i70 : wt.cell? ⟨g7, 0, none⟩ = some (.int .i64 ins.f0) := (blk_cell n7 0).trans rfl
         have i71 : wt.cell? ⟨g7, 1, none⟩ = some (.int .i64 ins.f1) := (blk_cell n7 1).trans rfl
         have i72 : wt.cell? ⟨g7, 2, none⟩ = some (.int .i64 ins.f2.f0) := (blk_cell n7 2).trans rfl
         have i73 : wt.cell? ⟨g7, 3, none⟩ = some (.int .i64 ins.f2.f1) := (blk_cell n7 3).trans rfl
         cases hfo : foB ins.f0 with
         | false =>
          have hfo' := Aside0.mk hfo
          clear hfo
          go_wp2_with fail
          refine (followsC ins false hfo'.out _).mono ?_
          rintro e wf ⟨rfl, hbf⟩
          replace hD := hD.below hbf
          clear i70 i71 i72 i73
          have hnx : Hp.run ps (ps.length - (k + 1)) (k + 1) (Ht.tell l ins.f1 t) = dep ps := by
           have h_ := hs'.out
           rw [hst'.out, if_neg (of_decide_eq_false h12'.out), if_pos hgo'.out, if_pos ht1'.out, if_neg (by rw [hfo'.out]; simp)] at h_
           exact h_.symm
          have hbx : ∀ x ∈ Ht.tell l ins.f1 t, -1 ≤ x ∧ x ≤ 12 := tell_bd hbd'.out tb'.out
          have hnx' := Aside0.mk hnx
          have hbx' := Aside0.mk hbx
          clear hnx hbx
          have hkk := hkn'.out
          go_wp2
          have wk : wrap64 ((k : Int) + 1) = ((k + 1 : Nat) : Int) := by unfold wrap64; omega
          go_roundw
          case rel => exact ⟨k + 1, _, hkk, by first | (rw [wk]; done) | rfl | (simp [wk]; done) | go_num, hnx'.out, hbx'.out, hD⟩
          case measure => first | (simp only [intOf, wk, Int.toNat_natCast]; omega) | (simp [intOf]; omega)
         | true =>
          have hfo' := Aside0.mk hfo
          clear hfo
          go_wp2_with fail
          refine (followsC ins true hfo'.out _).mono ?_
          rintro e wf ⟨rfl, hbf⟩
          replace hD := hD.below hbf
          replace n7 := blk_below n7 hbf
          clear i70 i71 i72 i73
          have hk2 : k + 1 < ps.length + 1 := by have := hkn'.out; omega
          cases ht2 : told (Ht.tell l ins.f1 t) ((k + 1 : Nat) : Int) t with
          | false =>
           have ht2' := Aside0.mk ht2
           clear ht2
           go_wp2_with fail
           refine (hD.tellS k t hk2 n7 false ht2'.out).mono ?_
           rintro e wt ⟨rfl, hD9, _⟩
           have hD := hD9
           have hdn : dep ps = none := by rw [hs'.out, hst'.out, if_neg (of_decide_eq_false h12'.out), if_pos hgo'.out, if_pos ht1'.out, if_pos hfo'.out, if_neg (by rw [ht2'.out]; simp)]
           have hB : okB ps = false := by unfold okB; rw [hdn]
           clear hdn
           go_wp2
           go_ret2
           rw [hB]
           exact ⟨.slice none 0 0, rfl, (fun h => absurd h (by simp)), hD.bel⟩
          | true =>
           have ht2' := Aside0.mk ht2
           clear ht2
           go_wp2_with fail
           refine (hD.tellS k t hk2 n7 true ht2'.out).mono ?_
           rintro e wt ⟨rfl, hD9, _⟩
           have hD := hD9
           have hnx : Hp.run ps (ps.length - (k + 1)) (k + 1) (Ht.tell (Ht.tell l ins.f1 t) ((k + 1 : Nat) : Int) t) = dep ps := by
            have h_ := hs'.out
            rw [hst'.out, if_neg (of_decide_eq_false h12'.out), if_pos hgo'.out, if_pos ht1'.out, if_pos hfo'.out, if_pos ht2'.out] at h_
            exact h_.symm
           have hbx : ∀ x ∈ Ht.tell (Ht.tell l ins.f1 t) ((k + 1 : Nat) : Int) t, -1 ≤ x ∧ x ≤ 12 := tell_bd (tell_bd hbd'.out tb'.out) tb'.out
           have hnx' := Aside0.mk hnx
           have hbx' := Aside0.mk hbx
           clear hnx hbx
           have hkk := hkn'.out
           go_wp2
           have wk : wrap64 ((k : Int) + 1) = ((k + 1 : Nat) : Int) := by unfold wrap64; omega
           go_roundw
           case rel => exact ⟨k + 1, _, hkk, by first | (rw [wk]; done) | rfl | (simp [wk]; done) | go_num, hnx'.out, hbx'.out, hD⟩
           case measure => first | (simp only [intOf, wk, Int.toNat_natCast]; omega) | (simp [intOf]; omega)
  ·have hkn2 : k = ps.length := by omega
   subst hkn2
   have d2 : decide (ps.length < ps.length) = false := by simp
   have hdn : dep ps = some l := by rw [← hrun, Nat.sub_self]; rfl
   have hB : okB ps = (rd l (ps.length : Int) == 0) := by unfold okB; rw [hdn]
   have hx := hD.at_ ps.length (by omega)
   have i4 := hD.x4
   generalize hq : rd l (ps.length : Int) = q at hx hB
   have hx0 := Aside0.mk hx
   have hdn2 := Aside0.mk hdn
   have hB2 := Aside0.mk hB
   clear hrun hk hdn hB hq hbd hkn
   clear hx i4
   go_upto_region 15 with (fail)
   have hDd := hD.drew
   have kk : (ps.length : Int) < (ps.length : Int) + 1 := by omega
   have hxd : wr.drew.cell? ⟨g, ps.length, none⟩ = some (.int .i64 q) := hx0.out
   clear hD
   refine start_ (n := 9) (S := fun w' => w'.cell? ⟨g4, 0, none⟩ = some (.slice (some ⟨g, 0, none⟩) (ps.length + 1) c) ∧ w'.cell? ⟨g, ps.length, none⟩ = some (.int .i64 q) ∧ D w g4 g (ps.length + 1) c l w') (ds := []) #[F_, F_, F_, F_, F_, F_, F_, F_, F_] (by kernel_rfl) rfl rfl ⟨hDd.x4, hxd, hDd⟩ (fun hHeld => ?_)
   refine pure_ (i := 2) (N := some 88) (v := ?_) (a' := ?_) #[F_, F_, T_, F_, F_, F_, F_, F_, F_] rfl rfl (by kernel_rfl) (fun _ _ _ h => h) (Or.inl ⟨by rfl, ?_⟩) ?_ ?_
   rotate_left
   ·intro w'
    go_simp
    with_reducible rfl
   rotate_left
   ·simp only [Act.put, sA_, sB_, sC_, i64_w, i32_w]
    rfl
   refine pure_ (i := 3) (N := some 89) (v := ?_) (a' := ?_) #[F_, F_, T_, T_, F_, F_, F_, F_, F_] rfl rfl (by kernel_rfl) (fun _ _ _ h => h) (Or.inl ⟨by rfl, ?_⟩) ?_ ?_
   rotate_left
   ·intro w'
    go_simp
    with_reducible rfl
   rotate_left
   ·simp only [Act.put, sA_, sB_, sC_, i64_w, i32_w]
    rfl
   refine take_ (i := 0) (N := some 86) (v := ?_) (a' := ?_) #[T_, F_, T_, T_, F_, F_, F_, F_, F_] rfl rfl (by kernel_rfl) (fun _ _ _ h => h) (Or.inl ⟨by rfl, ?_⟩) hHeld ?_ ?_
   rotate_left
   ·rintro w' ⟨s0, s1, s2⟩
    go_simp
    with_reducible rfl
   rotate_left
   ·simp only [Act.put, sA_, sB_, sC_, i64_w, i32_w]
    rfl
   refine pure_ (i := 7) (N := some 2) (v := ?_) (a' := ?_) #[T_, F_, T_, T_, F_, F_, F_, T_, F_] rfl rfl (by kernel_rfl) (fun _ _ _ h => h) (Or.inl ⟨by rfl, ?_⟩) ?_ ?_
   rotate_left
   ·intro w'
    go_simp
    with_reducible rfl
   rotate_left
   ·simp only [Act.put, sA_, sB_, sC_, i64_w, i32_w]
    rfl
   refine take_ (i := 1) (N := some 87) (v := ?_) (a' := ?_) #[T_, T_, T_, T_, F_, F_, F_, T_, F_] rfl rfl (by kernel_rfl) (fun _ _ _ h => h) (Or.inl ⟨by rfl, ?_⟩) hHeld ?_ ?_
   rotate_left
   ·rintro w' ⟨s0, s1, s2⟩
    go_simp
    with_reducible rfl
   rotate_left
   ·simp only [Act.put, sA_, sB_, sC_, i64_w, i32_w]
    rfl
   refine pure_ (i := 4) (N := some 90) (v := ?_) (a' := ?_) #[T_, T_, T_, T_, T_, F_, F_, T_, F_] rfl rfl (by kernel_rfl) (fun _ _ _ h => h) (Or.inl ⟨by rfl, ?_⟩) ?_ ?_
   rotate_left
   ·intro w'
    go_simp
    with_reducible rfl
   rotate_left
   ·simp only [Act.put, sA_, sB_, sC_, i64_w, i32_w]
    rfl
   refine take_ (i := 5) (N := some 91) (v := ?_) (a' := ?_) #[T_, T_, T_, T_, T_, T_, F_, T_, F_] rfl rfl (by kernel_rfl) (fun _ _ _ h => h) (Or.inl ⟨by rfl, ?_⟩) hHeld ?_ ?_
   rotate_left
   ·rintro w' ⟨s0, s1, s2⟩
    go_simp
    with_reducible rfl
   rotate_left
   ·simp only [Act.put, sA_, sB_, sC_, i64_w, i32_w]
    rfl
   refine pure_ (i := 6) (N := some 92) (v := ?_) (a' := ?_) #[T_, T_, T_, T_, T_, T_, T_, T_, F_] rfl rfl (by kernel_rfl) (fun _ _ _ h => h) (Or.inl ⟨by rfl, ?_⟩) ?_ ?_
   rotate_left
   ·intro w'
    go_simp
    with_reducible rfl
   rotate_left
   ·simp only [Act.put, sA_, sB_, sC_, i64_w, i32_w]
    rfl
   refine pure_ (i := 8) (N := some 3) (v := ?_) (a' := ?_) #[T_, T_, T_, T_, T_, T_, T_, T_, T_] rfl rfl (by kernel_rfl) (fun _ _ _ h => h) (Or.inl ⟨by rfl, ?_⟩) ?_ ?_
   rotate_left
   ·intro w'
    go_simp
    with_reducible rfl
   rotate_left
   ·simp only [Act.put, sA_, sB_, sC_, i64_w, i32_w]
    rfl
   refine done_ (by kernel_rfl) ?_
   have hD := hHeld.2.2
   clear hHeld
   go_wp2
   go_ret2
   rw [hB2.out]
   exact ⟨_, rfl, fun _ => ⟨g, c, l, hdn2.out, rfl, hD.r⟩, hD.bel⟩
end Go.Proofs.YtjamfddhcigchaaGreatDoor.Hd
