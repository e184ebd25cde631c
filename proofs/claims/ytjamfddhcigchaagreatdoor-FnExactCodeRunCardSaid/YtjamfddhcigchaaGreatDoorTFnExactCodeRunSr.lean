/- spec.l5Run and spec.CodeRun, walked: what the plain run tells. No other condition. -/
import Derived.Test.YtjamfddhcigchaaGreatDoorTFnExactCodeRunSd
import Derived.Test.YtjamfddhcigchaaGreatDoorTFnExactCodeRunHn
namespace Go.Proofs.YtjamfddhcigchaaGreatDoor.Sr
open Go.RowKit  Go.Proofs.YtjamfddhcigchaaGreatDoor.Gm Go.Proofs.YtjamfddhcigchaaGreatDoor.Gn Go.Proofs.YtjamfddhcigchaaGreatDoor.Gz Go.Proofs.YtjamfddhcigchaaGreatDoor.Gq Go.Proofs.YtjamfddhcigchaaGreatDoor.Hm Go.Proofs.YtjamfddhcigchaaGreatDoor.Hn Go.Proofs.YtjamfddhcigchaaGreatDoor.Hp Go.Proofs.YtjamfddhcigchaaGreatDoor.Sd Go.Proofs.YtjamfddhcigchaaGreatDoor.HFnExactCodeRun Go.Proofs.YtjamfddhcigchaaGreatDoorW.PrintWords Go.Proofs.YtjamfddhcigchaaGreatDoorW.PrintLast Go.Proofs.YtjamfddhcigchaaGreatDoorW.PrintMore
set_option linter.unusedVariables false
set_option linter.unusedSimpArgs false
theorem results_sr {P : Program} {fn : Func} {p u v : Tmp} {ty : TypeId} (h : fn.results = #[.cell p ty, .tmp u, .tmp v]) (tmps : Array Value) (w : World) (g : Nat) (t : TypeId) (cs : Array Value) (fr : Nat × Nat) (d : TypeDesc)
  (hp : tmps.getD p undef = .pointer (some ⟨g, 0, none⟩)) (hg : w.heap[g]? = some (.cells cs t fr))
  (hu : P.underlying ty = some d) (hd : (match d with | .struct _ | .array _ _ => true | _ => false) = true) (hi : (P.info? ty).map (·.size) = some cs.size) :
  (results fn tmps).run P w = .ok (.tuple #[.agg cs, tmps.getD u undef, tmps.getD v undef]) w := by
 have hp' : tmps[p]?.getD undef = .pointer (some ⟨g, 0, none⟩) := by simpa using hp
 simp [results, h, hp', asAddr, run_loadVar_row w g t ty cs fr d hg hu hd hi]
theorem put_len {m : M3} (k i n : Int) (h : m.len) : (m.put k i n).len := ⟨pT_len.trans h.1, pT_len.trans h.2.1, pT_len.trans h.2.2⟩
theorem doI_le {i : S30} {m : M3} {st : List Int} {r : M3 × List Int} (h : doI i m st = some r) (hl : st.length ≤ 12) : r.2.length ≤ 12 := by
 unfold doI at h
 split at h
 ·split at h
  ·cases h; simp only [List.length_cons]; omega
  ·cases h
 split at h
 ·split at h
  ·cases h; simp only [List.length_cons]; omega
  ·cases h
 split at h
 ·split at h
  ·split at h
   ·cases h; simp only [List.length_cons] at hl ⊢; omega
   ·cases h
  ·cases h
 split at h
 ·split at h
  ·cases e : Gt.impl_two.f i.f1 _ _ with
   | none => rw [e] at h; cases h
   | some t => rw [e] at h; cases h; simp only [List.length_cons] at hl ⊢; omega
  ·cases h
 split at h
 ·split at h
  ·cases h; simp only [List.length_cons] at hl ⊢; omega
  ·cases h
 split at h
 ·split at h
  ·cases h; simp only [List.length_cons] at hl ⊢; omega
  ·cases h
 split at h
 ·cases h; exact hl
 ·cases h
theorem RI_empty {B g : Nat} {W : World} (h : W.heap[g]? = some (.cells #[] 3 (0, 0))) (hb : B ≤ g) : RI B W (.slice (some ⟨g, 0, none⟩) 0 0) [] :=
 Kd.R_of_own ⟨rfl, .inr ⟨g, 0, #[], rfl, hb, h, Nat.le_refl _, Nat.zero_le _, rfl, rfl⟩⟩ (fun _ _ => trivial)
theorem far3 {W : World} {g z : Nat} {cs : Array Value} {t : TypeId} (h : W.heap[g]? = some (.cells cs t (0, 0))) (ne : g ≠ z) (a b c : Value) : (((W.setCell ⟨z, 0, none⟩ a).setCell ⟨z, 1, none⟩ b).setCell ⟨z, 2, none⟩ c).heap[g]? = some (.cells cs t (0, 0)) :=
 blk_far (p := ⟨z, 2, none⟩) (blk_far (p := ⟨z, 1, none⟩) (blk_far (p := ⟨z, 0, none⟩) h ne a) ne b) ne c
structure LR (w0 W0 : World) (z3 z6 : Nat) (hv : Value) (m : M3) (st : List Int) (fl : Nat) (W : World) : Prop where
 ex : ∃ v0 v1 v2, SM w0.heap.size v0 v1 v2 hv m st W ∧ W.heap[z3]? = some (.cells #[v0, v1, v2] 33 (0, 0))
 z : W.heap[z6]? = some (.cells Z3 33 (0, 0))
 ln : m.len
 le : st.length ≤ 12
 fl : fl ≤ 100
 b : Below w0.heap.size w0 W
 ne : z3 ≠ z6
 n3 : w0.heap.size ≤ z3
 n6 : w0.heap.size ≤ z6
 kp : Kp W0 W
 m3 : W0.heap.size ≤ z3
 m6 : W0.heap.size ≤ z6
def Ans (w0 W w' : World) (e : Ending) (q : M3 × Int × Nat) : Prop := ∃ u0 u1 u2, e = .returned (.tuple #[.agg #[u0, u1, u2], .int .i64 q.2.1, .int .i64 (q.2.2 : Int)]) ∧ RI w0.heap.size w' u0 q.1.a ∧ RI w0.heap.size w' u1 q.1.b ∧ RI w0.heap.size w' u2 q.1.c ∧ Dj u0 u1 ∧ Dj u0 u2 ∧ Dj u1 u2 ∧ Below w0.heap.size w0 w' ∧ Kp W w'
set_option maxRecDepth 100000 in
set_option maxHeartbeats 6400000 in
theorem l5Run_any (w0 W : World) (v0 v1 v2 : Value) (m : M3) (ra : RI w0.heap.size W v0 m.a) (rb : RI w0.heap.size W v1 m.b) (rc : RI w0.heap.size W v2 m.c) (dab : Dj v0 v1) (dac : Dj v0 v2) (dbc : Dj v1 v2)
  (P : Option Addr) (cc : Nat) (ps : List S30) (hp : Kd.C k30 w0 P ps.length ps) (fl0 : Nat) (hfl : fl0 ≤ 100) (hB : Below w0.heap.size w0 W) (hlm : m.len) (G : Nat) (q : M3 × Int × Nat) (hq : runI ps G m [] 0 fl0 = some q) (hle : ps.length ≤ 1000) :
  Calls Tryz.prog 47 #[.agg #[v0, v1, v2], .slice P ps.length cc, .int .i64 (fl0 : Int)] W fun e w' => Ans w0 W w' e q := by
 have hu33 := Tryz.underlying33
 have hu30 := Tryz.underlying30
 have hu31 := Tryz.underlying31
 obtain ⟨A0, c0, rfl⟩ := Kd.R_slice ra
 obtain ⟨A1, c1, rfl⟩ := Kd.R_slice rb
 obtain ⟨A2, c2, rfl⟩ := Kd.R_slice rc
 go_enter Tryz.func47, Tryz.ntmps47
 go_upto_region 2 with (fail)
 obtain ⟨k0, f3, f6, f9⟩ := Gw.al3 W (.cells #[.slice A0 m.a.length c0, .slice A1 m.b.length c1, .slice A2 m.c.length c2] 33) (.cells #[.slice none 0 0, .slice none 0 0, .slice none 0 0] 33) (.cells #[] 3)
 have sw := hB.size
 generalize ((W.alloc _).alloc _).alloc _ = w1 at k0 f3 f6 f9 ⊢
 have D : ∀ {u : Value} {l : List Int} {c : Nat}, RI w0.heap.size W u l → Dj (.slice (some ⟨W.heap.size + 1 + 1, 0, none⟩) 0 c) u := fun hu k e1 e2 => by
  have h := Kd.R_lt hu k e2
  have : W.heap.size + 1 + 1 = k := by simpa [Value.ownBlock] using e1
  omega
 have hL : Aside0 (LR w0 W W.heap.size (W.heap.size + 1) (.slice (some ⟨W.heap.size + 1 + 1, 0, none⟩) 0 0) m [] fl0 w1) := ⟨⟨⟨_, _, _, ⟨Kd.R_below ra k0, Kd.R_below rb k0, Kd.R_below rc k0, RI_empty f9 (by omega), dab, dac, dbc, D ra, D rb, D rc⟩, f3⟩, f6, hlm, Nat.zero_le _, hfl, hB.trans (k0.mono sw), by omega, sw, by omega, Kp.of k0, Nat.le_refl _, by omega⟩⟩
 have hq' := Aside0.mk hq
 have hle' := Aside0.mk hle
 clear D k0 f3 f6 f9 ra rb rc dab dac dbc hq hB hfl hle hlm sw
 obtain ⟨z3, e3⟩ : ∃ z, W.heap.size = z := ⟨_, rfl⟩
 obtain ⟨z6, e6⟩ : ∃ z, W.heap.size + 1 = z := ⟨_, rfl⟩
 obtain ⟨z9, e9⟩ : ∃ z, W.heap.size + 1 + 1 = z := ⟨_, rfl⟩
 rw [e9, e6, e3] at hL
 rw [e9, e6, e3]
 clear e9 e6 e3
 go_wp2_with fail
 go_loopg [2, 9, 10] G (fun kq v2 v9 v10 wr => ∃ (m : M3) (st : List Int) (p fl : Nat), v2 = .int .i64 (fl : Int) ∧ v10 = .int .i64 (p : Int) ∧ Aside0 (runI ps kq m st p fl = some q) ∧ Aside0 (LR w0 W z3 z6 v9 m st fl wr))
 case atStart => exact ⟨m, [], 0, fl0, rfl, rfl, hq', hL⟩
 case round =>
  clear hL hq'
  obtain ⟨m, st, p, fl, rfl, rfl, HA, HL⟩ := hrel
  obtain ⟨⟨v0, v1, v2, S, f3⟩, f6, hlm, hl12, hfl, hB, hne, hn3, hn6, hkp, hm3, hm6⟩ := HL.out
  obtain ⟨U0, d0, rfl⟩ := Kd.R_slice S.a
  obtain ⟨U1, d1, rfl⟩ := Kd.R_slice S.b
  obtain ⟨U2, d2, rfl⟩ := Kd.R_slice S.c
  obtain ⟨Uh, dh, rfl⟩ := Kd.R_slice S.h
  rw [List.length_reverse] at S
  cases gk with
  | zero => exact absurd HA.out (by simp [runI])
  | succ k1 =>
   by_cases hpn : p < ps.length
   ·have d_ : decide (p < ps.length) = true := by simpa using hpn
    obtain ⟨ad, hA, e0, e1, e2, e3⟩ := at_T30 (Kd.C_below hp hB) (p : Int) (by omega) (by omega)
    subst hA
    rw [Int.toNat_natCast] at e0 e1 e2 e3
    obtain ⟨ins, hins⟩ : ∃ ins, rd_T30 ps (p : Int) = ins := ⟨_, rfl⟩
    rw [hins] at e0 e1 e2 e3
    have hpn' := Aside0.mk hpn
    have w1_ : wrap64 ((p : Int) + 1) = (p : Int) + 1 := by have := hle'.out; unfold wrap64; omega
    go_upto_region 5 with (fail)
    try clear hpn
    clear e0 e1 e2 e3 d_
    have n11 := heap_alloc_new wr (.cells #[.int .i64 ins.f0, .int .i64 ins.f1, .int .i64 ins.f2.f0, .int .i64 ins.f2.f1] 30)
    have k1_ : Below wr.heap.size wr (wr.alloc (.cells #[.int .i64 ins.f0, .int .i64 ins.f1, .int .i64 ins.f2.f0, .int .i64 ins.f2.f1] 30)) := below_alloc (Below.refl _ _) _
    replace S := S.below k1_
    replace hB := hB.trans (k1_.mono hB.size)
    replace hkp := hkp.trans (Kp.of k1_)
    have hn11 : wr.heap.size ≠ z3 := fun e => by have := blk_lt f3; omega
    replace f3 := blk_below f3 k1_
    replace f6 := blk_below f6 k1_
    have HA' := HA.out
    clear k1_ HL HA
    generalize wr.alloc (Obj.cells _ 30) = w2 at n11 S hB f3 f6 hkp ⊢
    generalize wr.heap.size = z11 at n11 hn11 ⊢
    have f11 := n11
    clear n11
    have c0_ : w2.cell? ⟨z11, 0, none⟩ = some (.int .i64 ins.f0) := (blk_cell f11 0).trans rfl
    have c1_ : w2.cell? ⟨z11, 1, none⟩ = some (.int .i64 ins.f1) := (blk_cell f11 1).trans rfl
    have c2_ : w2.cell? ⟨z11, 2, none⟩ = some (.int .i64 ins.f2.f0) := (blk_cell f11 2).trans rfl
    have c3_ : w2.cell? ⟨z11, 3, none⟩ = some (.int .i64 ins.f2.f1) := (blk_cell f11 3).trans rfl
    have i0 : w2.cell? ⟨z3, 0, none⟩ = some (.slice U0 m.a.length d0) := (blk_cell f3 0).trans rfl
    have i1 : w2.cell? ⟨z3, 1, none⟩ = some (.slice U1 m.b.length d1) := (blk_cell f3 1).trans rfl
    have i2 : w2.cell? ⟨z3, 2, none⟩ = some (.slice U2 m.c.length d2) := (blk_cell f3 2).trans rfl
    by_cases h8 : ins.f0 = 8 ∧ fl = 0
    ·obtain ⟨e8, rfl⟩ := h8
     rw [runI_long hpn'.out (by rw [hins]; exact ⟨e8, rfl⟩)] at HA'
     obtain rfl := Option.some.inj HA'
     have t7 : (ins.f0 == 7) = false := by rw [e8]; rfl
     have t8 : (ins.f0 == 8) = true := by rw [e8]; rfl
     have y0 : w2.cell? ⟨z6, 0, none⟩ = some (.slice none 0 0) := (blk_cell f6 0).trans rfl
     have y1 : w2.cell? ⟨z6, 1, none⟩ = some (.slice none 0 0) := (blk_cell f6 1).trans rfl
     have y2 : w2.cell? ⟨z6, 2, none⟩ = some (.slice none 0 0) := (blk_cell f6 2).trans rfl
     have j0 := blk_frozen f6 0
     have j1 := blk_frozen f6 1
     have j2 := blk_frozen f6 2
     clear HA' e8
     go_wp2
     have hzz := res_store f6 (.slice U0 m.a.length d0) (.slice U1 m.b.length d1) (.slice U2 m.c.length d2)
     have S7 := S.st3 f6 (.slice U0 m.a.length d0) (.slice U1 m.b.length d1) (.slice U2 m.c.length d2)
     refine bodyPost_ret (results_sr (p := 6) (u := 7) (v := 8) rfl _ _ z6 33 #[.slice U0 m.a.length d0, .slice U1 m.b.length d1, .slice U2 m.c.length d2] (0, 0) _ rfl hzz Tryz.underlying33 rfl (by kernel_rfl)) rfl ?_
     exact ⟨_, _, _, rfl, S7.a, S7.b, S7.c, S7.ab, S7.ac, S7.bc, below_set (below_set (below_set hB hn6) hn6) hn6, hkp.trans3 f6 hm6 _ _ _⟩
    ·obtain ⟨hg, r, hd, hr⟩ := runI_inv HA' hpn'.out (by rw [hins]; exact h8)
     rw [hins] at hg hd hr
     clear HA'
     by_cases e7 : ins.f0 = 7
     ·have t7 : (ins.f0 == 7) = true := by rw [e7]; rfl
      have t8 : (ins.f0 == 8) = false := by rw [e7]; rfl
      have n8 : Aside0 (¬ ins.f0 = 8) := ⟨by omega⟩
      have gg : goes ins st = true := by unfold goes; rw [t7]; rfl
      have g0 : ¬ ins.f1 < 0 := fun k => hg ⟨gg, k⟩
      clear h8 hg e7
      go_wp2_with fail
      refine (l5Do_any ins _ _ _ _ _ m st r w0 _ S hB rfl hlm hl12 hd).mono ?_
      rintro e w5 ⟨u0, u1, u2, hu, rfl, S5, hB5, k5⟩
      obtain ⟨X0, x0, rfl⟩ := Kd.R_slice S5.a
      obtain ⟨X1, x1, rfl⟩ := Kd.R_slice S5.b
      obtain ⟨X2, x2, rfl⟩ := Kd.R_slice S5.c
      obtain ⟨Xh, xh, rfl⟩ := Kd.R_slice S5.h
      rw [List.length_reverse] at S5
      have g3 := k5.2 _ _ _ f3 (by decide)
      have g6 := k5.2 _ _ _ f6 (by decide)
      have g11 := k5.2 _ _ _ f11 (by decide)
      have y0 := (blk_cell g3 0).trans rfl
      have y1 := (blk_cell g3 1).trans rfl
      have y2 := (blk_cell g3 2).trans rfl
      have j0 := blk_frozen g3 0
      have j1 := blk_frozen g3 1
      have j2 := blk_frozen g3 2
      clear c0_ c1_ c2_ c3_ i0 i1 i2
      go_upto_region 11 with (fail)
      clear y0 y1 y2 j0 j1 j2
      have S6 := S5.st3 g3 (.slice X0 r.1.a.length x0) (.slice X1 r.1.b.length x1) (.slice X2 r.1.c.length x2)
      have h3 := blk_put (blk_put (blk_put g3 0 (.slice X0 r.1.a.length x0) rfl) 1 (.slice X1 r.1.b.length x1) rfl) 2 (.slice X2 r.1.c.length x2) rfl
      have h6 := far3 g6 (Ne.symm hne) (.slice X0 r.1.a.length x0) (.slice X1 r.1.b.length x1) (.slice X2 r.1.c.length x2)
      have h11 := far3 g11 hn11 (.slice X0 r.1.a.length x0) (.slice X1 r.1.b.length x1) (.slice X2 r.1.c.length x2)
      have hB6 := below_set (j := 2) (v := .slice X2 r.1.c.length x2) (below_set (j := 1) (v := .slice X1 r.1.b.length x1) (below_set (j := 0) (v := .slice X0 r.1.a.length x0) hB5 hn3) hn3) hn3
      have hr' := Aside0.mk hr
      have hL6 : Aside0 (LR w0 W z3 z6 (.slice Xh r.2.length xh) r.1 r.2 (fu ins fl) _) := ⟨⟨⟨_, _, _, S6, h3⟩, h6, doI_keeps (P := M3.len) (fun m k i n h => put_len k i n h) hlm hd, doI_le hd hl12, by unfold fu; split <;> omega, hB6, hne, hn3, hn6, (hkp.trans k5).trans3 g3 hm3 _ _ _, hm3, hm6⟩⟩
      clear S5 S6 h3 h6 g3 g6 g11 f3 f6 f11 hB5 hB6 hB S k5 hkp hd hr hlm hl12
      generalize ((w5.setCell _ _).setCell _ _).setCell _ _ = w6 at h11 hL6 ⊢
      have c1_ : w6.cell? ⟨z11, 1, none⟩ = some (.int .i64 ins.f1) := (blk_cell h11 1).trans rfl
      clear h11
      go_wp2_with fail
      go_roundg k1
      case rel => exact ⟨_, _, _, _, congrArg (Value.int .i64) (by unfold fu; rw [if_neg n8.out]), congrArg (Value.int .i64) (by unfold nx; rw [if_pos gg]; omega), hr', hL6⟩
      case measure => omega
     by_cases e8 : ins.f0 = 8
     ·have t7 : (ins.f0 == 7) = false := by rw [e8]; rfl
      have t8 : (ins.f0 == 8) = true := by rw [e8]; rfl
      have gg : goes ins st = true := by unfold goes; rw [t7, t8]; rfl
      have g0 : ¬ ins.f1 < 0 := fun k => hg ⟨gg, k⟩
      have hf1 : 1 ≤ fl := by omega
      have tf : decide ((fl : Int) < 1) = false := by simp; omega
      have wf : wrap64 ((fl : Int) - 1) = (fl : Int) - 1 := by unfold wrap64; omega
      have e8' := Aside0.mk e8
      clear h8 hg e8 e7
      go_wp2_with fail
      refine (l5Do_any ins _ _ _ _ _ m st r w0 _ S hB rfl hlm hl12 hd).mono ?_
      rintro e w5 ⟨u0, u1, u2, hu, rfl, S5, hB5, k5⟩
      obtain ⟨X0, x0, rfl⟩ := Kd.R_slice S5.a
      obtain ⟨X1, x1, rfl⟩ := Kd.R_slice S5.b
      obtain ⟨X2, x2, rfl⟩ := Kd.R_slice S5.c
      obtain ⟨Xh, xh, rfl⟩ := Kd.R_slice S5.h
      rw [List.length_reverse] at S5
      have g3 := k5.2 _ _ _ f3 (by decide)
      have g6 := k5.2 _ _ _ f6 (by decide)
      have g11 := k5.2 _ _ _ f11 (by decide)
      have y0 := (blk_cell g3 0).trans rfl
      have y1 := (blk_cell g3 1).trans rfl
      have y2 := (blk_cell g3 2).trans rfl
      have j0 := blk_frozen g3 0
      have j1 := blk_frozen g3 1
      have j2 := blk_frozen g3 2
      clear c0_ c1_ c2_ c3_ i0 i1 i2
      go_upto_region 11 with (fail)
      clear y0 y1 y2 j0 j1 j2
      have S6 := S5.st3 g3 (.slice X0 r.1.a.length x0) (.slice X1 r.1.b.length x1) (.slice X2 r.1.c.length x2)
      have h3 := blk_put (blk_put (blk_put g3 0 (.slice X0 r.1.a.length x0) rfl) 1 (.slice X1 r.1.b.length x1) rfl) 2 (.slice X2 r.1.c.length x2) rfl
      have h6 := far3 g6 (Ne.symm hne) (.slice X0 r.1.a.length x0) (.slice X1 r.1.b.length x1) (.slice X2 r.1.c.length x2)
      have h11 := far3 g11 hn11 (.slice X0 r.1.a.length x0) (.slice X1 r.1.b.length x1) (.slice X2 r.1.c.length x2)
      have hB6 := below_set (j := 2) (v := .slice X2 r.1.c.length x2) (below_set (j := 1) (v := .slice X1 r.1.b.length x1) (below_set (j := 0) (v := .slice X0 r.1.a.length x0) hB5 hn3) hn3) hn3
      have hr' := Aside0.mk hr
      have hL6 : Aside0 (LR w0 W z3 z6 (.slice Xh r.2.length xh) r.1 r.2 (fu ins fl) _) := ⟨⟨⟨_, _, _, S6, h3⟩, h6, doI_keeps (P := M3.len) (fun m k i n h => put_len k i n h) hlm hd, doI_le hd hl12, by unfold fu; split <;> omega, hB6, hne, hn3, hn6, (hkp.trans k5).trans3 g3 hm3 _ _ _, hm3, hm6⟩⟩
      clear S5 S6 h3 h6 g3 g6 g11 f3 f6 f11 hB5 hB6 hB S k5 hkp hd hr hlm hl12
      generalize ((w5.setCell _ _).setCell _ _).setCell _ _ = w6 at h11 hL6 ⊢
      have c1_ : w6.cell? ⟨z11, 1, none⟩ = some (.int .i64 ins.f1) := (blk_cell h11 1).trans rfl
      clear h11
      go_wp2_with fail
      go_roundg k1
      case rel => exact ⟨_, _, _, _, congrArg (Value.int .i64) (by unfold fu; rw [if_pos e8'.out]; omega), congrArg (Value.int .i64) (by unfold nx; rw [if_pos gg]; omega), hr', hL6⟩
      case measure => omega
     have t7 : (ins.f0 == 7) = false := by simpa using e7
     have t8 : (ins.f0 == 8) = false := by simpa using e8
     have n8 : Aside0 (¬ ins.f0 = 8) := ⟨e8⟩
     by_cases e6 : ins.f0 = 6
     ·have t6 : (ins.f0 == 6) = true := by rw [e6]; rfl
      have hst : ∃ y s, st = y :: s := by
       unfold doI at hd
       rw [if_neg (by omega), if_neg (by omega), if_neg (by omega), if_neg (by omega), if_neg (by omega), if_pos e6] at hd
       match st, hd with
       | [], hd => cases hd
       | y :: s, _ => exact ⟨y, s, rfl⟩
      obtain ⟨y, s, rfl⟩ := hst
      have gy : goes ins (y :: s) = !onI y := by unfold goes; rw [t7, t8, t6]; rfl
      have hn := S.len.1
      simp only [List.length_cons] at S hn
      obtain ⟨x, rfl, hx⟩ := S.at_ 0 (by simp)
      replace hx : w2.cell? ⟨x, s.length, none⟩ = some (.int .i64 y) := hx
      have wk : wrap64 (s.length : Int) = (s.length : Int) := by simp only [List.length_cons] at hl12; unfold wrap64; omega
      have wk2 : wrap64 ((s.length : Int) + 1 - 1) = (s.length : Int) := by simp only [List.length_cons] at hl12; unfold wrap64; omega
      have hlt : (s.length : Int) < (s.length : Int) + 1 := by omega
      have gz : onI y = true ∨ onI y = false := by cases onI y <;> simp
      rcases gz with ho | ho
      ·have gg : ¬ goes ins (y :: s) = true := by rw [gy, ho]; decide
       clear h8 hg gy e6 e7 e8
       go_wp2_with fail
       refine (spec_NumOn.calls y (true) _ (congrArg some ho)).mono ?_
       rintro e w4 ⟨rfl, q2⟩
       have q3 := q2.below
       replace S := S.below q3
       replace hB := hB.trans (q3.mono hB.size)
       replace hkp := hkp.trans (Kp.of q3)
       replace f3 := blk_below f3 q3
       replace f6 := blk_below f6 q3
       replace f11 := blk_below f11 q3
       clear q2 q3 hx i0 i1 i2 c0_ c1_ c2_ c3_
       have c0_ : w4.cell? ⟨z11, 0, none⟩ = some (.int .i64 ins.f0) := (blk_cell f11 0).trans rfl
       have c1_ : w4.cell? ⟨z11, 1, none⟩ = some (.int .i64 ins.f1) := (blk_cell f11 1).trans rfl
       have c2_ : w4.cell? ⟨z11, 2, none⟩ = some (.int .i64 ins.f2.f0) := (blk_cell f11 2).trans rfl
       have c3_ : w4.cell? ⟨z11, 3, none⟩ = some (.int .i64 ins.f2.f1) := (blk_cell f11 3).trans rfl
       have i0 : w4.cell? ⟨z3, 0, none⟩ = some (.slice U0 m.a.length d0) := (blk_cell f3 0).trans rfl
       have i1 : w4.cell? ⟨z3, 1, none⟩ = some (.slice U1 m.b.length d1) := (blk_cell f3 1).trans rfl
       have i2 : w4.cell? ⟨z3, 2, none⟩ = some (.slice U2 m.c.length d2) := (blk_cell f3 2).trans rfl
       go_wp2_with fail
       refine (l5Do_any ins _ _ _ _ _ m (y :: s) r w0 _ S hB rfl hlm hl12 hd).mono ?_
       rintro e w5 ⟨u0, u1, u2, hu, rfl, S5, hB5, k5⟩
       obtain ⟨X0, x0, rfl⟩ := Kd.R_slice S5.a
       obtain ⟨X1, x1, rfl⟩ := Kd.R_slice S5.b
       obtain ⟨X2, x2, rfl⟩ := Kd.R_slice S5.c
       obtain ⟨Xh, xh, rfl⟩ := Kd.R_slice S5.h
       rw [List.length_reverse] at S5
       have g3 := k5.2 _ _ _ f3 (by decide)
       have g6 := k5.2 _ _ _ f6 (by decide)
       have g11 := k5.2 _ _ _ f11 (by decide)
       have y0 := (blk_cell g3 0).trans rfl
       have y1 := (blk_cell g3 1).trans rfl
       have y2 := (blk_cell g3 2).trans rfl
       have j0 := blk_frozen g3 0
       have j1 := blk_frozen g3 1
       have j2 := blk_frozen g3 2
       clear c0_ c1_ c2_ c3_ i0 i1 i2
       go_upto_region 11 with (fail)
       clear y0 y1 y2 j0 j1 j2
       have S6 := S5.st3 g3 (.slice X0 r.1.a.length x0) (.slice X1 r.1.b.length x1) (.slice X2 r.1.c.length x2)
       have h3 := blk_put (blk_put (blk_put g3 0 (.slice X0 r.1.a.length x0) rfl) 1 (.slice X1 r.1.b.length x1) rfl) 2 (.slice X2 r.1.c.length x2) rfl
       have h6 := far3 g6 (Ne.symm hne) (.slice X0 r.1.a.length x0) (.slice X1 r.1.b.length x1) (.slice X2 r.1.c.length x2)
       have h11 := far3 g11 hn11 (.slice X0 r.1.a.length x0) (.slice X1 r.1.b.length x1) (.slice X2 r.1.c.length x2)
       have hB6 := below_set (j := 2) (v := .slice X2 r.1.c.length x2) (below_set (j := 1) (v := .slice X1 r.1.b.length x1) (below_set (j := 0) (v := .slice X0 r.1.a.length x0) hB5 hn3) hn3) hn3
       have hr' := Aside0.mk hr
       have hL6 : Aside0 (LR w0 W z3 z6 (.slice Xh r.2.length xh) r.1 r.2 (fu ins fl) _) := ⟨⟨⟨_, _, _, S6, h3⟩, h6, doI_keeps (P := M3.len) (fun m k i n h => put_len k i n h) hlm hd, doI_le hd hl12, by unfold fu; split <;> omega, hB6, hne, hn3, hn6, (hkp.trans k5).trans3 g3 hm3 _ _ _, hm3, hm6⟩⟩
       clear S5 S6 h3 h6 g3 g6 g11 f3 f6 f11 hB5 hB6 hB S k5 hkp hd hr hlm hl12
       generalize ((w5.setCell _ _).setCell _ _).setCell _ _ = w6 at h11 hL6 ⊢
       have c1_ : w6.cell? ⟨z11, 1, none⟩ = some (.int .i64 ins.f1) := (blk_cell h11 1).trans rfl
       clear h11
       go_wp2_with fail
       go_roundg k1
       case rel => exact ⟨_, _, _, _, congrArg (Value.int .i64) (by unfold fu; rw [if_neg n8.out]), congrArg (Value.int .i64) (by unfold nx; rw [if_neg gg]; omega), hr', hL6⟩
       case measure => omega
      ·have gg : goes ins (y :: s) = true := by rw [gy, ho]; rfl
       have g0 : ¬ ins.f1 < 0 := fun k => hg ⟨gg, k⟩
       clear h8 hg gy e6 e7 e8
       go_wp2_with fail
       refine (spec_NumOn.calls y (false) _ (congrArg some ho)).mono ?_
       rintro e w4 ⟨rfl, q2⟩
       have q3 := q2.below
       replace S := S.below q3
       replace hB := hB.trans (q3.mono hB.size)
       replace hkp := hkp.trans (Kp.of q3)
       replace f3 := blk_below f3 q3
       replace f6 := blk_below f6 q3
       replace f11 := blk_below f11 q3
       clear q2 q3 hx i0 i1 i2 c0_ c1_ c2_ c3_
       have c0_ : w4.cell? ⟨z11, 0, none⟩ = some (.int .i64 ins.f0) := (blk_cell f11 0).trans rfl
       have c1_ : w4.cell? ⟨z11, 1, none⟩ = some (.int .i64 ins.f1) := (blk_cell f11 1).trans rfl
       have c2_ : w4.cell? ⟨z11, 2, none⟩ = some (.int .i64 ins.f2.f0) := (blk_cell f11 2).trans rfl
       have c3_ : w4.cell? ⟨z11, 3, none⟩ = some (.int .i64 ins.f2.f1) := (blk_cell f11 3).trans rfl
       have i0 : w4.cell? ⟨z3, 0, none⟩ = some (.slice U0 m.a.length d0) := (blk_cell f3 0).trans rfl
       have i1 : w4.cell? ⟨z3, 1, none⟩ = some (.slice U1 m.b.length d1) := (blk_cell f3 1).trans rfl
       have i2 : w4.cell? ⟨z3, 2, none⟩ = some (.slice U2 m.c.length d2) := (blk_cell f3 2).trans rfl
       go_wp2_with fail
       refine (l5Do_any ins _ _ _ _ _ m (y :: s) r w0 _ S hB rfl hlm hl12 hd).mono ?_
       rintro e w5 ⟨u0, u1, u2, hu, rfl, S5, hB5, k5⟩
       obtain ⟨X0, x0, rfl⟩ := Kd.R_slice S5.a
       obtain ⟨X1, x1, rfl⟩ := Kd.R_slice S5.b
       obtain ⟨X2, x2, rfl⟩ := Kd.R_slice S5.c
       obtain ⟨Xh, xh, rfl⟩ := Kd.R_slice S5.h
       rw [List.length_reverse] at S5
       have g3 := k5.2 _ _ _ f3 (by decide)
       have g6 := k5.2 _ _ _ f6 (by decide)
       have g11 := k5.2 _ _ _ f11 (by decide)
       have y0 := (blk_cell g3 0).trans rfl
       have y1 := (blk_cell g3 1).trans rfl
       have y2 := (blk_cell g3 2).trans rfl
       have j0 := blk_frozen g3 0
       have j1 := blk_frozen g3 1
       have j2 := blk_frozen g3 2
       clear c0_ c1_ c2_ c3_ i0 i1 i2
       go_upto_region 11 with (fail)
       clear y0 y1 y2 j0 j1 j2
       have S6 := S5.st3 g3 (.slice X0 r.1.a.length x0) (.slice X1 r.1.b.length x1) (.slice X2 r.1.c.length x2)
       have h3 := blk_put (blk_put (blk_put g3 0 (.slice X0 r.1.a.length x0) rfl) 1 (.slice X1 r.1.b.length x1) rfl) 2 (.slice X2 r.1.c.length x2) rfl
       have h6 := far3 g6 (Ne.symm hne) (.slice X0 r.1.a.length x0) (.slice X1 r.1.b.length x1) (.slice X2 r.1.c.length x2)
       have h11 := far3 g11 hn11 (.slice X0 r.1.a.length x0) (.slice X1 r.1.b.length x1) (.slice X2 r.1.c.length x2)
       have hB6 := below_set (j := 2) (v := .slice X2 r.1.c.length x2) (below_set (j := 1) (v := .slice X1 r.1.b.length x1) (below_set (j := 0) (v := .slice X0 r.1.a.length x0) hB5 hn3) hn3) hn3
       have hr' := Aside0.mk hr
       have hL6 : Aside0 (LR w0 W z3 z6 (.slice Xh r.2.length xh) r.1 r.2 (fu ins fl) _) := ⟨⟨⟨_, _, _, S6, h3⟩, h6, doI_keeps (P := M3.len) (fun m k i n h => put_len k i n h) hlm hd, doI_le hd hl12, by unfold fu; split <;> omega, hB6, hne, hn3, hn6, (hkp.trans k5).trans3 g3 hm3 _ _ _, hm3, hm6⟩⟩
       clear S5 S6 h3 h6 g3 g6 g11 f3 f6 f11 hB5 hB6 hB S k5 hkp hd hr hlm hl12
       generalize ((w5.setCell _ _).setCell _ _).setCell _ _ = w6 at h11 hL6 ⊢
       have c1_ : w6.cell? ⟨z11, 1, none⟩ = some (.int .i64 ins.f1) := (blk_cell h11 1).trans rfl
       clear h11
       go_wp2_with fail
       go_roundg k1
       case rel => exact ⟨_, _, _, _, congrArg (Value.int .i64) (by unfold fu; rw [if_neg n8.out]), congrArg (Value.int .i64) (by unfold nx; rw [if_pos gg]; omega), hr', hL6⟩
       case measure => omega
     ·have t6 : (ins.f0 == 6) = false := by simpa using e6
      have gg : ¬ goes ins st = true := by unfold goes; rw [t7, t8, t6]; simp
      clear h8 hg e6 e7 e8
      go_wp2_with fail
      refine (l5Do_any ins _ _ _ _ _ m st r w0 _ S hB rfl hlm hl12 hd).mono ?_
      rintro e w5 ⟨u0, u1, u2, hu, rfl, S5, hB5, k5⟩
      obtain ⟨X0, x0, rfl⟩ := Kd.R_slice S5.a
      obtain ⟨X1, x1, rfl⟩ := Kd.R_slice S5.b
      obtain ⟨X2, x2, rfl⟩ := Kd.R_slice S5.c
      obtain ⟨Xh, xh, rfl⟩ := Kd.R_slice S5.h
      rw [List.length_reverse] at S5
      have g3 := k5.2 _ _ _ f3 (by decide)
      have g6 := k5.2 _ _ _ f6 (by decide)
      have g11 := k5.2 _ _ _ f11 (by decide)
      have y0 := (blk_cell g3 0).trans rfl
      have y1 := (blk_cell g3 1).trans rfl
      have y2 := (blk_cell g3 2).trans rfl
      have j0 := blk_frozen g3 0
      have j1 := blk_frozen g3 1
      have j2 := blk_frozen g3 2
      clear c0_ c1_ c2_ c3_ i0 i1 i2
      go_upto_region 11 with (fail)
      clear y0 y1 y2 j0 j1 j2
      have S6 := S5.st3 g3 (.slice X0 r.1.a.length x0) (.slice X1 r.1.b.length x1) (.slice X2 r.1.c.length x2)
      have h3 := blk_put (blk_put (blk_put g3 0 (.slice X0 r.1.a.length x0) rfl) 1 (.slice X1 r.1.b.length x1) rfl) 2 (.slice X2 r.1.c.length x2) rfl
      have h6 := far3 g6 (Ne.symm hne) (.slice X0 r.1.a.length x0) (.slice X1 r.1.b.length x1) (.slice X2 r.1.c.length x2)
      have h11 := far3 g11 hn11 (.slice X0 r.1.a.length x0) (.slice X1 r.1.b.length x1) (.slice X2 r.1.c.length x2)
      have hB6 := below_set (j := 2) (v := .slice X2 r.1.c.length x2) (below_set (j := 1) (v := .slice X1 r.1.b.length x1) (below_set (j := 0) (v := .slice X0 r.1.a.length x0) hB5 hn3) hn3) hn3
      have hr' := Aside0.mk hr
      have hL6 : Aside0 (LR w0 W z3 z6 (.slice Xh r.2.length xh) r.1 r.2 (fu ins fl) _) := ⟨⟨⟨_, _, _, S6, h3⟩, h6, doI_keeps (P := M3.len) (fun m k i n h => put_len k i n h) hlm hd, doI_le hd hl12, by unfold fu; split <;> omega, hB6, hne, hn3, hn6, (hkp.trans k5).trans3 g3 hm3 _ _ _, hm3, hm6⟩⟩
      clear S5 S6 h3 h6 g3 g6 g11 f3 f6 f11 hB5 hB6 hB S k5 hkp hd hr hlm hl12
      generalize ((w5.setCell _ _).setCell _ _).setCell _ _ = w6 at h11 hL6 ⊢
      have c1_ : w6.cell? ⟨z11, 1, none⟩ = some (.int .i64 ins.f1) := (blk_cell h11 1).trans rfl
      clear h11
      go_wp2_with fail
      go_roundg k1
      case rel => exact ⟨_, _, _, _, congrArg (Value.int .i64) (by unfold fu; rw [if_neg n8.out]), congrArg (Value.int .i64) (by unfold nx; rw [if_neg gg]; omega), hr', hL6⟩
      case measure => omega
   ·have d_ : decide (p < ps.length) = false := by simpa using hpn
    have hq2 := HA.out
    rw [runI_end hpn] at hq2
    obtain rfl := Option.some.inj hq2
    have i0 : wr.cell? ⟨z3, 0, none⟩ = some (.slice U0 m.a.length d0) := (blk_cell f3 0).trans rfl
    have i1 : wr.cell? ⟨z3, 1, none⟩ = some (.slice U1 m.b.length d1) := (blk_cell f3 1).trans rfl
    have i2 : wr.cell? ⟨z3, 2, none⟩ = some (.slice U2 m.c.length d2) := (blk_cell f3 2).trans rfl
    have y0 : wr.cell? ⟨z6, 0, none⟩ = some (.slice none 0 0) := (blk_cell f6 0).trans rfl
    have y1 : wr.cell? ⟨z6, 1, none⟩ = some (.slice none 0 0) := (blk_cell f6 1).trans rfl
    have y2 : wr.cell? ⟨z6, 2, none⟩ = some (.slice none 0 0) := (blk_cell f6 2).trans rfl
    have j0 := blk_frozen f6 0
    have j1 := blk_frozen f6 1
    have j2 := blk_frozen f6 2
    clear HA HL hq2
    go_wp2
    have hzz := res_store f6 (.slice U0 m.a.length d0) (.slice U1 m.b.length d1) (.slice U2 m.c.length d2)
    have S7 := S.st3 f6 (.slice U0 m.a.length d0) (.slice U1 m.b.length d1) (.slice U2 m.c.length d2)
    refine bodyPost_ret (results_sr (p := 6) (u := 7) (v := 8) rfl _ _ z6 33 #[.slice U0 m.a.length d0, .slice U1 m.b.length d1, .slice U2 m.c.length d2] (0, 0) _ rfl hzz Tryz.underlying33 rfl (by kernel_rfl)) rfl ?_
    exact ⟨_, _, _, rfl, S7.a, S7.b, S7.c, S7.ab, S7.ac, S7.bc, below_set (below_set (below_set hB hn6) hn6) hn6, hkp.trans3 f6 hm6 _ _ _⟩
end Go.Proofs.YtjamfddhcigchaaGreatDoor.Sr
