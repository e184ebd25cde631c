/- spec.CodeRun walked: what the plain run tells. No other condition. -/
import Derived.Test.YtjamfddhcigchaaGreatDoorTFnExactCodeRunSr
namespace Go.Proofs.YtjamfddhcigchaaGreatDoor.Sr2
open Go.RowKit  Go.Proofs.YtjamfddhcigchaaGreatDoor.Gm Go.Proofs.YtjamfddhcigchaaGreatDoor.Gn Go.Proofs.YtjamfddhcigchaaGreatDoor.Gz Go.Proofs.YtjamfddhcigchaaGreatDoor.Gq Go.Proofs.YtjamfddhcigchaaGreatDoor.Hm Go.Proofs.YtjamfddhcigchaaGreatDoor.Hn Go.Proofs.YtjamfddhcigchaaGreatDoor.Hp Go.Proofs.YtjamfddhcigchaaGreatDoor.Sd Go.Proofs.YtjamfddhcigchaaGreatDoor.Sr Go.Proofs.YtjamfddhcigchaaGreatDoor.HFnExactCodeRun Go.Proofs.YtjamfddhcigchaaGreatDoorW.PrintWords Go.Proofs.YtjamfddhcigchaaGreatDoorW.PrintLast Go.Proofs.YtjamfddhcigchaaGreatDoorW.PrintMore
set_option linter.unusedVariables false
set_option linter.unusedSimpArgs false
theorem no_own {v : Value} : Dj (.slice none 0 0) v := fun k e _ => by cases e
set_option maxRecDepth 100000 in
set_option maxHeartbeats 6400000 in
theorem specRun_bad1 (A0 A1 A2 : Option Addr) (c0 c1 c2 : Nat) (l0 l1 l2 : List Int) (B : Option Addr) (cc : Nat) (ps : List S30) (fuel : Int) (w : World) (hr0 : Kd.C (Kd.int .i64) w A0 l0.length l0) (hr1 : Kd.C (Kd.int .i64) w A1 l1.length l1) (hr2 : Kd.C (Kd.int .i64) w A2 l2.length l2) (hc0 : l0.length ≤ c0) (hc1 : l1.length ≤ c1) (hc2 : l2.length ≤ c2) (hp : Kd.C k30 w B ps.length ps) (hcc : ps.length ≤ cc) (hl : ps.length ≤ 1048576) (km : Nat) (hm : spec_MemOk.f km l0 l1 l2 = some false) :
  Calls Tryz.prog 21 #[.agg #[.slice A0 l0.length c0, .slice A1 l1.length c1, .slice A2 l2.length c2], .slice B ps.length cc, .int .i64 fuel] w fun e w' => Ans w w w' e (⟨[], [], []⟩, 2, 0) := by
 have hu33 := Tryz.underlying33
 obtain ⟨k0, f3, f6⟩ := Gw.al2 w (.cells #[.slice A0 l0.length c0, .slice A1 l1.length c1, .slice A2 l2.length c2] 33) (.cells #[.slice none 0 0, .slice none 0 0, .slice none 0 0] 33)
 have mo := fun W (k : Below w.heap.size w W) => spec_MemOk.calls km A0 c0 l0 A1 c1 l1 A2 c2 l2 _ W (Kd.C_below hr0 k) hc0 (Kd.C_below hr1 k) hc1 (Kd.C_below hr2 k) hc2 hm
 have co := fun W (k : Below w.heap.size w W) => spec_CodeOk.calls 4000 B cc ps _ W (Kd.C_below hp k) hcc (Hs.codeOkS ps hl 4000 (Nat.le_refl _))
 go_enter Tryz.func21, Tryz.ntmps21
 go_upto_region 1 with (fail)
 obtain ⟨z3, e3⟩ : ∃ z, w.heap.size = z := ⟨_, rfl⟩
 obtain ⟨z6, e6⟩ : ∃ z, w.heap.size + 1 = z := ⟨_, rfl⟩
 have hz6 : w.heap.size ≤ z6 := by omega
 rw [e3] at f3
 rw [e6] at f6
 rw [e6, e3]
 clear e3 e6
 generalize (w.alloc _).alloc _ = w1 at k0 f3 f6 ⊢
 obtain ⟨i0, i1, i2⟩ := (Gw.c3 f3).1
 go_wp2_with fail
 refine (mo _ k0).mono ?_
 rintro e w2 ⟨rfl, hb⟩
 replace f3 := blk_below f3 hb
 replace f6 := blk_below f6 hb
 replace k0 := k0.trans (hb.mono k0.size)
 clear hb i0 i1 i2 mo
 have y0 : w2.cell? ⟨z6, 0, none⟩ = some (.slice none 0 0) := (blk_cell f6 0).trans rfl
 have y1 : w2.cell? ⟨z6, 1, none⟩ = some (.slice none 0 0) := (blk_cell f6 1).trans rfl
 have y2 : w2.cell? ⟨z6, 2, none⟩ = some (.slice none 0 0) := (blk_cell f6 2).trans rfl
 have j0 : w2.frozen? ⟨z6, 0, none⟩ = false := blk_frozen f6 0
 have j1 : w2.frozen? ⟨z6, 1, none⟩ = false := blk_frozen f6 1
 have j2 : w2.frozen? ⟨z6, 2, none⟩ = false := blk_frozen f6 2
 have hzz := res_store f6 (.slice none 0 0) (.slice none 0 0) (.slice none 0 0)
 have kz := below_set (j := 2) (v := .slice none 0 0) (below_set (j := 1) (v := .slice none 0 0) (below_set (j := 0) (v := .slice none 0 0) k0 hz6) hz6) hz6
 clear co
 go_wp2
 refine bodyPost_ret (results_sr (p := 6) (u := 7) (v := 8) rfl _ _ z6 33 #[.slice none 0 0, .slice none 0 0, .slice none 0 0] (0, 0) _ rfl hzz Tryz.underlying33 rfl (by kernel_rfl)) rfl ?_
 exact ⟨_, _, _, rfl, Kd.R_nil _ _ _ _ _, Kd.R_nil _ _ _ _ _, Kd.R_nil _ _ _ _ _, no_own, no_own, no_own, kz, Kp.of kz⟩
set_option maxRecDepth 100000 in
set_option maxHeartbeats 6400000 in
theorem specRun_bad2 (A0 A1 A2 : Option Addr) (c0 c1 c2 : Nat) (l0 l1 l2 : List Int) (B : Option Addr) (cc : Nat) (ps : List S30) (fuel : Int) (w : World) (hr0 : Kd.C (Kd.int .i64) w A0 l0.length l0) (hr1 : Kd.C (Kd.int .i64) w A1 l1.length l1) (hr2 : Kd.C (Kd.int .i64) w A2 l2.length l2) (hc0 : l0.length ≤ c0) (hc1 : l1.length ≤ c1) (hc2 : l2.length ≤ c2) (hp : Kd.C k30 w B ps.length ps) (hcc : ps.length ≤ cc) (hl : ps.length ≤ 1048576) (km : Nat) (hm : spec_MemOk.f km l0 l1 l2 = some true) (hx : okB ps = false ∨ okB ps = true ∧ (fuel < 0 ∨ ¬ fuel < 0 ∧ 100 < fuel)) :
  Calls Tryz.prog 21 #[.agg #[.slice A0 l0.length c0, .slice A1 l1.length c1, .slice A2 l2.length c2], .slice B ps.length cc, .int .i64 fuel] w fun e w' => Ans w w w' e (⟨[], [], []⟩, 2, 0) := by
 have hu33 := Tryz.underlying33
 obtain ⟨k0, f3, f6⟩ := Gw.al2 w (.cells #[.slice A0 l0.length c0, .slice A1 l1.length c1, .slice A2 l2.length c2] 33) (.cells #[.slice none 0 0, .slice none 0 0, .slice none 0 0] 33)
 have mo := fun W (k : Below w.heap.size w W) => spec_MemOk.calls km A0 c0 l0 A1 c1 l1 A2 c2 l2 _ W (Kd.C_below hr0 k) hc0 (Kd.C_below hr1 k) hc1 (Kd.C_below hr2 k) hc2 hm
 have co := fun W (k : Below w.heap.size w W) => spec_CodeOk.calls 4000 B cc ps _ W (Kd.C_below hp k) hcc (Hs.codeOkS ps hl 4000 (Nat.le_refl _))
 go_enter Tryz.func21, Tryz.ntmps21
 go_upto_region 1 with (fail)
 obtain ⟨z3, e3⟩ : ∃ z, w.heap.size = z := ⟨_, rfl⟩
 obtain ⟨z6, e6⟩ : ∃ z, w.heap.size + 1 = z := ⟨_, rfl⟩
 have hz6 : w.heap.size ≤ z6 := by omega
 rw [e3] at f3
 rw [e6] at f6
 rw [e6, e3]
 clear e3 e6
 generalize (w.alloc _).alloc _ = w1 at k0 f3 f6 ⊢
 obtain ⟨i0, i1, i2⟩ := (Gw.c3 f3).1
 go_wp2_with fail
 refine (mo _ k0).mono ?_
 rintro e w2 ⟨rfl, hb⟩
 replace f3 := blk_below f3 hb
 replace f6 := blk_below f6 hb
 replace k0 := k0.trans (hb.mono k0.size)
 clear hb i0 i1 i2 mo
 go_wp2_with fail
 refine (co _ k0).mono ?_
 rintro e w3 ⟨rfl, hb⟩
 replace f6 := blk_below f6 hb
 replace k0 := k0.trans (hb.mono k0.size)
 clear hb co f3 hm
 generalize okB ps = ob at hx ⊢
 have y0 : w3.cell? ⟨z6, 0, none⟩ = some (.slice none 0 0) := (blk_cell f6 0).trans rfl
 have y1 : w3.cell? ⟨z6, 1, none⟩ = some (.slice none 0 0) := (blk_cell f6 1).trans rfl
 have y2 : w3.cell? ⟨z6, 2, none⟩ = some (.slice none 0 0) := (blk_cell f6 2).trans rfl
 have j0 : w3.frozen? ⟨z6, 0, none⟩ = false := blk_frozen f6 0
 have j1 : w3.frozen? ⟨z6, 1, none⟩ = false := blk_frozen f6 1
 have j2 : w3.frozen? ⟨z6, 2, none⟩ = false := blk_frozen f6 2
 have hzz := res_store f6 (.slice none 0 0) (.slice none 0 0) (.slice none 0 0)
 have kz := below_set (j := 2) (v := .slice none 0 0) (below_set (j := 1) (v := .slice none 0 0) (below_set (j := 0) (v := .slice none 0 0) k0 hz6) hz6) hz6
 rcases hx with rfl | ⟨rfl, hx | ⟨hy, hx⟩⟩
 ·go_wp2
  refine bodyPost_ret (results_sr (p := 6) (u := 7) (v := 8) rfl _ _ z6 33 #[.slice none 0 0, .slice none 0 0, .slice none 0 0] (0, 0) _ rfl hzz Tryz.underlying33 rfl (by kernel_rfl)) rfl ?_
  exact ⟨_, _, _, rfl, Kd.R_nil _ _ _ _ _, Kd.R_nil _ _ _ _ _, Kd.R_nil _ _ _ _ _, no_own, no_own, no_own, kz, Kp.of kz⟩
 ·have d1 : decide (fuel < 0) = true := by simpa using hx
  go_wp2
  refine bodyPost_ret (results_sr (p := 6) (u := 7) (v := 8) rfl _ _ z6 33 #[.slice none 0 0, .slice none 0 0, .slice none 0 0] (0, 0) _ rfl hzz Tryz.underlying33 rfl (by kernel_rfl)) rfl ?_
  exact ⟨_, _, _, rfl, Kd.R_nil _ _ _ _ _, Kd.R_nil _ _ _ _ _, Kd.R_nil _ _ _ _ _, no_own, no_own, no_own, kz, Kp.of kz⟩
 ·have d1 : decide (fuel < 0) = false := by simpa using hy
  have d2 : decide (100 < fuel) = true := by simpa using hx
  go_wp2
  refine bodyPost_ret (results_sr (p := 6) (u := 7) (v := 8) rfl _ _ z6 33 #[.slice none 0 0, .slice none 0 0, .slice none 0 0] (0, 0) _ rfl hzz Tryz.underlying33 rfl (by kernel_rfl)) rfl ?_
  exact ⟨_, _, _, rfl, Kd.R_nil _ _ _ _ _, Kd.R_nil _ _ _ _ _, Kd.R_nil _ _ _ _ _, no_own, no_own, no_own, kz, Kp.of kz⟩
set_option maxRecDepth 100000 in
set_option maxHeartbeats 6400000 in
theorem specRun_good (A0 A1 A2 : Option Addr) (c0 c1 c2 : Nat) (l0 l1 l2 : List Int) (B : Option Addr) (cc : Nat) (ps : List S30) (fuel : Int) (w : World) (hr0 : Kd.C (Kd.int .i64) w A0 l0.length l0) (hr1 : Kd.C (Kd.int .i64) w A1 l1.length l1) (hr2 : Kd.C (Kd.int .i64) w A2 l2.length l2) (hc0 : l0.length ≤ c0) (hc1 : l1.length ≤ c1) (hc2 : l2.length ≤ c2) (hp : Kd.C k30 w B ps.length ps) (hcc : ps.length ≤ cc) (hl : ps.length ≤ 1048576) (km : Nat) (hm : spec_MemOk.f km l0 l1 l2 = some true) (hb : okB ps = true) (hf0 : 0 ≤ fuel) (hf1 : fuel ≤ 100) (hlm : (⟨l0, l1, l2⟩ : M3).len) (G : Nat) (q : M3 × Int × Nat) (hq : runI ps G ⟨l0, l1, l2⟩ [] 0 fuel.toNat = some q) (hle : ps.length ≤ 1000) :
  Calls Tryz.prog 21 #[.agg #[.slice A0 l0.length c0, .slice A1 l1.length c1, .slice A2 l2.length c2], .slice B ps.length cc, .int .i64 fuel] w fun e w' => Ans w w w' e q := by
 obtain ⟨fl, rfl⟩ : ∃ n : Nat, fuel = (n : Int) := ⟨fuel.toNat, by omega⟩
 rw [Int.toNat_natCast] at hq
 have d1 : decide ((fl : Int) < 0) = false := by simp
 have d1' : ((fl : Int) < 0) = False := by simp
 have d2 : decide ((fl : Int) > 100) = false := by simp; omega
 have d2' : decide ((100 : Int) < (fl : Int)) = false := by simp; omega
 have m0 : l0.length ≤ 1000 := by have := hlm.1; show l0.length ≤ 1000; have a : l0.length = 6 := this; omega
 have m1 : l1.length ≤ 1000 := by have a : l1.length = 6 := hlm.2.1; omega
 have m2 : l2.length ≤ 1000 := by have a : l2.length = 6 := hlm.2.2; omega
 have cp := fun W (k : Below w.heap.size w W) => Gw.copyC A0 A1 A2 c0 c1 c2 l0 l1 l2 W (Kd.C_below hr0 k) (Kd.C_below hr1 k) (Kd.C_below hr2 k) m0 m1 m2
 have hp' := Aside0.mk hp
 have hq' := Aside0.mk hq
 have hf' : Aside0 (fl ≤ 100) := ⟨by omega⟩
 have hu33 := Tryz.underlying33
 obtain ⟨k0, f3, f6⟩ := Gw.al2 w (.cells #[.slice A0 l0.length c0, .slice A1 l1.length c1, .slice A2 l2.length c2] 33) (.cells #[.slice none 0 0, .slice none 0 0, .slice none 0 0] 33)
 have mo := fun W (k : Below w.heap.size w W) => spec_MemOk.calls km A0 c0 l0 A1 c1 l1 A2 c2 l2 _ W (Kd.C_below hr0 k) hc0 (Kd.C_below hr1 k) hc1 (Kd.C_below hr2 k) hc2 hm
 have co := fun W (k : Below w.heap.size w W) => spec_CodeOk.calls 4000 B cc ps _ W (Kd.C_below hp k) hcc (Hs.codeOkS ps hl 4000 (Nat.le_refl _))
 go_enter Tryz.func21, Tryz.ntmps21
 go_upto_region 1 with (fail)
 obtain ⟨z3, e3⟩ : ∃ z, w.heap.size = z := ⟨_, rfl⟩
 obtain ⟨z6, e6⟩ : ∃ z, w.heap.size + 1 = z := ⟨_, rfl⟩
 have hz6 : w.heap.size ≤ z6 := by omega
 rw [e3] at f3
 rw [e6] at f6
 rw [e6, e3]
 clear e3 e6
 generalize (w.alloc _).alloc _ = w1 at k0 f3 f6 ⊢
 obtain ⟨i0, i1, i2⟩ := (Gw.c3 f3).1
 go_wp2_with fail
 refine (mo _ k0).mono ?_
 rintro e w2 ⟨rfl, hb⟩
 replace f3 := blk_below f3 hb
 replace f6 := blk_below f6 hb
 replace k0 := k0.trans (hb.mono k0.size)
 clear hb i0 i1 i2 mo
 go_wp2_with fail
 refine (co _ k0).mono ?_
 rintro e w3 ⟨rfl, hb2⟩
 replace f3 := blk_below f3 hb2
 replace f6 := blk_below f6 hb2
 replace k0 := k0.trans (hb2.mono k0.size)
 rw [hb]
 clear hb2 co hm hb hq hf1 hr0 hr1 hr2 hp
 obtain ⟨i0, i1, i2⟩ := (Gw.c3 f3).1
 go_wp2_with fail
 refine (cp _ k0).mono ?_
 rintro e w4 ⟨v0, v1, v2, rfl, T⟩
 have hb4 := T.k
 replace f6 := blk_below f6 hb4
 have sz := k0.size
 replace k0 := k0.trans (hb4.mono k0.size)
 have r0 := T.a
 have r1 := T.b
 have r2 := T.c
 have dab := T.ab
 have dac := T.ac
 have dbc := T.bc
 clear T m0 m1 m2
 obtain ⟨V0, x0, rfl⟩ := Kd.R_slice r0
 obtain ⟨V1, x1, rfl⟩ := Kd.R_slice r1
 obtain ⟨V2, x2, rfl⟩ := Kd.R_slice r2
 have hbase := below_size hb4
 go_wp2_with fail
 refine (l5Run_any w w4 _ _ _ ⟨l0, l1, l2⟩ (R_int_ok (Kd.R_lower r0 sz) (fun _ _ => trivial)) (R_int_ok (Kd.R_lower r1 sz) (fun _ _ => trivial)) (R_int_ok (Kd.R_lower r2 sz) (fun _ _ => trivial)) dab dac dbc B cc ps hp'.out fl hf'.out k0 hlm G q hq'.out hle).mono ?_
 rintro e w5 ⟨u0, u1, u2, rfl, a0, a1, a2, dab, dac, dbc, hb5, hk5⟩
 obtain ⟨U0, y0_, rfl⟩ := Kd.R_slice a0
 obtain ⟨U1, y1_, rfl⟩ := Kd.R_slice a1
 obtain ⟨U2, y2_, rfl⟩ := Kd.R_slice a2
 replace f6 := hk5.2 _ _ _ f6 (by decide)
 obtain ⟨⟨y0, y1, y2⟩, j0, j1, j2⟩ := Gw.c3 (a := .slice none 0 0) (b := .slice none 0 0) (c := .slice none 0 0) f6
 have hzz := res_store f6 (.slice U0 q.1.a.length y0_) (.slice U1 q.1.b.length y1_) (.slice U2 q.1.c.length y2_)
 have F := fun {u : Value} {l : List Int} (h : RI w.heap.size w5 u l) => typ_far (typ_far (typ_far h f6 0 (.slice U0 q.1.a.length y0_)) (blk_put f6 0 (.slice U0 q.1.a.length y0_) rfl) 1 (.slice U1 q.1.b.length y1_)) (blk_put (blk_put f6 0 (.slice U0 q.1.a.length y0_) rfl) 1 (.slice U1 q.1.b.length y1_) rfl) 2 (.slice U2 q.1.c.length y2_)
 have kz := below_set (j := 2) (v := .slice U2 q.1.c.length y2_) (below_set (j := 1) (v := .slice U1 q.1.b.length y1_) (below_set (j := 0) (v := .slice U0 q.1.a.length y0_) hb5 hz6) hz6) hz6
 go_wp2
 refine bodyPost_ret (results_sr (p := 6) (u := 7) (v := 8) rfl _ _ z6 33 #[.slice U0 q.1.a.length y0_, .slice U1 q.1.b.length y1_, .slice U2 q.1.c.length y2_] (0, 0) _ rfl hzz Tryz.underlying33 rfl (by kernel_rfl)) rfl ?_
 exact ⟨_, _, _, rfl, F a0, F a1, F a2, dab, dac, dbc, kz, Kp.of kz⟩
end Go.Proofs.YtjamfddhcigchaaGreatDoor.Sr2
