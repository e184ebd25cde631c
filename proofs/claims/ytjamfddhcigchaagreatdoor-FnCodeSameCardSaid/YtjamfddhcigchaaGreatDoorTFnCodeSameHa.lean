/- spec.DrawCodeSame, walked: one code, and the same or one with an instruction more. No other condition. -/
import Derived.Test.YtjamfddhcigchaaGreatDoorTFnCodeSameHFnCodeSamex11
import Derived.WalkSmall
import Derived.WalkLawsBesides
import Derived.WalkSpells
import Derived.Deep.RegionHeld
namespace Go.Proofs.YtjamfddhcigchaaGreatDoor.Ha
open Go.RowKit Go.Proofs.YtjamfddhcigchaaGreatDoor.HFnCodeSame Go.Proofs.YtjamfddhcigchaaGreatDoorW.PrintWords Go.Proofs.YtjamfddhcigchaaGreatDoorW.PrintLast Go.Proofs.YtjamfddhcigchaaGreatDoorW.PrintMore
set_option linter.unusedVariables false
set_option linter.unusedSimpArgs false
set_option maxRecDepth 100000 in
set_option maxHeartbeats 6400000 in
theorem drawSame_none (A0 : Option Addr) (c0 : Nat) (l0 : List Int) (w : World) (hr0 : Kd.C (Kd.int .u8) w A0 l0.length l0) (hc0 : l0.length ≤ c0) (K : Nat) (l1 : List Int) (p q : Int) (ps : List S30) (ho : spec_l12Open.f l0 = some (l1, p)) (hp : spec_l5Code.f K l1 p = some (ps, q)) (h0 : l0 = []) :
  Calls Tryz.prog 8 #[.slice A0 l0.length c0] w fun e w' => ∃ v0 v1, e = .returned (.tuple #[v0, v1]) ∧ Kd.R k30 30 w' w.heap.size (fun _ => True) v0 ps ∧ Kd.R k30 30 w' w.heap.size (fun _ => True) v1 (ps) ∧ Below w.heap.size w w' := by
 have hu30 := Tryz.underlying30
 have c1 := spec_l12Open.calls A0 c0 l0 l1 p w w (Below.refl _ _) hr0 hc0 ho
 have z0 : (l0.length : Int) = 0 := by rw [h0]; rfl
 have zd : decide (0 < l0.length) = false := by rw [h0]; rfl
 clear h0
 have hr := Aside0.mk hr0
 have hc := Aside0.mk hc0
 have ho' := Aside0.mk ho
 have hp' := Aside0.mk hp
 clear hr0 hc0 ho hp
 go_enter Tryz.func8, Tryz.ntmps8
 go_wp2_with fail
 refine c1.mono ?_
 rintro e w1 ⟨g1, rfl, s1, b1, -⟩
 clear c1
 go_wp2_with fail
 refine (spec_l5Code.calls K g1 l1 p ps q w w1 s1 b1 hp'.out).mono ?_
 rintro e w2 ⟨v0, rfl, r0, -, b2, -⟩
 replace r0 := Kd.R_lower r0 b1.size
 clear s1 b1
 go_wp2_with fail
 refine (spec_l12Open.calls _ c0 l0 l1 p w2 w2 (Below.refl _ _) (Kd.C_below hr.out b2) hc.out ho'.out).mono ?_
 rintro e w3 ⟨g3, rfl, s3, b3, -⟩
 go_wp2_with fail
 refine (spec_l5Code.calls K g3 l1 p ps q w2 w3 s3 b3 hp'.out).mono ?_
 rintro e w4 ⟨v1, rfl, r1, -, b4, -⟩
 replace r1 := Kd.R_lower r1 b3.size
 have l0_ := Kd.R_lt r0
 have s4 := b2.size
 have hk4 := below_size b4
 replace b2 := b2.trans (b4.mono b2.size)
 replace r0 := Kd.R_below r0 b4
 clear s3 b3 b4
 obtain ⟨B1, d1, rfl⟩ := Kd.R_slice r1
 go_wp2
 refine bodyPost_ret (results_tmp2 rfl _ _ _) rfl ?_
 exact ⟨_, _, rfl, r0, Kd.R_lower r1 s4, b2⟩
set_option maxRecDepth 100000 in
set_option maxHeartbeats 6400000 in
theorem drawSame_even (A0 : Option Addr) (c0 : Nat) (l0 : List Int) (w : World) (hr0 : Kd.C (Kd.int .u8) w A0 l0.length l0) (hc0 : l0.length ≤ c0) (K : Nat) (l1 : List Int) (p q : Int) (ps : List S30) (ho : spec_l12Open.f l0 = some (l1, p)) (hp : spec_l5Code.f K l1 p = some (ps, q)) (h0 : 0 < l0.length) (h1 : Int.tmod (rd l0 0) 2 ≠ 1) :
  Calls Tryz.prog 8 #[.slice A0 l0.length c0] w fun e w' => ∃ v0 v1, e = .returned (.tuple #[v0, v1]) ∧ Kd.R k30 30 w' w.heap.size (fun _ => True) v0 ps ∧ Kd.R k30 30 w' w.heap.size (fun _ => True) v1 (ps) ∧ Below w.heap.size w w' := by
 have hu30 := Tryz.underlying30
 have c1 := spec_l12Open.calls A0 c0 l0 l1 p w w (Below.refl _ _) hr0 hc0 ho
 have hlen : 0 < l0.length := h0
 have zd : decide (0 < l0.length) = true := by simpa using h0
 obtain ⟨ad, rfl, hx⟩ := Kd.at_int hr0 0 (by omega) (by omega)
 have hx' := Aside0.mk hx
 have hrem : (Int.tmod (rd l0 0) 2 == 1) = false := by simpa using h1
 clear hx h0
 clear h1
 have hr := Aside0.mk hr0
 have hc := Aside0.mk hc0
 have ho' := Aside0.mk ho
 have hp' := Aside0.mk hp
 clear hr0 hc0 ho hp
 go_enter Tryz.func8, Tryz.ntmps8
 go_wp2_with fail
 refine c1.mono ?_
 rintro e w1 ⟨g1, rfl, s1, b1, -⟩
 clear c1
 go_wp2_with fail
 refine (spec_l5Code.calls K g1 l1 p ps q w w1 s1 b1 hp'.out).mono ?_
 rintro e w2 ⟨v0, rfl, r0, -, b2, -⟩
 replace r0 := Kd.R_lower r0 b1.size
 clear s1 b1
 go_wp2_with fail
 refine (spec_l12Open.calls _ c0 l0 l1 p w2 w2 (Below.refl _ _) (Kd.C_below hr.out b2) hc.out ho'.out).mono ?_
 rintro e w3 ⟨g3, rfl, s3, b3, -⟩
 go_wp2_with fail
 refine (spec_l5Code.calls K g3 l1 p ps q w2 w3 s3 b3 hp'.out).mono ?_
 rintro e w4 ⟨v1, rfl, r1, -, b4, -⟩
 replace r1 := Kd.R_lower r1 b3.size
 have l0_ := Kd.R_lt r0
 have s4 := b2.size
 have hk4 := below_size b4
 replace b2 := b2.trans (b4.mono b2.size)
 replace r0 := Kd.R_below r0 b4
 clear s3 b3 b4
 obtain ⟨B1, d1, rfl⟩ := Kd.R_slice r1
 have x0 : w4.cell? ad = some (.int .u8 (rd l0 0)) := by
  have h := (b2.cell (World.block_lt_of_cell? w _ hx'.out)).trans hx'.out
  rw [show Int.toNat 0 = 0 from rfl, show ad.add 0 = ad by cases ad; simp [Addr.add]] at h; exact h
 go_wp2
 refine bodyPost_ret (results_tmp2 rfl _ _ _) rfl ?_
 exact ⟨_, _, rfl, r0, Kd.R_lower r1 s4, b2⟩
set_option maxRecDepth 100000 in
set_option maxHeartbeats 6400000 in
theorem drawSame_odd (A0 : Option Addr) (c0 : Nat) (l0 : List Int) (w : World) (hr0 : Kd.C (Kd.int .u8) w A0 l0.length l0) (hc0 : l0.length ≤ c0) (K : Nat) (l1 : List Int) (p q : Int) (ps : List S30) (ho : spec_l12Open.f l0 = some (l1, p)) (hp : spec_l5Code.f K l1 p = some (ps, q)) (h0 : 0 < l0.length) (h1 : Int.tmod (rd l0 0) 2 = 1) (hl : ps.length ≤ 1000000) :
  Calls Tryz.prog 8 #[.slice A0 l0.length c0] w fun e w' => ∃ v0 v1, e = .returned (.tuple #[v0, v1]) ∧ Kd.R k30 30 w' w.heap.size (fun _ => True) v0 ps ∧ Kd.R k30 30 w' w.heap.size (fun _ => True) v1 (ps ++ [⟨5, 0, ⟨0, 0⟩⟩]) ∧ Below w.heap.size w w' := by
 have hu30 := Tryz.underlying30
 have c1 := spec_l12Open.calls A0 c0 l0 l1 p w w (Below.refl _ _) hr0 hc0 ho
 have hlen : 0 < l0.length := h0
 have zd : decide (0 < l0.length) = true := by simpa using h0
 obtain ⟨ad, rfl, hx⟩ := Kd.at_int hr0 0 (by omega) (by omega)
 have hx' := Aside0.mk hx
 have hrem : (Int.tmod (rd l0 0) 2 == 1) = true := by simpa using h1
 clear hx h0
 clear h1
 have hr := Aside0.mk hr0
 have hc := Aside0.mk hc0
 have ho' := Aside0.mk ho
 have hp' := Aside0.mk hp
 clear hr0 hc0 ho hp
 go_enter Tryz.func8, Tryz.ntmps8
 go_wp2_with fail
 refine c1.mono ?_
 rintro e w1 ⟨g1, rfl, s1, b1, -⟩
 clear c1
 go_wp2_with fail
 refine (spec_l5Code.calls K g1 l1 p ps q w w1 s1 b1 hp'.out).mono ?_
 rintro e w2 ⟨v0, rfl, r0, -, b2, -⟩
 replace r0 := Kd.R_lower r0 b1.size
 clear s1 b1
 go_wp2_with fail
 refine (spec_l12Open.calls _ c0 l0 l1 p w2 w2 (Below.refl _ _) (Kd.C_below hr.out b2) hc.out ho'.out).mono ?_
 rintro e w3 ⟨g3, rfl, s3, b3, -⟩
 go_wp2_with fail
 refine (spec_l5Code.calls K g3 l1 p ps q w2 w3 s3 b3 hp'.out).mono ?_
 rintro e w4 ⟨v1, rfl, r1, -, b4, -⟩
 replace r1 := Kd.R_lower r1 b3.size
 have l0_ := Kd.R_lt r0
 have s4 := b2.size
 have hk4 := below_size b4
 replace b2 := b2.trans (b4.mono b2.size)
 replace r0 := Kd.R_below r0 b4
 clear s3 b3 b4
 obtain ⟨B1, d1, rfl⟩ := Kd.R_slice r1
 have x0 : w4.cell? ad = some (.int .u8 (rd l0 0)) := by
  have h := (b2.cell (World.block_lt_of_cell? w _ hx'.out)).trans hx'.out
  rw [show Int.toNat 0 = 0 from rfl, show ad.add 0 = ad by cases ad; simp [Addr.add]] at h; exact h
 have hsz : w2.heap.size ≤ w4.heap.size := hk4
 have r1' := Aside0.mk r1
 have r0' := Aside0.mk r0
 have hl' := Aside0.mk hl
 have b2' := Aside0.mk b2
 have s4' := Aside0.mk s4
 have sz := Aside0.mk (below_size b2)
 have l0' := Aside0.mk l0_
 have bs1 := Aside0.mk (Kd.R_base r1)
 have sz4 := Aside0.mk hsz
 clear r1 r0 hl b2 s4 l0_
 go_wp2_with ((with_reducible refine gate_builtin (b := .append) (xs := #[.tmp 22, .tmp 24]) rfl ?_); at_builtin; refine Kd.R_append k30 w2.heap.size rfl (.tmp 22) (.tmp 24) 23 30 (.agg #[(.int .i64 0), (.int .i64 0), (.int .i64 0), (.int .i64 0)]) 32 rfl Tryz.underlying23 info30 rfl (by decide) (by omega) (.slice B1 ps.length d1) ps (⟨5, 0, ⟨0, 0⟩⟩ : S30) [.int .i64 5, .int .i64 0, .int .i64 0, .int .i64 0] (fun _ => True) (fun _ => False) rfl rfl ?aP (fun _ hk => hk.elim) (fun _ _ => trivial) ?aO (Below.refl _ _) ?aS ?aL ?_; (case aP => exact k30_mkM _ _ _ (⟨5, 0, ⟨0, 0⟩⟩ : S30)); (case aO => exact r1'.out); (case aS => exact sz4.out); (case aL => have := hl'.out; omega); intro v3 w5 ho hb hg hat)
 have hne : ∀ k, (Value.slice B1 ps.length d1).ownBlock = some k → some k ≠ v0.ownBlock := fun k e1 e2 => by
  have h1 := bs1.out k e1
  have h2 := l0'.out k e2.symm
  omega
 have r0 := Kd.R_grown2 r0'.out rfl hg hne
 go_wp2
 refine bodyPost_ret (results_tmp2 rfl _ _ _) rfl ?_
 exact ⟨_, _, rfl, r0, Kd.R_lower ho s4'.out, b2'.out.trans (hb.mono s4'.out)⟩
end Go.Proofs.YtjamfddhcigchaaGreatDoor.Ha
