/- Plain facts: a memory is the same as itself; what a run leaves. No condition. -/
import Derived.Test.YtjamfddhcigchaaGreatDoorTFnCodeFuelHo
import Derived.Test.YtjamfddhcigchaaGreatDoorTFnCodeFuelRb
import Derived.Test.YtjamfddhcigchaaGreatDoorTFnCodeFuelDa
import Derived.Stop.LaidErr
import Derived.Test.YtjamfddhcigchaaGreatDoorRows
import Derived.Test.YtjamfddhcigchaaGreatDoorTie
import Derived.Test.YtjamfddhcigchaaGreatDoorCards
import Derived.LaidMore
import Derived.Stop.Joined
import Derived.SevenTiedAt
import Derived.ChangeVars
import Derived.ProofKit
import Derived.OpenShut
import Derived.ShutString
import Derived.ChangeOld
import Derived.Lib.SmallJoins
import Derived.ChangeSame
import Derived.Deep.Strs
namespace Go.Proofs.YtjamfddhcigchaaGreatDoor.Cm
open Go.RowKit  Go.Proofs.YtjamfddhcigchaaGreatDoor.Gm Go.Proofs.YtjamfddhcigchaaGreatDoor.Gn Go.Proofs.YtjamfddhcigchaaGreatDoor.Gz Go.Proofs.YtjamfddhcigchaaGreatDoor.Gq Go.Proofs.YtjamfddhcigchaaGreatDoor.Hm Go.Proofs.YtjamfddhcigchaaGreatDoor.Hn Go.Proofs.YtjamfddhcigchaaGreatDoor.Hp Go.Proofs.YtjamfddhcigchaaGreatDoor.HFnCodeRun Go.Proofs.YtjamfddhcigchaaGreatDoorW.PrintWords Go.Proofs.YtjamfddhcigchaaGreatDoorW.PrintLast Go.Proofs.YtjamfddhcigchaaGreatDoorW.PrintMore
set_option linter.unusedVariables false
set_option linter.unusedSimpArgs false
theorem wrap_s {x : Int} (h1 : -9223372036854775808 ≤ x) (h2 : x ≤ 9223372036854775807) : wrap64 x = x := by
 unfold wrap64; omega
theorem eqM_self (l : List Int) (hl : l.length ≤ 1000) : ∀ (d k i : Nat), i + d = l.length → slices_Equal_int_int.l0 (k + d + 1) l l (l.length : Int) (i : Int) = some true
 | 0, k, i, h => by
  rw [slices_Equal_int_int.l0, if_neg (by omega)]
 | d + 1, k, i, h => by
  rw [slices_Equal_int_int.l0, if_pos (by omega), if_pos (by omega), if_pos (by omega), if_pos (by omega), if_pos rfl, wrap_s (by omega) (by omega), show (i : Int) + 1 = ((i + 1 : Nat) : Int) by omega, show k + (d + 1) = k + d + 1 by omega]
  exact eqM_self l hl d k (i + 1) (by omega)
theorem eqL_self (l : List Int) (hl : l.length ≤ 6) (k : Nat) : slices_Equal_int_int.f (k + 10) l l = some true := by
 unfold slices_Equal_int_int.f
 rw [if_pos rfl, show (0 : Int) = ((0 : Nat) : Int) from rfl, show k + 10 = k + (9 - l.length) + l.length + 1 by omega, eqM_self l (by omega) l.length (k + (9 - l.length)) 0 (by omega)]
theorem memSame_self (a b c : List Int) (ha : a.length ≤ 6) (hb : b.length ≤ 6) (hc : c.length ≤ 6) (k : Nat) : impl_MemSame.f (k + 10) a b c a b c = some true := by
 unfold impl_MemSame.f
 rw [eqL_self a ha]; simp only [Option.bind_some]
 rw [if_pos trivial, eqL_self b hb]; simp only [Option.bind_some]
 rw [if_pos trivial, eqL_self c hc]; rfl
theorem runC_len {m : M3} {ps : List S30} {fuel : Int} {q : M3 × Int × Nat} (h : runC m ps fuel = some q) : q.1.a.length ≤ 6 ∧ q.1.b.length ≤ 6 ∧ q.1.c.length ≤ 6 := by
 unfold runC at h
 by_cases c : okM m.a m.b m.c = true ∧ okB ps = true ∧ 0 ≤ fuel ∧ fuel ≤ 100
 ·rw [if_pos c] at h
  have k := runI_keeps (P := fun m => m.a.length ≤ 6 ∧ m.b.length ≤ 6 ∧ m.c.length ≤ 6) (fun m k i n hm => ⟨by rw [show (m.put k i n).a = pT 1 m.a k i n from rfl, pT_len]; exact hm.1, by rw [show (m.put k i n).b = pT 2 m.b k i n from rfl, pT_len]; exact hm.2.1, by rw [show (m.put k i n).c = pT 3 m.c k i n from rfl, pT_len]; exact hm.2.2⟩) ps _ _ _ _ _ q (by obtain ⟨x, y, z⟩ := okM_len c.1; exact ⟨by show m.a.length ≤ 6; omega, by show m.b.length ≤ 6; omega, by show m.c.length ≤ 6; omega⟩) h
  exact k
 ·rw [if_neg c] at h
  obtain rfl := Option.some.inj h
  exact ⟨Nat.zero_le _, Nat.zero_le _, Nat.zero_le _⟩
end Go.Proofs.YtjamfddhcigchaaGreatDoor.Cm
namespace Go.Proofs.YtjamfddhcigchaaGreatDoor.Fa
open Go.RowKit  Go.Proofs.YtjamfddhcigchaaGreatDoor.Gm Go.Proofs.YtjamfddhcigchaaGreatDoor.Gn Go.Proofs.YtjamfddhcigchaaGreatDoor.Gz Go.Proofs.YtjamfddhcigchaaGreatDoor.Gq Go.Proofs.YtjamfddhcigchaaGreatDoor.Hj Go.Proofs.YtjamfddhcigchaaGreatDoor.Hm Go.Proofs.YtjamfddhcigchaaGreatDoor.Hn Go.Proofs.YtjamfddhcigchaaGreatDoor.Hq Go.Proofs.YtjamfddhcigchaaGreatDoor.Hu Go.Proofs.YtjamfddhcigchaaGreatDoor.Hv Go.Proofs.YtjamfddhcigchaaGreatDoor.Ho Go.Proofs.YtjamfddhcigchaaGreatDoor.Hc Go.Proofs.YtjamfddhcigchaaGreatDoor.Hp Go.Proofs.YtjamfddhcigchaaGreatDoor.Hx Go.Proofs.YtjamfddhcigchaaGreatDoor.Sr Go.Proofs.YtjamfddhcigchaaGreatDoor.Rb Go.Proofs.YtjamfddhcigchaaGreatDoor.Cm Go.Proofs.YtjamfddhcigchaaGreatDoor.HFnCodeRun Go.Proofs.YtjamfddhcigchaaGreatDoorW.PrintWords Go.Proofs.YtjamfddhcigchaaGreatDoorW.PrintLast Go.Proofs.YtjamfddhcigchaaGreatDoorW.PrintMore
set_option linter.unusedVariables false
set_option linter.unusedSimpArgs false
theorem runC_more {m : M3} {ps : List S30} {f : Int} {q : M3 × Int × Nat} (h : runC m ps f = some q) (h0 : q.2.1 = 0) (h9 : f < 100) : runC m ps (f + 1) = some (q.1, 0, q.2.2 + 1) ∧ runC m ps (f - (q.2.2 : Int)) = some (q.1, 0, 0) ∧ 0 ≤ f ∧ (q.2.2 : Int) ≤ f := by
 unfold runC at h
 by_cases c : okM m.a m.b m.c = true ∧ okB ps = true ∧ 0 ≤ f ∧ f ≤ 100
 ·rw [if_pos c] at h
  obtain ⟨fl, rfl⟩ : ∃ n : Nat, f = (n : Int) := ⟨f.toNat, by omega⟩
  rw [Int.toNat_natCast] at h
  obtain ⟨_, hl⟩ := runI_left ps _ _ _ _ _ _ h
  refine ⟨?_, ?_, by omega, by omega⟩
  ·unfold runC
   rw [if_pos ⟨c.1, c.2.1, by omega, by omega⟩, show ((fl : Int) + 1).toNat = fl + 1 by omega]
   refine runI_mono ps (gasC ps fl) _ _ _ _ _ _ ?_ (runI_more ps _ _ _ _ _ _ h0 h)
   unfold gasC
   rw [Nat.succ_mul]
   omega
  ·obtain ⟨r, hr⟩ := runC_total m ps ((fl : Int) - (q.2.2 : Int))
   rw [hr]
   unfold runC at hr
   rw [if_pos ⟨c.1, c.2.1, by omega, by omega⟩, show ((fl : Int) - (q.2.2 : Int)).toNat = fl - q.2.2 by omega] at hr
   have h2 := runI_less ps _ _ _ _ _ _ h0 h
   have h3 := runI_mono ps _ (gasC ps fl) _ _ _ _ _ (by unfold gasC; have := Nat.mul_le_mul_right (ps.length + 1) (Nat.sub_le fl q.2.2); omega) hr
   rw [h2] at h3
   exact h3.symm
 ·rw [if_neg c] at h
  obtain rfl := Option.some.inj h
  exact absurd h0 (by decide)
theorem wrs {f : Int} {n : Nat} (f0 : 0 ≤ f) (fl : (n : Int) ≤ f) (h9 : f < 100) : wrap64 (f + 1) = f + 1 ∧ wrap64 ((n : Int) + 1) = (n : Int) + 1 ∧ wrap64 (f - (n : Int)) = f - (n : Int) :=
 ⟨wrap_s (by omega) (by omega), wrap_s (by omega) (by omega), wrap_s (by omega) (by omega)⟩
theorem same_ex {a b c : List Int} (h : a.length ≤ 6 ∧ b.length ≤ 6 ∧ c.length ≤ 6) : ∃ K, impl_MemSame.f K a b c a b c = some true :=
 ⟨_, memSame_self a b c h.1 h.2.1 h.2.2 0⟩
theorem ansC {w0 W w' : World} {e : Ending} {q : M3 × Int × Nat} (h : Ans w0 W w' e q) : ∃ A0 c0 A1 c1 A2 c2, e = .returned (.tuple #[.agg #[.slice A0 q.1.a.length c0, .slice A1 q.1.b.length c1, .slice A2 q.1.c.length c2], .int .i64 q.2.1, .int .i64 (q.2.2 : Int)]) ∧ q.1.a.length ≤ c0 ∧ q.1.b.length ≤ c1 ∧ q.1.c.length ≤ c2 ∧ Kd.C (Kd.int .i64) w' A0 q.1.a.length q.1.a ∧ Kd.C (Kd.int .i64) w' A1 q.1.b.length q.1.b ∧ Kd.C (Kd.int .i64) w' A2 q.1.c.length q.1.c ∧ Below w0.heap.size w0 w' := by
 obtain ⟨u0, u1, u2, e, r0, r1, r2, -, -, -, hb, -⟩ := h
 obtain ⟨A0, c0, rfl, h0, R0⟩ := Kd.R_reads r0
 obtain ⟨A1, c1, rfl, h1, R1⟩ := Kd.R_reads r1
 obtain ⟨A2, c2, rfl, h2, R2⟩ := Kd.R_reads r2
 exact ⟨A0, c0, A1, c1, A2, c2, e, h0, h1, h2, R0, R1, R2, hb⟩
theorem mem3_C {w w' : World} {v0 v1 v2 : Value} {a b c : List Int} (h : Mem3 w w' v0 v1 v2 a b c) : ∃ A0 c0 A1 c1 A2 c2, v0 = .slice A0 a.length c0 ∧ v1 = .slice A1 b.length c1 ∧ v2 = .slice A2 c.length c2 ∧ a.length ≤ c0 ∧ b.length ≤ c1 ∧ c.length ≤ c2 ∧ Kd.C (Kd.int .i64) w' A0 a.length a ∧ Kd.C (Kd.int .i64) w' A1 b.length b ∧ Kd.C (Kd.int .i64) w' A2 c.length c := by
 obtain ⟨A0, c0, e0, h0, r0⟩ := Kd.R_reads h.1
 obtain ⟨A1, c1, e1, h1, r1⟩ := Kd.R_reads h.2.1
 obtain ⟨A2, c2, e2, h2, r2⟩ := Kd.R_reads h.2.2
 exact ⟨A0, c0, A1, c1, A2, c2, e0, e1, e2, h0, h1, h2, r0, r1, r2⟩
set_option maxRecDepth 100000 in
set_option maxHeartbeats 6400000 in
theorem long_any (A0 : Option Addr) (c0 : Nat) (l0 : List Int) (w : World) (hlen : 1048576 < l0.length) :
  Calls Tryz.prog 6 #[.slice A0 l0.length c0] w fun e w' => e = .returned (.bool true) ∧ Below w.heap.size w w' := by
 have d : decide ((l0.length : Int) > 1048576) = true := by simp; omega
 have d' : decide ((1048576 : Int) < (l0.length : Int)) = true := by simp; omega
 clear hlen
 go_enter Tryz.func6, Tryz.ntmps6
 go_wp2
 go_ret
 exact ⟨rfl, Below.refl _ _⟩
set_option maxRecDepth 100000 in
set_option maxHeartbeats 6400000 in
theorem law_any (A0 : Option Addr) (c0 : Nat) (l0 : List Int) (w : World) (hlen : l0.length ≤ 1048576) (hr0 : Kd.C (Kd.int .u8) w A0 l0.length l0) (hc0 : l0.length ≤ c0) (hE : LE w) (hby : Byt l0) :
  Calls Tryz.prog 6 #[.slice A0 l0.length c0] w fun e w' => e = .returned (.bool true) ∧ Below w.heap.size w w' := by
 have hu33 := Tryz.underlying33
 have d : decide ((l0.length : Int) > 1048576) = false := by simp; omega
 have d' : decide ((1048576 : Int) < (l0.length : Int)) = false := by simp; omega
 have hc := Aside0.mk hc0
 have hE' := Aside0.mk hE
 have hD := Da.drawRun_any A0 c0 l0 w hr0 hc0 hby
 clear hr0 hc0 hlen hE hby
 go_enter Tryz.func6, Tryz.ntmps6
 go_wp2_with fail
 refine hD.mono ?_
 rintro e wm ⟨u0, u1, u2, u3, pp, ff, rfl, hm0, hm1, hm2, hpp, hpl, hff, kb⟩
 clear hD
 obtain ⟨ma, M0, m0_, rfl, hM0, DM0⟩ := hm0.C
 obtain ⟨mb, M1, m1_, rfl, hM1, DM1⟩ := hm1.C
 obtain ⟨mc, M2, m2_, rfl, hM2, DM2⟩ := hm2.C
 obtain ⟨PA, pc, rfl, hpc, DP⟩ := Kd.R_reads hpp
 obtain ⟨mm, hmm⟩ : ∃ m : M3, m = ⟨ma, mb, mc⟩ := ⟨_, rfl⟩
 obtain rfl : mm.a = ma := by rw [hmm]
 obtain rfl : mm.b = mb := by rw [hmm]
 obtain rfl : mm.c = mc := by rw [hmm]
 clear hmm
 obtain ⟨q, hq⟩ := runC_total mm pp ff
 have hq' := Aside0.mk hq
 have hpl := Aside0.mk hpl
 have hpc := Aside0.mk hpc
 have hM0 := Aside0.mk hM0
 have hM1 := Aside0.mk hM1
 have hM2 := Aside0.mk hM2
 have DM0 := Aside0.mk DM0
 have DM1 := Aside0.mk DM1
 have DM2 := Aside0.mk DM2
 have DP := Aside0.mk DP
 have kw : Aside0 (∀ W, Below wm.heap.size wm W → Below w.heap.size w W) := ⟨fun W k => kb.trans (k.mono kb.size)⟩
 have hff := Aside0.mk hff
 clear hm0 hm1 hm2 hpp hq kb
 go_upto_region 4 with (fail)
 have kk : Below wm.heap.size wm (wm.alloc (.cells #[.slice M0 mm.a.length m0_, .slice M1 mm.b.length m1_, .slice M2 mm.c.length m2_] 33)) := (Below.refl _ _).alloc (Nat.le_refl _) _
 have bM := heap_alloc_new wm (.cells #[.slice M0 mm.a.length m0_, .slice M1 mm.b.length m1_, .slice M2 mm.c.length m2_] 33)
 replace DM0 := Aside0.mk (Kd.C_below DM0.out kk)
 replace DM1 := Aside0.mk (Kd.C_below DM1.out kk)
 replace DM2 := Aside0.mk (Kd.C_below DM2.out kk)
 replace DP := Aside0.mk (Kd.C_below DP.out kk)
 generalize wm.alloc (Obj.cells _ 33) = w1 at kk bM DM0 DM1 DM2 DP ⊢
 obtain ⟨gM, hgM⟩ : ∃ g, wm.heap.size = g := ⟨_, rfl⟩
 rw [hgM] at bM ⊢
 clear hgM
 have cM0 : w1.cell? ⟨gM, 0, none⟩ = some (.slice M0 mm.a.length m0_) := (blk_cell bM 0).trans rfl
 have cM1 : w1.cell? ⟨gM, 1, none⟩ = some (.slice M1 mm.b.length m1_) := (blk_cell bM 1).trans rfl
 have cM2 : w1.cell? ⟨gM, 2, none⟩ = some (.slice M2 mm.c.length m2_) := (blk_cell bM 2).trans rfl
 go_wp2_with fail
 clear cM0 cM1 cM2
 refine (codeRun_any M0 M1 M2 m0_ m1_ m2_ mm.a mm.b mm.c PA pc pp ff _ q (hE'.out.below (kw.out _ kk)) DM0.out DM1.out DM2.out DP.out hpc.out hq'.out).mono ?_
 rintro e wn ⟨y0, y1, y2, rfl, hY, hb5⟩
 obtain ⟨X0, x0_, X1, x1_, X2, x2_, rfl, rfl, rfl, hj0, hj1, hj2, E0, E1, E2⟩ := mem3_C hY
 clear hY
 replace DM0 := Aside0.mk (Kd.C_below DM0.out hb5)
 replace DM1 := Aside0.mk (Kd.C_below DM1.out hb5)
 replace DM2 := Aside0.mk (Kd.C_below DM2.out hb5)
 replace DP := Aside0.mk (Kd.C_below DP.out hb5)
 replace bM := blk_below bM hb5
 replace kk := kk.trans (hb5.mono kk.size)
 clear hb5
 have JX0 := Aside0.mk hj0
 have DX0 := Aside0.mk E0
 have JX1 := Aside0.mk hj1
 have DX1 := Aside0.mk E1
 have JX2 := Aside0.mk hj2
 have DX2 := Aside0.mk E2
 clear hj0 hj1 hj2 E0 E1 E2
 go_upto_region 5 with (fail)
 have k5 : Below wn.heap.size wn (wn.alloc (.cells #[.slice X0 q.1.a.length x0_, .slice X1 q.1.b.length x1_, .slice X2 q.1.c.length x2_] 33)) := (Below.refl _ _).alloc (Nat.le_refl _) _
 have n5 := heap_alloc_new wn (.cells #[.slice X0 q.1.a.length x0_, .slice X1 q.1.b.length x1_, .slice X2 q.1.c.length x2_] 33)
 replace DM0 := Aside0.mk (Kd.C_below DM0.out k5)
 replace DM1 := Aside0.mk (Kd.C_below DM1.out k5)
 replace DM2 := Aside0.mk (Kd.C_below DM2.out k5)
 replace DP := Aside0.mk (Kd.C_below DP.out k5)
 replace DX0 := Aside0.mk (Kd.C_below DX0.out k5)
 replace DX1 := Aside0.mk (Kd.C_below DX1.out k5)
 replace DX2 := Aside0.mk (Kd.C_below DX2.out k5)
 replace bM := blk_below bM k5
 replace kk := kk.trans (k5.mono kk.size)
 clear k5
 have bX := n5
 clear n5
 generalize wn.alloc (Obj.cells _ 33) = w2 at kk bM bX DM0 DM1 DM2 DP DX0 DX1 DX2 ⊢
 obtain ⟨gX, hgX⟩ : ∃ g, wn.heap.size = g := ⟨_, rfl⟩
 rw [hgX] at bX ⊢
 clear hgX
 have cM0 : w2.cell? ⟨gM, 0, none⟩ = some (.slice M0 mm.a.length m0_) := (blk_cell bM 0).trans rfl
 have cM1 : w2.cell? ⟨gM, 1, none⟩ = some (.slice M1 mm.b.length m1_) := (blk_cell bM 1).trans rfl
 have cM2 : w2.cell? ⟨gM, 2, none⟩ = some (.slice M2 mm.c.length m2_) := (blk_cell bM 2).trans rfl
 go_wp2_with fail
 clear cM0 cM1 cM2
 refine (specRun_any M0 M1 M2 m0_ m1_ m2_ mm.a mm.b mm.c PA pc pp ff _ DM0.out DM1.out DM2.out hM0.out hM1.out hM2.out DP.out hpc.out (by have := hpl.out; omega) q hq'.out).mono ?_
 rintro e wn hA
 obtain ⟨S0, s0_, S1, s1_, S2, s2_, rfl, hj0, hj1, hj2, E0, E1, E2, hb5⟩ := ansC hA
 clear hA
 replace DM0 := Aside0.mk (Kd.C_below DM0.out hb5)
 replace DM1 := Aside0.mk (Kd.C_below DM1.out hb5)
 replace DM2 := Aside0.mk (Kd.C_below DM2.out hb5)
 replace DP := Aside0.mk (Kd.C_below DP.out hb5)
 replace DX0 := Aside0.mk (Kd.C_below DX0.out hb5)
 replace DX1 := Aside0.mk (Kd.C_below DX1.out hb5)
 replace DX2 := Aside0.mk (Kd.C_below DX2.out hb5)
 replace bM := blk_below bM hb5
 replace bX := blk_below bX hb5
 replace kk := kk.trans (hb5.mono kk.size)
 clear hb5
 have JS0 := Aside0.mk hj0
 have DS0 := Aside0.mk E0
 have JS1 := Aside0.mk hj1
 have DS1 := Aside0.mk E1
 have JS2 := Aside0.mk hj2
 have DS2 := Aside0.mk E2
 clear hj0 hj1 hj2 E0 E1 E2
 go_upto_region 6 with (fail)
 have k5 : Below wn.heap.size wn (wn.alloc (.cells #[.slice S0 q.1.a.length s0_, .slice S1 q.1.b.length s1_, .slice S2 q.1.c.length s2_] 33)) := (Below.refl _ _).alloc (Nat.le_refl _) _
 have n5 := heap_alloc_new wn (.cells #[.slice S0 q.1.a.length s0_, .slice S1 q.1.b.length s1_, .slice S2 q.1.c.length s2_] 33)
 replace DM0 := Aside0.mk (Kd.C_below DM0.out k5)
 replace DM1 := Aside0.mk (Kd.C_below DM1.out k5)
 replace DM2 := Aside0.mk (Kd.C_below DM2.out k5)
 replace DP := Aside0.mk (Kd.C_below DP.out k5)
 replace DX0 := Aside0.mk (Kd.C_below DX0.out k5)
 replace DX1 := Aside0.mk (Kd.C_below DX1.out k5)
 replace DX2 := Aside0.mk (Kd.C_below DX2.out k5)
 replace DS0 := Aside0.mk (Kd.C_below DS0.out k5)
 replace DS1 := Aside0.mk (Kd.C_below DS1.out k5)
 replace DS2 := Aside0.mk (Kd.C_below DS2.out k5)
 replace bM := blk_below bM k5
 replace bX := blk_below bX k5
 replace kk := kk.trans (k5.mono kk.size)
 clear k5
 have bS := n5
 clear n5
 generalize wn.alloc (Obj.cells _ 33) = w3 at kk bM bX bS DM0 DM1 DM2 DP DX0 DX1 DX2 DS0 DS1 DS2 ⊢
 obtain ⟨gS, hgS⟩ : ∃ g, wn.heap.size = g := ⟨_, rfl⟩
 rw [hgS] at bS ⊢
 clear hgS
 have hx : q.2.1 ≠ 0 ∨ 100 ≤ ff ∨ (q.2.1 = 0 ∧ ff < 100) := by omega
 rcases hx with hx | hx | ⟨hx, hx9⟩
 ·have t1 : (q.2.1 != 0) = true := by simpa using hx
  clear hx
  go_wp2
  go_ret
  exact ⟨rfl, kw.out _ kk⟩
 ·have t2 : decide (ff ≥ 100) = true := by simpa using hx
  have t3 : decide (100 ≤ ff) = true := by simpa using hx
  clear hx
  cases t1 : (q.2.1 != 0)
  ·go_wp2
   go_ret
   exact ⟨rfl, kw.out _ kk⟩
  ·go_wp2
   go_ret
   exact ⟨rfl, kw.out _ kk⟩
 obtain ⟨h1, h2, f0, fl⟩ := runC_more hq'.out hx hx9
 have t1 : (q.2.1 != 0) = false := by simpa using hx
 have t2 : decide (ff ≥ 100) = false := by simp; omega
 have t3 : decide (100 ≤ ff) = false := by simp; omega
 have w1_ : wrap64 (ff + 1) = ff + 1 := (wrs f0 fl hx9).1
 have w2_ : wrap64 ((q.2.2 : Int) + 1) = (q.2.2 : Int) + 1 := (wrs f0 fl hx9).2.1
 have w3_ : wrap64 (ff - (q.2.2 : Int)) = ff - (q.2.2 : Int) := (wrs f0 fl hx9).2.2
 have h1' := Aside0.mk h1
 have h2' := Aside0.mk h2
 obtain ⟨K, hS⟩ := same_ex (runC_len hq'.out)
 have hS' := Aside0.mk hS
 have hx' := Aside0.mk hx
 clear h1 h2 hS hx f0 fl hx9
 have cM0 : w3.cell? ⟨gM, 0, none⟩ = some (.slice M0 mm.a.length m0_) := (blk_cell bM 0).trans rfl
 have cM1 : w3.cell? ⟨gM, 1, none⟩ = some (.slice M1 mm.b.length m1_) := (blk_cell bM 1).trans rfl
 have cM2 : w3.cell? ⟨gM, 2, none⟩ = some (.slice M2 mm.c.length m2_) := (blk_cell bM 2).trans rfl
 go_wp2_with fail
 clear cM0 cM1 cM2
 refine (codeRun_any M0 M1 M2 m0_ m1_ m2_ mm.a mm.b mm.c PA pc pp (ff + 1) _ (q.1, (0 : Int), q.2.2 + 1) (hE'.out.below (kw.out _ kk)) DM0.out DM1.out DM2.out DP.out hpc.out h1'.out).mono ?_
 rintro e wn ⟨y0, y1, y2, rfl, hY, hb5⟩
 obtain ⟨Y0, y0_, Y1, y1_, Y2, y2_, rfl, rfl, rfl, hj0, hj1, hj2, E0, E1, E2⟩ := mem3_C hY
 clear hY
 replace DM0 := Aside0.mk (Kd.C_below DM0.out hb5)
 replace DM1 := Aside0.mk (Kd.C_below DM1.out hb5)
 replace DM2 := Aside0.mk (Kd.C_below DM2.out hb5)
 replace DP := Aside0.mk (Kd.C_below DP.out hb5)
 replace DX0 := Aside0.mk (Kd.C_below DX0.out hb5)
 replace DX1 := Aside0.mk (Kd.C_below DX1.out hb5)
 replace DX2 := Aside0.mk (Kd.C_below DX2.out hb5)
 replace DS0 := Aside0.mk (Kd.C_below DS0.out hb5)
 replace DS1 := Aside0.mk (Kd.C_below DS1.out hb5)
 replace DS2 := Aside0.mk (Kd.C_below DS2.out hb5)
 replace bM := blk_below bM hb5
 replace bX := blk_below bX hb5
 replace bS := blk_below bS hb5
 replace kk := kk.trans (hb5.mono kk.size)
 clear hb5
 have JY0 := Aside0.mk hj0
 have DY0 := Aside0.mk E0
 have JY1 := Aside0.mk hj1
 have DY1 := Aside0.mk E1
 have JY2 := Aside0.mk hj2
 have DY2 := Aside0.mk E2
 clear hj0 hj1 hj2 E0 E1 E2
 go_upto_region 9 with (fail)
 have k5 : Below wn.heap.size wn (wn.alloc (.cells #[.slice Y0 (q.1, (0 : Int), q.2.2 + 1).1.a.length y0_, .slice Y1 (q.1, (0 : Int), q.2.2 + 1).1.b.length y1_, .slice Y2 (q.1, (0 : Int), q.2.2 + 1).1.c.length y2_] 33)) := (Below.refl _ _).alloc (Nat.le_refl _) _
 have n5 := heap_alloc_new wn (.cells #[.slice Y0 (q.1, (0 : Int), q.2.2 + 1).1.a.length y0_, .slice Y1 (q.1, (0 : Int), q.2.2 + 1).1.b.length y1_, .slice Y2 (q.1, (0 : Int), q.2.2 + 1).1.c.length y2_] 33)
 replace DM0 := Aside0.mk (Kd.C_below DM0.out k5)
 replace DM1 := Aside0.mk (Kd.C_below DM1.out k5)
 replace DM2 := Aside0.mk (Kd.C_below DM2.out k5)
 replace DP := Aside0.mk (Kd.C_below DP.out k5)
 replace DX0 := Aside0.mk (Kd.C_below DX0.out k5)
 replace DX1 := Aside0.mk (Kd.C_below DX1.out k5)
 replace DX2 := Aside0.mk (Kd.C_below DX2.out k5)
 replace DS0 := Aside0.mk (Kd.C_below DS0.out k5)
 replace DS1 := Aside0.mk (Kd.C_below DS1.out k5)
 replace DS2 := Aside0.mk (Kd.C_below DS2.out k5)
 replace DY0 := Aside0.mk (Kd.C_below DY0.out k5)
 replace DY1 := Aside0.mk (Kd.C_below DY1.out k5)
 replace DY2 := Aside0.mk (Kd.C_below DY2.out k5)
 replace bM := blk_below bM k5
 replace bX := blk_below bX k5
 replace bS := blk_below bS k5
 replace kk := kk.trans (k5.mono kk.size)
 clear k5
 have bY := n5
 clear n5
 generalize wn.alloc (Obj.cells _ 33) = w4 at kk bM bX bS bY DM0 DM1 DM2 DP DX0 DX1 DX2 DS0 DS1 DS2 DY0 DY1 DY2 ⊢
 obtain ⟨gY, hgY⟩ : ∃ g, wn.heap.size = g := ⟨_, rfl⟩
 rw [hgY] at bY ⊢
 clear hgY
 have cX0 : w4.cell? ⟨gX, 0, none⟩ = some (.slice X0 q.1.a.length x0_) := (blk_cell bX 0).trans rfl
 have cX1 : w4.cell? ⟨gX, 1, none⟩ = some (.slice X1 q.1.b.length x1_) := (blk_cell bX 1).trans rfl
 have cX2 : w4.cell? ⟨gX, 2, none⟩ = some (.slice X2 q.1.c.length x2_) := (blk_cell bX 2).trans rfl
 have cY0 : w4.cell? ⟨gY, 0, none⟩ = some (.slice Y0 (q.1, (0 : Int), q.2.2 + 1).1.a.length y0_) := (blk_cell bY 0).trans rfl
 have cY1 : w4.cell? ⟨gY, 1, none⟩ = some (.slice Y1 (q.1, (0 : Int), q.2.2 + 1).1.b.length y1_) := (blk_cell bY 1).trans rfl
 have cY2 : w4.cell? ⟨gY, 2, none⟩ = some (.slice Y2 (q.1, (0 : Int), q.2.2 + 1).1.c.length y2_) := (blk_cell bY 2).trans rfl
 go_wp2_with fail
 clear cX0 cX1 cX2
 clear cY0 cY1 cY2
 refine (impl_MemSame.calls K X0 x0_ q.1.a X1 x1_ q.1.b X2 x2_ q.1.c Y0 y0_ q.1.a Y1 y1_ q.1.b Y2 y2_ q.1.c true _ DX0.out JX0.out DX1.out JX1.out DX2.out JX2.out DY0.out JY0.out DY1.out JY1.out DY2.out JY2.out hS'.out).mono ?_
 rintro e wn ⟨rfl, hb5⟩
 replace DM0 := Aside0.mk (Kd.C_below DM0.out hb5)
 replace DM1 := Aside0.mk (Kd.C_below DM1.out hb5)
 replace DM2 := Aside0.mk (Kd.C_below DM2.out hb5)
 replace DP := Aside0.mk (Kd.C_below DP.out hb5)
 replace DX0 := Aside0.mk (Kd.C_below DX0.out hb5)
 replace DX1 := Aside0.mk (Kd.C_below DX1.out hb5)
 replace DX2 := Aside0.mk (Kd.C_below DX2.out hb5)
 replace DS0 := Aside0.mk (Kd.C_below DS0.out hb5)
 replace DS1 := Aside0.mk (Kd.C_below DS1.out hb5)
 replace DS2 := Aside0.mk (Kd.C_below DS2.out hb5)
 replace DY0 := Aside0.mk (Kd.C_below DY0.out hb5)
 replace DY1 := Aside0.mk (Kd.C_below DY1.out hb5)
 replace DY2 := Aside0.mk (Kd.C_below DY2.out hb5)
 replace bM := blk_below bM hb5
 replace bX := blk_below bX hb5
 replace bS := blk_below bS hb5
 replace bY := blk_below bY hb5
 replace kk := kk.trans (hb5.mono kk.size)
 clear hb5
 go_upto_region 11 with (fail)
 have cM0 : wn.cell? ⟨gM, 0, none⟩ = some (.slice M0 mm.a.length m0_) := (blk_cell bM 0).trans rfl
 have cM1 : wn.cell? ⟨gM, 1, none⟩ = some (.slice M1 mm.b.length m1_) := (blk_cell bM 1).trans rfl
 have cM2 : wn.cell? ⟨gM, 2, none⟩ = some (.slice M2 mm.c.length m2_) := (blk_cell bM 2).trans rfl
 go_wp2_with fail
 clear cM0 cM1 cM2
 refine (codeRun_any M0 M1 M2 m0_ m1_ m2_ mm.a mm.b mm.c PA pc pp (ff - (q.2.2 : Int)) _ (q.1, (0 : Int), 0) (hE'.out.below (kw.out _ kk)) DM0.out DM1.out DM2.out DP.out hpc.out h2'.out).mono ?_
 rintro e wn ⟨y0, y1, y2, rfl, hY, hb5⟩
 obtain ⟨Z0, z0_, Z1, z1_, Z2, z2_, rfl, rfl, rfl, hj0, hj1, hj2, E0, E1, E2⟩ := mem3_C hY
 clear hY
 replace DM0 := Aside0.mk (Kd.C_below DM0.out hb5)
 replace DM1 := Aside0.mk (Kd.C_below DM1.out hb5)
 replace DM2 := Aside0.mk (Kd.C_below DM2.out hb5)
 replace DP := Aside0.mk (Kd.C_below DP.out hb5)
 replace DX0 := Aside0.mk (Kd.C_below DX0.out hb5)
 replace DX1 := Aside0.mk (Kd.C_below DX1.out hb5)
 replace DX2 := Aside0.mk (Kd.C_below DX2.out hb5)
 replace DS0 := Aside0.mk (Kd.C_below DS0.out hb5)
 replace DS1 := Aside0.mk (Kd.C_below DS1.out hb5)
 replace DS2 := Aside0.mk (Kd.C_below DS2.out hb5)
 replace DY0 := Aside0.mk (Kd.C_below DY0.out hb5)
 replace DY1 := Aside0.mk (Kd.C_below DY1.out hb5)
 replace DY2 := Aside0.mk (Kd.C_below DY2.out hb5)
 replace bM := blk_below bM hb5
 replace bX := blk_below bX hb5
 replace bS := blk_below bS hb5
 replace bY := blk_below bY hb5
 replace kk := kk.trans (hb5.mono kk.size)
 clear hb5
 have JZ0 := Aside0.mk hj0
 have DZ0 := Aside0.mk E0
 have JZ1 := Aside0.mk hj1
 have DZ1 := Aside0.mk E1
 have JZ2 := Aside0.mk hj2
 have DZ2 := Aside0.mk E2
 clear hj0 hj1 hj2 E0 E1 E2
 go_upto_region 12 with (fail)
 have k5 : Below wn.heap.size wn (wn.alloc (.cells #[.slice Z0 (q.1, (0 : Int), 0).1.a.length z0_, .slice Z1 (q.1, (0 : Int), 0).1.b.length z1_, .slice Z2 (q.1, (0 : Int), 0).1.c.length z2_] 33)) := (Below.refl _ _).alloc (Nat.le_refl _) _
 have n5 := heap_alloc_new wn (.cells #[.slice Z0 (q.1, (0 : Int), 0).1.a.length z0_, .slice Z1 (q.1, (0 : Int), 0).1.b.length z1_, .slice Z2 (q.1, (0 : Int), 0).1.c.length z2_] 33)
 replace DM0 := Aside0.mk (Kd.C_below DM0.out k5)
 replace DM1 := Aside0.mk (Kd.C_below DM1.out k5)
 replace DM2 := Aside0.mk (Kd.C_below DM2.out k5)
 replace DP := Aside0.mk (Kd.C_below DP.out k5)
 replace DX0 := Aside0.mk (Kd.C_below DX0.out k5)
 replace DX1 := Aside0.mk (Kd.C_below DX1.out k5)
 replace DX2 := Aside0.mk (Kd.C_below DX2.out k5)
 replace DS0 := Aside0.mk (Kd.C_below DS0.out k5)
 replace DS1 := Aside0.mk (Kd.C_below DS1.out k5)
 replace DS2 := Aside0.mk (Kd.C_below DS2.out k5)
 replace DY0 := Aside0.mk (Kd.C_below DY0.out k5)
 replace DY1 := Aside0.mk (Kd.C_below DY1.out k5)
 replace DY2 := Aside0.mk (Kd.C_below DY2.out k5)
 replace DZ0 := Aside0.mk (Kd.C_below DZ0.out k5)
 replace DZ1 := Aside0.mk (Kd.C_below DZ1.out k5)
 replace DZ2 := Aside0.mk (Kd.C_below DZ2.out k5)
 replace bM := blk_below bM k5
 replace bX := blk_below bX k5
 replace bS := blk_below bS k5
 replace bY := blk_below bY k5
 replace kk := kk.trans (k5.mono kk.size)
 clear k5
 have bZ := n5
 clear n5
 generalize wn.alloc (Obj.cells _ 33) = w5 at kk bM bX bS bY bZ DM0 DM1 DM2 DP DX0 DX1 DX2 DS0 DS1 DS2 DY0 DY1 DY2 DZ0 DZ1 DZ2 ⊢
 obtain ⟨gZ, hgZ⟩ : ∃ g, wn.heap.size = g := ⟨_, rfl⟩
 rw [hgZ] at bZ ⊢
 clear hgZ
 have cZ0 : w5.cell? ⟨gZ, 0, none⟩ = some (.slice Z0 (q.1, (0 : Int), 0).1.a.length z0_) := (blk_cell bZ 0).trans rfl
 have cZ1 : w5.cell? ⟨gZ, 1, none⟩ = some (.slice Z1 (q.1, (0 : Int), 0).1.b.length z1_) := (blk_cell bZ 1).trans rfl
 have cZ2 : w5.cell? ⟨gZ, 2, none⟩ = some (.slice Z2 (q.1, (0 : Int), 0).1.c.length z2_) := (blk_cell bZ 2).trans rfl
 have cX0 : w5.cell? ⟨gX, 0, none⟩ = some (.slice X0 q.1.a.length x0_) := (blk_cell bX 0).trans rfl
 have cX1 : w5.cell? ⟨gX, 1, none⟩ = some (.slice X1 q.1.b.length x1_) := (blk_cell bX 1).trans rfl
 have cX2 : w5.cell? ⟨gX, 2, none⟩ = some (.slice X2 q.1.c.length x2_) := (blk_cell bX 2).trans rfl
 go_wp2_with fail
 clear cZ0 cZ1 cZ2
 clear cX0 cX1 cX2
 refine (impl_MemSame.calls K Z0 z0_ q.1.a Z1 z1_ q.1.b Z2 z2_ q.1.c X0 x0_ q.1.a X1 x1_ q.1.b X2 x2_ q.1.c true _ DZ0.out JZ0.out DZ1.out JZ1.out DZ2.out JZ2.out DX0.out JX0.out DX1.out JX1.out DX2.out JX2.out hS'.out).mono ?_
 rintro e wn ⟨rfl, hb5⟩
 replace DM0 := Aside0.mk (Kd.C_below DM0.out hb5)
 replace DM1 := Aside0.mk (Kd.C_below DM1.out hb5)
 replace DM2 := Aside0.mk (Kd.C_below DM2.out hb5)
 replace DP := Aside0.mk (Kd.C_below DP.out hb5)
 replace DX0 := Aside0.mk (Kd.C_below DX0.out hb5)
 replace DX1 := Aside0.mk (Kd.C_below DX1.out hb5)
 replace DX2 := Aside0.mk (Kd.C_below DX2.out hb5)
 replace DS0 := Aside0.mk (Kd.C_below DS0.out hb5)
 replace DS1 := Aside0.mk (Kd.C_below DS1.out hb5)
 replace DS2 := Aside0.mk (Kd.C_below DS2.out hb5)
 replace DY0 := Aside0.mk (Kd.C_below DY0.out hb5)
 replace DY1 := Aside0.mk (Kd.C_below DY1.out hb5)
 replace DY2 := Aside0.mk (Kd.C_below DY2.out hb5)
 replace DZ0 := Aside0.mk (Kd.C_below DZ0.out hb5)
 replace DZ1 := Aside0.mk (Kd.C_below DZ1.out hb5)
 replace DZ2 := Aside0.mk (Kd.C_below DZ2.out hb5)
 replace bM := blk_below bM hb5
 replace bX := blk_below bX hb5
 replace bS := blk_below bS hb5
 replace bY := blk_below bY hb5
 replace bZ := blk_below bZ hb5
 replace kk := kk.trans (hb5.mono kk.size)
 clear hb5
 go_wp2
 go_ret
 exact ⟨rfl, kw.out _ kk⟩
end Go.Proofs.YtjamfddhcigchaaGreatDoor.Fa
namespace Go.Proofs.YtjamfddhcigchaaGreatDoor.Fb
open Go.RowKit Go.ChangeShapes Go.Stop Go.Proofs.YtjamfddhcigchaaGreatDoor.Gm Go.Proofs.YtjamfddhcigchaaGreatDoor.Gn Go.Proofs.YtjamfddhcigchaaGreatDoor.Gz Go.Proofs.YtjamfddhcigchaaGreatDoor.Gq Go.Proofs.YtjamfddhcigchaaGreatDoor.Hj Go.Proofs.YtjamfddhcigchaaGreatDoor.Hm Go.Proofs.YtjamfddhcigchaaGreatDoor.Hn Go.Proofs.YtjamfddhcigchaaGreatDoor.Hq Go.Proofs.YtjamfddhcigchaaGreatDoor.Hu Go.Proofs.YtjamfddhcigchaaGreatDoor.Hv Go.Proofs.YtjamfddhcigchaaGreatDoor.Ho Go.Proofs.YtjamfddhcigchaaGreatDoor.Hc Go.Proofs.YtjamfddhcigchaaGreatDoor.Hp Go.Proofs.YtjamfddhcigchaaGreatDoor.Hx Go.Proofs.YtjamfddhcigchaaGreatDoor.HFnCodeRun Go.Proofs.YtjamfddhcigchaaGreatDoor.Hy Go.Proofs.YtjamfddhcigchaaGreatDoorW.PrintWords Go.Proofs.YtjamfddhcigchaaGreatDoorW.PrintLast Go.Proofs.YtjamfddhcigchaaGreatDoorW.PrintMore
set_option linter.unusedVariables false
set_option linter.unusedSimpArgs false
theorem row170 (u : TypeId) (h : Tryz.prog.typeName? 3 u = some "*errors.errorString") : u = 170 :=
 typeName_ptr_named (nm := "errors.errorString") (by rw [show "*" ++ "errors.errorString" = "*errors.errorString" by decide]; kernel_rfl) (by kernel_rfl) (by decide) u (by rw [show "*" ++ "errors.errorString" = "*errors.errorString" by decide]; exact h)
theorem le_of {r : List (String × DataW Unit)} (W : World) (h : laidMet Tryz.prog (("loop.example/stopgate/impl.errLong", .iface "*errors.errorString" (.ptr (.agg [.lit (.string [116, 97, 107, 101, 115, 32, 116, 111, 111, 32, 108, 111, 110, 103])]))) :: r) W) : LE W := by
 have hg : Tryz.prog.globalNamed "loop.example/stopgate/impl.errLong" = some 0 := by kernel_rfl
 obtain ⟨a, s, hv, -⟩ := laid_sentinel h hg (show (Tryz.prog.globals[0]?).map (·.type) = some 72 by kernel_rfl) Tryz.underlying72 row170 Tryz.underlying170 Tryz.underlying195 rfl rfl Tryz.underlying9 (by kernel_rfl) (by kernel_rfl)
 exact ⟨a, by simpa using World.var?_cell hg hv 0⟩
theorem walk (A0 : Option Addr) (c0 : Nat) (l0 : List Int) (w : World) (hr0 : Kd.C (Kd.int .u8) w A0 l0.length l0) (hc0 : l0.length ≤ c0) (hE : LE w) (hw : ∀ x ∈ l0, (Lit.int .u8 x).wf = true) :
  Calls Tryz.prog 6 #[.slice A0 l0.length c0] w fun e w' => e = .returned (.bool true) ∧ Below w.heap.size w w' := by
 by_cases hlen : 1048576 < l0.length
 ·exact Fa.long_any A0 c0 l0 w hlen
 exact Fa.law_any A0 c0 l0 w (by omega) hr0 hc0 hE (byt_of hw)
theorem walkRow (a0 : Option Addr) (len0 cap0 : Nat) (z0 : List Int) (w : World) (w0 : (a0 = none ∧ len0 = 0 ∧ cap0 = 0 ∧ z0 = []) ∨ ∃ x, a0 = some x ∧ len0 ≤ cap0 ∧ cap0 ≤ maxLen ∧ z0.length = cap0 ∧ (∀ i, i < z0.length → w.cell? (x.add i) = some (.int .u8 (z0.getD i 0))) ∧ ∀ n ∈ z0, (Lit.int .u8 n).wf = true) (hE : LE w) :
  Calls Tryz.prog 6 #[.slice a0 len0 cap0] w fun e w' => e = .returned (.bool true) ∧ Below w.heap.size w w' := by
 obtain ⟨l0, rfl, hr0, hm0, hw0, hc0⟩ := ReadsInt.ofRowC w0
 exact walk _ _ l0 w (Kd.C_of_reads (d := (0 : Int)) (h1 := fun _ => rfl) hr0) hc0 hE hw0
end Go.Proofs.YtjamfddhcigchaaGreatDoor.Fb
namespace Go.Proofs.YtjamfddhcigchaaGreatDoor.fnCodeFuel
open Go.ChangeShapes Go.WideShapes Go.ChangeAt Go.RowKit Go.Joins
open Go.ChangeMaps (open_string shut_string)
set_option linter.unusedVariables false
set_option linter.unusedSimpArgs false
theorem blk_same {w w' : World} {g : Nat} {o : Obj} (h : w.heap[g]? = some o) (k : Below w.heap.size w w') : w'.heap[g]? = some o := Go.Proofs.YtjamfddhcigchaaGreatDoorW.PrintWords.blk_below h k
theorem own : ownKnob Tryz.prog.godebug = none := by kernel_rfl
theorem laidOut : laidOutB Tryz.prog = true := by kernel_rfl
def IsRow (k : IntKind) (w : World) (a : Option Addr) (len cap : Nat) (zs : List Int) : Prop :=
  (a = none ∧ len = 0 ∧ cap = 0 ∧ zs = []) ∨
  ∃ x, a = some x ∧ len ≤ cap ∧ cap ≤ maxLen ∧ zs.length = cap ∧ (∀ i, i < zs.length → w.cell? (x.add i) = some (.int k (zs.getD i 0))) ∧ ∀ n ∈ zs, (Lit.int k n).wf = true
set_option maxRecDepth 100000 in
theorem door_met (os : Os) (args : Array Value) : laidMetH Tryz.prog Rows.fnCodeFuelRow.laid ((World.doorLaid Tryz.prog 400 os).forCall (fun _ _ => 0) ⟨#[], args, []⟩).memory :=
  laidMetH_of_parts3 (fuel := 8) (laidMet_of_run' 8 (by kernel_rfl) (by kernel_rfl)) (by kernel_rfl) (by kernel_rfl)
set_option maxRecDepth 100000 in
theorem lifted (os : Os) (started : os.Started) (H : Type) (enc : TypeId × Value → H) :
    ReturnsInHanded {} Tryz.checked os 6 .any (fun w args => (Rows.fnCodeFuelSpec.pre enc Tryz.prog Tryz.f6 [] false w args ∧ laidMetH Tryz.prog Rows.fnCodeFuelRow.laid w) ∧ sizedMet enc Tryz.prog Tryz.f6 (OpenSpec.ofChange Rows.fnCodeFuelSpec) false w args) (Rows.fnCodeFuelSpec.post enc Tryz.prog Tryz.f6 false true false false) := by
  refine returnsInHanded_of_change_and (C := Tryz.checked) (X := fun w _ => laidMetH Tryz.prog Rows.fnCodeFuelRow.laid w) (fun _ _ _ hh h => h.of_heap hh) own started (by kernel_rfl) Tryz.func6
    (ChangeSpec.witness_shaped (enc := enc) (C := Tryz.checked) (os := os) (X := fun w _ => laidMetH Tryz.prog Rows.fnCodeFuelRow.laid w) false (World.doorLaid Tryz.prog 400 os) #[.slice none 0 0] 8 rfl (World.shaped_of_RefB (by kernel_rfl) (by kernel_rfl)) (by kernel_rfl) (by kernel_rfl) (by kernel_rfl) (door_met os _)) ?_
  intro W base args ds gs before hval0 hW hcnd hsz0 hL _
  have hsz : (DataW.weightsEach Tryz.prog (Tryz.f6.params.toList ++ Rows.fnCodeFuelSpec.plain.varTypes Tryz.prog) (ds ++ gs)).all (· ≤ reachBytes) = true := hsz0
  have hval : ∀ (j : Nat) t v, Tryz.f6.params[j]? = some t → args[j]? = some v → Value.okWide Tryz.prog W .any base t v := hval0
  have hW' := hW
  obtain ⟨p, q, hA0, hV, rfl, hfz, hnd⟩ := hW
  have hA : DataW.TrodAll enc Tryz.prog W 0 (fun _ => true) true Tryz.f6.params.toList args.toList ds p := hA0
  rw [Tryz.params6] at hA hval hsz
  obtain ⟨v0, vs0, d0, ds0, p0, q0, hargs, rfl, rfl, h0, r0⟩ := trodAll_cons hA
  obtain ⟨rfl, rfl, rfl⟩ := trodAll_nil r0
  obtain rfl : args = #[v0] := by cases args; simp_all
  have hV1 : DataW.TrodVars enc Tryz.prog W (fun _ => true) ["loop.example/stopgate/impl.errLong"] gs q := hV
  obtain ⟨gV, tV, csV, fuV, dV, pV, rfl, hgV, htV, hvarV, hdV, rfl⟩ := trodVars_one hV1
  obtain rfl : 0 = gV := Option.some.inj ((show Tryz.prog.globalNamed "loop.example/stopgate/impl.errLong" = some 0 by kernel_rfl).symm.trans hgV)
  obtain rfl : 72 = tV := Option.some.inj ((show (Tryz.prog.globals[0]?).map (·.type) = some 72 by kernel_rfl).symm.trans htV)
  obtain ⟨oldV, hcsV, hoV, hxV⟩ := held_of_trod_list Tryz.underlying72 hdV
  simp only [Prod.mk.injEq] at hxV
  obtain ⟨rfl, rfl⟩ := hxV
  obtain rfl : csV = #[oldV] := by cases csV; simp_all
  have hvars : ∀ (W' : World), Below W.heap.size W W' → ∀ sp : Nat → Bool, DataW.TrodVars enc Tryz.prog W' sp ["loop.example/stopgate/impl.errLong"] [tok enc oldV] (MemPlace.row ⟨0, 0, none⟩ (#[oldV] : Array Value).size ++ []) := fun W' bel sp => by
    refine trodVars_mk1 (enc := enc) (spare := sp) (fuel := 1) (d := tok enc oldV) (p := []) hgV htV ?_ (trod_held Tryz.underlying72 hoV 0)
    have hv := hvarV
    unfold World.var? at hv ⊢
    rw [hgV] at hv ⊢
    simp only [Option.bind_some] at hv ⊢
    cases hh : W.heap[0]? with
    | none => rw [hh] at hv; cases hv
    | some o => rw [blk_same hh bel, ← hh]; exact hv
  have k0 := h0
  have lt0 : ∀ x ∈ p0, x.block < W.heap.size := by obtain ⟨m, hm⟩ := k0; exact DataW.trod_lt m _ _ _ hm
  clear hA0 hval0 hsz0
  suffices hfin : Calls Tryz.prog 6 #[v0] W fun e w' => e = .returned (.bool true) ∧ Below W.heap.size W w' by
    refine hfin.mono fun e W' ⟨he, bel⟩ => ?_
    subst he
    exact ⟨_, rfl, _, _, _, [], _, _, hW', trodAll_mk1 (shut_bool Tryz.underlying4 _), (trodAll_cons_mk (Below.trod laidOut (by kernel_rfl) (of_decide_eq_true (by kernel_rfl)) k0 bel lt0) trodAll_mk0), hvars _ bel _, bel.frame _, fun h => by cases h⟩
  obtain ⟨a0, len0, cap0, rfl⟩ := okWide_slice Tryz.underlying22 (hval 0 22 v0 rfl rfl)
  have y0 : len0 * 1 ≤ 140737488351232 := Go.Proofs.YtjamfddhcigchaaGreatDoorW.PrintWords.sized_ints hsz (j := 0) (t := 22) rfl rfl Tryz.underlying22 Tryz.underlying5 (by kernel_rfl) (by kernel_rfl) h0
  obtain ⟨z0, w0⟩ : ∃ zs, IsRow .u8 W a0 len0 cap0 zs := by
    obtain ⟨fuel, hf⟩ := h0
    rcases open_ints Tryz.underlying22 Tryz.underlying5 (by kernel_rfl) hf with ⟨hcs, _⟩ | ⟨x, l, c, zs, hcs, _, hl, hm, hz, _, hcell, hwz⟩
    · simp [Value.cells] at hcs
      obtain ⟨rfl, rfl, rfl⟩ := hcs
      exact ⟨[], .inl ⟨rfl, rfl, rfl, rfl⟩⟩
    · simp [Value.cells] at hcs
      obtain ⟨rfl, rfl, rfl⟩ := hcs
      exact ⟨zs, .inr ⟨_, rfl, hl, hm, by simpa using hz, hcell, hwz⟩⟩
  have hL1 : laidMet Tryz.prog Rows.fnCodeFuelRow.laid W := hL
  exact Fb.walkRow a0 len0 cap0 z0 W w0 (Fb.le_of (r := []) W hL1)
theorem over : Rows.fnCodeFuelRow.holds Tryz.pinned (OpenSpec.ofChange Rows.fnCodeFuelSpec) :=
  OpenClaim.holds_of_wide 6 Tryz.f6 rfl rfl rfl rfl rfl rfl rfl ⟨rfl, rfl, rfl, rfl, rfl⟩ rfl rfl rfl rfl rfl (by kernel_rfl) Tryz.func6 (by kernel_rfl)
    (of_decide_eq_true (by kernel_rfl)) (by unfold Func.isWrapper; first | (rw [if_pos (by decide +kernel)]; kernel_rfl) | (rw [if_neg (by decide +kernel)]; exact ⟨rfl, rfl⟩))
    (fun os started H enc _ => lifted os started H enc)
theorem card_holds : Rows.FnCodeFuelCardSaid :=
  Claim7.holds_tied_plain_at .later [] [.sentinel] true (true, "8e2eed3da5832f03801593413d0d97074931c9fe972dc2260191ac3ee88f37b4") true
    over (fun _ h => by cases h) (by kernel_rfl) (fun _ h => by cases h) fnCodeFuel_row_tie rfl ⟨rfl, rfl⟩ (by kernel_rfl) rfl
    (fun f fn hf hfn => by
      obtain rfl : f = 6 := Option.some.inj ((show Tryz.prog.funcNamed "loop.example/stopgate/laws.FnCodeFuel" = some 6 by kernel_rfl).symm.trans hf) |>.symm
      obtain rfl : fn = Tryz.f6 := (Option.some.inj (Tryz.func6.symm.trans hfn)).symm
      exact ⟨by kernel_rfl, fun j t ht => by
        rw [Tryz.params6] at ht
        have hm : t ∈ [22] := by simpa using Array.mem_of_getElem? ht
        have hall : ([22].all fun u => !Tryz.prog.wantsStandIn u) = true := by kernel_rfl
        exact (show Tryz.prog.wantsStandIn t = false by simpa using List.all_eq_true.1 hall t hm)⟩)
    (by kernel_rfl)
end Go.Proofs.YtjamfddhcigchaaGreatDoor.fnCodeFuel
namespace Go.Proofs.YtjamfddhcigchaaGreatDoor
theorem fnCodeFuelCard_holds : Rows.FnCodeFuelCardSaid := fnCodeFuel.card_holds
#print axioms fnCodeFuelCard_holds
end Go.Proofs.YtjamfddhcigchaaGreatDoor
