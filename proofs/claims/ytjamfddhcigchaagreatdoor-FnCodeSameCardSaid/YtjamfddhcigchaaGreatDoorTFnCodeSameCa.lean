/- The law FnCodeSame, walked: it answers true. The variable errLong holds a pointer. No other condition. -/
import Derived.Test.YtjamfddhcigchaaGreatDoorTFnCodeSameHo
import Derived.Test.YtjamfddhcigchaaGreatDoorTFnCodeSameHa
import Derived.Test.YtjamfddhcigchaaGreatDoorTFnCodeSameDa
import Derived.Test.YtjamfddhcigchaaGreatDoorTFnCodeSameCc
namespace Go.Proofs.YtjamfddhcigchaaGreatDoor.Ca
open Go.RowKit  Go.Proofs.YtjamfddhcigchaaGreatDoor.Gm Go.Proofs.YtjamfddhcigchaaGreatDoor.Gn Go.Proofs.YtjamfddhcigchaaGreatDoor.Gz Go.Proofs.YtjamfddhcigchaaGreatDoor.Gq Go.Proofs.YtjamfddhcigchaaGreatDoor.Hj Go.Proofs.YtjamfddhcigchaaGreatDoor.Hm Go.Proofs.YtjamfddhcigchaaGreatDoor.Hn Go.Proofs.YtjamfddhcigchaaGreatDoor.Hq Go.Proofs.YtjamfddhcigchaaGreatDoor.Hu Go.Proofs.YtjamfddhcigchaaGreatDoor.Hv Go.Proofs.YtjamfddhcigchaaGreatDoor.Ho Go.Proofs.YtjamfddhcigchaaGreatDoor.Hc Go.Proofs.YtjamfddhcigchaaGreatDoor.Hp Go.Proofs.YtjamfddhcigchaaGreatDoor.Hx Go.Proofs.YtjamfddhcigchaaGreatDoor.HFnCodeSame Go.Proofs.YtjamfddhcigchaaGreatDoor.Cc Go.Proofs.YtjamfddhcigchaaGreatDoorW.PrintWords Go.Proofs.YtjamfddhcigchaaGreatDoorW.PrintLast Go.Proofs.YtjamfddhcigchaaGreatDoorW.PrintMore
set_option linter.unusedVariables false
set_option linter.unusedSimpArgs false
theorem mem3_C {w w' : World} {v0 v1 v2 : Value} {a b c : List Int} (h : Mem3 w w' v0 v1 v2 a b c) : ∃ A0 c0 A1 c1 A2 c2, v0 = .slice A0 a.length c0 ∧ v1 = .slice A1 b.length c1 ∧ v2 = .slice A2 c.length c2 ∧ a.length ≤ c0 ∧ b.length ≤ c1 ∧ c.length ≤ c2 ∧ Kd.C (Kd.int .i64) w' A0 a.length a ∧ Kd.C (Kd.int .i64) w' A1 b.length b ∧ Kd.C (Kd.int .i64) w' A2 c.length c := by
 obtain ⟨A0, c0, e0, h0, r0⟩ := Kd.R_reads h.1
 obtain ⟨A1, c1, e1, h1, r1⟩ := Kd.R_reads h.2.1
 obtain ⟨A2, c2, e2, h2, r2⟩ := Kd.R_reads h.2.2
 exact ⟨A0, c0, A1, c1, A2, c2, e0, e1, e2, h0, h1, h2, r0, r1, r2⟩
set_option maxRecDepth 100000 in
set_option maxHeartbeats 6400000 in
theorem long_any (A0 : Option Addr) (c0 : Nat) (l0 : List Int) (w : World) (hlen : 1048576 < l0.length) :
  Calls Tryz.prog 3 #[.slice A0 l0.length c0] w fun e w' => e = .returned (.bool true) ∧ Below w.heap.size w w' := by
 have d : decide ((l0.length : Int) > 1048576) = true := by simp; omega
 have d' : decide ((1048576 : Int) < (l0.length : Int)) = true := by simp; omega
 clear hlen
 go_enter Tryz.func3, Tryz.ntmps3
 go_wp2
 go_ret
 exact ⟨rfl, Below.refl _ _⟩
set_option maxRecDepth 100000 in
set_option maxHeartbeats 6400000 in
theorem law_A (A0 : Option Addr) (c0 : Nat) (l0 : List Int) (w : World) (hlen : l0.length ≤ 1048576) (hr0 : Kd.C (Kd.int .u8) w A0 l0.length l0) (hc0 : l0.length ≤ c0) (hE : LE w) (a : List S30) (hal : a.length ≤ 1000000)
  (hD : Calls Tryz.prog 8 #[.slice A0 l0.length c0] w fun e w' => ∃ v0 v1, e = .returned (.tuple #[v0, v1]) ∧ Kd.R k30 30 w' w.heap.size (fun _ => True) v0 a ∧ Kd.R k30 30 w' w.heap.size (fun _ => True) v1 a ∧ Below w.heap.size w w') (K : Nat)
  (h1 : impl_CodeSame.f K a a = some true) (h2 : spec_CodeSame.f K a a = some true) (h3 : impl_CodeSame.f K a a = some true) (h4 : impl_CodeSame.f K a a = some true)
  (hby : Byt l0) :
  Calls Tryz.prog 3 #[.slice A0 l0.length c0] w fun e w' => e = .returned (.bool true) ∧ Below w.heap.size w w' := by
 have hu33 := Tryz.underlying33
 have hu30 := Tryz.underlying30
 have d : decide ((l0.length : Int) > 1048576) = false := by simp; omega
 have d' : decide ((1048576 : Int) < (l0.length : Int)) = false := by simp; omega
 have hr := Aside0.mk hr0
 have hc := Aside0.mk hc0
 have hal' := Aside0.mk hal
 clear hr0 hc0 hlen hal
 go_enter Tryz.func3, Tryz.ntmps3
 go_wp2_with fail
 refine hD.mono ?_
 rintro e w1 ⟨v0, v1, rfl, r0, r1, kb⟩
 obtain ⟨A, ca, rfl, hca, CA⟩ := Kd.R_reads r0
 obtain ⟨B, cb, rfl, hcb, CB⟩ := Kd.R_reads r1
 have CA' := Aside0.mk CA
 have CB' := Aside0.mk CB
 have hca' := Aside0.mk hca
 have hcb' := Aside0.mk hcb
 have k1 := Aside0.mk (Below.refl w1.heap.size w1)
 have kb' := Aside0.mk kb
 clear hD r0 r1 CA CB hca hcb kb
 have kw : Aside0 (∀ W, Below w1.heap.size w1 W → Below w.heap.size w W) := ⟨fun W k => kb'.out.trans (k.mono kb'.out.size)⟩
 have kk := k1.out
 go_wp2_with fail
 refine (impl_CodeSame.calls K A ca a B cb a true _ (Kd.C_below CA'.out kk) hca'.out (Kd.C_below CB'.out kk) hcb'.out h1).mono ?_
 rintro e wn ⟨rfl, hd⟩
 replace kk := kk.trans (hd.below.mono kk.size)
 clear hd
 go_wp2_with fail
 refine (spec_CodeSame.calls K A ca a B cb a true _ (Kd.C_below CA'.out kk) hca'.out (Kd.C_below CB'.out kk) hcb'.out h2).mono ?_
 rintro e wn ⟨rfl, hd⟩
 replace kk := kk.trans (hd.below.mono kk.size)
 clear hd
 go_wp2_with fail
 refine (impl_CodeSame.calls K A ca a A ca a true _ (Kd.C_below CA'.out kk) hca'.out (Kd.C_below CA'.out kk) hca'.out h3).mono ?_
 rintro e wn ⟨rfl, hd⟩
 replace kk := kk.trans (hd.below.mono kk.size)
 clear hd
 go_wp2_with fail
 refine (impl_CodeSame.calls K B cb a A ca a true _ (Kd.C_below CB'.out kk) hcb'.out (Kd.C_below CA'.out kk) hca'.out h4).mono ?_
 rintro e wn ⟨rfl, hd⟩
 replace kk := kk.trans (hd.below.mono kk.size)
 clear hd
 clear h1 h2 h3 h4
 go_wp2_with fail
 have kk' := Aside0.mk kk
 clear kk
 go_loopw [6, 7] (fun va vi wr => ∃ j : Nat, j ≤ a.length ∧ va = .bool true ∧ vi = .int .i64 (j : Int) ∧ Aside0 (Below w1.heap.size w1 wr)) (fun _ vi _ => a.length - (intOf vi).toNat)
 case atStart => exact ⟨0, by omega, by simp, rfl, kk'⟩
 case round =>
  clear kk'
  obtain ⟨j, hj, rfl, rfl, kk⟩ := hrel
  by_cases hjn : j < a.length
  ·have d2 : decide (j < a.length) = true := by simpa using hjn
   obtain ⟨ad, hA, e0, e1, e2, e3⟩ := at_T30 (Kd.C_below CA'.out kk.out) (j : Int) (by omega) (by omega)
   subst hA
   obtain ⟨bd, hB, f0, f1, f2, f3⟩ := at_T30 (Kd.C_below CB'.out kk.out) (j : Int) (by omega) (by omega)
   subst hB
   rw [Int.toNat_natCast] at e0 e1 e2 e3 f0 f1 f2 f3
   generalize rd_T30 a (j : Int) = ins at e0 e1 e2 e3 f0 f1 f2 f3
   have w1_ : wrap64 ((j : Int) + 1) = ((j + 1 : Nat) : Int) := by have := hal'.out; unfold wrap64; omega
   go_wp2
   repeat (go_quiet (fail); try go_wp2)
   rw [w1_]
   refine ⟨⟨j + 1, by omega, by simp, rfl, ⟨by repeat (first | exact kk.out | apply below_alloc | apply pw_below_drewN | apply below_drew1)⟩⟩, ?_⟩
   simp only [intOf]
   omega
  ·have d2 : decide (j < a.length) = false := by simpa using hjn
   clear hj hjn
   have kk := kk.out
   go_wp2_with fail
   refine (Da.drawRun_any _ c0 l0 _ (Kd.C_below hr.out (kw.out _ kk)) hc.out hby).mono ?_
   rintro e wm ⟨u0, u1, u2, u3, pp, ff, rfl, hm0, hm1, hm2, -, -, -, hd⟩
   replace kk := kk.trans (hd.mono kk.size)
   clear hd
   obtain ⟨m0, M0, x0, rfl, hx0, D0⟩ := hm0.C
   obtain ⟨m1, M1, x1, rfl, hx1, D1⟩ := hm1.C
   obtain ⟨m2, M2, x2, rfl, hx2, D2⟩ := hm2.C
   obtain ⟨q1, hq1⟩ := runC_total ⟨m0, m1, m2⟩ a 20
   have hS := memSame_self q1.1.a q1.1.b q1.1.c (runC_len hq1).1 (runC_len hq1).2.1 (runC_len hq1).2.2 0
   have D0' := Aside0.mk D0
   have D1' := Aside0.mk D1
   have D2' := Aside0.mk D2
   have hE' := Aside0.mk hE
   have kn := Aside0.mk (Below.refl wm.heap.size wm)
   clear hm0 hm1 hm2 D0 D1 D2 hx0 hx1 hx2
   obtain ⟨u3', hu3'⟩ : ∃ z, z = u3 := ⟨_, rfl⟩
   clear hu3' u3'
   have kf : Aside0 (∀ W, Below wm.heap.size wm W → Below w1.heap.size w1 W) := ⟨fun W k => kk.trans (k.mono kk.size)⟩
   clear kk
   clear kn
   go_wp2_with fail
   have hq1' := Aside0.mk hq1
   have kk : Below wm.heap.size wm (wm.alloc (.cells #[.slice M0 m0.length x0, .slice M1 m1.length x1, .slice M2 m2.length x2] 33)) := (Below.refl _ _).alloc (Nat.le_refl _) _
   have b8 := heap_alloc_new wm (.cells #[.slice M0 m0.length x0, .slice M1 m1.length x1, .slice M2 m2.length x2] 33)
   generalize wm.alloc (Obj.cells _ 33) = w4 at kk b8 ⊢
   obtain ⟨g8, hg8⟩ : ∃ g, wm.heap.size = g := ⟨_, rfl⟩
   rw [hg8] at b8 ⊢
   refine (codeRun_any M0 M1 M2 x0 x1 x2 m0 m1 m2 A ca a 20 _ q1 (hE'.out.below (kw.out _ (kf.out _ kk))) (Kd.C_below D0'.out kk) (Kd.C_below D1'.out kk) (Kd.C_below D2'.out kk) (Kd.C_below CA'.out (kf.out _ kk)) hca'.out hq1).mono ?_
   rintro e w5 ⟨y0, y1, y2, rfl, hY, hb5⟩
   obtain ⟨Y0, i0, Y1, i1, Y2, i2, rfl, rfl, rfl, j0, j1, j2, E0, E1, E2⟩ := mem3_C hY
   have E0' := Aside0.mk E0
   have E1' := Aside0.mk E1
   have E2' := Aside0.mk E2
   have j0' := Aside0.mk j0
   have j1' := Aside0.mk j1
   have j2' := Aside0.mk j2
   replace b8 := blk_below b8 hb5
   replace kk := kk.trans (hb5.mono kk.size)
   clear hb5 hY E0 E1 E2 j0 j1 j2 hq1
   go_upto_region 14 with (fail)
   have k5 : Below w5.heap.size w5 (w5.alloc (.cells #[.slice Y0 q1.1.a.length i0, .slice Y1 q1.1.b.length i1, .slice Y2 q1.1.c.length i2] 33)) := (Below.refl _ _).alloc (Nat.le_refl _) _
   have b11 := heap_alloc_new w5 (.cells #[.slice Y0 q1.1.a.length i0, .slice Y1 q1.1.b.length i1, .slice Y2 q1.1.c.length i2] 33)
   replace b8 := blk_below b8 k5
   replace kk := kk.trans (k5.mono kk.size)
   replace E0' := Aside0.mk (Kd.C_below E0'.out k5)
   replace E1' := Aside0.mk (Kd.C_below E1'.out k5)
   replace E2' := Aside0.mk (Kd.C_below E2'.out k5)
   clear k5
   generalize w5.alloc (Obj.cells _ 33) = w6 at kk b8 b11 E0' E1' E2' ⊢
   generalize w5.heap.size = g11 at b11 ⊢
   have c80 : w6.cell? ⟨g8, 0, none⟩ = some (.slice M0 m0.length x0) := (blk_cell b8 0).trans rfl
   have c81 : w6.cell? ⟨g8, 1, none⟩ = some (.slice M1 m1.length x1) := (blk_cell b8 1).trans rfl
   have c82 : w6.cell? ⟨g8, 2, none⟩ = some (.slice M2 m2.length x2) := (blk_cell b8 2).trans rfl
   go_wp2_with fail
   clear c80 c81 c82 b8
   refine (codeRun_any M0 M1 M2 x0 x1 x2 m0 m1 m2 B cb a 20 _ q1 (hE'.out.below (kw.out _ (kf.out _ kk))) (Kd.C_below D0'.out kk) (Kd.C_below D1'.out kk) (Kd.C_below D2'.out kk) (Kd.C_below CB'.out (kf.out _ kk)) hcb'.out hq1'.out).mono ?_
   rintro e w7 ⟨y0, y1, y2, rfl, hY, hb5⟩
   obtain ⟨Z0, n0, Z1, n1, Z2, n2, rfl, rfl, rfl, m0_, m1_, m2_, F0, F1, F2⟩ := mem3_C hY
   have F0' := Aside0.mk F0
   have F1' := Aside0.mk F1
   have F2' := Aside0.mk F2
   have m0' := Aside0.mk m0_
   have m1' := Aside0.mk m1_
   have m2' := Aside0.mk m2_
   replace b11 := blk_below b11 hb5
   replace kk := kk.trans (hb5.mono kk.size)
   replace E0' := Aside0.mk (Kd.C_below E0'.out hb5)
   replace E1' := Aside0.mk (Kd.C_below E1'.out hb5)
   replace E2' := Aside0.mk (Kd.C_below E2'.out hb5)
   clear hb5 hY F0 F1 F2 m0_ m1_ m2_
   go_upto_region 15 with (fail)
   have k5 : Below w7.heap.size w7 (w7.alloc (.cells #[.slice Z0 q1.1.a.length n0, .slice Z1 q1.1.b.length n1, .slice Z2 q1.1.c.length n2] 33)) := (Below.refl _ _).alloc (Nat.le_refl _) _
   have b14 := heap_alloc_new w7 (.cells #[.slice Z0 q1.1.a.length n0, .slice Z1 q1.1.b.length n1, .slice Z2 q1.1.c.length n2] 33)
   replace b11 := blk_below b11 k5
   replace kk := kk.trans (k5.mono kk.size)
   replace E0' := Aside0.mk (Kd.C_below E0'.out k5)
   replace E1' := Aside0.mk (Kd.C_below E1'.out k5)
   replace E2' := Aside0.mk (Kd.C_below E2'.out k5)
   replace F0' := Aside0.mk (Kd.C_below F0'.out k5)
   replace F1' := Aside0.mk (Kd.C_below F1'.out k5)
   replace F2' := Aside0.mk (Kd.C_below F2'.out k5)
   clear k5
   generalize w7.alloc (Obj.cells _ 33) = w8 at kk b11 b14 E0' E1' E2' F0' F1' F2' ⊢
   generalize w7.heap.size = g14 at b14 ⊢
   have c80 : w8.cell? ⟨g11, 0, none⟩ = some (.slice Y0 q1.1.a.length i0) := (blk_cell b11 0).trans rfl
   have c81 : w8.cell? ⟨g11, 1, none⟩ = some (.slice Y1 q1.1.b.length i1) := (blk_cell b11 1).trans rfl
   have c82 : w8.cell? ⟨g11, 2, none⟩ = some (.slice Y2 q1.1.c.length i2) := (blk_cell b11 2).trans rfl
   have c90 : w8.cell? ⟨g14, 0, none⟩ = some (.slice Z0 q1.1.a.length n0) := (blk_cell b14 0).trans rfl
   have c91 : w8.cell? ⟨g14, 1, none⟩ = some (.slice Z1 q1.1.b.length n1) := (blk_cell b14 1).trans rfl
   have c92 : w8.cell? ⟨g14, 2, none⟩ = some (.slice Z2 q1.1.c.length n2) := (blk_cell b14 2).trans rfl
   go_wp2_with fail
   refine (impl_MemSame.calls _ Y0 i0 q1.1.a Y1 i1 q1.1.b Y2 i2 q1.1.c Z0 n0 q1.1.a Z1 n1 q1.1.b Z2 n2 q1.1.c true _ E0'.out j0'.out E1'.out j1'.out E2'.out j2'.out F0'.out m0'.out F1'.out m1'.out F2'.out m2'.out hS).mono ?_
   rintro e w9 ⟨rfl, hb⟩
   replace kk := kk.trans (hb.mono kk.size)
   go_wp2
   go_ret
   exact ⟨rfl, kw.out _ (kf.out _ kk)⟩
set_option maxRecDepth 100000 in
set_option maxHeartbeats 6400000 in
theorem law_B (A0 : Option Addr) (c0 : Nat) (l0 : List Int) (w : World) (hlen : l0.length ≤ 1048576) (hr0 : Kd.C (Kd.int .u8) w A0 l0.length l0) (hc0 : l0.length ≤ c0) (hE : LE w) (a b : List S30) (hal : a.length ≤ 1000000)
  (hD : Calls Tryz.prog 8 #[.slice A0 l0.length c0] w fun e w' => ∃ v0 v1, e = .returned (.tuple #[v0, v1]) ∧ Kd.R k30 30 w' w.heap.size (fun _ => True) v0 a ∧ Kd.R k30 30 w' w.heap.size (fun _ => True) v1 b ∧ Below w.heap.size w w') (K : Nat)
  (h1 : impl_CodeSame.f K a b = some false) (h2 : spec_CodeSame.f K a b = some false) (h3 : impl_CodeSame.f K a a = some true) (h4 : impl_CodeSame.f K b a = some false) (hne : a.length ≠ b.length)
  (hby : Byt l0) :
  Calls Tryz.prog 3 #[.slice A0 l0.length c0] w fun e w' => e = .returned (.bool true) ∧ Below w.heap.size w w' := by
 have hu33 := Tryz.underlying33
 have hu30 := Tryz.underlying30
 have d : decide ((l0.length : Int) > 1048576) = false := by simp; omega
 have d' : decide ((1048576 : Int) < (l0.length : Int)) = false := by simp; omega
 have hr := Aside0.mk hr0
 have hc := Aside0.mk hc0
 have hal' := Aside0.mk hal
 clear hr0 hc0 hlen hal
 go_enter Tryz.func3, Tryz.ntmps3
 go_wp2_with fail
 refine hD.mono ?_
 rintro e w1 ⟨v0, v1, rfl, r0, r1, kb⟩
 obtain ⟨A, ca, rfl, hca, CA⟩ := Kd.R_reads r0
 obtain ⟨B, cb, rfl, hcb, CB⟩ := Kd.R_reads r1
 have CA' := Aside0.mk CA
 have CB' := Aside0.mk CB
 have hca' := Aside0.mk hca
 have hcb' := Aside0.mk hcb
 have k1 := Aside0.mk (Below.refl w1.heap.size w1)
 have kb' := Aside0.mk kb
 clear hD r0 r1 CA CB hca hcb kb
 have kw : Aside0 (∀ W, Below w1.heap.size w1 W → Below w.heap.size w W) := ⟨fun W k => kb'.out.trans (k.mono kb'.out.size)⟩
 have kk := k1.out
 go_wp2_with fail
 refine (impl_CodeSame.calls K A ca a B cb b false _ (Kd.C_below CA'.out kk) hca'.out (Kd.C_below CB'.out kk) hcb'.out h1).mono ?_
 rintro e wn ⟨rfl, hd⟩
 replace kk := kk.trans (hd.below.mono kk.size)
 clear hd
 go_wp2_with fail
 refine (spec_CodeSame.calls K A ca a B cb b false _ (Kd.C_below CA'.out kk) hca'.out (Kd.C_below CB'.out kk) hcb'.out h2).mono ?_
 rintro e wn ⟨rfl, hd⟩
 replace kk := kk.trans (hd.below.mono kk.size)
 clear hd
 go_wp2_with fail
 refine (impl_CodeSame.calls K A ca a A ca a true _ (Kd.C_below CA'.out kk) hca'.out (Kd.C_below CA'.out kk) hca'.out h3).mono ?_
 rintro e wn ⟨rfl, hd⟩
 replace kk := kk.trans (hd.below.mono kk.size)
 clear hd
 go_wp2_with fail
 refine (impl_CodeSame.calls K B cb b A ca a false _ (Kd.C_below CB'.out kk) hcb'.out (Kd.C_below CA'.out kk) hca'.out h4).mono ?_
 rintro e wn ⟨rfl, hd⟩
 replace kk := kk.trans (hd.below.mono kk.size)
 clear hd
 clear h1 h2 h3 h4
 have e1 : (a.length == b.length) = false := by simpa using hne
 have e2 : ((a.length : Int) == (b.length : Int)) = false := by simp; omega
 have e3 : decide (a.length = b.length) = false := by simpa using hne
 clear hne
 cases hz : decide (0 < a.length)
 all_goals
  go_wp2_with fail
  refine wp_loop_rounds 1 ?_
  rw [rounds_succ]
  go_wp2_with fail
  refine (Da.drawRun_any _ c0 l0 _ (Kd.C_below hr.out (kw.out _ kk)) hc.out hby).mono ?_
  rintro e wm ⟨u0, u1, u2, u3, pp, ff, rfl, hm0, hm1, hm2, -, -, -, hd⟩
  replace kk := kk.trans (hd.mono kk.size)
  clear hd
  obtain ⟨m0, M0, x0, rfl, hx0, D0⟩ := hm0.C
  obtain ⟨m1, M1, x1, rfl, hx1, D1⟩ := hm1.C
  obtain ⟨m2, M2, x2, rfl, hx2, D2⟩ := hm2.C
  obtain ⟨q1, hq1⟩ := runC_total ⟨m0, m1, m2⟩ a 20
  obtain ⟨q2, hq2⟩ := runC_total ⟨m0, m1, m2⟩ b 20
  have D0' := Aside0.mk D0
  have D1' := Aside0.mk D1
  have D2' := Aside0.mk D2
  have hE' := Aside0.mk hE
  have kn := Aside0.mk (Below.refl wm.heap.size wm)
  clear hm0 hm1 hm2 D0 D1 D2 hx0 hx1 hx2
  obtain ⟨u3', hu3'⟩ : ∃ z, z = u3 := ⟨_, rfl⟩
  clear hu3' u3'
  have kf : Aside0 (∀ W, Below wm.heap.size wm W → Below w1.heap.size w1 W) := ⟨fun W k => kk.trans (k.mono kk.size)⟩
  clear kk
  clear kn
  go_wp2_with fail
  have hq1' := Aside0.mk hq1
  have hq2' := Aside0.mk hq2
  have kk : Below wm.heap.size wm (wm.alloc (.cells #[.slice M0 m0.length x0, .slice M1 m1.length x1, .slice M2 m2.length x2] 33)) := (Below.refl _ _).alloc (Nat.le_refl _) _
  have b8 := heap_alloc_new wm (.cells #[.slice M0 m0.length x0, .slice M1 m1.length x1, .slice M2 m2.length x2] 33)
  generalize wm.alloc (Obj.cells _ 33) = w4 at kk b8 ⊢
  obtain ⟨g8, hg8⟩ : ∃ g, wm.heap.size = g := ⟨_, rfl⟩
  rw [hg8] at b8 ⊢
  refine (codeRun_any M0 M1 M2 x0 x1 x2 m0 m1 m2 A ca a 20 _ q1 (hE'.out.below (kw.out _ (kf.out _ kk))) (Kd.C_below D0'.out kk) (Kd.C_below D1'.out kk) (Kd.C_below D2'.out kk) (Kd.C_below CA'.out (kf.out _ kk)) hca'.out hq1).mono ?_
  rintro e w5 ⟨y0, y1, y2, rfl, hY, hb5⟩
  obtain ⟨Y0, i0, Y1, i1, Y2, i2, rfl, rfl, rfl, j0, j1, j2, E0, E1, E2⟩ := mem3_C hY
  have E0' := Aside0.mk E0
  have E1' := Aside0.mk E1
  have E2' := Aside0.mk E2
  have j0' := Aside0.mk j0
  have j1' := Aside0.mk j1
  have j2' := Aside0.mk j2
  replace b8 := blk_below b8 hb5
  replace kk := kk.trans (hb5.mono kk.size)
  clear hb5 hY E0 E1 E2 j0 j1 j2 hq1
  go_upto_region 14 with (fail)
  have k5 : Below w5.heap.size w5 (w5.alloc (.cells #[.slice Y0 q1.1.a.length i0, .slice Y1 q1.1.b.length i1, .slice Y2 q1.1.c.length i2] 33)) := (Below.refl _ _).alloc (Nat.le_refl _) _
  have b11 := heap_alloc_new w5 (.cells #[.slice Y0 q1.1.a.length i0, .slice Y1 q1.1.b.length i1, .slice Y2 q1.1.c.length i2] 33)
  replace b8 := blk_below b8 k5
  replace kk := kk.trans (k5.mono kk.size)
  replace E0' := Aside0.mk (Kd.C_below E0'.out k5)
  replace E1' := Aside0.mk (Kd.C_below E1'.out k5)
  replace E2' := Aside0.mk (Kd.C_below E2'.out k5)
  clear k5
  generalize w5.alloc (Obj.cells _ 33) = w6 at kk b8 b11 E0' E1' E2' ⊢
  generalize w5.heap.size = g11 at b11 ⊢
  have c80 : w6.cell? ⟨g8, 0, none⟩ = some (.slice M0 m0.length x0) := (blk_cell b8 0).trans rfl
  have c81 : w6.cell? ⟨g8, 1, none⟩ = some (.slice M1 m1.length x1) := (blk_cell b8 1).trans rfl
  have c82 : w6.cell? ⟨g8, 2, none⟩ = some (.slice M2 m2.length x2) := (blk_cell b8 2).trans rfl
  go_wp2_with fail
  clear c80 c81 c82 b8
  refine (codeRun_any M0 M1 M2 x0 x1 x2 m0 m1 m2 B cb b 20 _ q2 (hE'.out.below (kw.out _ (kf.out _ kk))) (Kd.C_below D0'.out kk) (Kd.C_below D1'.out kk) (Kd.C_below D2'.out kk) (Kd.C_below CB'.out (kf.out _ kk)) hcb'.out hq2'.out).mono ?_
  rintro e w7 ⟨y0, y1, y2, rfl, hY, hb5⟩
  obtain ⟨Z0, n0, Z1, n1, Z2, n2, rfl, rfl, rfl, m0_, m1_, m2_, F0, F1, F2⟩ := mem3_C hY
  have F0' := Aside0.mk F0
  have F1' := Aside0.mk F1
  have F2' := Aside0.mk F2
  have m0' := Aside0.mk m0_
  have m1' := Aside0.mk m1_
  have m2' := Aside0.mk m2_
  replace b11 := blk_below b11 hb5
  replace kk := kk.trans (hb5.mono kk.size)
  replace E0' := Aside0.mk (Kd.C_below E0'.out hb5)
  replace E1' := Aside0.mk (Kd.C_below E1'.out hb5)
  replace E2' := Aside0.mk (Kd.C_below E2'.out hb5)
  clear hb5 hY F0 F1 F2 m0_ m1_ m2_
  go_upto_region 15 with (fail)
  have k5 : Below w7.heap.size w7 (w7.alloc (.cells #[.slice Z0 q2.1.a.length n0, .slice Z1 q2.1.b.length n1, .slice Z2 q2.1.c.length n2] 33)) := (Below.refl _ _).alloc (Nat.le_refl _) _
  have b14 := heap_alloc_new w7 (.cells #[.slice Z0 q2.1.a.length n0, .slice Z1 q2.1.b.length n1, .slice Z2 q2.1.c.length n2] 33)
  replace b11 := blk_below b11 k5
  replace kk := kk.trans (k5.mono kk.size)
  replace E0' := Aside0.mk (Kd.C_below E0'.out k5)
  replace E1' := Aside0.mk (Kd.C_below E1'.out k5)
  replace E2' := Aside0.mk (Kd.C_below E2'.out k5)
  replace F0' := Aside0.mk (Kd.C_below F0'.out k5)
  replace F1' := Aside0.mk (Kd.C_below F1'.out k5)
  replace F2' := Aside0.mk (Kd.C_below F2'.out k5)
  clear k5
  generalize w7.alloc (Obj.cells _ 33) = w8 at kk b11 b14 E0' E1' E2' F0' F1' F2' ⊢
  generalize w7.heap.size = g14 at b14 ⊢
  go_wp2
  go_ret
  exact ⟨rfl, kw.out _ (kf.out _ kk)⟩
end Go.Proofs.YtjamfddhcigchaaGreatDoor.Ca
