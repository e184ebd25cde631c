/- Plain facts: a memory is the same as itself; what a run leaves. No condition. -/
import Derived.Test.YtjamfddhcigchaaGreatDoorTFnCodeRunHo
import Derived.Test.YtjamfddhcigchaaGreatDoorTFnCodeRunRb
import Derived.Test.YtjamfddhcigchaaGreatDoorTFnCodeRunDa
import Derived.Stop.LaidErr
import Derived.Test.YtjamfddhcigchaaGreatDoorRows
import Derived.Test.YtjamfddhcigchaaGreatDoorTie
import Derived.Test.YtjamfddhcigchaaGreatDoorCards
import Derived.LaidMore
import Derived.Stop.Joined
import Derived.SevenTiedAt
import Derived.ChangeVars
import Derived.ProofKit
import Derived.OpenShut
import Derived.ShutString
import Derived.ChangeOld
import Derived.Lib.SmallJoins
import Derived.ChangeSame
import Derived.Deep.Strs
namespace Go.Proofs.YtjamfddhcigchaaGreatDoor.Cm
open Go.RowKit  Go.Proofs.YtjamfddhcigchaaGreatDoor.Gm Go.Proofs.YtjamfddhcigchaaGreatDoor.Gn Go.Proofs.YtjamfddhcigchaaGreatDoor.Gz Go.Proofs.YtjamfddhcigchaaGreatDoor.Gq Go.Proofs.YtjamfddhcigchaaGreatDoor.Hm Go.Proofs.YtjamfddhcigchaaGreatDoor.Hn Go.Proofs.YtjamfddhcigchaaGreatDoor.Hp Go.Proofs.YtjamfddhcigchaaGreatDoor.HFnCodeRun Go.Proofs.YtjamfddhcigchaaGreatDoorW.PrintWords Go.Proofs.YtjamfddhcigchaaGreatDoorW.PrintLast Go.Proofs.YtjamfddhcigchaaGreatDoorW.PrintMore
set_option linter.unusedVariables false
set_option linter.unusedSimpArgs false
theorem wrap_s {x : Int} (h1 : -9223372036854775808 ≤ x) (h2 : x ≤ 9223372036854775807) : wrap64 x = x := by
 unfold wrap64; omega
theorem eqM_self (l : List Int) (hl : l.length ≤ 1000) : ∀ (d k i : Nat), i + d = l.length → slices_Equal_int_int.l0 (k + d + 1) l l (l.length : Int) (i : Int) = some true
 | 0, k, i, h => by
  rw [slices_Equal_int_int.l0, if_neg (by omega)]
 | d + 1, k, i, h => by
  rw [slices_Equal_int_int.l0, if_pos (by omega), if_pos (by omega), if_pos (by omega), if_pos (by omega), if_pos rfl, wrap_s (by omega) (by omega), show (i : Int) + 1 = ((i + 1 : Nat) : Int) by omega, show k + (d + 1) = k + d + 1 by omega]
  exact eqM_self l hl d k (i + 1) (by omega)
theorem eqL_self (l : List Int) (hl : l.length ≤ 6) (k : Nat) : slices_Equal_int_int.f (k + 10) l l = some true := by
 unfold slices_Equal_int_int.f
 rw [if_pos rfl, show (0 : Int) = ((0 : Nat) : Int) from rfl, show k + 10 = k + (9 - l.length) + l.length + 1 by omega, eqM_self l (by omega) l.length (k + (9 - l.length)) 0 (by omega)]
theorem memSame_self (a b c : List Int) (ha : a.length ≤ 6) (hb : b.length ≤ 6) (hc : c.length ≤ 6) (k : Nat) : impl_MemSame.f (k + 10) a b c a b c = some true := by
 unfold impl_MemSame.f
 rw [eqL_self a ha]; simp only [Option.bind_some]
 rw [if_pos trivial, eqL_self b hb]; simp only [Option.bind_some]
 rw [if_pos trivial, eqL_self c hc]; rfl
theorem runC_len {m : M3} {ps : List S30} {fuel : Int} {q : M3 × Int × Nat} (h : runC m ps fuel = some q) : q.1.a.length ≤ 6 ∧ q.1.b.length ≤ 6 ∧ q.1.c.length ≤ 6 := by
 unfold runC at h
 by_cases c : okM m.a m.b m.c = true ∧ okB ps = true ∧ 0 ≤ fuel ∧ fuel ≤ 100
 ·rw [if_pos c] at h
  have k := runI_keeps (P := fun m => m.a.length ≤ 6 ∧ m.b.length ≤ 6 ∧ m.c.length ≤ 6) (fun m k i n hm => ⟨by rw [show (m.put k i n).a = pT 1 m.a k i n from rfl, pT_len]; exact hm.1, by rw [show (m.put k i n).b = pT 2 m.b k i n from rfl, pT_len]; exact hm.2.1, by rw [show (m.put k i n).c = pT 3 m.c k i n from rfl, pT_len]; exact hm.2.2⟩) ps _ _ _ _ _ q (by obtain ⟨x, y, z⟩ := okM_len c.1; exact ⟨by show m.a.length ≤ 6; omega, by show m.b.length ≤ 6; omega, by show m.c.length ≤ 6; omega⟩) h
  exact k
 ·rw [if_neg c] at h
  obtain rfl := Option.some.inj h
  exact ⟨Nat.zero_le _, Nat.zero_le _, Nat.zero_le _⟩
end Go.Proofs.YtjamfddhcigchaaGreatDoor.Cm
namespace Go.Proofs.YtjamfddhcigchaaGreatDoor.Ga
open Go.RowKit  Go.Proofs.YtjamfddhcigchaaGreatDoor.Gm Go.Proofs.YtjamfddhcigchaaGreatDoor.Gn Go.Proofs.YtjamfddhcigchaaGreatDoor.Gz Go.Proofs.YtjamfddhcigchaaGreatDoor.Gq Go.Proofs.YtjamfddhcigchaaGreatDoor.Ht Go.Proofs.YtjamfddhcigchaaGreatDoor.Hp Go.Proofs.YtjamfddhcigchaaGreatDoor.Hd Go.Proofs.YtjamfddhcigchaaGreatDoor.Hs Go.Proofs.YtjamfddhcigchaaGreatDoor.Hm Go.Proofs.YtjamfddhcigchaaGreatDoor.Hn Go.Proofs.YtjamfddhcigchaaGreatDoor.HFnCodeRun Go.Proofs.YtjamfddhcigchaaGreatDoorW.PrintWords Go.Proofs.YtjamfddhcigchaaGreatDoorW.PrintLast Go.Proofs.YtjamfddhcigchaaGreatDoorW.PrintMore
set_option linter.unusedVariables false
set_option linter.unusedSimpArgs false
theorem cutN (n : Int) : Gm.isN (cut n) = true := by
 unfold Gm.isN cut mn mx
 simp only [Bool.and_eq_true, decide_eq_true_eq]
 split <;> split <;> omega
theorem okL_pT {j k i n : Int} {l : List Int} (h : okL l = true) : okL (pT j l k i n) = true := by
 unfold pT; split
 ·simp only [okL, Bool.and_eq_true, decide_eq_true_eq, List.all_eq_true] at h ⊢
  refine ⟨by simpa using h.1, fun x hx => ?_⟩
  rcases List.mem_or_eq_of_mem_set hx with h1 | rfl
  ·exact h.2 x h1
  ·exact cutN n
 ·exact h
theorem okM_put (m : M3) (k i n : Int) (h : okM m.a m.b m.c = true) : okM (m.put k i n).a (m.put k i n).b (m.put k i n).c = true := by
 unfold okM at *
 simp only [Bool.and_eq_true] at h ⊢
 exact ⟨⟨okL_pT h.1.1, okL_pT h.1.2⟩, okL_pT h.2⟩
theorem put_a (m : M3) (k i n : Int) : (m.put k i n).a = m.a := by
 show pT 1 m.a k i n = m.a
 unfold pT pOk
 by_cases e : k = 1
 ·subst e; simp
 ·rw [if_neg (by simp [e])]
theorem runC_kept {m : M3} {ps : List S30} {f : Int} {q : M3 × Int × Nat} (h : runC m ps f = some q) : (q.2.1 = 2 ∧ q.1.a = [] ∧ q.2.2 = 0) ∨ (q.2.1 ≠ 2 ∧ okM q.1.a q.1.b q.1.c = true ∧ q.1.a = m.a ∧ m.a.length = 6 ∧ okB ps = true ∧ (q.2.2 : Int) ≤ f) := by
 unfold runC at h
 by_cases c : okM m.a m.b m.c = true ∧ okB ps = true ∧ 0 ≤ f ∧ f ≤ 100
 ·rw [if_pos c] at h
  obtain ⟨h1, h2⟩ := runI_left ps _ _ _ _ _ q h
  have k1 := runI_keeps (P := fun m => okM m.a m.b m.c = true) (fun m k i n hm => okM_put m k i n hm) ps _ _ _ _ _ q c.1 h
  have k2 := runI_keeps (P := fun x => x.a = m.a) (fun x k i n hx => (put_a x k i n).trans hx) ps _ _ _ _ _ q rfl h
  exact .inr ⟨by omega, k1, k2, (okM_len c.1).1, c.2.1, by omega⟩
 ·rw [if_neg c] at h
  obtain rfl := Option.some.inj h
  exact .inl ⟨rfl, rfl, rfl⟩
theorem run_bd (ps : List S30) : ∀ (d i : Nat) (l l' : List Int), i + d = ps.length → l.length = ps.length + 1 → (∀ x ∈ l, -1 ≤ x ∧ x ≤ 12) → Hp.run ps d i l = some l' → ∀ x ∈ l', -1 ≤ x ∧ x ≤ 12
 | 0, i, l, l', _, _, hb, h => by
  unfold Hp.run at h
  obtain rfl := Option.some.inj h
  exact hb
 | d + 1, i, l, l', hi, hl, hb, h => by
  unfold Hp.run at h
  cases hs : Hp.step (rd_T30 ps i) i ps.length l with
  | none => rw [hs] at h; cases h
  | some l2 =>
   rw [hs] at h
   obtain ⟨_, _, k3, k4, k5⟩ := Hs.step_some hs
   exact run_bd ps d (i + 1) l2 l' (by omega) (by omega) (k5 hb) h
theorem max_bd : ∀ (l : List Int) (m : Int), (∀ x ∈ l, x ≤ 12) → m ≤ 12 → l.foldl max m ≤ 12 ∧ m ≤ l.foldl max m
 | [], m, _, h => ⟨h, Int.le_refl _⟩
 | x :: l, m, hl, h => by
  obtain ⟨a, b⟩ := max_bd l (max m x) (fun y hy => hl y (List.mem_cons_of_mem _ hy)) (by have := hl x (List.mem_cons_self ..); omega)
  exact ⟨a, by rw [List.foldl_cons]; omega⟩
theorem depB_bd {ps : List S30} (h : okB ps = true) : 0 ≤ depB ps ∧ depB ps ≤ 12 := by
 unfold depB
 rw [if_pos h]
 cases hd : dep ps with
 | none => unfold okB at h; rw [hd] at h; cases h
 | some l =>
  obtain ⟨n0, _, _, _⟩ := Hs.dep_some hd
  unfold dep at hd
  rw [if_neg (by omega)] at hd
  have hb := run_bd ps ps.length 0 _ l (by omega) (by simp) (fun x hx => by
   rcases List.mem_or_eq_of_mem_set hx with h1 | rfl
   ·rw [List.eq_of_mem_replicate h1]; omega
   ·omega) hd
  obtain ⟨a, b⟩ := max_bd l 0 (fun x hx => (hb x hx).2) (by omega)
  exact ⟨b, a⟩
end Go.Proofs.YtjamfddhcigchaaGreatDoor.Ga
namespace Go.Proofs.YtjamfddhcigchaaGreatDoor.Gb
open Go.RowKit  Go.Proofs.YtjamfddhcigchaaGreatDoor.Gm Go.Proofs.YtjamfddhcigchaaGreatDoor.Gn Go.Proofs.YtjamfddhcigchaaGreatDoor.Gz Go.Proofs.YtjamfddhcigchaaGreatDoor.Gq Go.Proofs.YtjamfddhcigchaaGreatDoor.Hj Go.Proofs.YtjamfddhcigchaaGreatDoor.Hm Go.Proofs.YtjamfddhcigchaaGreatDoor.Hn Go.Proofs.YtjamfddhcigchaaGreatDoor.Hq Go.Proofs.YtjamfddhcigchaaGreatDoor.Hu Go.Proofs.YtjamfddhcigchaaGreatDoor.Hv Go.Proofs.YtjamfddhcigchaaGreatDoor.Ho Go.Proofs.YtjamfddhcigchaaGreatDoor.Hc Go.Proofs.YtjamfddhcigchaaGreatDoor.Hp Go.Proofs.YtjamfddhcigchaaGreatDoor.Hs Go.Proofs.YtjamfddhcigchaaGreatDoor.Hx Go.Proofs.YtjamfddhcigchaaGreatDoor.Sr Go.Proofs.YtjamfddhcigchaaGreatDoor.Rb Go.Proofs.YtjamfddhcigchaaGreatDoor.Cm Go.Proofs.YtjamfddhcigchaaGreatDoor.Ga Go.Proofs.YtjamfddhcigchaaGreatDoor.HFnCodeRun Go.Proofs.YtjamfddhcigchaaGreatDoorW.PrintWords Go.Proofs.YtjamfddhcigchaaGreatDoorW.PrintLast Go.Proofs.YtjamfddhcigchaaGreatDoorW.PrintMore
set_option linter.unusedVariables false
set_option linter.unusedSimpArgs false
theorem same_ex {a b c : List Int} (h : a.length ≤ 6 ∧ b.length ≤ 6 ∧ c.length ≤ 6) : ∃ K, impl_MemSame.f K a b c a b c = some true :=
 ⟨_, memSame_self a b c h.1 h.2.1 h.2.2 0⟩
theorem jr {j : Nat} (h : j < 6) : decide ((j : Int) < 6) = true ∧ (0 : Int) ≤ (j : Int) ∧ (j : Int) < 6 ∧ wrap64 ((j : Int) + 1) = ((j + 1 : Nat) : Int) := ⟨by simp; omega, by omega, by omega, by unfold wrap64; omega⟩
theorem jl {j n : Nat} (h : j < 6) (e : n = 6) : (j : Int) < (n : Int) := by omega
theorem je {j : Nat} (h : j ≤ 6) (e : ¬ j < 6) : j = 6 := by omega
theorem jm {j : Nat} (h : j < 6) : 6 - (intOf (.int .i64 ((j + 1 : Nat) : Int))).toNat < 6 - (intOf (.int .i64 (j : Int))).toNat := by
 simp [intOf]; omega
theorem gs {n : Nat} {f d : Int} (h : (n : Int) ≤ f) (b : 0 ≤ d ∧ d ≤ 12) : decide ((n : Int) ≥ 0) = true ∧ decide (0 ≤ (n : Int)) = true ∧ decide ((n : Int) ≤ f) = true ∧ decide (d ≥ 0) = true ∧ decide (0 ≤ d) = true ∧ decide (d ≤ 12) = true :=
 ⟨by simp, by simp, by simpa using h, by simpa using b.1, by simpa using b.1, by simpa using b.2⟩
set_option maxRecDepth 100000 in
theorem memOk_any (A0 A1 A2 : Option Addr) (c0 c1 c2 : Nat) (l0 l1 l2 : List Int) (w : World) (hr0 : Kd.C (Kd.int .i64) w A0 l0.length l0) (hr1 : Kd.C (Kd.int .i64) w A1 l1.length l1) (hr2 : Kd.C (Kd.int .i64) w A2 l2.length l2) :
  Calls Tryz.prog 30 #[.agg #[.slice A0 l0.length c0, .slice A1 l1.length c1, .slice A2 l2.length c2]] w fun e w' => e = .returned (.bool (okM l0 l1 l2)) ∧ Below w.heap.size w w' := by
 have hu := Tryz.underlying33
 have al : ∀ o : Obj, Below w.heap.size w (w.alloc o) := fun o => (Below.refl _ _).alloc (Nat.le_refl _) _
 go_enter Tryz.func30, Tryz.ntmps30
 go_wp2_with fail
 refine (readMem_any _ _ _ _ _ _ l0 l1 l2 _ (Kd.C_below hr0 (al _)) (Kd.C_below hr1 (al _)) (Kd.C_below hr2 (al _))).mono ?_
 rintro e w2 ⟨h1, h2, hb⟩
 have hb2 := (al (.cells #[.slice A0 l0.length c0, .slice A1 l1.length c1, .slice A2 l2.length c2] 33)).trans (hb.mono (al (.cells #[.slice A0 l0.length c0, .slice A1 l1.length c1, .slice A2 l2.length c2] 33)).size)
 cases hk : okM l0 l1 l2 with
 | true =>
  obtain ⟨g, rfl, _, _⟩ := h1 hk
  go_wp2
  go_ret
  exact ⟨by rw [hk]; rfl, hb2⟩
 | false =>
  obtain rfl := h2 hk
  go_wp2
  go_ret
  exact ⟨by rw [hk]; rfl, hb2⟩
theorem ansC {w0 W w' : World} {e : Ending} {q : M3 × Int × Nat} (h : Ans w0 W w' e q) : ∃ A0 c0 A1 c1 A2 c2, e = .returned (.tuple #[.agg #[.slice A0 q.1.a.length c0, .slice A1 q.1.b.length c1, .slice A2 q.1.c.length c2], .int .i64 q.2.1, .int .i64 (q.2.2 : Int)]) ∧ q.1.a.length ≤ c0 ∧ q.1.b.length ≤ c1 ∧ q.1.c.length ≤ c2 ∧ Kd.C (Kd.int .i64) w' A0 q.1.a.length q.1.a ∧ Kd.C (Kd.int .i64) w' A1 q.1.b.length q.1.b ∧ Kd.C (Kd.int .i64) w' A2 q.1.c.length q.1.c ∧ Below w0.heap.size w0 w' := by
 obtain ⟨u0, u1, u2, e, r0, r1, r2, -, -, -, hb, -⟩ := h
 obtain ⟨A0, c0, rfl, h0, R0⟩ := Kd.R_reads r0
 obtain ⟨A1, c1, rfl, h1, R1⟩ := Kd.R_reads r1
 obtain ⟨A2, c2, rfl, h2, R2⟩ := Kd.R_reads r2
 exact ⟨A0, c0, A1, c1, A2, c2, e, h0, h1, h2, R0, R1, R2, hb⟩
theorem mem3_C {w w' : World} {v0 v1 v2 : Value} {a b c : List Int} (h : Mem3 w w' v0 v1 v2 a b c) : ∃ A0 c0 A1 c1 A2 c2, v0 = .slice A0 a.length c0 ∧ v1 = .slice A1 b.length c1 ∧ v2 = .slice A2 c.length c2 ∧ a.length ≤ c0 ∧ b.length ≤ c1 ∧ c.length ≤ c2 ∧ Kd.C (Kd.int .i64) w' A0 a.length a ∧ Kd.C (Kd.int .i64) w' A1 b.length b ∧ Kd.C (Kd.int .i64) w' A2 c.length c := by
 obtain ⟨A0, c0, e0, h0, r0⟩ := Kd.R_reads h.1
 obtain ⟨A1, c1, e1, h1, r1⟩ := Kd.R_reads h.2.1
 obtain ⟨A2, c2, e2, h2, r2⟩ := Kd.R_reads h.2.2
 exact ⟨A0, c0, A1, c1, A2, c2, e0, e1, e2, h0, h1, h2, r0, r1, r2⟩
set_option maxRecDepth 100000 in
set_option maxHeartbeats 6400000 in
theorem long_any (A0 : Option Addr) (c0 : Nat) (l0 : List Int) (w : World) (hlen : 1048576 < l0.length) :
  Calls Tryz.prog 7 #[.slice A0 l0.length c0] w fun e w' => e = .returned (.bool true) ∧ Below w.heap.size w w' := by
 have d : decide ((l0.length : Int) > 1048576) = true := by simp; omega
 have d' : decide ((1048576 : Int) < (l0.length : Int)) = true := by simp; omega
 clear hlen
 go_enter Tryz.func7, Tryz.ntmps7
 go_wp2
 go_ret
 exact ⟨rfl, Below.refl _ _⟩
set_option maxRecDepth 100000 in
set_option maxHeartbeats 6400000 in
theorem law_any (A0 : Option Addr) (c0 : Nat) (l0 : List Int) (w : World) (hlen : l0.length ≤ 1048576) (hr0 : Kd.C (Kd.int .u8) w A0 l0.length l0) (hc0 : l0.length ≤ c0) (hE : LE w) (hby : Byt l0) :
  Calls Tryz.prog 7 #[.slice A0 l0.length c0] w fun e w' => e = .returned (.bool true) ∧ Below w.heap.size w w' := by
 have hu33 := Tryz.underlying33
 have d : decide ((l0.length : Int) > 1048576) = false := by simp; omega
 have d' : decide ((1048576 : Int) < (l0.length : Int)) = false := by simp; omega
 have hc := Aside0.mk hc0
 have hE' := Aside0.mk hE
 have hD := Da.drawRun_any A0 c0 l0 w hr0 hc0 hby
 clear hr0 hc0 hlen hE hby
 go_enter Tryz.func7, Tryz.ntmps7
 go_wp2_with fail
 refine hD.mono ?_
 rintro e wm ⟨u0, u1, u2, u3, pp, ff, rfl, hm0, hm1, hm2, hpp, hpl, hff, kb⟩
 clear hD
 obtain ⟨ma, M0, m0_, rfl, hM0, DM0⟩ := hm0.C
 obtain ⟨mb, M1, m1_, rfl, hM1, DM1⟩ := hm1.C
 obtain ⟨mc, M2, m2_, rfl, hM2, DM2⟩ := hm2.C
 obtain ⟨PA, pc, rfl, hpc, DP⟩ := Kd.R_reads hpp
 obtain ⟨mm, hmm⟩ : ∃ m : M3, m = ⟨ma, mb, mc⟩ := ⟨_, rfl⟩
 obtain rfl : mm.a = ma := by rw [hmm]
 obtain rfl : mm.b = mb := by rw [hmm]
 obtain rfl : mm.c = mc := by rw [hmm]
 clear hmm
 obtain ⟨q, hq⟩ := runC_total mm pp ff
 have hq' := Aside0.mk hq
 have hpl := Aside0.mk hpl
 have hpc := Aside0.mk hpc
 have hM0 := Aside0.mk hM0
 have hM1 := Aside0.mk hM1
 have hM2 := Aside0.mk hM2
 have DM0 := Aside0.mk DM0
 have DM1 := Aside0.mk DM1
 have DM2 := Aside0.mk DM2
 have DP := Aside0.mk DP
 have kw : Aside0 (∀ W, Below wm.heap.size wm W → Below w.heap.size w W) := ⟨fun W k => kb.trans (k.mono kb.size)⟩
 have hff := Aside0.mk hff
 clear hm0 hm1 hm2 hpp hq kb
 go_upto_region 4 with (fail)
 have kk : Below wm.heap.size wm (wm.alloc (.cells #[.slice M0 mm.a.length m0_, .slice M1 mm.b.length m1_, .slice M2 mm.c.length m2_] 33)) := (Below.refl _ _).alloc (Nat.le_refl _) _
 have bM := heap_alloc_new wm (.cells #[.slice M0 mm.a.length m0_, .slice M1 mm.b.length m1_, .slice M2 mm.c.length m2_] 33)
 replace DM0 := Aside0.mk (Kd.C_below DM0.out kk)
 replace DM1 := Aside0.mk (Kd.C_below DM1.out kk)
 replace DM2 := Aside0.mk (Kd.C_below DM2.out kk)
 replace DP := Aside0.mk (Kd.C_below DP.out kk)
 generalize wm.alloc (Obj.cells _ 33) = w1 at kk bM DM0 DM1 DM2 DP ⊢
 obtain ⟨gM, hgM⟩ : ∃ g, wm.heap.size = g := ⟨_, rfl⟩
 rw [hgM] at bM ⊢
 clear hgM
 have cM0 : w1.cell? ⟨gM, 0, none⟩ = some (.slice M0 mm.a.length m0_) := (blk_cell bM 0).trans rfl
 have cM1 : w1.cell? ⟨gM, 1, none⟩ = some (.slice M1 mm.b.length m1_) := (blk_cell bM 1).trans rfl
 have cM2 : w1.cell? ⟨gM, 2, none⟩ = some (.slice M2 mm.c.length m2_) := (blk_cell bM 2).trans rfl
 go_wp2_with fail
 clear cM0 cM1 cM2
 refine (codeRun_any M0 M1 M2 m0_ m1_ m2_ mm.a mm.b mm.c PA pc pp ff _ q (hE'.out.below (kw.out _ kk)) DM0.out DM1.out DM2.out DP.out hpc.out hq'.out).mono ?_
 rintro e wn ⟨y0, y1, y2, rfl, hY, hb5⟩
 obtain ⟨X0, x0_, X1, x1_, X2, x2_, rfl, rfl, rfl, hj0, hj1, hj2, E0, E1, E2⟩ := mem3_C hY
 clear hY
 replace DM0 := Aside0.mk (Kd.C_below DM0.out hb5)
 replace DM1 := Aside0.mk (Kd.C_below DM1.out hb5)
 replace DM2 := Aside0.mk (Kd.C_below DM2.out hb5)
 replace DP := Aside0.mk (Kd.C_below DP.out hb5)
 replace bM := blk_below bM hb5
 replace kk := kk.trans (hb5.mono kk.size)
 clear hb5
 have JX0 := Aside0.mk hj0
 have DX0 := Aside0.mk E0
 have JX1 := Aside0.mk hj1
 have DX1 := Aside0.mk E1
 have JX2 := Aside0.mk hj2
 have DX2 := Aside0.mk E2
 clear hj0 hj1 hj2 E0 E1 E2
 go_upto_region 5 with (fail)
 have k5 : Below wn.heap.size wn (wn.alloc (.cells #[.slice X0 q.1.a.length x0_, .slice X1 q.1.b.length x1_, .slice X2 q.1.c.length x2_] 33)) := (Below.refl _ _).alloc (Nat.le_refl _) _
 have n5 := heap_alloc_new wn (.cells #[.slice X0 q.1.a.length x0_, .slice X1 q.1.b.length x1_, .slice X2 q.1.c.length x2_] 33)
 replace DM0 := Aside0.mk (Kd.C_below DM0.out k5)
 replace DM1 := Aside0.mk (Kd.C_below DM1.out k5)
 replace DM2 := Aside0.mk (Kd.C_below DM2.out k5)
 replace DP := Aside0.mk (Kd.C_below DP.out k5)
 replace DX0 := Aside0.mk (Kd.C_below DX0.out k5)
 replace DX1 := Aside0.mk (Kd.C_below DX1.out k5)
 replace DX2 := Aside0.mk (Kd.C_below DX2.out k5)
 replace bM := blk_below bM k5
 replace kk := kk.trans (k5.mono kk.size)
 clear k5
 have bX := n5
 clear n5
 generalize wn.alloc (Obj.cells _ 33) = w2 at kk bM bX DM0 DM1 DM2 DP DX0 DX1 DX2 ⊢
 obtain ⟨gX, hgX⟩ : ∃ g, wn.heap.size = g := ⟨_, rfl⟩
 rw [hgX] at bX ⊢
 clear hgX
 have cM0 : w2.cell? ⟨gM, 0, none⟩ = some (.slice M0 mm.a.length m0_) := (blk_cell bM 0).trans rfl
 have cM1 : w2.cell? ⟨gM, 1, none⟩ = some (.slice M1 mm.b.length m1_) := (blk_cell bM 1).trans rfl
 have cM2 : w2.cell? ⟨gM, 2, none⟩ = some (.slice M2 mm.c.length m2_) := (blk_cell bM 2).trans rfl
 go_wp2_with fail
 clear cM0 cM1 cM2
 refine (specRun_any M0 M1 M2 m0_ m1_ m2_ mm.a mm.b mm.c PA pc pp ff _ DM0.out DM1.out DM2.out hM0.out hM1.out hM2.out DP.out hpc.out (by have := hpl.out; omega) q hq'.out).mono ?_
 rintro e wn hA
 obtain ⟨S0, s0_, S1, s1_, S2, s2_, rfl, hj0, hj1, hj2, E0, E1, E2, hb5⟩ := ansC hA
 clear hA
 replace DM0 := Aside0.mk (Kd.C_below DM0.out hb5)
 replace DM1 := Aside0.mk (Kd.C_below DM1.out hb5)
 replace DM2 := Aside0.mk (Kd.C_below DM2.out hb5)
 replace DP := Aside0.mk (Kd.C_below DP.out hb5)
 replace DX0 := Aside0.mk (Kd.C_below DX0.out hb5)
 replace DX1 := Aside0.mk (Kd.C_below DX1.out hb5)
 replace DX2 := Aside0.mk (Kd.C_below DX2.out hb5)
 replace bM := blk_below bM hb5
 replace bX := blk_below bX hb5
 replace kk := kk.trans (hb5.mono kk.size)
 clear hb5
 have JS0 := Aside0.mk hj0
 have DS0 := Aside0.mk E0
 have JS1 := Aside0.mk hj1
 have DS1 := Aside0.mk E1
 have JS2 := Aside0.mk hj2
 have DS2 := Aside0.mk E2
 clear hj0 hj1 hj2 E0 E1 E2
 go_upto_region 6 with (fail)
 have k5 : Below wn.heap.size wn (wn.alloc (.cells #[.slice S0 q.1.a.length s0_, .slice S1 q.1.b.length s1_, .slice S2 q.1.c.length s2_] 33)) := (Below.refl _ _).alloc (Nat.le_refl _) _
 have n5 := heap_alloc_new wn (.cells #[.slice S0 q.1.a.length s0_, .slice S1 q.1.b.length s1_, .slice S2 q.1.c.length s2_] 33)
 replace DM0 := Aside0.mk (Kd.C_below DM0.out k5)
 replace DM1 := Aside0.mk (Kd.C_below DM1.out k5)
 replace DM2 := Aside0.mk (Kd.C_below DM2.out k5)
 replace DP := Aside0.mk (Kd.C_below DP.out k5)
 replace DX0 := Aside0.mk (Kd.C_below DX0.out k5)
 replace DX1 := Aside0.mk (Kd.C_below DX1.out k5)
 replace DX2 := Aside0.mk (Kd.C_below DX2.out k5)
 replace DS0 := Aside0.mk (Kd.C_below DS0.out k5)
 replace DS1 := Aside0.mk (Kd.C_below DS1.out k5)
 replace DS2 := Aside0.mk (Kd.C_below DS2.out k5)
 replace bM := blk_below bM k5
 replace bX := blk_below bX k5
 replace kk := kk.trans (k5.mono kk.size)
 clear k5
 have bS := n5
 clear n5
 generalize wn.alloc (Obj.cells _ 33) = w3 at kk bM bX bS DM0 DM1 DM2 DP DX0 DX1 DX2 DS0 DS1 DS2 ⊢
 obtain ⟨gS, hgS⟩ : ∃ g, wn.heap.size = g := ⟨_, rfl⟩
 rw [hgS] at bS ⊢
 clear hgS
 obtain ⟨K, hS⟩ := same_ex (runC_len hq'.out)
 have hS' := Aside0.mk hS
 have hk1 := codeOkS pp (by have := hpl.out; omega) 4000 (Nat.le_refl _)
 have hk2 := codeDepthS pp (by have := hpl.out; omega) 4000 (Nat.le_refl _)
 have hk1' := Aside0.mk hk1
 have hk2' := Aside0.mk hk2
 have hkept := Aside0.mk (runC_kept hq'.out)
 clear hS hk1 hk2
 obtain ⟨dd, hdd⟩ : ∃ d, depB pp = d := ⟨_, rfl⟩
 have hdd' := Aside0.mk hdd
 clear hdd
 go_wp2_with fail
 refine (codeDepth_any PA pc pp _ DP.out hpc.out).mono ?_
 rintro e wn ⟨rfl, hb5⟩
 replace DM0 := Aside0.mk (Kd.C_below DM0.out hb5)
 replace DM1 := Aside0.mk (Kd.C_below DM1.out hb5)
 replace DM2 := Aside0.mk (Kd.C_below DM2.out hb5)
 replace DP := Aside0.mk (Kd.C_below DP.out hb5)
 replace DX0 := Aside0.mk (Kd.C_below DX0.out hb5)
 replace DX1 := Aside0.mk (Kd.C_below DX1.out hb5)
 replace DX2 := Aside0.mk (Kd.C_below DX2.out hb5)
 replace DS0 := Aside0.mk (Kd.C_below DS0.out hb5)
 replace DS1 := Aside0.mk (Kd.C_below DS1.out hb5)
 replace DS2 := Aside0.mk (Kd.C_below DS2.out hb5)
 replace bM := blk_below bM hb5
 replace bX := blk_below bX hb5
 replace bS := blk_below bS hb5
 replace kk := kk.trans (hb5.mono kk.size)
 clear hb5
 rw [hdd'.out]
 have cX0 : wn.cell? ⟨gX, 0, none⟩ = some (.slice X0 q.1.a.length x0_) := (blk_cell bX 0).trans rfl
 have cX1 : wn.cell? ⟨gX, 1, none⟩ = some (.slice X1 q.1.b.length x1_) := (blk_cell bX 1).trans rfl
 have cX2 : wn.cell? ⟨gX, 2, none⟩ = some (.slice X2 q.1.c.length x2_) := (blk_cell bX 2).trans rfl
 have cS0 : wn.cell? ⟨gS, 0, none⟩ = some (.slice S0 q.1.a.length s0_) := (blk_cell bS 0).trans rfl
 have cS1 : wn.cell? ⟨gS, 1, none⟩ = some (.slice S1 q.1.b.length s1_) := (blk_cell bS 1).trans rfl
 have cS2 : wn.cell? ⟨gS, 2, none⟩ = some (.slice S2 q.1.c.length s2_) := (blk_cell bS 2).trans rfl
 go_wp2_with fail
 clear cX0 cX1 cX2
 clear cS0 cS1 cS2
 refine (impl_MemSame.calls K X0 x0_ q.1.a X1 x1_ q.1.b X2 x2_ q.1.c S0 s0_ q.1.a S1 s1_ q.1.b S2 s2_ q.1.c true _ DX0.out JX0.out DX1.out JX1.out DX2.out JX2.out DS0.out JS0.out DS1.out JS1.out DS2.out JS2.out hS'.out).mono ?_
 rintro e wn ⟨rfl, hb5⟩
 replace DM0 := Aside0.mk (Kd.C_below DM0.out hb5)
 replace DM1 := Aside0.mk (Kd.C_below DM1.out hb5)
 replace DM2 := Aside0.mk (Kd.C_below DM2.out hb5)
 replace DP := Aside0.mk (Kd.C_below DP.out hb5)
 replace DX0 := Aside0.mk (Kd.C_below DX0.out hb5)
 replace DX1 := Aside0.mk (Kd.C_below DX1.out hb5)
 replace DX2 := Aside0.mk (Kd.C_below DX2.out hb5)
 replace DS0 := Aside0.mk (Kd.C_below DS0.out hb5)
 replace DS1 := Aside0.mk (Kd.C_below DS1.out hb5)
 replace DS2 := Aside0.mk (Kd.C_below DS2.out hb5)
 replace bM := blk_below bM hb5
 replace bX := blk_below bX hb5
 replace bS := blk_below bS hb5
 replace kk := kk.trans (hb5.mono kk.size)
 clear hb5
 obtain ⟨bb, hbb⟩ : ∃ b, okB pp = b := ⟨_, rfl⟩
 have hbb' := Aside0.mk hbb
 clear hbb
 go_wp2_with fail
 refine (codeOk_any PA pc pp _ DP.out hpc.out).mono ?_
 rintro e wn ⟨rfl, hb5⟩
 replace DM0 := Aside0.mk (Kd.C_below DM0.out hb5)
 replace DM1 := Aside0.mk (Kd.C_below DM1.out hb5)
 replace DM2 := Aside0.mk (Kd.C_below DM2.out hb5)
 replace DP := Aside0.mk (Kd.C_below DP.out hb5)
 replace DX0 := Aside0.mk (Kd.C_below DX0.out hb5)
 replace DX1 := Aside0.mk (Kd.C_below DX1.out hb5)
 replace DX2 := Aside0.mk (Kd.C_below DX2.out hb5)
 replace DS0 := Aside0.mk (Kd.C_below DS0.out hb5)
 replace DS1 := Aside0.mk (Kd.C_below DS1.out hb5)
 replace DS2 := Aside0.mk (Kd.C_below DS2.out hb5)
 replace bM := blk_below bM hb5
 replace bX := blk_below bX hb5
 replace bS := blk_below bS hb5
 replace kk := kk.trans (hb5.mono kk.size)
 clear hb5
 rw [hbb'.out]
 go_wp2_with fail
 refine (spec_CodeOk.calls _ PA pc pp (okB pp) _ DP.out hpc.out hk1'.out).mono ?_
 rintro e wn ⟨rfl, hb5⟩
 replace DM0 := Aside0.mk (Kd.C_below DM0.out hb5)
 replace DM1 := Aside0.mk (Kd.C_below DM1.out hb5)
 replace DM2 := Aside0.mk (Kd.C_below DM2.out hb5)
 replace DP := Aside0.mk (Kd.C_below DP.out hb5)
 replace DX0 := Aside0.mk (Kd.C_below DX0.out hb5)
 replace DX1 := Aside0.mk (Kd.C_below DX1.out hb5)
 replace DX2 := Aside0.mk (Kd.C_below DX2.out hb5)
 replace DS0 := Aside0.mk (Kd.C_below DS0.out hb5)
 replace DS1 := Aside0.mk (Kd.C_below DS1.out hb5)
 replace DS2 := Aside0.mk (Kd.C_below DS2.out hb5)
 replace bM := blk_below bM hb5
 replace bX := blk_below bX hb5
 replace bS := blk_below bS hb5
 replace kk := kk.trans (hb5.mono kk.size)
 clear hb5
 rw [hbb'.out]
 go_wp2_with fail
 refine (spec_CodeDepth.calls _ PA pc pp (depB pp) _ DP.out hpc.out hk2'.out).mono ?_
 rintro e wn ⟨rfl, hb5⟩
 replace DM0 := Aside0.mk (Kd.C_below DM0.out hb5)
 replace DM1 := Aside0.mk (Kd.C_below DM1.out hb5)
 replace DM2 := Aside0.mk (Kd.C_below DM2.out hb5)
 replace DP := Aside0.mk (Kd.C_below DP.out hb5)
 replace DX0 := Aside0.mk (Kd.C_below DX0.out hb5)
 replace DX1 := Aside0.mk (Kd.C_below DX1.out hb5)
 replace DX2 := Aside0.mk (Kd.C_below DX2.out hb5)
 replace DS0 := Aside0.mk (Kd.C_below DS0.out hb5)
 replace DS1 := Aside0.mk (Kd.C_below DS1.out hb5)
 replace DS2 := Aside0.mk (Kd.C_below DS2.out hb5)
 replace bM := blk_below bM hb5
 replace bX := blk_below bX hb5
 replace bS := blk_below bS hb5
 replace kk := kk.trans (hb5.mono kk.size)
 clear hb5
 rw [hdd'.out]
 have hkept_ := hkept.out
 rcases hkept_ with ⟨k1, k2, k3⟩ | ⟨k1, k2, k3, k4, k5, k6⟩
 ·have t1 : (q.2.1 == 2) = true := by simpa using k1
  have t2 : ((q.1.a.length : Int) == 0) = true := by rw [k2]; rfl
  have t3 : ((q.2.2 : Int) == 0) = true := by rw [k3]; rfl
  clear k1 k2 k3
  have cX0 : wn.cell? ⟨gX, 0, none⟩ = some (.slice X0 q.1.a.length x0_) := (blk_cell bX 0).trans rfl
  have cX1 : wn.cell? ⟨gX, 1, none⟩ = some (.slice X1 q.1.b.length x1_) := (blk_cell bX 1).trans rfl
  have cX2 : wn.cell? ⟨gX, 2, none⟩ = some (.slice X2 q.1.c.length x2_) := (blk_cell bX 2).trans rfl
  go_wp2
  go_ret
  exact ⟨rfl, kw.out _ kk⟩
 have t1 : (q.2.1 == 2) = false := by simpa using k1
 have bd := depB_bd k5
 rw [hdd'.out] at bd
 replace bd := Aside0.mk bd
 replace k6 := Aside0.mk k6
 have hok := Aside0.mk k2
 have ha6 : q.1.a.length = 6 := by rw [k3]; exact k4
 obtain ⟨xa, hxa, -⟩ := Kd.at_int DX0.out 0 (by omega) (by omega)
 obtain ⟨ma_, hma, -⟩ := Kd.at_int DM0.out 0 (by omega) (by omega)
 replace hxa := Aside0.mk hxa
 replace hma := Aside0.mk hma
 replace k3 := Aside0.mk k3
 replace k4 := Aside0.mk k4
 replace ha6 := Aside0.mk ha6
 clear k1 k2 k5
 clear hS' hk1' hk2' hkept hdd' hbb' DS0 DS1 DS2 JS0 JS1 JS2 bS DM1 DM2 DP hpc hpl hM0 hM1 hM2 hq' hE' hc hff JX0 JX1 JX2
 go_upto_region 11 with (fail)
 go_wp2_with fail
 go_loopw [13] (fun vi wr => ∃ j : Nat, j ≤ 6 ∧ vi = .int .i64 (j : Int) ∧ Aside0 (Below wn.heap.size wn wr)) (fun vi _ => 6 - (intOf vi).toNat)
 case atStart => exact ⟨0, by omega, rfl, ⟨Below.refl _ _⟩⟩
 case round =>
  obtain ⟨j, hj, rfl, hb5⟩ := hrel
  have hb6 := hb5.out
  clear hb5
  replace DM0 := Aside0.mk (Kd.C_below DM0.out hb6)
  replace DX0 := Aside0.mk (Kd.C_below DX0.out hb6)
  replace DX1 := Aside0.mk (Kd.C_below DX1.out hb6)
  replace DX2 := Aside0.mk (Kd.C_below DX2.out hb6)
  replace bM := blk_below bM hb6
  replace bX := blk_below bX hb6
  replace kk := kk.trans (hb6.mono kk.size)
  by_cases hj6 : j < 6
  ·obtain ⟨d2, q1, q4, w1_⟩ := jr hj6
   have q2 : (j : Int) < (q.1.a.length : Int) := jl hj6 ha6.out
   have q3 : (j : Int) < (mm.a.length : Int) := jl hj6 k4.out
   obtain rfl := hxa.out
   obtain rfl := hma.out
   obtain ⟨x_, hx_, e0⟩ := Kd.at_int DX0.out (j : Int) q1 q2
   obtain ⟨y_, hy_, e1⟩ := Kd.at_int DM0.out (j : Int) q1 q3
   rw [← Option.some.inj hx_] at e0
   rw [← Option.some.inj hy_] at e1
   clear hx_ hy_
   rw [k3.out] at e0
   have tn : (rd mm.a (j : Int) != rd mm.a (j : Int)) = false := by simp
   generalize rd mm.a (j : Int) = ev at e0 e1 tn
   rw [Int.toNat_natCast] at e0 e1
   have a0 : wr.cell? ⟨gX, 0, none⟩ = some (.slice (some xa) q.1.a.length x0_) := (blk_cell bX 0).trans rfl
   have a1 : wr.cell? ⟨gM, 0, none⟩ = some (.slice (some ma_) mm.a.length m0_) := (blk_cell bM 0).trans rfl
   replace q4 := eq_true q4
   replace q1 := eq_true q1
   replace q2 := eq_true q2
   replace q3 := eq_true q3
   replace hj6 := Aside0.mk hj6
   replace hj := Aside0.mk hj
   go_wp2_with fail
   refine start_ (n := 11) (S := fun w' => w'.cell? ⟨gX, 0, none⟩ = some (.slice (some xa) q.1.a.length x0_) ∧ w'.cell? ⟨gM, 0, none⟩ = some (.slice (some ma_) mm.a.length m0_) ∧ w'.cell? (xa.add j) = some (.int .i64 ev) ∧ w'.cell? (ma_.add j) = some (.int .i64 ev)) (ds := []) #[F_, F_, F_, F_, F_, F_, F_, F_, F_, F_, F_] (by kernel_rfl) rfl rfl ⟨a0, a1, e0, e1⟩ (fun hHeld => ?_)
   refine pu_ 0 82 ?_
   refine pu_ 2 84 ?_
   refine pu_ 5 87 ?_
   refine pu_ 7 89 ?_
   refine tk_ 1 83 hHeld ?_
   refine pu_ 3 85 ?_
   refine tk_ 4 86 hHeld ?_
   refine tk_ 6 88 hHeld ?_
   refine pu_ 8 90 ?_
   refine tk_ 9 91 hHeld ?_
   refine pu_ 10 92 ?_
   refine done_ (by kernel_rfl) ?_
   clear hHeld
   have hb7 := Aside0.mk (below_drew1 hb6)
   clear hb6
   go_wp2
   go_roundw
   case rel => exact ⟨j + 1, hj6.out, by rw [w1_], hb7⟩
   case measure => rw [w1_]; exact jm hj6.out
  obtain rfl := je hj hj6
  clear hj hj6 hb6
  have cX0 : wr.cell? ⟨gX, 0, none⟩ = some (.slice X0 q.1.a.length x0_) := (blk_cell bX 0).trans rfl
  have cX1 : wr.cell? ⟨gX, 1, none⟩ = some (.slice X1 q.1.b.length x1_) := (blk_cell bX 1).trans rfl
  have cX2 : wr.cell? ⟨gX, 2, none⟩ = some (.slice X2 q.1.c.length x2_) := (blk_cell bX 2).trans rfl
  obtain ⟨g1, g1', g2, g3, g3', g4⟩ := gs k6.out bd.out
  go_wp2_with fail
  refine (memOk_any X0 X1 X2 x0_ x1_ x2_ q.1.a q.1.b q.1.c wr DX0.out DX1.out DX2.out).mono ?_
  rintro e wl ⟨rfl, hb5⟩
  rw [hok.out]
  replace kk := kk.trans (hb5.mono kk.size)
  go_wp2
  go_ret
  exact ⟨rfl, kw.out _ kk⟩
end Go.Proofs.YtjamfddhcigchaaGreatDoor.Gb
namespace Go.Proofs.YtjamfddhcigchaaGreatDoor.Gc
open Go.RowKit Go.ChangeShapes Go.Stop Go.Proofs.YtjamfddhcigchaaGreatDoor.Gm Go.Proofs.YtjamfddhcigchaaGreatDoor.Gn Go.Proofs.YtjamfddhcigchaaGreatDoor.Gz Go.Proofs.YtjamfddhcigchaaGreatDoor.Gq Go.Proofs.YtjamfddhcigchaaGreatDoor.Hj Go.Proofs.YtjamfddhcigchaaGreatDoor.Hm Go.Proofs.YtjamfddhcigchaaGreatDoor.Hn Go.Proofs.YtjamfddhcigchaaGreatDoor.Hq Go.Proofs.YtjamfddhcigchaaGreatDoor.Hu Go.Proofs.YtjamfddhcigchaaGreatDoor.Hv Go.Proofs.YtjamfddhcigchaaGreatDoor.Ho Go.Proofs.YtjamfddhcigchaaGreatDoor.Hc Go.Proofs.YtjamfddhcigchaaGreatDoor.Hp Go.Proofs.YtjamfddhcigchaaGreatDoor.Hx Go.Proofs.YtjamfddhcigchaaGreatDoor.HFnCodeRun Go.Proofs.YtjamfddhcigchaaGreatDoor.Hy Go.Proofs.YtjamfddhcigchaaGreatDoorW.PrintWords Go.Proofs.YtjamfddhcigchaaGreatDoorW.PrintLast Go.Proofs.YtjamfddhcigchaaGreatDoorW.PrintMore
set_option linter.unusedVariables false
set_option linter.unusedSimpArgs false
theorem row170 (u : TypeId) (h : Tryz.prog.typeName? 3 u = some "*errors.errorString") : u = 170 :=
 typeName_ptr_named (nm := "errors.errorString") (by rw [show "*" ++ "errors.errorString" = "*errors.errorString" by decide]; kernel_rfl) (by kernel_rfl) (by decide) u (by rw [show "*" ++ "errors.errorString" = "*errors.errorString" by decide]; exact h)
theorem le_of {r : List (String × DataW Unit)} (W : World) (h : laidMet Tryz.prog (("loop.example/stopgate/impl.errLong", .iface "*errors.errorString" (.ptr (.agg [.lit (.string [116, 97, 107, 101, 115, 32, 116, 111, 111, 32, 108, 111, 110, 103])]))) :: r) W) : LE W := by
 have hg : Tryz.prog.globalNamed "loop.example/stopgate/impl.errLong" = some 0 := by kernel_rfl
 obtain ⟨a, s, hv, -⟩ := laid_sentinel h hg (show (Tryz.prog.globals[0]?).map (·.type) = some 72 by kernel_rfl) Tryz.underlying72 row170 Tryz.underlying170 Tryz.underlying195 rfl rfl Tryz.underlying9 (by kernel_rfl) (by kernel_rfl)
 exact ⟨a, by simpa using World.var?_cell hg hv 0⟩
theorem walk (A0 : Option Addr) (c0 : Nat) (l0 : List Int) (w : World) (hr0 : Kd.C (Kd.int .u8) w A0 l0.length l0) (hc0 : l0.length ≤ c0) (hE : LE w) (hw : ∀ x ∈ l0, (Lit.int .u8 x).wf = true) :
  Calls Tryz.prog 7 #[.slice A0 l0.length c0] w fun e w' => e = .returned (.bool true) ∧ Below w.heap.size w w' := by
 by_cases hlen : 1048576 < l0.length
 ·exact Gb.long_any A0 c0 l0 w hlen
 exact Gb.law_any A0 c0 l0 w (by omega) hr0 hc0 hE (byt_of hw)
theorem walkRow (a0 : Option Addr) (len0 cap0 : Nat) (z0 : List Int) (w : World) (w0 : (a0 = none ∧ len0 = 0 ∧ cap0 = 0 ∧ z0 = []) ∨ ∃ x, a0 = some x ∧ len0 ≤ cap0 ∧ cap0 ≤ maxLen ∧ z0.length = cap0 ∧ (∀ i, i < z0.length → w.cell? (x.add i) = some (.int .u8 (z0.getD i 0))) ∧ ∀ n ∈ z0, (Lit.int .u8 n).wf = true) (hE : LE w) :
  Calls Tryz.prog 7 #[.slice a0 len0 cap0] w fun e w' => e = .returned (.bool true) ∧ Below w.heap.size w w' := by
 obtain ⟨l0, rfl, hr0, hm0, hw0, hc0⟩ := ReadsInt.ofRowC w0
 exact walk _ _ l0 w (Kd.C_of_reads (d := (0 : Int)) (h1 := fun _ => rfl) hr0) hc0 hE hw0
end Go.Proofs.YtjamfddhcigchaaGreatDoor.Gc
namespace Go.Proofs.YtjamfddhcigchaaGreatDoor.fnCodeRun
open Go.ChangeShapes Go.WideShapes Go.ChangeAt Go.RowKit Go.Joins
open Go.ChangeMaps (open_string shut_string)
set_option linter.unusedVariables false
set_option linter.unusedSimpArgs false
theorem blk_same {w w' : World} {g : Nat} {o : Obj} (h : w.heap[g]? = some o) (k : Below w.heap.size w w') : w'.heap[g]? = some o := Go.Proofs.YtjamfddhcigchaaGreatDoorW.PrintWords.blk_below h k
theorem own : ownKnob Tryz.prog.godebug = none := by kernel_rfl
theorem laidOut : laidOutB Tryz.prog = true := by kernel_rfl
def IsRow (k : IntKind) (w : World) (a : Option Addr) (len cap : Nat) (zs : List Int) : Prop :=
  (a = none ∧ len = 0 ∧ cap = 0 ∧ zs = []) ∨
  ∃ x, a = some x ∧ len ≤ cap ∧ cap ≤ maxLen ∧ zs.length = cap ∧ (∀ i, i < zs.length → w.cell? (x.add i) = some (.int k (zs.getD i 0))) ∧ ∀ n ∈ zs, (Lit.int k n).wf = true
set_option maxRecDepth 100000 in
theorem door_met (os : Os) (args : Array Value) : laidMetH Tryz.prog Rows.fnCodeRunRow.laid ((World.doorLaid Tryz.prog 400 os).forCall (fun _ _ => 0) ⟨#[], args, []⟩).memory :=
  laidMetH_of_parts3 (fuel := 8) (laidMet_of_run' 8 (by kernel_rfl) (by kernel_rfl)) (by kernel_rfl) (by kernel_rfl)
set_option maxRecDepth 100000 in
theorem lifted (os : Os) (started : os.Started) (H : Type) (enc : TypeId × Value → H) :
    ReturnsInHanded {} Tryz.checked os 7 .any (fun w args => (Rows.fnCodeRunSpec.pre enc Tryz.prog Tryz.f7 [] false w args ∧ laidMetH Tryz.prog Rows.fnCodeRunRow.laid w) ∧ sizedMet enc Tryz.prog Tryz.f7 (OpenSpec.ofChange Rows.fnCodeRunSpec) false w args) (Rows.fnCodeRunSpec.post enc Tryz.prog Tryz.f7 false true false false) := by
  refine returnsInHanded_of_change_and (C := Tryz.checked) (X := fun w _ => laidMetH Tryz.prog Rows.fnCodeRunRow.laid w) (fun _ _ _ hh h => h.of_heap hh) own started (by kernel_rfl) Tryz.func7
    (ChangeSpec.witness_shaped (enc := enc) (C := Tryz.checked) (os := os) (X := fun w _ => laidMetH Tryz.prog Rows.fnCodeRunRow.laid w) false (World.doorLaid Tryz.prog 400 os) #[.slice none 0 0] 8 rfl (World.shaped_of_RefB (by kernel_rfl) (by kernel_rfl)) (by kernel_rfl) (by kernel_rfl) (by kernel_rfl) (door_met os _)) ?_
  intro W base args ds gs before hval0 hW hcnd hsz0 hL _
  have hsz : (DataW.weightsEach Tryz.prog (Tryz.f7.params.toList ++ Rows.fnCodeRunSpec.plain.varTypes Tryz.prog) (ds ++ gs)).all (· ≤ reachBytes) = true := hsz0
  have hval : ∀ (j : Nat) t v, Tryz.f7.params[j]? = some t → args[j]? = some v → Value.okWide Tryz.prog W .any base t v := hval0
  have hW' := hW
  obtain ⟨p, q, hA0, hV, rfl, hfz, hnd⟩ := hW
  have hA : DataW.TrodAll enc Tryz.prog W 0 (fun _ => true) true Tryz.f7.params.toList args.toList ds p := hA0
  rw [Tryz.params7] at hA hval hsz
  obtain ⟨v0, vs0, d0, ds0, p0, q0, hargs, rfl, rfl, h0, r0⟩ := trodAll_cons hA
  obtain ⟨rfl, rfl, rfl⟩ := trodAll_nil r0
  obtain rfl : args = #[v0] := by cases args; simp_all
  have hV1 : DataW.TrodVars enc Tryz.prog W (fun _ => true) ["loop.example/stopgate/impl.errLong"] gs q := hV
  obtain ⟨gV, tV, csV, fuV, dV, pV, rfl, hgV, htV, hvarV, hdV, rfl⟩ := trodVars_one hV1
  obtain rfl : 0 = gV := Option.some.inj ((show Tryz.prog.globalNamed "loop.example/stopgate/impl.errLong" = some 0 by kernel_rfl).symm.trans hgV)
  obtain rfl : 72 = tV := Option.some.inj ((show (Tryz.prog.globals[0]?).map (·.type) = some 72 by kernel_rfl).symm.trans htV)
  obtain ⟨oldV, hcsV, hoV, hxV⟩ := held_of_trod_list Tryz.underlying72 hdV
  simp only [Prod.mk.injEq] at hxV
  obtain ⟨rfl, rfl⟩ := hxV
  obtain rfl : csV = #[oldV] := by cases csV; simp_all
  have hvars : ∀ (W' : World), Below W.heap.size W W' → ∀ sp : Nat → Bool, DataW.TrodVars enc Tryz.prog W' sp ["loop.example/stopgate/impl.errLong"] [tok enc oldV] (MemPlace.row ⟨0, 0, none⟩ (#[oldV] : Array Value).size ++ []) := fun W' bel sp => by
    refine trodVars_mk1 (enc := enc) (spare := sp) (fuel := 1) (d := tok enc oldV) (p := []) hgV htV ?_ (trod_held Tryz.underlying72 hoV 0)
    have hv := hvarV
    unfold World.var? at hv ⊢
    rw [hgV] at hv ⊢
    simp only [Option.bind_some] at hv ⊢
    cases hh : W.heap[0]? with
    | none => rw [hh] at hv; cases hv
    | some o => rw [blk_same hh bel, ← hh]; exact hv
  have k0 := h0
  have lt0 : ∀ x ∈ p0, x.block < W.heap.size := by obtain ⟨m, hm⟩ := k0; exact DataW.trod_lt m _ _ _ hm
  clear hA0 hval0 hsz0
  suffices hfin : Calls Tryz.prog 7 #[v0] W fun e w' => e = .returned (.bool true) ∧ Below W.heap.size W w' by
    refine hfin.mono fun e W' ⟨he, bel⟩ => ?_
    subst he
    exact ⟨_, rfl, _, _, _, [], _, _, hW', trodAll_mk1 (shut_bool Tryz.underlying4 _), (trodAll_cons_mk (Below.trod laidOut (by kernel_rfl) (of_decide_eq_true (by kernel_rfl)) k0 bel lt0) trodAll_mk0), hvars _ bel _, bel.frame _, fun h => by cases h⟩
  obtain ⟨a0, len0, cap0, rfl⟩ := okWide_slice Tryz.underlying22 (hval 0 22 v0 rfl rfl)
  have y0 : len0 * 1 ≤ 140737488351232 := Go.Proofs.YtjamfddhcigchaaGreatDoorW.PrintWords.sized_ints hsz (j := 0) (t := 22) rfl rfl Tryz.underlying22 Tryz.underlying5 (by kernel_rfl) (by kernel_rfl) h0
  obtain ⟨z0, w0⟩ : ∃ zs, IsRow .u8 W a0 len0 cap0 zs := by
    obtain ⟨fuel, hf⟩ := h0
    rcases open_ints Tryz.underlying22 Tryz.underlying5 (by kernel_rfl) hf with ⟨hcs, _⟩ | ⟨x, l, c, zs, hcs, _, hl, hm, hz, _, hcell, hwz⟩
    · simp [Value.cells] at hcs
      obtain ⟨rfl, rfl, rfl⟩ := hcs
      exact ⟨[], .inl ⟨rfl, rfl, rfl, rfl⟩⟩
    · simp [Value.cells] at hcs
      obtain ⟨rfl, rfl, rfl⟩ := hcs
      exact ⟨zs, .inr ⟨_, rfl, hl, hm, by simpa using hz, hcell, hwz⟩⟩
  have hL1 : laidMet Tryz.prog Rows.fnCodeRunRow.laid W := hL
  exact Gc.walkRow a0 len0 cap0 z0 W w0 (Gc.le_of (r := []) W hL1)
theorem over : Rows.fnCodeRunRow.holds Tryz.pinned (OpenSpec.ofChange Rows.fnCodeRunSpec) :=
  OpenClaim.holds_of_wide 7 Tryz.f7 rfl rfl rfl rfl rfl rfl rfl ⟨rfl, rfl, rfl, rfl, rfl⟩ rfl rfl rfl rfl rfl (by kernel_rfl) Tryz.func7 (by kernel_rfl)
    (of_decide_eq_true (by kernel_rfl)) (by unfold Func.isWrapper; first | (rw [if_pos (by decide +kernel)]; kernel_rfl) | (rw [if_neg (by decide +kernel)]; exact ⟨rfl, rfl⟩))
    (fun os started H enc _ => lifted os started H enc)
theorem card_holds : Rows.FnCodeRunCardSaid :=
  Claim7.holds_tied_plain_at .later [] [.sentinel] true (true, "8e2eed3da5832f03801593413d0d97074931c9fe972dc2260191ac3ee88f37b4") true
    over (fun _ h => by cases h) (by kernel_rfl) (fun _ h => by cases h) fnCodeRun_row_tie rfl ⟨rfl, rfl⟩ (by kernel_rfl) rfl
    (fun f fn hf hfn => by
      obtain rfl : f = 7 := Option.some.inj ((show Tryz.prog.funcNamed "loop.example/stopgate/laws.FnCodeRun" = some 7 by kernel_rfl).symm.trans hf) |>.symm
      obtain rfl : fn = Tryz.f7 := (Option.some.inj (Tryz.func7.symm.trans hfn)).symm
      exact ⟨by kernel_rfl, fun j t ht => by
        rw [Tryz.params7] at ht
        have hm : t ∈ [22] := by simpa using Array.mem_of_getElem? ht
        have hall : ([22].all fun u => !Tryz.prog.wantsStandIn u) = true := by kernel_rfl
        exact (show Tryz.prog.wantsStandIn t = false by simpa using List.all_eq_true.1 hall t hm)⟩)
    (by kernel_rfl)
end Go.Proofs.YtjamfddhcigchaaGreatDoor.fnCodeRun
namespace Go.Proofs.YtjamfddhcigchaaGreatDoor
theorem fnCodeRunCard_holds : Rows.FnCodeRunCardSaid := fnCodeRun.card_holds
#print axioms fnCodeRunCard_holds
end Go.Proofs.YtjamfddhcigchaaGreatDoor
