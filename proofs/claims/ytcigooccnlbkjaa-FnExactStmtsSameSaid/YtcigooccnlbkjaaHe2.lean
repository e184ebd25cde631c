/- Contracts of laws.szExpr and laws.szExprS, by depth. No condition beyond the bounds told. -/
import Derived.Test.YtcigooccnlbkjaaHe1
import Derived.WalkLawsBesides
import Derived.WalkSpells
import Derived.Deep.RegionHeld
namespace Go.Proofs.Ytcigooccnlbkjaa.He2
open Go.RowKit Go.Proofs.Ytcigooccnlbkjaa.He1 Go.Proofs.Ytcigooccnlbkjaa.PFnExactStmtsSame Go.Proofs.YtcigooccnlbkjaaW.PrintWords Go.Proofs.YtcigooccnlbkjaaW.PrintLast Go.Proofs.YtcigooccnlbkjaaW.PrintMore
set_option linter.unusedVariables false
set_option linter.unusedSimpArgs false
attribute [local go_sem] max2_int min2_int max_two min_two
def SZ (n : Nat) : Prop := ∀ (x : S49) (a : Int) (A : Option Addr) (c : Nat) (w : World), dE x < n → 0 ≤ a → a ≤ 1048576 → x.f3.length ≤ c → Kd.C k49 w A x.f3.length x.f3 →
  Calls Try.prog 25 #[.agg #[.int .i64 x.f0, .int .i64 x.f1, .int .i64 x.f2.f0, .int .i64 x.f2.f1, .slice A x.f3.length c], .int .i64 a] w fun e w' => e = .returned (.int .i64 (szE x a)) ∧ Below w.heap.size w w'
set_option maxRecDepth 100000 in
set_option maxHeartbeats 3200000 in
theorem szES_of (n : Nat) (IH : SZ n) (l : List S49) (a : Int) (A : Option Addr) (c : Nat) (w : World) (hd : dEs l < n) (ha0 : 0 ≤ a) (ha1 : a ≤ 1048576) (hc : l.length ≤ c) (hC : Kd.C k49 w A l.length l) :
    Calls Try.prog 52 #[.slice A l.length c, .int .i64 a] w fun e w' => e = .returned (.int .i64 (szEs l a)) ∧ Below w.heap.size w w' := by
  have hl := Kd.C_max hC
  obtain ⟨b0, hb0⟩ : ∃ b, a - (l.length : Int) = b := ⟨_, rfl⟩
  have w1 : wrap64 (a - (l.length : Int)) = b0 := by unfold wrap64; omega
  have hb1 : b0 ≤ 1048576 := by omega
  clear hl
  by_cases h : b0 < 0
  · have d1 : decide (b0 < 0) = true := decide_eq_true h
    have e : szEs l a = -1 := by unfold szEs; rw [hb0, if_pos h]
    rw [e]
    clear e h hC hb0 IH hb1 ha0 ha1
    go_enter Try.func52, Try.ntmps52
    go_wp2
    go_ret
    exact ⟨rfl, Below.refl _ _⟩
  · have d1 : decide (b0 < 0) = false := decide_eq_false h
    have e : szEs l a = szL l b0 := by unfold szEs; rw [hb0, if_neg h]
    rw [e]
    obtain ⟨R, hR⟩ : ∃ R, szL l b0 = R := ⟨_, rfl⟩
    rw [hR]
    have hR' := Aside0.mk hR
    have h0 : 0 ≤ b0 := by omega
    have hlen : l.length ≤ 1048576 := by omega
    have hd' := Aside0.mk hd
    have hlen' := Aside0.mk hlen
    clear hR e h hb0 hd ha0 ha1 hlen
    go_enter Try.func52, Try.ntmps52
    go_wp2
    go_loopw [1, 5] (fun left i wr => ∃ (k : Nat) (b : Int), k ≤ l.length ∧ i = .int .i64 k ∧ left = .int .i64 b ∧ 0 ≤ b ∧ b ≤ 1048576 ∧ Aside0 (szL (l.drop k) b = R) ∧ Below w.heap.size w wr) (fun _ i _ => l.length - (intOf i).toNat)
    case atStart => exact ⟨0, b0, by omega, rfl, by rw [w1], h0, hb1, hR', Below.refl _ _⟩
    case round =>
      clear hR' w1 d1
      obtain ⟨k, b, hk, rfl, rfl, hq0, hq1, hs, hbw⟩ := hrel
      have hlen := hlen'.out
      by_cases hlt : k < l.length
      · obtain ⟨ad, A4, c4, hA, e0, e1, e2, e3, e4, hl4, hC4⟩ := at_T49 (Kd.C_below hC hbw) (k : Int) (by omega) (by omega)
        subst hA
        rw [Int.toNat_natCast] at e0 e1 e2 e3 e4
        have hx := rd49 l k hlt
        rw [hx] at e0 e1 e2 e3 e4 hl4 hC4
        have hdx : dE l[k] < n := Nat.lt_of_le_of_lt (dEs_mem l _ (List.getElem_mem hlt)) hd'.out
        have hstep := szL_drop l k b hlt
        rw [hs.out] at hstep
        have hrng := szE_rng l[k] b hq0
        have hcall := IH l[k] b A4 c4 wr hdx hq0 hq1 hl4 hC4
        generalize szE l[k] b = s at hstep hrng hcall
        generalize l[k] = x at *
        have d2 : decide ((k : Int) < (l.length : Int)) = true := by simp; omega
        have hu49 := Try.underlying49
        have hu46 := Try.underlying46
        clear hx hdx hC4 hC IH hs
        by_cases hsn : s < 0
        · rw [if_pos hsn] at hstep
          have d3 : decide (s < 0) = true := decide_eq_true hsn
          have hst := Aside0.mk hstep
          clear hsn hstep hrng
          go_wp2_with fail
          refine hcall.mono ?_
          rintro e w2 ⟨rfl, hb2⟩
          clear hcall
          go_wp2
          go_ret
          exact ⟨by rw [hst.out]; rfl, hbw.trans (hb2.mono hbw.size)⟩
        · rw [if_neg hsn] at hstep
          have d3 : decide (s < 0) = false := decide_eq_false hsn
          have hst := Aside0.mk hstep.symm
          have hs0 : 0 ≤ s ∧ s ≤ 1048576 := by omega
          clear hsn hstep hrng
          go_wp2_with fail
          refine hcall.mono ?_
          rintro e w2 ⟨rfl, hb2⟩
          clear hcall
          go_wp2
          go_roundw
          case rel => exact ⟨k + 1, s, by omega, by go_num, rfl, hs0.1, hs0.2, hst, hbw.trans (hb2.mono hbw.size)⟩
          case measure => simp [intOf]; omega
      · have hkn : k = l.length := by omega
        subst hkn
        have d2 : decide ((l.length : Int) < (l.length : Int)) = false := by simp
        have e := hs.out
        rw [szL_end] at e
        subst e
        clear hs hC IH
        go_wp2
        go_ret
        exact ⟨rfl, hbw⟩
set_option maxRecDepth 100000 in
theorem sz_succ (n : Nat) (IH : SZ n) : SZ (n + 1) := by
  intro x a A c w hd ha0 ha1 hc hC
  rw [szE_eq]
  have hx := dE_eq x
  have hcall := fun o => szES_of n IH x.f3 a A c (w.alloc o) (by omega) ha0 ha1 hc (Kd.C_alloc hC o)
  have hrng := szE_rng x a ha0
  rw [szE_eq] at hrng
  generalize szEs x.f3 a = s at hcall hrng ⊢
  have hu49 := Try.underlying49
  have hu46 := Try.underlying46
  clear hx hC IH hd
  have hb1 : ∀ o, Below w.heap.size w (w.alloc o) := fun o => (Below.refl _ _).alloc (Nat.le_refl _) _
  rcases hrng with rfl | hs
  · go_enter Try.func25, Try.ntmps25
    go_wp2_with fail
    refine (hcall _).mono ?_
    rintro e w2 ⟨rfl, hb2⟩
    clear hcall
    go_wp2
    go_ret
    exact ⟨rfl, (hb1 _).trans (hb2.mono (hb1 _).size)⟩
  · have d1 : decide (s < 0) = false := decide_eq_false (by omega)
    clear hs
    go_enter Try.func25, Try.ntmps25
    go_wp2_with fail
    refine (hcall _).mono ?_
    rintro e w2 ⟨rfl, hb2⟩
    clear hcall
    go_wp2
    go_ret
    exact ⟨rfl, (hb1 _).trans (hb2.mono (hb1 _).size)⟩
theorem sz_all : ∀ n, SZ n
  | 0 => fun x a A c w h => absurd h (by omega)
  | n + 1 => sz_succ n (sz_all n)
theorem szE_any (x : S49) (a : Int) (A : Option Addr) (c : Nat) (w : World) (ha0 : 0 ≤ a) (ha1 : a ≤ 1048576) (hc : x.f3.length ≤ c) (hC : Kd.C k49 w A x.f3.length x.f3) :
    Calls Try.prog 25 #[.agg #[.int .i64 x.f0, .int .i64 x.f1, .int .i64 x.f2.f0, .int .i64 x.f2.f1, .slice A x.f3.length c], .int .i64 a] w fun e w' => e = .returned (.int .i64 (szE x a)) ∧ Below w.heap.size w w' :=
  sz_all (dE x + 1) x a A c w (by omega) ha0 ha1 hc hC
end Go.Proofs.Ytcigooccnlbkjaa.He2
