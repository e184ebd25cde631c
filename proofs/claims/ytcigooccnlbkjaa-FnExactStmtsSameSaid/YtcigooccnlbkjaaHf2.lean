/- Contracts of laws.szStmt and laws.szStmtS, by depth. No condition beyond the bounds told. -/
import Derived.Test.YtcigooccnlbkjaaHf1
import Derived.Test.YtcigooccnlbkjaaHe2
import Derived.WalkLawsBesides
import Derived.WalkSpells
import Derived.Deep.RegionHeld
import Derived.Deep.DeepCutAuto
import Derived.Deep.CutBlock
namespace Go.Proofs.Ytcigooccnlbkjaa.Hf2
open Go.RowKit Go.Proofs.Ytcigooccnlbkjaa.He1 Go.Proofs.Ytcigooccnlbkjaa.He2 Go.Proofs.Ytcigooccnlbkjaa.He4 Go.Proofs.Ytcigooccnlbkjaa.Hf1 Go.Proofs.Ytcigooccnlbkjaa.PFnExactStmtsSame Go.Proofs.YtcigooccnlbkjaaW.PrintWords Go.Proofs.YtcigooccnlbkjaaW.PrintLast Go.Proofs.YtcigooccnlbkjaaW.PrintMore
set_option linter.unusedVariables false
set_option linter.unusedSimpArgs false
attribute [local go_sem] max2_int min2_int max_two min_two

def SZS (n : Nat) : Prop := ∀ (x : S107) (a : Int) (A : Option Addr) (B : Option Addr) (C : Option Addr) (a1 : Nat) (b1 : Nat) (c1 : Nat) (w : World), dS x < n → 0 ≤ a → a ≤ 1048576 → x.f2.f3.length ≤ a1 → x.f3.length ≤ b1 → x.f4.length ≤ c1 → Kd.C k49 w A x.f2.f3.length x.f2.f3 → Kd.C k107 w B x.f3.length x.f3 → Kd.C k107 w C x.f4.length x.f4 →
  Calls Try.prog 58 #[.agg #[.int .i64 x.f0, .int .i64 x.f1.f0, .int .i64 x.f1.f1, .int .i64 x.f2.f0, .int .i64 x.f2.f1, .int .i64 x.f2.f2.f0, .int .i64 x.f2.f2.f1, .slice A x.f2.f3.length a1, .slice B x.f3.length b1, .slice C x.f4.length c1], .int .i64 a] w fun e w' => e = .returned (.int .i64 (szS x a)) ∧ Below w.heap.size w w'
set_option maxRecDepth 100000 in
set_option maxHeartbeats 3200000 in
theorem szSs_of (n : Nat) (IH : SZS n) (l : List S107) (a : Int) (A : Option Addr) (c : Nat) (w : World) (hd : dSs l < n) (ha0 : 0 ≤ a) (ha1 : a ≤ 1048576) (hc : l.length ≤ c) (hC : Kd.C k107 w A l.length l) :
    Calls Try.prog 30 #[.slice A l.length c, .int .i64 a] w fun e w' => e = .returned (.int .i64 (szSs l a)) ∧ Below w.heap.size w w' := by
  have hl := Kd.C_max hC
  obtain ⟨b0, hb0⟩ : ∃ b, a - (l.length : Int) = b := ⟨_, rfl⟩
  have w1 : wrap64 (a - (l.length : Int)) = b0 := by unfold wrap64; omega
  have hb1 : b0 ≤ 1048576 := by omega
  clear hl
  by_cases h : b0 < 0
  · have d1 : decide (b0 < 0) = true := decide_eq_true h
    have e : szSs l a = -1 := by unfold szSs gl; rw [hb0, if_pos h]
    rw [e]
    clear e h hC hb0 IH hb1 ha0 ha1
    go_enter Try.func30, Try.ntmps30
    go_wp2
    go_ret
    exact ⟨rfl, Below.refl _ _⟩
  · have d1 : decide (b0 < 0) = false := decide_eq_false h
    have e : szSs l a = szSL l b0 := by unfold szSs gl; rw [hb0, if_neg h]
    rw [e]
    obtain ⟨R, hR⟩ : ∃ R, szSL l b0 = R := ⟨_, rfl⟩
    rw [hR]
    have hR' := Aside0.mk hR
    have h0 : 0 ≤ b0 := by omega
    have hlen : l.length ≤ 1048576 := by omega
    have hd' := Aside0.mk hd
    have hlen' := Aside0.mk hlen
    clear hR e h hb0 hd ha0 ha1 hlen
    go_enter Try.func30, Try.ntmps30
    go_wp2
    go_loopw [1, 5] (fun left i wr => ∃ (k : Nat) (b : Int), k ≤ l.length ∧ i = .int .i64 k ∧ left = .int .i64 b ∧ 0 ≤ b ∧ b ≤ 1048576 ∧ Aside0 (szSL (l.drop k) b = R) ∧ Below w.heap.size w wr) (fun _ i _ => l.length - (intOf i).toNat)
    case atStart => exact ⟨0, b0, by omega, rfl, by rw [w1], h0, hb1, hR', Below.refl _ _⟩
    case round =>
      clear hR' w1 d1
      obtain ⟨k, b, hk, rfl, rfl, hq0, hq1, hs, hbw⟩ := hrel
      have hlen := hlen'.out
      by_cases hlt : k < l.length
      · obtain ⟨ad, A7, c7, A8, c8, A9, c9, hA, e0, e1, e2, e3, e4, e5, e6, e7, e8, e9, l7, r7, l8, r8, l9, r9⟩ := at_T107 (Kd.C_below hC hbw) (k : Int) (by omega) (by omega)
        subst hA
        rw [Int.toNat_natCast] at e0 e1 e2 e3 e4 e5 e6 e7 e8 e9
        rw [rd107 l k hlt] at e0 e1 e2 e3 e4 e5 e6 e7 e8 e9 l7 r7 l8 r8 l9 r9
        have hdx : dS l[k] < n := Nat.lt_of_le_of_lt (dSs_mem l _ (List.getElem_mem hlt)) hd'.out
        have hstep := szSL_drop l k b hlt
        rw [hs.out] at hstep
        have hrng := szS_rng l[k] b hq0
        have hcall := IH l[k] b A7 A8 A9 c7 c8 c9 wr hdx hq0 hq1 l7 l8 l9 r7 r8 r9
        generalize szS l[k] b = s at hstep hrng hcall
        generalize l[k] = x at *
        have d2 : decide ((k : Int) < (l.length : Int)) = true := by simp; omega
        have hu107 := Try.underlying107
        have hu49 := Try.underlying49
        have hu46 := Try.underlying46
        clear hdx r7 r8 r9 hC IH hs
        by_cases hsn : s < 0
        · rw [if_pos hsn] at hstep
          have d3 : decide (s < 0) = true := decide_eq_true hsn
          have hst := Aside0.mk hstep
          clear hsn hstep hrng
          go_wp2_with fail
          refine hcall.mono ?_
          rintro e w2 ⟨rfl, hb2⟩
          clear hcall
          go_wp2
          go_ret
          exact ⟨by rw [hst.out]; rfl, hbw.trans (hb2.mono hbw.size)⟩
        · rw [if_neg hsn] at hstep
          have d3 : decide (s < 0) = false := decide_eq_false hsn
          have hst := Aside0.mk hstep.symm
          have hs0 : 0 ≤ s ∧ s ≤ 1048576 := by omega
          clear hsn hstep hrng
          go_wp2_with fail
          refine hcall.mono ?_
          rintro e w2 ⟨rfl, hb2⟩
          clear hcall
          go_wp2
          go_roundw
          case rel => exact ⟨k + 1, s, by omega, by go_num, rfl, hs0.1, hs0.2, hst, hbw.trans (hb2.mono hbw.size)⟩
          case measure => simp [intOf]; omega
      · have hkn : k = l.length := by omega
        subst hkn
        have d2 : decide ((l.length : Int) < (l.length : Int)) = false := by simp
        have e := hs.out
        rw [szSL_end] at e
        subst e
        clear hs hC IH
        go_wp2
        go_ret
        exact ⟨rfl, hbw⟩
theorem nb_pos {r : Int} {f : Int → Int} (h : ¬ r < 0) : nb r f = f r := by unfold nb; rw [if_neg h]
set_option maxRecDepth 100000 in
set_option maxHeartbeats 3200000 in
theorem szS_succ (n : Nat) (IH : SZS n) : SZS (n + 1) := by
  intro x a A B C a1 b1 c1 w hd ha0 ha1 hl1 hl2 hl3 hr1 hr2 hr3
  rw [szS_eq]
  have hx := dS_eq x
  have cE := fun W (h : Below w.heap.size w W) => szE_any x.f2 a A a1 W ha0 ha1 hl1 (Kd.C_below hr1 h)
  have gE := szE_rng x.f2 a ha0
  generalize szE x.f2 a = r1 at cE gE ⊢
  obtain ⟨V, hV⟩ : ∃ V, (nb r1 fun r1 => nb (szSs x.f3 r1) fun r2 => nb (szSs x.f4 r2) fun r3 => r3) = V := ⟨_, rfl⟩
  rw [hV]
  have hu107 := Try.underlying107
  have hu49 := Try.underlying49
  have hu46 := Try.underlying46
  have q1 := heap_alloc_new w (.cells #[.int .i64 x.f0, .int .i64 x.f1.f0, .int .i64 x.f1.f1, .int .i64 x.f2.f0, .int .i64 x.f2.f1, .int .i64 x.f2.f2.f0, .int .i64 x.f2.f2.f1, .slice A x.f2.f3.length a1, .slice B x.f3.length b1, .slice C x.f4.length c1] 107)
  have hB : Below w.heap.size w (w.alloc (.cells #[.int .i64 x.f0, .int .i64 x.f1.f0, .int .i64 x.f1.f1, .int .i64 x.f2.f0, .int .i64 x.f2.f1, .int .i64 x.f2.f2.f0, .int .i64 x.f2.f2.f1, .slice A x.f2.f3.length a1, .slice B x.f3.length b1, .slice C x.f4.length c1] 107)) := (Below.refl _ _).alloc (Nat.le_refl _) _
  go_enter Try.func58, Try.ntmps58
  go_upto_region 1 with (fail)
  generalize w.alloc (Obj.cells _ 107) = w1 at q1 hB ⊢
  obtain ⟨g1, hg1⟩ : ∃ g, w.heap.size = g := ⟨_, rfl⟩
  rw [hg1] at q1 ⊢
  have hG := Aside0.mk hg1
  clear hg1
  have cE1 := cE w1 hB
  have i0 : w1.cell? ⟨g1, 0, none⟩ = some (.int .i64 x.f0) := (blk_cell q1 0).trans rfl
  have i1 : w1.cell? ⟨g1, 1, none⟩ = some (.int .i64 x.f1.f0) := (blk_cell q1 1).trans rfl
  have i2 : w1.cell? ⟨g1, 2, none⟩ = some (.int .i64 x.f1.f1) := (blk_cell q1 2).trans rfl
  have i3 : w1.cell? ⟨g1, 3, none⟩ = some (.int .i64 x.f2.f0) := (blk_cell q1 3).trans rfl
  have i4 : w1.cell? ⟨g1, 4, none⟩ = some (.int .i64 x.f2.f1) := (blk_cell q1 4).trans rfl
  have i5 : w1.cell? ⟨g1, 5, none⟩ = some (.int .i64 x.f2.f2.f0) := (blk_cell q1 5).trans rfl
  have i6 : w1.cell? ⟨g1, 6, none⟩ = some (.int .i64 x.f2.f2.f1) := (blk_cell q1 6).trans rfl
  have i7 : w1.cell? ⟨g1, 7, none⟩ = some (.slice A x.f2.f3.length a1) := (blk_cell q1 7).trans rfl
  have i8 : w1.cell? ⟨g1, 8, none⟩ = some (.slice B x.f3.length b1) := (blk_cell q1 8).trans rfl
  have i9 : w1.cell? ⟨g1, 9, none⟩ = some (.slice C x.f4.length c1) := (blk_cell q1 9).trans rfl
  by_cases n1 : r1 < 0
  · have t1 : decide (r1 < 0) = true := decide_eq_true n1
    have e : V = -1 := by rw [← hV]; unfold nb; rw [if_pos n1]
    have hst := Aside0.mk e
    clear n1 gE cE e hx IH hr1 hr2 hr3 hV
    go_wp2_with fail
    refine cE1.mono ?_
    rintro e w2 ⟨rfl, hb⟩
    clear cE1 i0 i1 i2 i3 i4 i5 i6 i7 i8 i9
    go_wp2
    go_ret
    exact ⟨by rw [hst.out]; rfl, by first | (rw [← hG.out]; exact hB.trans (hb.mono hB.size)) | exact hB.trans (hb.mono hB.size)⟩
  have t1 : decide (r1 < 0) = false := decide_eq_false n1
  have hV2 : (nb (szSs x.f3 r1) fun r2 => nb (szSs x.f4 r2) fun r3 => r3) = V := by rw [nb_pos n1] at hV; exact hV
  clear hV
  have hr : 0 ≤ r1 ∧ r1 ≤ 1048576 := by omega
  have cT := fun W (h : Below w.heap.size w W) => szSs_of n IH x.f3 r1 B b1 W (by omega) hr.1 hr.2 hl2 (Kd.C_below hr2 h)
  have gT := szSs_rng x.f3 r1 hr.1
  generalize szSs x.f3 r1 = r2 at cT gT hV2
  have hV2' := Aside0.mk hV2
  clear cE gE hV2
  have hr' := Aside0.mk hr
  clear hr n1
  go_wp2_with fail
  refine cE1.mono ?_
  rintro e w2 ⟨rfl, hb⟩
  replace q1 := blk_below q1 hb
  replace hB := hB.trans (hb.mono hB.size)
  clear cE1 hb i0 i1 i2 i3 i4 i5 i6 i7 i8 i9
  have i0 : w2.cell? ⟨g1, 0, none⟩ = some (.int .i64 x.f0) := (blk_cell q1 0).trans rfl
  have i1 : w2.cell? ⟨g1, 1, none⟩ = some (.int .i64 x.f1.f0) := (blk_cell q1 1).trans rfl
  have i2 : w2.cell? ⟨g1, 2, none⟩ = some (.int .i64 x.f1.f1) := (blk_cell q1 2).trans rfl
  have i3 : w2.cell? ⟨g1, 3, none⟩ = some (.int .i64 x.f2.f0) := (blk_cell q1 3).trans rfl
  have i4 : w2.cell? ⟨g1, 4, none⟩ = some (.int .i64 x.f2.f1) := (blk_cell q1 4).trans rfl
  have i5 : w2.cell? ⟨g1, 5, none⟩ = some (.int .i64 x.f2.f2.f0) := (blk_cell q1 5).trans rfl
  have i6 : w2.cell? ⟨g1, 6, none⟩ = some (.int .i64 x.f2.f2.f1) := (blk_cell q1 6).trans rfl
  have i7 : w2.cell? ⟨g1, 7, none⟩ = some (.slice A x.f2.f3.length a1) := (blk_cell q1 7).trans rfl
  have i8 : w2.cell? ⟨g1, 8, none⟩ = some (.slice B x.f3.length b1) := (blk_cell q1 8).trans rfl
  have i9 : w2.cell? ⟨g1, 9, none⟩ = some (.slice C x.f4.length c1) := (blk_cell q1 9).trans rfl
  have cT1 := cT w2 hB
  by_cases n2 : r2 < 0
  · have t2 : decide (r2 < 0) = true := decide_eq_true n2
    have e : V = -1 := by rw [← hV2'.out]; unfold nb; rw [if_pos n2]
    have hst := Aside0.mk e
    clear n2 gT cT e hx IH hr1 hr2 hr3
    go_wp2_with fail
    refine cT1.mono ?_
    rintro e w3 ⟨rfl, hb⟩
    clear cT1 i0 i1 i2 i3 i4 i5 i6 i7 i8 i9
    go_wp2
    go_ret
    exact ⟨by rw [hst.out]; rfl, by first | (rw [← hG.out]; exact hB.trans (hb.mono hB.size)) | exact hB.trans (hb.mono hB.size)⟩
  have t2 : decide (r2 < 0) = false := decide_eq_false n2
  have hV3 : (nb (szSs x.f4 r2) fun r3 => r3) = V := by have h := hV2'.out; rw [nb_pos n2] at h; exact h
  have hr := hr'.out
  have hr4 : 0 ≤ r2 ∧ r2 ≤ 1048576 := by omega
  have cL := fun W (h : Below w.heap.size w W) => szSs_of n IH x.f4 r2 C c1 W (by omega) hr4.1 hr4.2 hl3 (Kd.C_below hr3 h)
  have gL := szSs_rng x.f4 r2 hr4.1
  generalize szSs x.f4 r2 = r3 at cL gL hV3
  have e3 : nb r3 (fun r3 => r3) = r3 := by
    unfold nb
    split
    · rcases gL with h | h <;> omega
    · rfl
  rw [e3] at hV3
  have hst := Aside0.mk hV3.symm
  clear cT gT hr hr4 n2 e3 IH hx hr1 hr2 hr3 hV3
  go_wp2_with fail
  refine cT1.mono ?_
  rintro e w3 ⟨rfl, hb⟩
  replace q1 := blk_below q1 hb
  replace hB := hB.trans (hb.mono hB.size)
  clear cT1 hb i0 i1 i2 i3 i4 i5 i6 i7 i8 i9
  have i0 : w3.cell? ⟨g1, 0, none⟩ = some (.int .i64 x.f0) := (blk_cell q1 0).trans rfl
  have i1 : w3.cell? ⟨g1, 1, none⟩ = some (.int .i64 x.f1.f0) := (blk_cell q1 1).trans rfl
  have i2 : w3.cell? ⟨g1, 2, none⟩ = some (.int .i64 x.f1.f1) := (blk_cell q1 2).trans rfl
  have i3 : w3.cell? ⟨g1, 3, none⟩ = some (.int .i64 x.f2.f0) := (blk_cell q1 3).trans rfl
  have i4 : w3.cell? ⟨g1, 4, none⟩ = some (.int .i64 x.f2.f1) := (blk_cell q1 4).trans rfl
  have i5 : w3.cell? ⟨g1, 5, none⟩ = some (.int .i64 x.f2.f2.f0) := (blk_cell q1 5).trans rfl
  have i6 : w3.cell? ⟨g1, 6, none⟩ = some (.int .i64 x.f2.f2.f1) := (blk_cell q1 6).trans rfl
  have i7 : w3.cell? ⟨g1, 7, none⟩ = some (.slice A x.f2.f3.length a1) := (blk_cell q1 7).trans rfl
  have i8 : w3.cell? ⟨g1, 8, none⟩ = some (.slice B x.f3.length b1) := (blk_cell q1 8).trans rfl
  have i9 : w3.cell? ⟨g1, 9, none⟩ = some (.slice C x.f4.length c1) := (blk_cell q1 9).trans rfl
  have cL1 := cL w3 hB
  clear cL
  rcases gL with hm | hp
  · have t3 : decide (r3 < 0) = true := decide_eq_true (by omega)
    have hst2 := Aside0.mk (hst.out.trans hm)
    clear hst
    have hst := hst2
    clear hst2 hm
    go_wp2_with fail
    refine cL1.mono ?_
    rintro e w4 ⟨rfl, hb⟩
    clear cL1 i0 i1 i2 i3 i4 i5 i6 i7 i8 i9
    go_wp2
    go_ret
    exact ⟨by rw [hst.out]; rfl, by first | (rw [← hG.out]; exact hB.trans (hb.mono hB.size)) | exact hB.trans (hb.mono hB.size)⟩
  · have t3 : decide (r3 < 0) = false := decide_eq_false (by omega)
    clear hp
    go_wp2_with fail
    refine cL1.mono ?_
    rintro e w4 ⟨rfl, hb⟩
    clear cL1 i0 i1 i2 i3 i4 i5 i6 i7 i8 i9
    go_wp2
    go_ret
    exact ⟨by rw [hst.out]; rfl, by first | (rw [← hG.out]; exact hB.trans (hb.mono hB.size)) | exact hB.trans (hb.mono hB.size)⟩
theorem szS_all : ∀ n, SZS n
  | 0 => fun x a A B C a1 b1 c1 w h => absurd h (by omega)
  | n + 1 => szS_succ n (szS_all n)
theorem szSs_any (l : List S107) (a : Int) (A : Option Addr) (c : Nat) (w : World) (ha0 : 0 ≤ a) (ha1 : a ≤ 1048576) (hc : l.length ≤ c) (hC : Kd.C k107 w A l.length l) :
    Calls Try.prog 30 #[.slice A l.length c, .int .i64 a] w fun e w' => e = .returned (.int .i64 (szSs l a)) ∧ Below w.heap.size w w' := szSs_of (dSs l + 1) (szS_all _) l a A c w (by omega) ha0 ha1 hc hC
end Go.Proofs.Ytcigooccnlbkjaa.Hf2
