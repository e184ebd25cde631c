/- Contracts of impl.StmtsSame and its closure, by depth, closed. No condition. -/
import Derived.Test.YtcigooccnlbkjaaHf4
import Derived.Test.YtcigooccnlbkjaaHf1
import Derived.Test.YtcigooccnlbkjaaHe4
import Derived.Test.YtcigooccnlbkjaaPFnExactStmtsSamex1
import Derived.WalkLawsBesides
import Derived.WalkSpells
import Derived.Deep.RegionHeld
import Derived.Deep.DeepCutAuto
import Derived.Deep.CutBlock
namespace Go.Proofs.Ytcigooccnlbkjaa.Hf4b
open Go.RowKit Go.Proofs.Ytcigooccnlbkjaa.He1 Go.Proofs.Ytcigooccnlbkjaa.He4 Go.Proofs.Ytcigooccnlbkjaa.Hf1 Go.Proofs.Ytcigooccnlbkjaa.Hf4 Go.Proofs.Ytcigooccnlbkjaa.PFnExactStmtsSame Go.Proofs.YtcigooccnlbkjaaW.PrintWords Go.Proofs.YtcigooccnlbkjaaW.PrintLast Go.Proofs.YtcigooccnlbkjaaW.PrintMore
set_option linter.unusedVariables false
set_option linter.unusedSimpArgs false
attribute [local go_sem] max2_int min2_int max_two min_two
attribute [local go_sem high] eqA52

theorem sm_no (x y : S109) (h : (x.f0 == y.f0 && ((x.f1.f0 == y.f1.f0 && x.f1.f1 == y.f1.f1) && (alk x.f2 y.f2 && (sms x.f3 y.f3 && sms x.f4 y.f4)))) = false) : sm x y = false := by rw [sm_eq, h]
set_option maxRecDepth 100000 in
set_option maxHeartbeats 6400000 in
theorem sm_succ (n : Nat) (IH : SMC n) : SMC (n + 1) := by
  intro x y A B C a1 b1 c1 D E F d1 e1 f1 w hd l1 l2 l3 m1 m2 m3 r1 r2 r3 t1 t2 t3
  have hx := dT_eq x
  have cE := fun W (h : Below w.heap.size w W) => alk_any x.f2 y.f2 A D a1 d1 W l1 m1 (Kd.C_below r1 h) (Kd.C_below t1 h)
  have cT := fun W (h : Below w.heap.size w W) => ssS_of n IH x.f3 y.f3 B E b1 e1 W (by omega) l2 m2 (Kd.C_below r2 h) (Kd.C_below t2 h)
  have cL := fun W (h : Below w.heap.size w W) => ssS_of n IH x.f4 y.f4 C F c1 f1 W (by omega) l3 m3 (Kd.C_below r3 h) (Kd.C_below t3 h)
  have hno := sm_no x y
  have hyes := sm_eq x y
  clear hx hd r1 r2 r3 t1 t2 t3 IH
  have hu109 := Try.underlying109
  have hu55 := Try.underlying55
  have hu52 := Try.underlying52
  have hT := Hf4.Tq.two w #[.int .i64 x.f0, .int .i64 x.f1.f0, .int .i64 x.f1.f1, .int .i64 x.f2.f0, .int .i64 x.f2.f1, .int .i64 x.f2.f2.f0, .int .i64 x.f2.f2.f1, .slice A x.f2.f3.length a1, .slice B x.f3.length b1, .slice C x.f4.length c1] #[.int .i64 y.f0, .int .i64 y.f1.f0, .int .i64 y.f1.f1, .int .i64 y.f2.f0, .int .i64 y.f2.f1, .int .i64 y.f2.f2.f0, .int .i64 y.f2.f2.f1, .slice D y.f2.f3.length d1, .slice E y.f3.length e1, .slice F y.f4.length f1]
  have hB := hT.bel
  cases h0 : (x.f0 == y.f0) with
  | false =>
    rw [hno (by rw [h0]; rfl)]
    clear cE cT cL hno hyes hT
    go_enter Try.func61, Try.ntmps61
    go_wp2
    go_ret
    exact ⟨rfl, hB⟩
  | true =>
    cases h1 : (x.f1.f0 == y.f1.f0 && x.f1.f1 == y.f1.f1) with
    | false =>
      rw [hno (by rw [h1]; simp)]
      clear cE cT cL hno hyes hT
      go_enter Try.func61, Try.ntmps61
      go_wp2
      go_ret
      exact ⟨rfl, hB⟩
    | true =>
      cases h2 : alk x.f2 y.f2 with
      | false =>
        rw [hno (by rw [h2]; simp)]
        rw [h2] at cE
        clear cT cL hno hyes hT h2
        go_enter Try.func61, Try.ntmps61
        go_wp2_with fail
        refine (cE _ hB).mono ?_
        rintro e w3 ⟨rfl, hb⟩
        clear cE
        go_wp2
        go_ret
        exact ⟨rfl, hB.trans (hb.mono hB.size)⟩
      | true =>
        rw [h2] at cE
        go_enter Try.func61, Try.ntmps61
        go_wp2_with fail
        refine (cE _ hB).mono ?_
        rintro e w3 ⟨rfl, hb⟩
        replace hT := hT.below hb
        clear cE hb hB
        obtain ⟨g1, hg1⟩ : ∃ g, w.heap.size = g := ⟨_, rfl⟩
        obtain ⟨g2, hg2⟩ : ∃ g, g1 + 1 = g := ⟨_, rfl⟩
        rw [hg1, hg2] at hT
        try rw [hg1]
        try rw [hg2]
        clear hg1 hg2
        have i8 : w3.cell? ⟨g1, 8, none⟩ = some (.slice B x.f3.length b1) := (blk_cell hT.h1 8).trans rfl
        have j8 : w3.cell? ⟨g2, 8, none⟩ = some (.slice E y.f3.length e1) := (blk_cell hT.h2 8).trans rfl
        have hB := hT.bel
        cases h3 : sms x.f3 y.f3 with
        | false =>
          rw [h3] at cT
          have hst := Aside0.mk (hno (by rw [h3]; simp))
          clear cL hno hyes h2 h3 hT
          go_wp2_with fail
          refine (cT _ hB).mono ?_
          rintro e w4 ⟨rfl, hb⟩
          clear cT i8 j8
          go_wp2
          go_ret
          exact ⟨by rw [hst.out]; rfl, hB.trans (hb.mono hB.size)⟩
        | true =>
          rw [h3] at cT
          have e : sm x y = sms x.f4 y.f4 := by rw [hyes, h0, h1, h2, h3]; simp
          have hst := Aside0.mk e
          clear hno hyes h2 h3 e
          generalize sms x.f4 y.f4 = r at cL hst
          go_wp2_with fail
          refine (cT _ hB).mono ?_
          rintro e w4 ⟨rfl, hb⟩
          replace hT := hT.below hb
          clear cT hb hB i8 j8
          have i9 : w4.cell? ⟨g1, 9, none⟩ = some (.slice C x.f4.length c1) := (blk_cell hT.h1 9).trans rfl
          have j9 : w4.cell? ⟨g2, 9, none⟩ = some (.slice F y.f4.length f1) := (blk_cell hT.h2 9).trans rfl
          have hB := hT.bel
          clear hT
          go_wp2_with fail
          refine (cL _ hB).mono ?_
          rintro e w5 ⟨rfl, hb⟩
          clear cL i9 j9
          go_wp2
          go_ret
          exact ⟨by rw [hst.out]; rfl, hB.trans (hb.mono hB.size)⟩
theorem sm_all : ∀ n, SMC n
  | 0 => fun x y A B C a1 b1 c1 D E F d1 e1 f1 w h => absurd h (by omega)
  | n + 1 => sm_succ n (sm_all n)
theorem ssS_any (l m : List S109) (A B : Option Addr) (c d : Nat) (w : World) (hc : l.length ≤ c) (hdd : m.length ≤ d) (hC : Kd.C k109 w A l.length l) (hD : Kd.C k109 w B m.length m) :
    Calls Try.prog 33 #[.slice A l.length c, .slice B m.length d] w fun e w' => e = .returned (.bool (sms l m)) ∧ Below w.heap.size w w' := ssS_of (dTs l + 1) (sm_all _) l m A B c d w (by omega) hc hdd hC hD
end Go.Proofs.Ytcigooccnlbkjaa.Hf4b
