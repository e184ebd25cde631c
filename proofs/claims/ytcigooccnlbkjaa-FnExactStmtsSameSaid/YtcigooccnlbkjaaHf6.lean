/- The walk of the law FnExactStmtsSame: it returns true for every two lists of statements. No condition. -/
import Derived.Test.YtcigooccnlbkjaaHf1
import Derived.Test.YtcigooccnlbkjaaHe4
import Derived.Test.YtcigooccnlbkjaaHe6
import Derived.Test.YtcigooccnlbkjaaHf2
import Derived.Test.YtcigooccnlbkjaaHf3
import Derived.Test.YtcigooccnlbkjaaHf4
import Derived.Test.YtcigooccnlbkjaaHf4b
import Derived.Test.YtcigooccnlbkjaaHf5
import Derived.WalkLawsBesides
import Derived.WalkSpells
import Derived.Deep.RegionHeld
import Derived.Deep.DeepCutAuto
import Derived.Deep.CutBlock
namespace Go.Proofs.Ytcigooccnlbkjaa.Hf6
open Go.RowKit Go.Proofs.Ytcigooccnlbkjaa.He1 Go.Proofs.Ytcigooccnlbkjaa.He4 Go.Proofs.Ytcigooccnlbkjaa.He6 Go.Proofs.Ytcigooccnlbkjaa.Hf1 Go.Proofs.Ytcigooccnlbkjaa.Hf2 Go.Proofs.Ytcigooccnlbkjaa.Hf3 Go.Proofs.Ytcigooccnlbkjaa.Hf4b Go.Proofs.Ytcigooccnlbkjaa.Hf5 Go.Proofs.Ytcigooccnlbkjaa.PFnExactStmtsSame Go.Proofs.YtcigooccnlbkjaaW.PrintWords Go.Proofs.YtcigooccnlbkjaaW.PrintLast Go.Proofs.YtcigooccnlbkjaaW.PrintMore
set_option linter.unusedVariables false
set_option linter.unusedSimpArgs false
attribute [local go_sem] max2_int min2_int max_two min_two

mutual
theorem lnS_cv : ∀ x : S107, okS x → lnS (cvS x)
  | ⟨a, b, e, l, m⟩, h => by
    rw [okS] at h
    rw [cvS, lnS]
    exact ⟨lenF_cv e h.1, ⟨by rw [cvSs_len]; omega, lnSs_cv l h.2.1.2⟩, ⟨by rw [cvSs_len]; omega, lnSs_cv m h.2.2.2⟩⟩
theorem lnSs_cv : ∀ l : List S107, okSs l → lnSs (cvSs l)
  | [], h => by rw [cvSs, lnSs]; trivial
  | x :: xs, h => by
    rw [okSs] at h
    rw [cvSs, lnSs]
    exact ⟨lnS_cv x h.1, lnSs_cv xs h.2⟩
end
set_option maxRecDepth 100000 in
set_option maxHeartbeats 12800000 in
theorem walk (x y : List S107) (A B : Option Addr) (c d : Nat) (w : World) (hc : x.length ≤ c) (hd : y.length ≤ d) (hC : Kd.C k107 w A x.length x) (hD : Kd.C k107 w B y.length y) :
    Calls Try.prog 9 #[.slice A x.length c, .slice B y.length d] w fun e w' => e = .returned (.bool true) ∧ Below w.heap.size w w' := by
  have sx := szSs_any x 1048576 A c w (by omega) (by omega) hc hC
  have rx := szSs_rng x 1048576 (by omega)
  have ox := okSs_of x 1048576 (by omega) (by omega)
  generalize szSs x 1048576 = r1 at sx rx ox
  by_cases n1 : r1 < 0
  · have t1 : decide (r1 < 0) = true := decide_eq_true n1
    clear n1 rx ox hC hD
    go_enter Try.func9, Try.ntmps9
    go_wp2_with fail
    refine sx.mono ?_
    rintro e w3 ⟨rfl, hb⟩
    clear sx
    go_wp2
    go_ret
    exact ⟨rfl, hb⟩
  have hr1 : 0 ≤ r1 ∧ r1 ≤ 1048576 := by omega
  replace ox := ox (by omega)
  have t1 : decide (r1 < 0) = false := decide_eq_false n1
  have sy := fun W (h : Below w.heap.size w W) => szSs_any y r1 B d W hr1.1 hr1.2 hd (Kd.C_below hD h)
  have ry := szSs_rng y r1 hr1.1
  have oy := okSs_of y r1 hr1.1 hr1.2
  generalize szSs y r1 = r2 at sy ry oy
  by_cases n2 : r2 < 0
  · have t2 : decide (r2 < 0) = true := decide_eq_true n2
    clear n1 rx ox ry oy n2 hr1 hC hD
    go_enter Try.func9, Try.ntmps9
    go_wp2_with fail
    refine sx.mono ?_
    rintro e w3 ⟨rfl, hb⟩
    clear sx
    go_wp2_with fail
    refine (sy _ hb).mono ?_
    rintro e w4 ⟨rfl, hb2⟩
    clear sy
    go_wp2
    go_ret
    exact ⟨rfl, hb.trans (hb2.mono hb.size)⟩
  · have t2 : decide (r2 < 0) = false := decide_eq_false n2
    replace oy := oy (by omega)
    obtain ⟨u, hu⟩ : ∃ u, cvSs x = u := ⟨_, rfl⟩
    obtain ⟨v, hv⟩ : ∃ v, cvSs y = v := ⟨_, rfl⟩
    have tx := fun W (h : Below w.heap.size w W) => toSs_any x A c W ox.2 ox.1 hc (Kd.C_below hC h)
    have ty := fun W (h : Below w.heap.size w W) => toSs_any y B d W oy.2 oy.1 hd (Kd.C_below hD h)
    have hln := lnSs_cv x ox.2
    rw [hu] at tx hln
    rw [hv] at ty
    have sp := fun P1 P2 p1 p2 W => sps_all (dTs u + 1) u v P1 P2 p1 p2 W (by omega) hln
    have ip := fun P1 P2 p1 p2 W => ssS_any u v P1 P2 p1 p2 W
    have equ := fun P1 P2 p1 p2 W => Hf4.eqSs_any u P1 P2 p1 p2 W
    have eqv := fun P1 P2 p1 p2 W => Hf4.eqSs_any v P1 P2 p1 p2 W
    generalize sms u v = r at sp ip
    have dne : (r != r) = false := by simp
    clear n1 rx ox ry oy n2 hr1 hu hv hC hD hln
    go_enter Try.func9, Try.ntmps9
    go_wp2_with fail
    refine sx.mono ?_
    rintro e w3 ⟨rfl, hb⟩
    clear sx
    go_wp2_with fail
    refine (sy _ hb).mono ?_
    rintro e w4 ⟨rfl, hb2⟩
    have hB := hb.trans (hb2.mono hb.size)
    clear sy hb hb2
    go_wp2_with fail
    refine (tx _ hB).mono ?_
    rintro e w5 ⟨P1, p1, rfl, hp1, c1, hb⟩
    replace hB := hB.trans (hb.mono hB.size)
    clear hb
    go_wp2_with fail
    refine (ty _ hB).mono ?_
    rintro e w6 ⟨P2, p2, rfl, hp2, c2, hb⟩
    replace hB := hB.trans (hb.mono hB.size)
    replace c1 := Kd.C_below c1 hb
    clear hb
    go_wp2_with fail
    refine (sp P1 P2 p1 p2 w6 hp1 hp2 c1 c2).mono ?_
    rintro e w7 ⟨rfl, hb⟩
    replace hB := hB.trans (hb.mono hB.size)
    clear hb sp c1 c2
    go_wp2_with fail
    refine (tx _ hB).mono ?_
    rintro e w8 ⟨P3, p3, rfl, hp3, c3, hb⟩
    replace hB := hB.trans (hb.mono hB.size)
    clear hb
    go_wp2_with fail
    refine (ty _ hB).mono ?_
    rintro e w9 ⟨P4, p4, rfl, hp4, c4, hb⟩
    replace hB := hB.trans (hb.mono hB.size)
    replace c3 := Kd.C_below c3 hb
    clear hb
    go_wp2_with fail
    refine (ip P3 P4 p3 p4 w9 hp3 hp4 c3 c4).mono ?_
    rintro e w10 ⟨rfl, hb⟩
    replace hB := hB.trans (hb.mono hB.size)
    replace c3 := Kd.C_below c3 hb
    replace c4 := Kd.C_below c4 hb
    clear hb ip
    go_wp2_with fail
    refine (tx _ hB).mono ?_
    rintro e w11 ⟨P5, p5, rfl, hp5, c5, hb⟩
    replace hB := hB.trans (hb.mono hB.size)
    replace c3 := Kd.C_below c3 hb
    replace c4 := Kd.C_below c4 hb
    clear hb tx
    go_wp2_with fail
    refine (equ P3 P5 p3 p5 w11 hp3 hp5 c3 c5).mono ?_
    rintro e w12 ⟨rfl, hb⟩
    replace hB := hB.trans (hb.mono hB.size)
    replace c4 := Kd.C_below c4 hb
    clear hb equ c3 c5
    go_wp2_with fail
    refine (ty _ hB).mono ?_
    rintro e w13 ⟨P6, p6, rfl, hp6, c6, hb⟩
    replace hB := hB.trans (hb.mono hB.size)
    replace c4 := Kd.C_below c4 hb
    clear hb ty
    go_wp2_with fail
    refine (eqv P4 P6 p4 p6 w13 hp4 hp6 c4 c6).mono ?_
    rintro e w14 ⟨rfl, hb⟩
    replace hB := hB.trans (hb.mono hB.size)
    clear hb eqv c4 c6
    go_wp2
    go_ret
    exact ⟨rfl, hB⟩
end Go.Proofs.Ytcigooccnlbkjaa.Hf6
