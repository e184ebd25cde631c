/- Contracts of laws.eqExpr, laws.eqExprS at equal trees, impl.ExprAlike with slices.EqualFunc, by depth. No condition. -/
import Derived.Test.YtcigooccnlbkjaaHe1
import Derived.Test.YtcigooccnlbkjaaPFnExactStmtsSamex1
import Derived.Test.YtcigooccnlbkjaaPFnExactStmtsSamex2
import Derived.WalkLawsBesides
import Derived.WalkSpells
import Derived.Deep.RegionHeld
import Derived.Deep.DeepCutAuto
import Derived.Deep.CutBlock
namespace Go.Proofs.Ytcigooccnlbkjaa.He4
open Go.RowKit Go.Proofs.Ytcigooccnlbkjaa.He1 Go.Proofs.Ytcigooccnlbkjaa.PFnExactStmtsSame Go.Proofs.YtcigooccnlbkjaaW.PrintWords Go.Proofs.YtcigooccnlbkjaaW.PrintLast Go.Proofs.YtcigooccnlbkjaaW.PrintMore
set_option linter.unusedVariables false
set_option linter.unusedSimpArgs false
attribute [local go_sem] max2_int min2_int max_two min_two
attribute [local go_sem high] eqA52
theorem wrap_nat (k n : Nat) (h : k < n) (hn : n ≤ 9223372036854775807) : wrap64 ((k : Int) + 1) = ((k + 1 : Nat) : Int) := by
  have h1 : (k : Int) + 1 ≤ 9223372036854775807 := by omega
  have h2 : -9223372036854775808 ≤ (k : Int) + 1 := by omega
  exact (wrap_id h2 h1).trans (Int.natCast_succ k).symm
def EQ (n : Nat) : Prop := ∀ (x : S55) (A B : Option Addr) (c d : Nat) (w : World), dF x < n → x.f3.length ≤ c → x.f3.length ≤ d → Kd.C k55 w A x.f3.length x.f3 → Kd.C k55 w B x.f3.length x.f3 →
  Calls Try.prog 29 #[.agg #[.int .i64 x.f0, .int .i64 x.f1, .int .i64 x.f2.f0, .int .i64 x.f2.f1, .slice A x.f3.length c], .agg #[.int .i64 x.f0, .int .i64 x.f1, .int .i64 x.f2.f0, .int .i64 x.f2.f1, .slice B x.f3.length d]] w fun e w' => e = .returned (.bool true) ∧ Below w.heap.size w w'
set_option maxRecDepth 100000 in
set_option maxHeartbeats 3200000 in
theorem eqES_of (n : Nat) (IH : EQ n) (l : List S55) (A B : Option Addr) (c d : Nat) (w : World) (hd : dFs l < n) (hc : l.length ≤ c) (hdd : l.length ≤ d) (hC : Kd.C k55 w A l.length l) (hD : Kd.C k55 w B l.length l) :
    Calls Try.prog 57 #[.slice A l.length c, .slice B l.length d] w fun e w' => e = .returned (.bool true) ∧ Below w.heap.size w w' := by
  have d0 : ((l.length : Int) != (l.length : Int)) = false := by simp
  have hd' := Aside0.mk hd
  have hmx := Aside0.mk (Kd.C_max hC)
  clear hd
  go_enter Try.func57, Try.ntmps57
  go_wp2
  go_loopw [5] (fun i wr => ∃ (k : Nat), k ≤ l.length ∧ i = .int .i64 k ∧ Below w.heap.size w wr) (fun i _ => l.length - (intOf i).toNat)
  case atStart => exact ⟨0, by omega, rfl, Below.refl _ _⟩
  case round =>
    obtain ⟨k, hk, rfl, hbw⟩ := hrel
    by_cases hlt : k < l.length
    · obtain ⟨ad, A4, c4, hA, e0, e1, e2, e3, e4, hl4, hC4⟩ := at_T55 (Kd.C_below hC hbw) (k : Int) (by omega) (by omega)
      obtain ⟨bd, B4, d4, hB, f0, f1, f2, f3, f4, hm4, hD4⟩ := at_T55 (Kd.C_below hD hbw) (k : Int) (by omega) (by omega)
      subst hA
      subst hB
      rw [Int.toNat_natCast] at e0 e1 e2 e3 e4 f0 f1 f2 f3 f4
      rw [rd55 l k hlt] at e0 e1 e2 e3 e4 hl4 hC4 f0 f1 f2 f3 f4 hm4 hD4
      have hdx : dF l[k] < n := Nat.lt_of_le_of_lt (dFs_mem l _ (List.getElem_mem hlt)) hd'.out
      have hcall := fun W => IH l[k] A4 B4 c4 d4 W hdx hl4 hm4
      clear hdx
      generalize l[k] = x at *
      have d2 : decide ((k : Int) < (l.length : Int)) = true := by simp; omega
      have hu55 := Try.underlying55
      have hu52 := Try.underlying52
      have hkb : k + 1 ≤ 9223372036854775807 := Nat.le_trans hlt hmx.out
      have hkb' := Aside0.mk hkb
      clear IH hC hD hkb
      go_upto_region 6 with (fail)
      have hbd := below_drew1 hbw
      have hC4d := Kd.C_drew hC4
      have hD4d := Kd.C_drew hD4
      clear hbw hC4 hD4
      refine start_ (n := 10) (S := fun w' => w'.cell? (ad.add (k * 5)) = some (.int .i64 x.f0) ∧ w'.cell? ⟨(ad.add (k * 5)).block, (ad.add (k * 5)).off + 1, none⟩ = some (.int .i64 x.f1) ∧ w'.cell? ⟨(ad.add (k * 5)).block, (ad.add (k * 5)).off + 2, none⟩ = some (.int .i64 x.f2.f0) ∧ w'.cell? ⟨(ad.add (k * 5)).block, (ad.add (k * 5)).off + 3, none⟩ = some (.int .i64 x.f2.f1) ∧ w'.cell? ⟨(ad.add (k * 5)).block, (ad.add (k * 5)).off + 4, none⟩ = some (.slice A4 x.f3.length c4) ∧ w'.cell? (bd.add (k * 5)) = some (.int .i64 x.f0) ∧ w'.cell? ⟨(bd.add (k * 5)).block, (bd.add (k * 5)).off + 1, none⟩ = some (.int .i64 x.f1) ∧ w'.cell? ⟨(bd.add (k * 5)).block, (bd.add (k * 5)).off + 2, none⟩ = some (.int .i64 x.f2.f0) ∧ w'.cell? ⟨(bd.add (k * 5)).block, (bd.add (k * 5)).off + 3, none⟩ = some (.int .i64 x.f2.f1) ∧ w'.cell? ⟨(bd.add (k * 5)).block, (bd.add (k * 5)).off + 4, none⟩ = some (.slice B4 x.f3.length d4) ∧ Below w.heap.size w w' ∧ Kd.C k55 w' A4 x.f3.length x.f3 ∧ Kd.C k55 w' B4 x.f3.length x.f3) (ds := []) #[false, false, false, false, false, false, false, false, false, false] (by kernel_rfl) rfl rfl ⟨e0, e1, e2, e3, e4, f0, f1, f2, f3, f4, hbd, hC4d, hD4d⟩ (fun hHeld => ?_)
      refine pure_ (i := 0) (N := some 17) (v := ?_) (a' := ?_) #[true, false, false, false, false, false, false, false, false, false] rfl rfl (by kernel_rfl) (fun _ _ _ h => h) (Or.inl ⟨by rfl, ?_⟩) ?_ ?_
      rotate_left
      · intro w'
        go_simp
        with_reducible rfl
      rotate_left
      · simp only [Act.put, List.setIfInBounds_toArray, List.set_cons_zero, List.set_cons_succ, i64_w, i32_w]
        rfl
      refine pure_ (i := 1) (N := some 18) (v := ?_) (a' := ?_) #[true, true, false, false, false, false, false, false, false, false] rfl rfl (by kernel_rfl) (fun _ _ _ h => h) (Or.inl ⟨by rfl, ?_⟩) ?_ ?_
      rotate_left
      · intro w'
        go_simp
        with_reducible rfl
      rotate_left
      · simp only [Act.put, List.setIfInBounds_toArray, List.set_cons_zero, List.set_cons_succ, i64_w, i32_w]
        rfl
      refine pure_ (i := 2) (N := some 19) (v := ?_) (a' := ?_) #[true, true, true, false, false, false, false, false, false, false] rfl rfl (by kernel_rfl) (fun _ _ _ h => h) (Or.inl ⟨by rfl, ?_⟩) ?_ ?_
      rotate_left
      · intro w'
        go_simp
        with_reducible rfl
      rotate_left
      · simp only [Act.put, List.setIfInBounds_toArray, List.set_cons_zero, List.set_cons_succ, i64_w, i32_w]
        rfl
      refine pure_ (i := 4) (N := some 21) (v := ?_) (a' := ?_) #[true, true, true, false, true, false, false, false, false, false] rfl rfl (by kernel_rfl) (fun _ _ _ h => h) (Or.inl ⟨by rfl, ?_⟩) ?_ ?_
      rotate_left
      · intro w'
        go_simp
        with_reducible rfl
      rotate_left
      · simp only [Act.put, List.setIfInBounds_toArray, List.set_cons_zero, List.set_cons_succ, i64_w, i32_w]
        rfl
      refine pure_ (i := 5) (N := some 22) (v := ?_) (a' := ?_) #[true, true, true, false, true, true, false, false, false, false] rfl rfl (by kernel_rfl) (fun _ _ _ h => h) (Or.inl ⟨by rfl, ?_⟩) ?_ ?_
      rotate_left
      · intro w'
        go_simp
        with_reducible rfl
      rotate_left
      · simp only [Act.put, List.setIfInBounds_toArray, List.set_cons_zero, List.set_cons_succ, i64_w, i32_w]
        rfl
      refine pure_ (i := 6) (N := some 23) (v := ?_) (a' := ?_) #[true, true, true, false, true, true, true, false, false, false] rfl rfl (by kernel_rfl) (fun _ _ _ h => h) (Or.inl ⟨by rfl, ?_⟩) ?_ ?_
      rotate_left
      · intro w'
        go_simp
        with_reducible rfl
      rotate_left
      · simp only [Act.put, List.setIfInBounds_toArray, List.set_cons_zero, List.set_cons_succ, i64_w, i32_w]
        rfl
      refine take_ (i := 3) (N := some 20) (v := ?_) (a' := ?_) #[true, true, true, true, true, true, true, false, false, false] rfl rfl (by kernel_rfl) (fun _ _ _ h => h) (Or.inl ⟨by rfl, ?_⟩) hHeld ?_ ?_
      rotate_left
      · rintro w' ⟨s0, s1, s2, s3, s4, s5, s6, s7, s8, s9, s10, s11, s12⟩
        go_simp
        with_reducible rfl
      rotate_left
      · simp only [Act.put, List.setIfInBounds_toArray, List.set_cons_zero, List.set_cons_succ, i64_w, i32_w]
        rfl
      refine take_ (i := 7) (N := some 24) (v := ?_) (a' := ?_) #[true, true, true, true, true, true, true, true, false, false] rfl rfl (by kernel_rfl) (fun _ _ _ h => h) (Or.inl ⟨by rfl, ?_⟩) hHeld ?_ ?_
      rotate_left
      · rintro w' ⟨s0, s1, s2, s3, s4, s5, s6, s7, s8, s9, s10, s11, s12⟩
        go_simp
        with_reducible rfl
      rotate_left
      · simp only [Act.put, List.setIfInBounds_toArray, List.set_cons_zero, List.set_cons_succ, i64_w, i32_w]
        rfl
      refine one_ (i := 8) (N := some 25) #[true, true, true, true, true, true, true, true, true, false] rfl rfl (by kernel_rfl) (by decide) (fun K hK => ?_)
      refine goes_ Try.func29 (by kernel_rfl) rfl #[.agg #[.int .i64 x.f0, .int .i64 x.f1, .int .i64 x.f2.f0, .int .i64 x.f2.f1, .slice A4 x.f3.length c4], .agg #[.int .i64 x.f0, .int .i64 x.f1, .int .i64 x.f2.f0, .int .i64 x.f2.f1, .slice B4 x.f3.length d4]] (by rfl) rfl rfl (by simp only [List.map_toArray, List.map_cons, List.map_nil]; rfl) ?_
      with_reducible refine (hcall _ hHeld.2.2.2.2.2.2.2.2.2.2.2.1 hHeld.2.2.2.2.2.2.2.2.2.2.2.2).mono ?_
      rintro e w3 ⟨rfl, hb3⟩
      refine ⟨_, rfl, ?_⟩
      refine hK.out _ _ ⟨(hb3.cell (World.block_lt_of_cell? _ _ hHeld.1)).trans hHeld.1, (hb3.cell (World.block_lt_of_cell? _ _ hHeld.2.1)).trans hHeld.2.1, (hb3.cell (World.block_lt_of_cell? _ _ hHeld.2.2.1)).trans hHeld.2.2.1, (hb3.cell (World.block_lt_of_cell? _ _ hHeld.2.2.2.1)).trans hHeld.2.2.2.1, (hb3.cell (World.block_lt_of_cell? _ _ hHeld.2.2.2.2.1)).trans hHeld.2.2.2.2.1, (hb3.cell (World.block_lt_of_cell? _ _ hHeld.2.2.2.2.2.1)).trans hHeld.2.2.2.2.2.1, (hb3.cell (World.block_lt_of_cell? _ _ hHeld.2.2.2.2.2.2.1)).trans hHeld.2.2.2.2.2.2.1, (hb3.cell (World.block_lt_of_cell? _ _ hHeld.2.2.2.2.2.2.2.1)).trans hHeld.2.2.2.2.2.2.2.1, (hb3.cell (World.block_lt_of_cell? _ _ hHeld.2.2.2.2.2.2.2.2.1)).trans hHeld.2.2.2.2.2.2.2.2.1, (hb3.cell (World.block_lt_of_cell? _ _ hHeld.2.2.2.2.2.2.2.2.2.1)).trans hHeld.2.2.2.2.2.2.2.2.2.1, hHeld.2.2.2.2.2.2.2.2.2.2.1.trans (hb3.mono hHeld.2.2.2.2.2.2.2.2.2.2.1.size), Kd.C_below hHeld.2.2.2.2.2.2.2.2.2.2.2.1 hb3, Kd.C_below hHeld.2.2.2.2.2.2.2.2.2.2.2.2 hb3⟩ (fun hHeld => ?_)
      clear hK K
      refine norm_ (a' := ?_) ?_ ?_
      rotate_left
      · show Act.put _ (some 25) _ = _
        simp only [Act.put, List.setIfInBounds_toArray, List.set_cons_zero, List.set_cons_succ, i64_w, i32_w]
        rfl
      refine pure_ (i := 9) (N := some 26) (v := ?_) (a' := ?_) #[true, true, true, true, true, true, true, true, true, true] rfl rfl (by kernel_rfl) (fun _ _ _ h => h) (Or.inl ⟨by rfl, ?_⟩) ?_ ?_
      rotate_left
      · intro w'
        go_simp
        with_reducible rfl
      rotate_left
      · simp only [Act.put, List.setIfInBounds_toArray, List.set_cons_zero, List.set_cons_succ, i64_w, i32_w]
        rfl
      refine done_ (by kernel_rfl) ?_
      have hbw := hHeld.2.2.2.2.2.2.2.2.2.2.1
      clear hHeld hcall e0 e1 e2 e3 e4 f0 f1 f2 f3 f4 hbd hC4d hD4d
      have hkb := hkb'.out
      go_wp2
      go_roundw
      case rel => exact ⟨k + 1, by omega, by go_num, hbw⟩
      case measure => simp [intOf]; omega
    · have hkn : k = l.length := by omega
      subst hkn
      have d2 : decide ((l.length : Int) < (l.length : Int)) = false := by simp
      clear hC hD IH
      go_wp2
      go_ret
      exact ⟨rfl, hbw⟩
structure Tq (w : World) (g1 g2 : Nat) (X Y : Array Value) (W : World) : Prop where
  h1 : W.heap[g1]? = some (.cells X 55 (0, 0))
  h2 : W.heap[g2]? = some (.cells Y 55 (0, 0))
  bel : Below w.heap.size w W
theorem Tq.below {w W W' : World} {g1 g2 : Nat} {X Y : Array Value} (h : Tq w g1 g2 X Y W) (k : Below W.heap.size W W') : Tq w g1 g2 X Y W' := ⟨blk_below h.h1 k, blk_below h.h2 k, h.bel.trans (k.mono h.bel.size)⟩
theorem Tq.two (w : World) (X Y : Array Value) : Tq w w.heap.size (w.heap.size + 1) X Y ((w.alloc (.cells X 55)).alloc (.cells Y 55)) := by
  have e1 : (w.alloc (.cells X 55)).heap.size = w.heap.size + 1 := Array.size_push ..
  refine ⟨blk_alloc (heap_alloc_new _ _) _, ?_, ((Below.refl _ _).alloc (Nat.le_refl _) _).alloc (by rw [e1]; omega) _⟩
  have h := heap_alloc_new (w.alloc (.cells X 55)) (.cells Y 55)
  rw [e1] at h
  exact h
set_option maxRecDepth 100000 in
set_option maxHeartbeats 3200000 in
theorem eq_succ (n : Nat) (IH : EQ n) : EQ (n + 1) := by
  intro x A B c d w hd hc hdd hC hD
  have hx := dF_eq x
  have hcall := fun W (h : Below w.heap.size w W) => eqES_of n IH x.f3 A B c d W (by omega) hc hdd (Kd.C_below hC h) (Kd.C_below hD h)
  have ca := fun W => laws_eqAddr.calls x.f2.f0 x.f2.f1 x.f2.f0 x.f2.f1 true W (by simp [laws_eqAddr.f])
  have s0 : (x.f0 != x.f0) = false := by simp
  have s1 : (x.f1 != x.f1) = false := by simp
  clear hx hd hC hD IH
  have hu55 := Try.underlying55
  have hu52 := Try.underlying52
  have hT := Tq.two w #[.int .i64 x.f0, .int .i64 x.f1, .int .i64 x.f2.f0, .int .i64 x.f2.f1, .slice A x.f3.length c] #[.int .i64 x.f0, .int .i64 x.f1, .int .i64 x.f2.f0, .int .i64 x.f2.f1, .slice B x.f3.length d]
  go_enter Try.func29, Try.ntmps29
  go_upto_region 5 with (fail)
  generalize (w.alloc (Obj.cells _ 55)).alloc (Obj.cells _ 55) = w2 at hT ⊢
  obtain ⟨g1, hg1⟩ : ∃ g, w.heap.size = g := ⟨_, rfl⟩
  obtain ⟨g2, hg2⟩ : ∃ g, g1 + 1 = g := ⟨_, rfl⟩
  rw [hg1, hg2] at hT ⊢
  have hG := Aside0.mk hg1
  clear hg1 hg2
  have i1 : w2.cell? ⟨g1, 2, none⟩ = some (.int .i64 x.f2.f0) := (blk_cell hT.h1 2).trans rfl
  have i2 : w2.cell? ⟨g1, 3, none⟩ = some (.int .i64 x.f2.f1) := (blk_cell hT.h1 3).trans rfl
  have j1 : w2.cell? ⟨g2, 2, none⟩ = some (.int .i64 x.f2.f0) := (blk_cell hT.h2 2).trans rfl
  have j2 : w2.cell? ⟨g2, 3, none⟩ = some (.int .i64 x.f2.f1) := (blk_cell hT.h2 3).trans rfl
  go_wp2_with fail
  refine (ca _).mono ?_
  rintro e w3 ⟨rfl, hb⟩
  have hT2 := hT.below hb
  clear hT hb i1 i2 j1 j2 ca
  have i1 : w3.cell? ⟨g1, 4, none⟩ = some (.slice A x.f3.length c) := (blk_cell hT2.h1 4).trans rfl
  have j1 : w3.cell? ⟨g2, 4, none⟩ = some (.slice B x.f3.length d) := (blk_cell hT2.h2 4).trans rfl
  have hB3 := hT2.bel
  go_wp2_with fail
  refine (hcall _ hB3).mono ?_
  rintro e w4 ⟨rfl, hb⟩
  clear hcall i1 j1
  go_wp2
  go_ret
  exact ⟨rfl, hB3.trans (hb.mono hB3.size)⟩
theorem eq_all : ∀ n, EQ n
  | 0 => fun x A B c d w h => absurd h (by omega)
  | n + 1 => eq_succ n (eq_all n)
def ALK (n : Nat) : Prop := ∀ (x y : S55) (A B : Option Addr) (c d : Nat) (w : World), dF x < n → x.f3.length ≤ c → y.f3.length ≤ d → Kd.C k55 w A x.f3.length x.f3 → Kd.C k55 w B y.f3.length y.f3 →
  Calls Try.prog 28 #[.agg #[.int .i64 x.f0, .int .i64 x.f1, .int .i64 x.f2.f0, .int .i64 x.f2.f1, .slice A x.f3.length c], .agg #[.int .i64 y.f0, .int .i64 y.f1, .int .i64 y.f2.f0, .int .i64 y.f2.f1, .slice B y.f3.length d]] w fun e w' => e = .returned (.bool (alk x y)) ∧ Below w.heap.size w w'
set_option maxRecDepth 100000 in
set_option maxHeartbeats 3200000 in
theorem ef_of (n : Nat) (IH : ALK n) (l m : List S55) (A B : Option Addr) (c d : Nat) (w : World) (hd : dFs l < n) (hc : l.length ≤ c) (hdd : m.length ≤ d) (hC : Kd.C k55 w A l.length l) (hD : Kd.C k55 w B m.length m) :
    Calls Try.prog 55 #[.slice A l.length c, .slice B m.length d, .func (.func 28) #[] #[]] w fun e w' => e = .returned (.bool (alks l m)) ∧ Below w.heap.size w w' := by
  by_cases hne : l.length ≠ m.length
  · have e : alks l m = false := alks_len l m hne
    rw [e]
    have d0 : ((l.length : Int) != (m.length : Int)) = true := by simp; omega
    clear e hne hC hD IH
    go_enter Try.func55, Try.ntmps55
    go_wp2
    go_ret
    exact ⟨rfl, Below.refl _ _⟩
  have hlm : l.length = m.length := by omega
  obtain ⟨R, hR⟩ : ∃ R, alks l m = R := ⟨_, rfl⟩
  rw [hR]
  have d0 : ((l.length : Int) != (m.length : Int)) = false := by simp; omega
  have hR' := Aside0.mk hR
  have hd' := Aside0.mk hd
  have hlm' := Aside0.mk hlm
  have hmx := Aside0.mk (Kd.C_max hC)
  clear hd hR hlm hne
  go_enter Try.func55, Try.ntmps55
  go_wp2
  go_loopw [17] (fun i wr => ∃ (k : Nat), k ≤ l.length ∧ i = .int .i64 k ∧ Aside0 (alks (l.drop k) (m.drop k) = R) ∧ Below w.heap.size w wr) (fun i _ => l.length - (intOf i).toNat)
  case atStart => exact ⟨0, by omega, rfl, hR', Below.refl _ _⟩
  case round =>
    clear hR'
    obtain ⟨k, hk, rfl, hs, hbw⟩ := hrel
    have hlm := hlm'.out
    by_cases hlt : k < l.length
    · have hlt2 : k < m.length := by omega
      obtain ⟨ad, A4, c4, hA, e0, e1, e2, e3, e4, hl4, hC4⟩ := at_T55 (Kd.C_below hC hbw) (k : Int) (by omega) (by omega)
      obtain ⟨bd, B4, d4, hB, f0, f1, f2, f3, f4, hm4, hD4⟩ := at_T55 (Kd.C_below hD hbw) (k : Int) (by omega) (by omega)
      subst hA
      subst hB
      rw [Int.toNat_natCast] at e0 e1 e2 e3 e4 f0 f1 f2 f3 f4
      rw [rd55 l k hlt] at e0 e1 e2 e3 e4 hl4 hC4
      rw [rd55 m k hlt2] at f0 f1 f2 f3 f4 hm4 hD4
      have hdx : dF l[k] < n := Nat.lt_of_le_of_lt (dFs_mem l _ (List.getElem_mem hlt)) hd'.out
      have hstep := alks_drop l m k hlt hlt2
      rw [hs.out] at hstep
      have hcall := fun W (h : Below wr.heap.size wr W) => IH l[k] m[k] A4 B4 c4 d4 W hdx hl4 hm4 (Kd.C_below hC4 h) (Kd.C_below hD4 h)
      generalize alk l[k] m[k] = s at hstep hcall
      generalize l[k] = x at *
      generalize m[k] = y at *
      have d2 : decide ((k : Int) < (l.length : Int)) = true := by simp; omega
      have d3 : decide ((k : Int) < (m.length : Int)) = true := by simp; omega
      have hu55 := Try.underlying55
      have hu52 := Try.underlying52
      have hkb : k + 1 ≤ 9223372036854775807 := Nat.le_trans hlt hmx.out
      have hkb' := Aside0.mk hkb
      have kk : (k : Int) < (m.length : Int) := by omega
      clear IH hC hD hkb hdx hC4 hD4 hs hl4 hm4 hlm
      go_upto_region 6 with (fail)
      have hb1 : Below wr.heap.size wr (wr.alloc (.cells #[.int .i64 x.f0, .int .i64 x.f1, .int .i64 x.f2.f0, .int .i64 x.f2.f1, .slice A4 x.f3.length c4] 55)) := (Below.refl _ _).alloc (Nat.le_refl _) _
      replace f0 := (hb1.cell (World.block_lt_of_cell? _ _ f0)).trans f0
      replace f1 := (hb1.cell (World.block_lt_of_cell? _ _ f1)).trans f1
      replace f2 := (hb1.cell (World.block_lt_of_cell? _ _ f2)).trans f2
      replace f3 := (hb1.cell (World.block_lt_of_cell? _ _ f3)).trans f3
      replace f4 := (hb1.cell (World.block_lt_of_cell? _ _ f4)).trans f4
      have q1 := heap_alloc_new wr (.cells #[.int .i64 x.f0, .int .i64 x.f1, .int .i64 x.f2.f0, .int .i64 x.f2.f1, .slice A4 x.f3.length c4] 55)
      clear e0 e1 e2 e3 e4
      generalize wr.alloc (Obj.cells _ 55) = v1 at hb1 f0 f1 f2 f3 f4 q1 ⊢
      obtain ⟨g1, hg1⟩ : ∃ g, wr.heap.size = g := ⟨_, rfl⟩
      rw [hg1] at q1 ⊢
      have hG1 := Aside0.mk hg1
      clear hg1
      go_upto_region 7 with (fail)
      have hb2_ : Below v1.heap.size v1 (v1.alloc (.cells #[.int .i64 y.f0, .int .i64 y.f1, .int .i64 y.f2.f0, .int .i64 y.f2.f1, .slice B4 y.f3.length d4] 55)) := (Below.refl _ _).alloc (Nat.le_refl _) _
      have q2 := heap_alloc_new v1 (.cells #[.int .i64 y.f0, .int .i64 y.f1, .int .i64 y.f2.f0, .int .i64 y.f2.f1, .slice B4 y.f3.length d4] 55)
      replace q1 := blk_below q1 hb2_
      have h2 := hb1.trans (hb2_.mono hb1.size)
      clear f0 f1 f2 f3 f4 hb1 hb2_
      generalize v1.alloc (Obj.cells _ 55) = v2 at h2 q1 q2 ⊢
      obtain ⟨g2, hg2⟩ : ∃ g, v1.heap.size = g := ⟨_, rfl⟩
      rw [hg2] at q2 ⊢
      clear hg2
      have m0 : v2.cell? ⟨g1, 0, none⟩ = some (.int .i64 x.f0) := (blk_cell q1 0).trans rfl
      have n0 : v2.cell? ⟨g2, 0, none⟩ = some (.int .i64 y.f0) := (blk_cell q2 0).trans rfl
      have m1 : v2.cell? ⟨g1, 1, none⟩ = some (.int .i64 x.f1) := (blk_cell q1 1).trans rfl
      have n1 : v2.cell? ⟨g2, 1, none⟩ = some (.int .i64 y.f1) := (blk_cell q2 1).trans rfl
      have m2 : v2.cell? ⟨g1, 2, none⟩ = some (.int .i64 x.f2.f0) := (blk_cell q1 2).trans rfl
      have n2 : v2.cell? ⟨g2, 2, none⟩ = some (.int .i64 y.f2.f0) := (blk_cell q2 2).trans rfl
      have m3 : v2.cell? ⟨g1, 3, none⟩ = some (.int .i64 x.f2.f1) := (blk_cell q1 3).trans rfl
      have n3 : v2.cell? ⟨g2, 3, none⟩ = some (.int .i64 y.f2.f1) := (blk_cell q2 3).trans rfl
      have m4 : v2.cell? ⟨g1, 4, none⟩ = some (.slice A4 x.f3.length c4) := (blk_cell q1 4).trans rfl
      have n4 : v2.cell? ⟨g2, 4, none⟩ = some (.slice B4 y.f3.length d4) := (blk_cell q2 4).trans rfl
      clear q1 q2
      cases s with
      | false =>
        have hst := Aside0.mk (show R = false by rw [hstep]; rfl)
        clear hstep
        go_wp2_with fail
        refine (hcall _ h2).mono ?_
        rintro e w2 ⟨rfl, hb2⟩
        have hb3 := h2.trans (hb2.mono h2.size)
        have hb4 := hbw.trans (hb3.mono hbw.size)
        clear hcall h2 hb2 hb3
        go_wp2
        go_ret
        exact ⟨by rw [hst.out]; rfl, hb4⟩
      | true =>
        have hst := Aside0.mk (show alks (l.drop (k + 1)) (m.drop (k + 1)) = R by rw [hstep]; rfl)
        clear hstep
        go_wp2_with fail
        refine (hcall _ h2).mono ?_
        rintro e w2 ⟨rfl, hb2⟩
        have hb3 := h2.trans (hb2.mono h2.size)
        have hb4 := hbw.trans (hb3.mono hbw.size)
        clear hcall h2 hb2 hb3
        have hkb := hkb'.out
        go_wp2
        go_roundw
        case rel => exact ⟨k + 1, by omega, by go_num, hst, hb4⟩
        case measure => simp [intOf]; omega
    · have hkn : k = l.length := by omega
      subst hkn
      have d2 : decide ((l.length : Int) < (l.length : Int)) = false := by simp
      have e := hs.out
      rw [alks_end l m hlm] at e
      subst e
      clear hC hD IH hlm hs
      go_wp2
      go_ret
      exact ⟨rfl, hbw⟩
theorem alk_no (x y : S55) (h : (x.f0 == y.f0 && (x.f1 == y.f1 && (x.f2.f0 == y.f2.f0 && x.f2.f1 == y.f2.f1))) = false) : alk x y = false := by
  rw [alk_eq]
  cases h0 : x.f0 == y.f0 <;> cases h1 : x.f1 == y.f1 <;> cases h2 : (x.f2.f0 == y.f2.f0 && x.f2.f1 == y.f2.f1) <;> simp_all
set_option maxRecDepth 100000 in
set_option maxHeartbeats 3200000 in
theorem alk_succ (n : Nat) (IH : ALK n) : ALK (n + 1) := by
  intro x y A B c d w hd hc hdd hC hD
  have hx := dF_eq x
  have hcall := fun W (h : Below w.heap.size w W) => ef_of n IH x.f3 y.f3 A B c d W (by omega) hc hdd (Kd.C_below hC h) (Kd.C_below hD h)
  have hu55 := Try.underlying55
  have hu52 := Try.underlying52
  have hT := Tq.two w #[.int .i64 x.f0, .int .i64 x.f1, .int .i64 x.f2.f0, .int .i64 x.f2.f1, .slice A x.f3.length c] #[.int .i64 y.f0, .int .i64 y.f1, .int .i64 y.f2.f0, .int .i64 y.f2.f1, .slice B y.f3.length d]
  have hB := hT.bel
  clear hx hd hC hD IH hT
  cases h0 : (x.f0 == y.f0) with
  | false =>
    rw [alk_no x y (by rw [h0]; rfl)]
    clear hcall
    go_enter Try.func28, Try.ntmps28
    go_wp2
    go_ret
    exact ⟨rfl, hB⟩
  | true =>
    cases h1 : (x.f1 == y.f1) with
    | false =>
      rw [alk_no x y (by rw [h1]; simp)]
      clear hcall
      go_enter Try.func28, Try.ntmps28
      go_wp2
      go_ret
      exact ⟨rfl, hB⟩
    | true =>
      cases h2 : (x.f2.f0 == y.f2.f0 && x.f2.f1 == y.f2.f1) with
      | false =>
        rw [alk_no x y (by rw [h2]; simp)]
        clear hcall
        go_enter Try.func28, Try.ntmps28
        go_wp2
        go_ret
        exact ⟨rfl, hB⟩
      | true =>
        have e : alk x y = alks x.f3 y.f3 := by rw [alk_eq, h0, h1, h2]; simp
        rw [e]
        clear e
        generalize alks x.f3 y.f3 = r at hcall ⊢
        go_enter Try.func28, Try.ntmps28
        go_wp2_with fail
        refine (hcall _ hB).mono ?_
        rintro e w3 ⟨rfl, hb⟩
        clear hcall
        go_wp2
        go_ret
        exact ⟨rfl, hB.trans (hb.mono hB.size)⟩
theorem alk_all : ∀ n, ALK n
  | 0 => fun x y A B c d w h => absurd h (by omega)
  | n + 1 => alk_succ n (alk_all n)
theorem alk_any (x y : S55) (A B : Option Addr) (c d : Nat) (w : World) (hc : x.f3.length ≤ c) (hd : y.f3.length ≤ d) (hC : Kd.C k55 w A x.f3.length x.f3) (hD : Kd.C k55 w B y.f3.length y.f3) :
    Calls Try.prog 28 #[.agg #[.int .i64 x.f0, .int .i64 x.f1, .int .i64 x.f2.f0, .int .i64 x.f2.f1, .slice A x.f3.length c], .agg #[.int .i64 y.f0, .int .i64 y.f1, .int .i64 y.f2.f0, .int .i64 y.f2.f1, .slice B y.f3.length d]] w fun e w' => e = .returned (.bool (alk x y)) ∧ Below w.heap.size w w' := alk_all (dF x + 1) x y A B c d w (by omega) hc hd hC hD
theorem eq_any (x : S55) (A B : Option Addr) (c d : Nat) (w : World) (hc : x.f3.length ≤ c) (hd : x.f3.length ≤ d) (hC : Kd.C k55 w A x.f3.length x.f3) (hD : Kd.C k55 w B x.f3.length x.f3) :
    Calls Try.prog 29 #[.agg #[.int .i64 x.f0, .int .i64 x.f1, .int .i64 x.f2.f0, .int .i64 x.f2.f1, .slice A x.f3.length c], .agg #[.int .i64 x.f0, .int .i64 x.f1, .int .i64 x.f2.f0, .int .i64 x.f2.f1, .slice B x.f3.length d]] w fun e w' => e = .returned (.bool true) ∧ Below w.heap.size w w' := eq_all (dF x + 1) x A B c d w (by omega) hc hd hC hD
/-- The fuel of the printed spec.ExprAlike. -/
theorem spec_l0 (l m : List S55) (a b c d a' b' c' d' : Int) (hl : l.length = m.length) (hm : l.length ≤ 9223372036854775807) (n : Nat) (hd : dFs l < n)
    (IH : ∀ x y : S55, dF x < n → (∀ z ∈ l, z.f3.length ≤ 9223372036854775807 ∨ True) → ∃ k0, ∀ k, k0 ≤ k → spec_ExprAlike.f k x.f0 x.f1 x.f2.f0 x.f2.f1 x.f3 y.f0 y.f1 y.f2.f0 y.f2.f1 y.f3 = some (alk x y)) :
    ∀ (e i : Nat), i + e = l.length → ∃ k0, ∀ k, k0 ≤ k → spec_ExprAlike.l0 k (i : Int) a b c d l a' b' c' d' m = some (alks (l.drop i) (m.drop i))
  | 0, i, hi => ⟨1, fun k hk => by
    obtain ⟨k, rfl⟩ : ∃ q, k = q + 1 := ⟨k - 1, by omega⟩
    obtain rfl : i = l.length := by omega
    rw [spec_ExprAlike.l0, if_neg (by omega), alks_end l m hl]⟩
  | e + 1, i, hi => by
    have h1 : i < l.length := by omega
    have h2 : i < m.length := by omega
    obtain ⟨k1, hk1⟩ := spec_l0 l m a b c d a' b' c' d' hl hm n hd IH e (i + 1) (by omega)
    obtain ⟨k2, hk2⟩ := IH l[i] m[i] (Nat.lt_of_le_of_lt (dFs_mem l _ (List.getElem_mem h1)) hd) (fun _ _ => .inr trivial)
    refine ⟨max k1 k2 + 1, fun k hk => ?_⟩
    obtain ⟨k, rfl⟩ : ∃ q, k = q + 1 := ⟨k - 1, by omega⟩
    rw [spec_ExprAlike.l0, if_pos (by omega), if_pos (by omega), if_pos (by omega), rd55 l i h1, rd55 m i h2, hk2 k (by omega)]
    simp only [Option.bind_some]
    rw [alks_drop l m i h1 h2, wrap_id (by omega) (by omega)]
    have h3 := hk1 k (by omega)
    rw [show ((i + 1 : Nat) : Int) = (i : Int) + 1 from rfl] at h3
    rw [h3]
    cases alk l[i] m[i] <;> simp
mutual
def lenF : S55 → Prop
  | ⟨_, _, _, l⟩ => l.length ≤ 9223372036854775807 ∧ lenFs l
def lenFs : List S55 → Prop
  | [] => True
  | x :: xs => lenF x ∧ lenFs xs
end
end Go.Proofs.Ytcigooccnlbkjaa.He4
