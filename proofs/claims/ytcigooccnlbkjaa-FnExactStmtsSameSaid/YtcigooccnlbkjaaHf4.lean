/- Contracts of laws.eqStmt, laws.eqStmtS at equal trees, impl.StmtsSame with its closure and slices.EqualFunc, by depth. No condition. -/
import Derived.Test.YtcigooccnlbkjaaHf1
import Derived.Test.YtcigooccnlbkjaaHe4
import Derived.Test.YtcigooccnlbkjaaPFnExactStmtsSamex1
import Derived.WalkLawsBesides
import Derived.WalkSpells
import Derived.Deep.RegionHeld
import Derived.Deep.DeepCutAuto
import Derived.Deep.CutBlock
namespace Go.Proofs.Ytcigooccnlbkjaa.Hf4
open Go.RowKit Go.Proofs.Ytcigooccnlbkjaa.He1 Go.Proofs.Ytcigooccnlbkjaa.He4 Go.Proofs.Ytcigooccnlbkjaa.Hf1 Go.Proofs.Ytcigooccnlbkjaa.PFnExactStmtsSame Go.Proofs.YtcigooccnlbkjaaW.PrintWords Go.Proofs.YtcigooccnlbkjaaW.PrintLast Go.Proofs.YtcigooccnlbkjaaW.PrintMore
set_option linter.unusedVariables false
set_option linter.unusedSimpArgs false
attribute [local go_sem] max2_int min2_int max_two min_two
attribute [local go_sem high] eqA52

def EQS (n : Nat) : Prop := ∀ (x : S109) (A : Option Addr) (B : Option Addr) (C : Option Addr) (a1 : Nat) (b1 : Nat) (c1 : Nat) (D : Option Addr) (E : Option Addr) (F : Option Addr) (d1 : Nat) (e1 : Nat) (f1 : Nat) (w : World), dT x < n → x.f2.f3.length ≤ a1 → x.f3.length ≤ b1 → x.f4.length ≤ c1 → x.f2.f3.length ≤ d1 → x.f3.length ≤ e1 → x.f4.length ≤ f1 → Kd.C k55 w A x.f2.f3.length x.f2.f3 → Kd.C k109 w B x.f3.length x.f3 → Kd.C k109 w C x.f4.length x.f4 → Kd.C k55 w D x.f2.f3.length x.f2.f3 → Kd.C k109 w E x.f3.length x.f3 → Kd.C k109 w F x.f4.length x.f4 →
  Calls Try.prog 62 #[.agg #[.int .i64 x.f0, .int .i64 x.f1.f0, .int .i64 x.f1.f1, .int .i64 x.f2.f0, .int .i64 x.f2.f1, .int .i64 x.f2.f2.f0, .int .i64 x.f2.f2.f1, .slice A x.f2.f3.length a1, .slice B x.f3.length b1, .slice C x.f4.length c1], .agg #[.int .i64 x.f0, .int .i64 x.f1.f0, .int .i64 x.f1.f1, .int .i64 x.f2.f0, .int .i64 x.f2.f1, .int .i64 x.f2.f2.f0, .int .i64 x.f2.f2.f1, .slice D x.f2.f3.length d1, .slice E x.f3.length e1, .slice F x.f4.length f1]] w fun e w' => e = .returned (.bool true) ∧ Below w.heap.size w w'
set_option maxRecDepth 100000 in
set_option maxHeartbeats 6400000 in
theorem eqSs_of (n : Nat) (IH : EQS n) (l : List S109) (A B : Option Addr) (c d : Nat) (w : World) (hd : dTs l < n) (hc : l.length ≤ c) (hdd : l.length ≤ d) (hC : Kd.C k109 w A l.length l) (hD : Kd.C k109 w B l.length l) :
    Calls Try.prog 34 #[.slice A l.length c, .slice B l.length d] w fun e w' => e = .returned (.bool true) ∧ Below w.heap.size w w' := by
  have d0 : ((l.length : Int) != (l.length : Int)) = false := by simp
  have hd' := Aside0.mk hd
  have hmx := Aside0.mk (Kd.C_max hC)
  clear hd
  go_enter Try.func34, Try.ntmps34
  go_wp2
  go_loopw [5] (fun i wr => ∃ (k : Nat), k ≤ l.length ∧ i = .int .i64 k ∧ Below w.heap.size w wr) (fun i _ => l.length - (intOf i).toNat)
  case atStart => exact ⟨0, by omega, rfl, Below.refl _ _⟩
  case round =>
    obtain ⟨k, hk, rfl, hbw⟩ := hrel
    by_cases hlt : k < l.length
    · obtain ⟨ad, A7, c7, A8, c8, A9, c9, hA, e0, e1, e2, e3, e4, e5, e6, e7, e8, e9, l7, r7, l8, r8, l9, r9⟩ := at_T109 (Kd.C_below hC hbw) (k : Int) (by omega) (by omega)
      obtain ⟨bd, B7, d7, B8, d8, B9, d9, hB, f0, f1, f2, f3, f4, f5, f6, f7, f8, f9, m7, t7, m8, t8, m9, t9⟩ := at_T109 (Kd.C_below hD hbw) (k : Int) (by omega) (by omega)
      subst hA
      subst hB
      rw [Int.toNat_natCast] at e0 e1 e2 e3 e4 e5 e6 e7 e8 e9 f0 f1 f2 f3 f4 f5 f6 f7 f8 f9
      rw [rd109 l k hlt] at e0 e1 e2 e3 e4 e5 e6 e7 e8 e9 l7 r7 l8 r8 l9 r9 f0 f1 f2 f3 f4 f5 f6 f7 f8 f9 m7 t7 m8 t8 m9 t9
      have hdx : dT l[k] < n := Nat.lt_of_le_of_lt (dTs_mem l _ (List.getElem_mem hlt)) hd'.out
      have hcall := fun W => IH l[k] A7 A8 A9 c7 c8 c9 B7 B8 B9 d7 d8 d9 W hdx l7 l8 l9 m7 m8 m9
      clear hdx
      generalize l[k] = x at *
      have d2 : decide ((k : Int) < (l.length : Int)) = true := by simp; omega
      have hu109 := Try.underlying109
      have hu55 := Try.underlying55
      have hu52 := Try.underlying52
      have hkb : k + 1 ≤ 9223372036854775807 := Nat.le_trans hlt hmx.out
      have hkb' := Aside0.mk hkb
      clear IH hC hD hkb
      go_upto_region 6 with (fail)
      have hbd := below_drew1 hbw
      clear hbw
      refine start_ (n := 10) (S := fun w' => w'.cell? (ad.add (k * 10)) = some (.int .i64 x.f0) ∧ w'.cell? ⟨(ad.add (k * 10)).block, (ad.add (k * 10)).off + 1, none⟩ = some (.int .i64 x.f1.f0) ∧ w'.cell? ⟨(ad.add (k * 10)).block, (ad.add (k * 10)).off + 2, none⟩ = some (.int .i64 x.f1.f1) ∧ w'.cell? ⟨(ad.add (k * 10)).block, (ad.add (k * 10)).off + 3, none⟩ = some (.int .i64 x.f2.f0) ∧ w'.cell? ⟨(ad.add (k * 10)).block, (ad.add (k * 10)).off + 4, none⟩ = some (.int .i64 x.f2.f1) ∧ w'.cell? ⟨(ad.add (k * 10)).block, (ad.add (k * 10)).off + 5, none⟩ = some (.int .i64 x.f2.f2.f0) ∧ w'.cell? ⟨(ad.add (k * 10)).block, (ad.add (k * 10)).off + 6, none⟩ = some (.int .i64 x.f2.f2.f1) ∧ w'.cell? ⟨(ad.add (k * 10)).block, (ad.add (k * 10)).off + 7, none⟩ = some (.slice A7 x.f2.f3.length c7) ∧ w'.cell? ⟨(ad.add (k * 10)).block, (ad.add (k * 10)).off + 8, none⟩ = some (.slice A8 x.f3.length c8) ∧ w'.cell? ⟨(ad.add (k * 10)).block, (ad.add (k * 10)).off + 9, none⟩ = some (.slice A9 x.f4.length c9) ∧ w'.cell? (bd.add (k * 10)) = some (.int .i64 x.f0) ∧ w'.cell? ⟨(bd.add (k * 10)).block, (bd.add (k * 10)).off + 1, none⟩ = some (.int .i64 x.f1.f0) ∧ w'.cell? ⟨(bd.add (k * 10)).block, (bd.add (k * 10)).off + 2, none⟩ = some (.int .i64 x.f1.f1) ∧ w'.cell? ⟨(bd.add (k * 10)).block, (bd.add (k * 10)).off + 3, none⟩ = some (.int .i64 x.f2.f0) ∧ w'.cell? ⟨(bd.add (k * 10)).block, (bd.add (k * 10)).off + 4, none⟩ = some (.int .i64 x.f2.f1) ∧ w'.cell? ⟨(bd.add (k * 10)).block, (bd.add (k * 10)).off + 5, none⟩ = some (.int .i64 x.f2.f2.f0) ∧ w'.cell? ⟨(bd.add (k * 10)).block, (bd.add (k * 10)).off + 6, none⟩ = some (.int .i64 x.f2.f2.f1) ∧ w'.cell? ⟨(bd.add (k * 10)).block, (bd.add (k * 10)).off + 7, none⟩ = some (.slice B7 x.f2.f3.length d7) ∧ w'.cell? ⟨(bd.add (k * 10)).block, (bd.add (k * 10)).off + 8, none⟩ = some (.slice B8 x.f3.length d8) ∧ w'.cell? ⟨(bd.add (k * 10)).block, (bd.add (k * 10)).off + 9, none⟩ = some (.slice B9 x.f4.length d9) ∧ Below w.heap.size w w' ∧ Kd.C k55 w' A7 x.f2.f3.length x.f2.f3 ∧ Kd.C k109 w' A8 x.f3.length x.f3 ∧ Kd.C k109 w' A9 x.f4.length x.f4 ∧ Kd.C k55 w' B7 x.f2.f3.length x.f2.f3 ∧ Kd.C k109 w' B8 x.f3.length x.f3 ∧ Kd.C k109 w' B9 x.f4.length x.f4) (ds := []) #[false, false, false, false, false, false, false, false, false, false] (by kernel_rfl) rfl rfl ⟨e0, e1, e2, e3, e4, e5, e6, e7, e8, e9, f0, f1, f2, f3, f4, f5, f6, f7, f8, f9, hbd, Kd.C_drew r7, Kd.C_drew r8, Kd.C_drew r9, Kd.C_drew t7, Kd.C_drew t8, Kd.C_drew t9⟩ (fun hHeld => ?_)
      refine pure_ (i := 0) (N := some 17) (v := ?_) (a' := ?_) #[true, false, false, false, false, false, false, false, false, false] rfl rfl (by kernel_rfl) (fun _ _ _ h => h) (Or.inl ⟨by rfl, ?_⟩) ?_ ?_
      rotate_left
      · intro w'
        go_simp
        with_reducible rfl
      rotate_left
      · simp only [Act.put, List.setIfInBounds_toArray, List.set_cons_zero, List.set_cons_succ, i64_w, i32_w]
        rfl
      refine pure_ (i := 1) (N := some 18) (v := ?_) (a' := ?_) #[true, true, false, false, false, false, false, false, false, false] rfl rfl (by kernel_rfl) (fun _ _ _ h => h) (Or.inl ⟨by rfl, ?_⟩) ?_ ?_
      rotate_left
      · intro w'
        go_simp
        with_reducible rfl
      rotate_left
      · simp only [Act.put, List.setIfInBounds_toArray, List.set_cons_zero, List.set_cons_succ, i64_w, i32_w]
        rfl
      refine pure_ (i := 2) (N := some 19) (v := ?_) (a' := ?_) #[true, true, true, false, false, false, false, false, false, false] rfl rfl (by kernel_rfl) (fun _ _ _ h => h) (Or.inl ⟨by rfl, ?_⟩) ?_ ?_
      rotate_left
      · intro w'
        go_simp
        with_reducible rfl
      rotate_left
      · simp only [Act.put, List.setIfInBounds_toArray, List.set_cons_zero, List.set_cons_succ, i64_w, i32_w]
        rfl
      refine pure_ (i := 4) (N := some 21) (v := ?_) (a' := ?_) #[true, true, true, false, true, false, false, false, false, false] rfl rfl (by kernel_rfl) (fun _ _ _ h => h) (Or.inl ⟨by rfl, ?_⟩) ?_ ?_
      rotate_left
      · intro w'
        go_simp
        with_reducible rfl
      rotate_left
      · simp only [Act.put, List.setIfInBounds_toArray, List.set_cons_zero, List.set_cons_succ, i64_w, i32_w]
        rfl
      refine pure_ (i := 5) (N := some 22) (v := ?_) (a' := ?_) #[true, true, true, false, true, true, false, false, false, false] rfl rfl (by kernel_rfl) (fun _ _ _ h => h) (Or.inl ⟨by rfl, ?_⟩) ?_ ?_
      rotate_left
      · intro w'
        go_simp
        with_reducible rfl
      rotate_left
      · simp only [Act.put, List.setIfInBounds_toArray, List.set_cons_zero, List.set_cons_succ, i64_w, i32_w]
        rfl
      refine pure_ (i := 6) (N := some 23) (v := ?_) (a' := ?_) #[true, true, true, false, true, true, true, false, false, false] rfl rfl (by kernel_rfl) (fun _ _ _ h => h) (Or.inl ⟨by rfl, ?_⟩) ?_ ?_
      rotate_left
      · intro w'
        go_simp
        with_reducible rfl
      rotate_left
      · simp only [Act.put, List.setIfInBounds_toArray, List.set_cons_zero, List.set_cons_succ, i64_w, i32_w]
        rfl
      refine take_ (i := 3) (N := some 20) (v := ?_) (a' := ?_) #[true, true, true, true, true, true, true, false, false, false] rfl rfl (by kernel_rfl) (fun _ _ _ h => h) (Or.inl ⟨by rfl, ?_⟩) hHeld ?_ ?_
      rotate_left
      · rintro w' ⟨s0, s1, s2, s3, s4, s5, s6, s7, s8, s9, s10, s11, s12, s13, s14, s15, s16, s17, s18, s19, s20, s21, s22, s23, s24, s25, s26⟩
        go_simp
        with_reducible rfl
      rotate_left
      · simp only [Act.put, List.setIfInBounds_toArray, List.set_cons_zero, List.set_cons_succ, i64_w, i32_w]
        rfl
      refine take_ (i := 7) (N := some 24) (v := ?_) (a' := ?_) #[true, true, true, true, true, true, true, true, false, false] rfl rfl (by kernel_rfl) (fun _ _ _ h => h) (Or.inl ⟨by rfl, ?_⟩) hHeld ?_ ?_
      rotate_left
      · rintro w' ⟨s0, s1, s2, s3, s4, s5, s6, s7, s8, s9, s10, s11, s12, s13, s14, s15, s16, s17, s18, s19, s20, s21, s22, s23, s24, s25, s26⟩
        go_simp
        with_reducible rfl
      rotate_left
      · simp only [Act.put, List.setIfInBounds_toArray, List.set_cons_zero, List.set_cons_succ, i64_w, i32_w]
        rfl
      refine one_ (i := 8) (N := some 25) #[true, true, true, true, true, true, true, true, true, false] rfl rfl (by kernel_rfl) (by decide) (fun K hK => ?_)
      refine goes_ Try.func62 (by kernel_rfl) rfl #[.agg #[.int .i64 x.f0, .int .i64 x.f1.f0, .int .i64 x.f1.f1, .int .i64 x.f2.f0, .int .i64 x.f2.f1, .int .i64 x.f2.f2.f0, .int .i64 x.f2.f2.f1, .slice A7 x.f2.f3.length c7, .slice A8 x.f3.length c8, .slice A9 x.f4.length c9], .agg #[.int .i64 x.f0, .int .i64 x.f1.f0, .int .i64 x.f1.f1, .int .i64 x.f2.f0, .int .i64 x.f2.f1, .int .i64 x.f2.f2.f0, .int .i64 x.f2.f2.f1, .slice B7 x.f2.f3.length d7, .slice B8 x.f3.length d8, .slice B9 x.f4.length d9]] (by rfl) rfl rfl (by simp only [List.map_toArray, List.map_cons, List.map_nil]; rfl) ?_
      with_reducible refine (hcall _ hHeld.2.2.2.2.2.2.2.2.2.2.2.2.2.2.2.2.2.2.2.2.2.1 hHeld.2.2.2.2.2.2.2.2.2.2.2.2.2.2.2.2.2.2.2.2.2.2.1 hHeld.2.2.2.2.2.2.2.2.2.2.2.2.2.2.2.2.2.2.2.2.2.2.2.1 hHeld.2.2.2.2.2.2.2.2.2.2.2.2.2.2.2.2.2.2.2.2.2.2.2.2.1 hHeld.2.2.2.2.2.2.2.2.2.2.2.2.2.2.2.2.2.2.2.2.2.2.2.2.2.1 hHeld.2.2.2.2.2.2.2.2.2.2.2.2.2.2.2.2.2.2.2.2.2.2.2.2.2.2).mono ?_
      rintro e w3 ⟨rfl, hb3⟩
      refine ⟨_, rfl, ?_⟩
      refine hK.out _ _ ⟨(hb3.cell (World.block_lt_of_cell? _ _ hHeld.1)).trans hHeld.1, (hb3.cell (World.block_lt_of_cell? _ _ hHeld.2.1)).trans hHeld.2.1, (hb3.cell (World.block_lt_of_cell? _ _ hHeld.2.2.1)).trans hHeld.2.2.1, (hb3.cell (World.block_lt_of_cell? _ _ hHeld.2.2.2.1)).trans hHeld.2.2.2.1, (hb3.cell (World.block_lt_of_cell? _ _ hHeld.2.2.2.2.1)).trans hHeld.2.2.2.2.1, (hb3.cell (World.block_lt_of_cell? _ _ hHeld.2.2.2.2.2.1)).trans hHeld.2.2.2.2.2.1, (hb3.cell (World.block_lt_of_cell? _ _ hHeld.2.2.2.2.2.2.1)).trans hHeld.2.2.2.2.2.2.1, (hb3.cell (World.block_lt_of_cell? _ _ hHeld.2.2.2.2.2.2.2.1)).trans hHeld.2.2.2.2.2.2.2.1, (hb3.cell (World.block_lt_of_cell? _ _ hHeld.2.2.2.2.2.2.2.2.1)).trans hHeld.2.2.2.2.2.2.2.2.1, (hb3.cell (World.block_lt_of_cell? _ _ hHeld.2.2.2.2.2.2.2.2.2.1)).trans hHeld.2.2.2.2.2.2.2.2.2.1, (hb3.cell (World.block_lt_of_cell? _ _ hHeld.2.2.2.2.2.2.2.2.2.2.1)).trans hHeld.2.2.2.2.2.2.2.2.2.2.1, (hb3.cell (World.block_lt_of_cell? _ _ hHeld.2.2.2.2.2.2.2.2.2.2.2.1)).trans hHeld.2.2.2.2.2.2.2.2.2.2.2.1, (hb3.cell (World.block_lt_of_cell? _ _ hHeld.2.2.2.2.2.2.2.2.2.2.2.2.1)).trans hHeld.2.2.2.2.2.2.2.2.2.2.2.2.1, (hb3.cell (World.block_lt_of_cell? _ _ hHeld.2.2.2.2.2.2.2.2.2.2.2.2.2.1)).trans hHeld.2.2.2.2.2.2.2.2.2.2.2.2.2.1, (hb3.cell (World.block_lt_of_cell? _ _ hHeld.2.2.2.2.2.2.2.2.2.2.2.2.2.2.1)).trans hHeld.2.2.2.2.2.2.2.2.2.2.2.2.2.2.1, (hb3.cell (World.block_lt_of_cell? _ _ hHeld.2.2.2.2.2.2.2.2.2.2.2.2.2.2.2.1)).trans hHeld.2.2.2.2.2.2.2.2.2.2.2.2.2.2.2.1, (hb3.cell (World.block_lt_of_cell? _ _ hHeld.2.2.2.2.2.2.2.2.2.2.2.2.2.2.2.2.1)).trans hHeld.2.2.2.2.2.2.2.2.2.2.2.2.2.2.2.2.1, (hb3.cell (World.block_lt_of_cell? _ _ hHeld.2.2.2.2.2.2.2.2.2.2.2.2.2.2.2.2.2.1)).trans hHeld.2.2.2.2.2.2.2.2.2.2.2.2.2.2.2.2.2.1, (hb3.cell (World.block_lt_of_cell? _ _ hHeld.2.2.2.2.2.2.2.2.2.2.2.2.2.2.2.2.2.2.1)).trans hHeld.2.2.2.2.2.2.2.2.2.2.2.2.2.2.2.2.2.2.1, (hb3.cell (World.block_lt_of_cell? _ _ hHeld.2.2.2.2.2.2.2.2.2.2.2.2.2.2.2.2.2.2.2.1)).trans hHeld.2.2.2.2.2.2.2.2.2.2.2.2.2.2.2.2.2.2.2.1, hHeld.2.2.2.2.2.2.2.2.2.2.2.2.2.2.2.2.2.2.2.2.1.trans (hb3.mono hHeld.2.2.2.2.2.2.2.2.2.2.2.2.2.2.2.2.2.2.2.2.1.size), Kd.C_below hHeld.2.2.2.2.2.2.2.2.2.2.2.2.2.2.2.2.2.2.2.2.2.1 hb3, Kd.C_below hHeld.2.2.2.2.2.2.2.2.2.2.2.2.2.2.2.2.2.2.2.2.2.2.1 hb3, Kd.C_below hHeld.2.2.2.2.2.2.2.2.2.2.2.2.2.2.2.2.2.2.2.2.2.2.2.1 hb3, Kd.C_below hHeld.2.2.2.2.2.2.2.2.2.2.2.2.2.2.2.2.2.2.2.2.2.2.2.2.1 hb3, Kd.C_below hHeld.2.2.2.2.2.2.2.2.2.2.2.2.2.2.2.2.2.2.2.2.2.2.2.2.2.1 hb3, Kd.C_below hHeld.2.2.2.2.2.2.2.2.2.2.2.2.2.2.2.2.2.2.2.2.2.2.2.2.2.2 hb3⟩ (fun hHeld => ?_)
      clear hK K
      refine norm_ (a' := ?_) ?_ ?_
      rotate_left
      · show Act.put _ (some 25) _ = _
        simp only [Act.put, List.setIfInBounds_toArray, List.set_cons_zero, List.set_cons_succ, i64_w, i32_w]
        rfl
      refine pure_ (i := 9) (N := some 26) (v := ?_) (a' := ?_) #[true, true, true, true, true, true, true, true, true, true] rfl rfl (by kernel_rfl) (fun _ _ _ h => h) (Or.inl ⟨by rfl, ?_⟩) ?_ ?_
      rotate_left
      · intro w'
        go_simp
        with_reducible rfl
      rotate_left
      · simp only [Act.put, List.setIfInBounds_toArray, List.set_cons_zero, List.set_cons_succ, i64_w, i32_w]
        rfl
      refine done_ (by kernel_rfl) ?_
      have hbw := hHeld.2.2.2.2.2.2.2.2.2.2.2.2.2.2.2.2.2.2.2.2.1
      clear hHeld hcall e0 e1 e2 e3 e4 e5 e6 e7 e8 e9 f0 f1 f2 f3 f4 f5 f6 f7 f8 f9 hbd r7 r8 r9 t7 t8 t9
      have hkb := hkb'.out
      go_wp2
      go_roundw
      case rel => exact ⟨k + 1, by omega, by go_num, hbw⟩
      case measure => simp [intOf]; omega
    · have hkn : k = l.length := by omega
      subst hkn
      have d2 : decide ((l.length : Int) < (l.length : Int)) = false := by simp
      clear hC hD IH
      go_wp2
      go_ret
      exact ⟨rfl, hbw⟩
structure Tq (w : World) (g1 g2 : Nat) (X Y : Array Value) (W : World) : Prop where
  h1 : W.heap[g1]? = some (.cells X 109 (0, 0))
  h2 : W.heap[g2]? = some (.cells Y 109 (0, 0))
  bel : Below w.heap.size w W
theorem Tq.below {w W W' : World} {g1 g2 : Nat} {X Y : Array Value} (h : Tq w g1 g2 X Y W) (k : Below W.heap.size W W') : Tq w g1 g2 X Y W' := ⟨blk_below h.h1 k, blk_below h.h2 k, h.bel.trans (k.mono h.bel.size)⟩
theorem Tq.two (w : World) (X Y : Array Value) : Tq w w.heap.size (w.heap.size + 1) X Y ((w.alloc (.cells X 109)).alloc (.cells Y 109)) := by
  have e1 : (w.alloc (.cells X 109)).heap.size = w.heap.size + 1 := Array.size_push ..
  refine ⟨blk_alloc (heap_alloc_new _ _) _, ?_, ((Below.refl _ _).alloc (Nat.le_refl _) _).alloc (by rw [e1]; omega) _⟩
  have h := heap_alloc_new (w.alloc (.cells X 109)) (.cells Y 109)
  rw [e1] at h
  exact h
set_option maxRecDepth 100000 in
set_option maxHeartbeats 3200000 in
theorem eqS_succ (n : Nat) (IH : EQS n) : EQS (n + 1) := by
  intro x A B C a1 b1 c1 D E F d1 e1 f1 w hd l1 l2 l3 m1 m2 m3 r1 r2 r3 t1 t2 t3
  have hx := dT_eq x
  have cE := fun W (h : Below w.heap.size w W) => eq_any x.f2 A D a1 d1 W l1 m1 (Kd.C_below r1 h) (Kd.C_below t1 h)
  have cT := fun W (h : Below w.heap.size w W) => eqSs_of n IH x.f3 B E b1 e1 W (by omega) l2 m2 (Kd.C_below r2 h) (Kd.C_below t2 h)
  have cL := fun W (h : Below w.heap.size w W) => eqSs_of n IH x.f4 C F c1 f1 W (by omega) l3 m3 (Kd.C_below r3 h) (Kd.C_below t3 h)
  have ca := fun W => laws_eqAddr.calls x.f1.f0 x.f1.f1 x.f1.f0 x.f1.f1 true W (by simp [laws_eqAddr.f])
  have s0 : (x.f0 != x.f0) = false := by simp
  clear hx hd r1 r2 r3 t1 t2 t3 IH
  have hu109 := Try.underlying109
  have hu55 := Try.underlying55
  have hu52 := Try.underlying52
  have hT := Tq.two w #[.int .i64 x.f0, .int .i64 x.f1.f0, .int .i64 x.f1.f1, .int .i64 x.f2.f0, .int .i64 x.f2.f1, .int .i64 x.f2.f2.f0, .int .i64 x.f2.f2.f1, .slice A x.f2.f3.length a1, .slice B x.f3.length b1, .slice C x.f4.length c1] #[.int .i64 x.f0, .int .i64 x.f1.f0, .int .i64 x.f1.f1, .int .i64 x.f2.f0, .int .i64 x.f2.f1, .int .i64 x.f2.f2.f0, .int .i64 x.f2.f2.f1, .slice D x.f2.f3.length d1, .slice E x.f3.length e1, .slice F x.f4.length f1]
  go_enter Try.func62, Try.ntmps62
  go_upto_region 3 with (fail)
  generalize (w.alloc (Obj.cells _ 109)).alloc (Obj.cells _ 109) = w2 at hT ⊢
  obtain ⟨g1, hg1⟩ : ∃ g, w.heap.size = g := ⟨_, rfl⟩
  obtain ⟨g2, hg2⟩ : ∃ g, g1 + 1 = g := ⟨_, rfl⟩
  rw [hg1, hg2] at hT ⊢
  clear hg1 hg2
  have i1 : w2.cell? ⟨g1, 1, none⟩ = some (.int .i64 x.f1.f0) := (blk_cell hT.h1 1).trans rfl
  have j1 : w2.cell? ⟨g2, 1, none⟩ = some (.int .i64 x.f1.f0) := (blk_cell hT.h2 1).trans rfl
  have i2 : w2.cell? ⟨g1, 2, none⟩ = some (.int .i64 x.f1.f1) := (blk_cell hT.h1 2).trans rfl
  have j2 : w2.cell? ⟨g2, 2, none⟩ = some (.int .i64 x.f1.f1) := (blk_cell hT.h2 2).trans rfl
  go_wp2_with fail
  refine (ca _).mono ?_
  rintro e w3 ⟨rfl, hb⟩
  replace hT := hT.below hb
  clear hb ca
  clear i1 j1 i2 j2
  have i3 : w3.cell? ⟨g1, 3, none⟩ = some (.int .i64 x.f2.f0) := (blk_cell hT.h1 3).trans rfl
  have j3 : w3.cell? ⟨g2, 3, none⟩ = some (.int .i64 x.f2.f0) := (blk_cell hT.h2 3).trans rfl
  have i4 : w3.cell? ⟨g1, 4, none⟩ = some (.int .i64 x.f2.f1) := (blk_cell hT.h1 4).trans rfl
  have j4 : w3.cell? ⟨g2, 4, none⟩ = some (.int .i64 x.f2.f1) := (blk_cell hT.h2 4).trans rfl
  have i5 : w3.cell? ⟨g1, 5, none⟩ = some (.int .i64 x.f2.f2.f0) := (blk_cell hT.h1 5).trans rfl
  have j5 : w3.cell? ⟨g2, 5, none⟩ = some (.int .i64 x.f2.f2.f0) := (blk_cell hT.h2 5).trans rfl
  have i6 : w3.cell? ⟨g1, 6, none⟩ = some (.int .i64 x.f2.f2.f1) := (blk_cell hT.h1 6).trans rfl
  have j6 : w3.cell? ⟨g2, 6, none⟩ = some (.int .i64 x.f2.f2.f1) := (blk_cell hT.h2 6).trans rfl
  have i7 : w3.cell? ⟨g1, 7, none⟩ = some (.slice A x.f2.f3.length a1) := (blk_cell hT.h1 7).trans rfl
  have j7 : w3.cell? ⟨g2, 7, none⟩ = some (.slice D x.f2.f3.length d1) := (blk_cell hT.h2 7).trans rfl
  have hB3 := hT.bel
  go_wp2_with fail
  refine (cE _ hB3).mono ?_
  rintro e w4 ⟨rfl, hb⟩
  replace hT := hT.below hb
  clear hb cE hB3
  clear i3 j3 i4 j4 i5 j5 i6 j6 i7 j7
  have i8 : w4.cell? ⟨g1, 8, none⟩ = some (.slice B x.f3.length b1) := (blk_cell hT.h1 8).trans rfl
  have j8 : w4.cell? ⟨g2, 8, none⟩ = some (.slice E x.f3.length e1) := (blk_cell hT.h2 8).trans rfl
  have hB4 := hT.bel
  go_wp2_with fail
  refine (cT _ hB4).mono ?_
  rintro e w5 ⟨rfl, hb⟩
  replace hT := hT.below hb
  clear hb cT hB4
  clear i8 j8
  have i9 : w5.cell? ⟨g1, 9, none⟩ = some (.slice C x.f4.length c1) := (blk_cell hT.h1 9).trans rfl
  have j9 : w5.cell? ⟨g2, 9, none⟩ = some (.slice F x.f4.length f1) := (blk_cell hT.h2 9).trans rfl
  have hB5 := hT.bel
  go_wp2_with fail
  refine (cL _ hB5).mono ?_
  rintro e w6 ⟨rfl, hb⟩
  replace hT := hT.below hb
  have hB6 := hT.bel
  clear hb cL hB5 hT
  clear i9 j9
  go_wp2
  go_ret
  exact ⟨rfl, hB6⟩
theorem eqS_all : ∀ n, EQS n
  | 0 => fun x A B C a1 b1 c1 D E F d1 e1 f1 w h => absurd h (by omega)
  | n + 1 => eqS_succ n (eqS_all n)
theorem eqSs_any (l : List S109) (A B : Option Addr) (c d : Nat) (w : World) (hc : l.length ≤ c) (hdd : l.length ≤ d) (hC : Kd.C k109 w A l.length l) (hD : Kd.C k109 w B l.length l) :
    Calls Try.prog 34 #[.slice A l.length c, .slice B l.length d] w fun e w' => e = .returned (.bool true) ∧ Below w.heap.size w w' := eqSs_of (dTs l + 1) (eqS_all _) l A B c d w (by omega) hc hdd hC hD
def SMC (n : Nat) : Prop := ∀ (x y : S109) (A : Option Addr) (B : Option Addr) (C : Option Addr) (a1 : Nat) (b1 : Nat) (c1 : Nat) (D : Option Addr) (E : Option Addr) (F : Option Addr) (d1 : Nat) (e1 : Nat) (f1 : Nat) (w : World), dT x < n → x.f2.f3.length ≤ a1 → x.f3.length ≤ b1 → x.f4.length ≤ c1 → y.f2.f3.length ≤ d1 → y.f3.length ≤ e1 → y.f4.length ≤ f1 → Kd.C k55 w A x.f2.f3.length x.f2.f3 → Kd.C k109 w B x.f3.length x.f3 → Kd.C k109 w C x.f4.length x.f4 → Kd.C k55 w D y.f2.f3.length y.f2.f3 → Kd.C k109 w E y.f3.length y.f3 → Kd.C k109 w F y.f4.length y.f4 →
  Calls Try.prog 61 #[.agg #[.int .i64 x.f0, .int .i64 x.f1.f0, .int .i64 x.f1.f1, .int .i64 x.f2.f0, .int .i64 x.f2.f1, .int .i64 x.f2.f2.f0, .int .i64 x.f2.f2.f1, .slice A x.f2.f3.length a1, .slice B x.f3.length b1, .slice C x.f4.length c1], .agg #[.int .i64 y.f0, .int .i64 y.f1.f0, .int .i64 y.f1.f1, .int .i64 y.f2.f0, .int .i64 y.f2.f1, .int .i64 y.f2.f2.f0, .int .i64 y.f2.f2.f1, .slice D y.f2.f3.length d1, .slice E y.f3.length e1, .slice F y.f4.length f1]] w fun e w' => e = .returned (.bool (sm x y)) ∧ Below w.heap.size w w'
set_option maxRecDepth 100000 in
set_option maxHeartbeats 6400000 in
theorem efS_of (n : Nat) (IH : SMC n) (l m : List S109) (A B : Option Addr) (c d : Nat) (w : World) (hd : dTs l < n) (hc : l.length ≤ c) (hdd : m.length ≤ d) (hC : Kd.C k109 w A l.length l) (hD : Kd.C k109 w B m.length m) :
    Calls Try.prog 60 #[.slice A l.length c, .slice B m.length d, .func (.func 61) #[] #[]] w fun e w' => e = .returned (.bool (sms l m)) ∧ Below w.heap.size w w' := by
  by_cases hne : l.length ≠ m.length
  · have e : sms l m = false := sms_len l m hne
    rw [e]
    have d0 : ((l.length : Int) != (m.length : Int)) = true := by simp; omega
    clear e hne hC hD IH
    go_enter Try.func60, Try.ntmps60
    go_wp2
    go_ret
    exact ⟨rfl, Below.refl _ _⟩
  have hlm : l.length = m.length := by omega
  obtain ⟨R, hR⟩ : ∃ R, sms l m = R := ⟨_, rfl⟩
  rw [hR]
  have d0 : ((l.length : Int) != (m.length : Int)) = false := by simp; omega
  have hR' := Aside0.mk hR
  have hd' := Aside0.mk hd
  have hlm' := Aside0.mk hlm
  have hmx := Aside0.mk (Kd.C_max hC)
  clear hd hR hlm hne
  go_enter Try.func60, Try.ntmps60
  go_wp2
  go_loopw [17] (fun i wr => ∃ (k : Nat), k ≤ l.length ∧ i = .int .i64 k ∧ Aside0 (sms (l.drop k) (m.drop k) = R) ∧ Below w.heap.size w wr) (fun i _ => l.length - (intOf i).toNat)
  case atStart => exact ⟨0, by omega, rfl, hR', Below.refl _ _⟩
  case round =>
    clear hR'
    obtain ⟨k, hk, rfl, hs, hbw⟩ := hrel
    have hlm := hlm'.out
    by_cases hlt : k < l.length
    · have hlt2 : k < m.length := by omega
      obtain ⟨ad, A7, c7, A8, c8, A9, c9, hA, e0, e1, e2, e3, e4, e5, e6, e7, e8, e9, l7, r7, l8, r8, l9, r9⟩ := at_T109 (Kd.C_below hC hbw) (k : Int) (by omega) (by omega)
      obtain ⟨bd, B7, d7, B8, d8, B9, d9, hB, f0, f1, f2, f3, f4, f5, f6, f7, f8, f9, m7, t7, m8, t8, m9, t9⟩ := at_T109 (Kd.C_below hD hbw) (k : Int) (by omega) (by omega)
      subst hA
      subst hB
      rw [Int.toNat_natCast] at e0 e1 e2 e3 e4 e5 e6 e7 e8 e9 f0 f1 f2 f3 f4 f5 f6 f7 f8 f9
      rw [rd109 l k hlt] at e0 e1 e2 e3 e4 e5 e6 e7 e8 e9 l7 r7 l8 r8 l9 r9
      rw [rd109 m k hlt2] at f0 f1 f2 f3 f4 f5 f6 f7 f8 f9 m7 t7 m8 t8 m9 t9
      have hdx : dT l[k] < n := Nat.lt_of_le_of_lt (dTs_mem l _ (List.getElem_mem hlt)) hd'.out
      have hstep := sms_drop l m k hlt hlt2
      rw [hs.out] at hstep
      have hcall := fun W (h : Below wr.heap.size wr W) => IH l[k] m[k] A7 A8 A9 c7 c8 c9 B7 B8 B9 d7 d8 d9 W hdx l7 l8 l9 m7 m8 m9 (Kd.C_below r7 h) (Kd.C_below r8 h) (Kd.C_below r9 h) (Kd.C_below t7 h) (Kd.C_below t8 h) (Kd.C_below t9 h)
      generalize sm l[k] m[k] = z at hstep hcall
      generalize l[k] = x at *
      generalize m[k] = y at *
      have d2 : decide ((k : Int) < (l.length : Int)) = true := by simp; omega
      have d3 : decide ((k : Int) < (m.length : Int)) = true := by simp; omega
      have hu109 := Try.underlying109
      have hu55 := Try.underlying55
      have hu52 := Try.underlying52
      have hkb : k + 1 ≤ 9223372036854775807 := Nat.le_trans hlt hmx.out
      have hkb' := Aside0.mk hkb
      have kk : (k : Int) < (m.length : Int) := by omega
      clear IH hC hD hkb hdx r7 r8 r9 t7 t8 t9 hs l7 l8 l9 m7 m8 m9 hlm
      go_upto_region 6 with (fail)
      have hb1 : Below wr.heap.size wr (wr.alloc (.cells #[.int .i64 x.f0, .int .i64 x.f1.f0, .int .i64 x.f1.f1, .int .i64 x.f2.f0, .int .i64 x.f2.f1, .int .i64 x.f2.f2.f0, .int .i64 x.f2.f2.f1, .slice A7 x.f2.f3.length c7, .slice A8 x.f3.length c8, .slice A9 x.f4.length c9] 109)) := (Below.refl _ _).alloc (Nat.le_refl _) _
      replace f0 := (hb1.cell (World.block_lt_of_cell? _ _ f0)).trans f0
      replace f1 := (hb1.cell (World.block_lt_of_cell? _ _ f1)).trans f1
      replace f2 := (hb1.cell (World.block_lt_of_cell? _ _ f2)).trans f2
      replace f3 := (hb1.cell (World.block_lt_of_cell? _ _ f3)).trans f3
      replace f4 := (hb1.cell (World.block_lt_of_cell? _ _ f4)).trans f4
      replace f5 := (hb1.cell (World.block_lt_of_cell? _ _ f5)).trans f5
      replace f6 := (hb1.cell (World.block_lt_of_cell? _ _ f6)).trans f6
      replace f7 := (hb1.cell (World.block_lt_of_cell? _ _ f7)).trans f7
      replace f8 := (hb1.cell (World.block_lt_of_cell? _ _ f8)).trans f8
      replace f9 := (hb1.cell (World.block_lt_of_cell? _ _ f9)).trans f9
      have q1 := heap_alloc_new wr (.cells #[.int .i64 x.f0, .int .i64 x.f1.f0, .int .i64 x.f1.f1, .int .i64 x.f2.f0, .int .i64 x.f2.f1, .int .i64 x.f2.f2.f0, .int .i64 x.f2.f2.f1, .slice A7 x.f2.f3.length c7, .slice A8 x.f3.length c8, .slice A9 x.f4.length c9] 109)
      clear e0 e1 e2 e3 e4 e5 e6 e7 e8 e9
      generalize wr.alloc (Obj.cells _ 109) = v1 at hb1 f0 f1 f2 f3 f4 f5 f6 f7 f8 f9 q1 ⊢
      obtain ⟨g1, hg1⟩ : ∃ g, wr.heap.size = g := ⟨_, rfl⟩
      rw [hg1] at q1 ⊢
      have hG1 := Aside0.mk hg1
      clear hg1
      go_upto_region 7 with (fail)
      have hb2_ : Below v1.heap.size v1 (v1.alloc (.cells #[.int .i64 y.f0, .int .i64 y.f1.f0, .int .i64 y.f1.f1, .int .i64 y.f2.f0, .int .i64 y.f2.f1, .int .i64 y.f2.f2.f0, .int .i64 y.f2.f2.f1, .slice B7 y.f2.f3.length d7, .slice B8 y.f3.length d8, .slice B9 y.f4.length d9] 109)) := (Below.refl _ _).alloc (Nat.le_refl _) _
      have q2 := heap_alloc_new v1 (.cells #[.int .i64 y.f0, .int .i64 y.f1.f0, .int .i64 y.f1.f1, .int .i64 y.f2.f0, .int .i64 y.f2.f1, .int .i64 y.f2.f2.f0, .int .i64 y.f2.f2.f1, .slice B7 y.f2.f3.length d7, .slice B8 y.f3.length d8, .slice B9 y.f4.length d9] 109)
      replace q1 := blk_below q1 hb2_
      have h2 := hb1.trans (hb2_.mono hb1.size)
      clear f0 f1 f2 f3 f4 f5 f6 f7 f8 f9 hb1 hb2_
      generalize v1.alloc (Obj.cells _ 109) = v2 at h2 q1 q2 ⊢
      obtain ⟨g2, hg2⟩ : ∃ g, v1.heap.size = g := ⟨_, rfl⟩
      rw [hg2] at q2 ⊢
      clear hg2
      have i0 : v2.cell? ⟨g1, 0, none⟩ = some (.int .i64 x.f0) := (blk_cell q1 0).trans rfl
      have j0 : v2.cell? ⟨g2, 0, none⟩ = some (.int .i64 y.f0) := (blk_cell q2 0).trans rfl
      have i1 : v2.cell? ⟨g1, 1, none⟩ = some (.int .i64 x.f1.f0) := (blk_cell q1 1).trans rfl
      have j1 : v2.cell? ⟨g2, 1, none⟩ = some (.int .i64 y.f1.f0) := (blk_cell q2 1).trans rfl
      have i2 : v2.cell? ⟨g1, 2, none⟩ = some (.int .i64 x.f1.f1) := (blk_cell q1 2).trans rfl
      have j2 : v2.cell? ⟨g2, 2, none⟩ = some (.int .i64 y.f1.f1) := (blk_cell q2 2).trans rfl
      have i3 : v2.cell? ⟨g1, 3, none⟩ = some (.int .i64 x.f2.f0) := (blk_cell q1 3).trans rfl
      have j3 : v2.cell? ⟨g2, 3, none⟩ = some (.int .i64 y.f2.f0) := (blk_cell q2 3).trans rfl
      have i4 : v2.cell? ⟨g1, 4, none⟩ = some (.int .i64 x.f2.f1) := (blk_cell q1 4).trans rfl
      have j4 : v2.cell? ⟨g2, 4, none⟩ = some (.int .i64 y.f2.f1) := (blk_cell q2 4).trans rfl
      have i5 : v2.cell? ⟨g1, 5, none⟩ = some (.int .i64 x.f2.f2.f0) := (blk_cell q1 5).trans rfl
      have j5 : v2.cell? ⟨g2, 5, none⟩ = some (.int .i64 y.f2.f2.f0) := (blk_cell q2 5).trans rfl
      have i6 : v2.cell? ⟨g1, 6, none⟩ = some (.int .i64 x.f2.f2.f1) := (blk_cell q1 6).trans rfl
      have j6 : v2.cell? ⟨g2, 6, none⟩ = some (.int .i64 y.f2.f2.f1) := (blk_cell q2 6).trans rfl
      have i7 : v2.cell? ⟨g1, 7, none⟩ = some (.slice A7 x.f2.f3.length c7) := (blk_cell q1 7).trans rfl
      have j7 : v2.cell? ⟨g2, 7, none⟩ = some (.slice B7 y.f2.f3.length d7) := (blk_cell q2 7).trans rfl
      have i8 : v2.cell? ⟨g1, 8, none⟩ = some (.slice A8 x.f3.length c8) := (blk_cell q1 8).trans rfl
      have j8 : v2.cell? ⟨g2, 8, none⟩ = some (.slice B8 y.f3.length d8) := (blk_cell q2 8).trans rfl
      have i9 : v2.cell? ⟨g1, 9, none⟩ = some (.slice A9 x.f4.length c9) := (blk_cell q1 9).trans rfl
      have j9 : v2.cell? ⟨g2, 9, none⟩ = some (.slice B9 y.f4.length d9) := (blk_cell q2 9).trans rfl
      clear q1 q2
      cases z with
      | false =>
        have hst := Aside0.mk (show R = false by rw [hstep]; rfl)
        clear hstep
        go_wp2_with fail
        refine (hcall _ h2).mono ?_
        rintro e w2 ⟨rfl, hb2⟩
        have hb3 := h2.trans (hb2.mono h2.size)
        have hb4 := hbw.trans (hb3.mono hbw.size)
        clear hcall h2 hb2 hb3
        go_wp2
        go_ret
        exact ⟨by rw [hst.out]; rfl, hb4⟩
      | true =>
        have hst := Aside0.mk (show sms (l.drop (k + 1)) (m.drop (k + 1)) = R by rw [hstep]; rfl)
        clear hstep
        go_wp2_with fail
        refine (hcall _ h2).mono ?_
        rintro e w2 ⟨rfl, hb2⟩
        have hb3 := h2.trans (hb2.mono h2.size)
        have hb4 := hbw.trans (hb3.mono hbw.size)
        clear hcall h2 hb2 hb3
        have hkb := hkb'.out
        go_wp2
        go_roundw
        case rel => exact ⟨k + 1, by omega, by go_num, hst, hb4⟩
        case measure => simp [intOf]; omega
    · have hkn : k = l.length := by omega
      subst hkn
      have d2 : decide ((l.length : Int) < (l.length : Int)) = false := by simp
      have e := hs.out
      rw [sms_end l m hlm] at e
      subst e
      clear hC hD IH hlm hs
      go_wp2
      go_ret
      exact ⟨rfl, hbw⟩
set_option maxRecDepth 100000 in
theorem ssS_of (n : Nat) (IH : SMC n) (l m : List S109) (A B : Option Addr) (c d : Nat) (w : World) (hd : dTs l < n) (hc : l.length ≤ c) (hdd : m.length ≤ d) (hC : Kd.C k109 w A l.length l) (hD : Kd.C k109 w B m.length m) :
    Calls Try.prog 33 #[.slice A l.length c, .slice B m.length d] w fun e w' => e = .returned (.bool (sms l m)) ∧ Below w.heap.size w w' := by
  have h := efS_of n IH l m A B c d w hd hc hdd hC hD
  generalize sms l m = r at h ⊢
  clear IH hd hC hD
  go_enter Try.func33, Try.ntmps33
  go_wp2_with fail
  refine h.mono ?_
  rintro e w2 ⟨rfl, hb⟩
  clear h
  go_wp2
  go_ret
  exact ⟨rfl, hb⟩
end Go.Proofs.Ytcigooccnlbkjaa.Hf4
