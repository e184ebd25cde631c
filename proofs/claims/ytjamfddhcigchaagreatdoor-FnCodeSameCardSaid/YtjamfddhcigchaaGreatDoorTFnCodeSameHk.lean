/- What a row of depths says of code that is ok: at each place, what is held there, and where it goes on. No condition. -/
import Derived.Test.YtjamfddhcigchaaGreatDoorTFnCodeSameHc
import Derived.WalkSmall
namespace Go.Proofs.YtjamfddhcigchaaGreatDoor.Hk
open Go.RowKit Go.Proofs.YtjamfddhcigchaaGreatDoor.Ht Go.Proofs.YtjamfddhcigchaaGreatDoor.Hp Go.Proofs.YtjamfddhcigchaaGreatDoor.Hd Go.Proofs.YtjamfddhcigchaaGreatDoor.Hs Go.Proofs.YtjamfddhcigchaaGreatDoor.HFnCodeSame Go.Proofs.YtjamfddhcigchaaGreatDoorW.PrintWords Go.Proofs.YtjamfddhcigchaaGreatDoorW.PrintLast Go.Proofs.YtjamfddhcigchaaGreatDoorW.PrintMore
set_option linter.unusedVariables false
set_option linter.unusedSimpArgs false
theorem told_eq {l : List Int} {a t : Int} (h : told l a t = true) : rd (tell l a t) a = t := by unfold told at h; simpa using h
theorem step_facts {ins : S30} {i n : Nat} {l l' : List Int} (hn : i < n) (hl : l.length = n + 1) (h : Hp.step ins i n l = some l') :
  okI ins.f0 ins.f1 ins.f2.f0 ins.f2.f1 i n = true ∧ rd l i ≠ -1 ∧ tk ins.f0 ≤ rd l i ∧ rd l i - tk ins.f0 + gv ins.f0 ≤ 12 ∧ (goB ins.f0 = true → 0 ≤ rd l i - tk ins.f0 + gv ins.f0 → rd l' ins.f1 = rd l i - tk ins.f0 + gv ins.f0) ∧ (foB ins.f0 = true → rd l' ((i + 1 : Nat) : Int) = rd l i - tk ins.f0 + gv ins.f0) := by
 have K := Hs.step_some h
 unfold Hp.step at h
 by_cases c1 : okI ins.f0 ins.f1 ins.f2.f0 ins.f2.f1 i n = true
 rotate_left
 ·rw [if_neg c1] at h; cases h
 rw [if_pos c1] at h
 by_cases c2 : rd l i = -1
 ·rw [if_pos c2] at h; cases h
 rw [if_neg c2] at h
 by_cases c3 : rd l i < tk ins.f0
 ·rw [if_pos c3] at h; cases h
 rw [if_neg c3] at h
 by_cases c4 : 12 < rd l i - tk ins.f0 + gv ins.f0
 ·rw [if_pos c4] at h; cases h
 rw [if_neg c4] at h
 refine ⟨c1, c2, by omega, by omega, ?_⟩
 generalize rd l i - tk ins.f0 + gv ins.f0 = t at h ⊢
 by_cases cg : goB ins.f0 = true
 ·obtain ⟨g0, g1⟩ := ok_goes c1 cg (by omega) (by omega)
  rw [if_pos cg] at h
  by_cases ct : told l ins.f1 t = true
  rotate_left
  ·rw [if_neg ct] at h; cases h
  rw [if_pos ct] at h
  by_cases cf : foB ins.f0 = true
  ·rw [if_pos cf] at h
   by_cases ct2 : told (tell l ins.f1 t) ((i + 1 : Nat) : Int) t = true
   rotate_left
   ·rw [if_neg ct2] at h; cases h
   rw [if_pos ct2] at h
   obtain rfl := Option.some.inj h
   refine ⟨fun _ ht => ?_, fun _ => told_eq ct2⟩
   have e := told_eq ct
   obtain ⟨j, hj⟩ : ∃ j : Nat, ins.f1 = (j : Int) := ⟨ins.f1.toNat, by omega⟩
   rw [hj] at e ⊢
   rw [Hs.tell_keep (by rw [e]; exact ht), e]
  ·rw [if_neg cf] at h
   obtain rfl := Option.some.inj h
   exact ⟨fun _ _ => told_eq ct, fun hf => absurd hf cf⟩
 ·rw [if_neg cg] at h
  by_cases cf : foB ins.f0 = true
  ·rw [if_pos cf] at h
   by_cases ct2 : told l ((i + 1 : Nat) : Int) t = true
   rotate_left
   ·rw [if_neg ct2] at h; cases h
   rw [if_pos ct2] at h
   obtain rfl := Option.some.inj h
   exact ⟨fun hg => absurd hg cg, fun _ => told_eq ct2⟩
  ·rw [if_neg cf] at h
   exact ⟨fun hg => absurd hg cg, fun hf => absurd hf cf⟩
theorem run_facts (ps : List S30) : ∀ (d i : Nat) (l l' : List Int), i + d = ps.length → l.length = ps.length + 1 → (∀ x ∈ l, -1 ≤ x ∧ x ≤ 12) → Hp.run ps d i l = some l' → ∀ j : Nat, i ≤ j → j < ps.length →
   okI (rd_T30 ps j).f0 (rd_T30 ps j).f1 (rd_T30 ps j).f2.f0 (rd_T30 ps j).f2.f1 j ps.length = true ∧ 0 ≤ rd l' j ∧ tk (rd_T30 ps j).f0 ≤ rd l' j ∧ rd l' j - tk (rd_T30 ps j).f0 + gv (rd_T30 ps j).f0 ≤ 12 ∧ (goB (rd_T30 ps j).f0 = true → rd l' (rd_T30 ps j).f1 = rd l' j - tk (rd_T30 ps j).f0 + gv (rd_T30 ps j).f0) ∧ (foB (rd_T30 ps j).f0 = true → rd l' ((j + 1 : Nat) : Int) = rd l' j - tk (rd_T30 ps j).f0 + gv (rd_T30 ps j).f0)
 | 0, i, l, l', hi, _, _, _, j, h1, h2 => by omega
 | d + 1, i, l, l', hi, hl, hb, h, j, h1, h2 => by
  unfold Hp.run at h
  cases hs : Hp.step (rd_T30 ps i) i ps.length l with
  | none => rw [hs] at h; cases h
  | some l2 =>
   rw [hs] at h
   obtain ⟨_, _, k3, k4, k5⟩ := Hs.step_some hs
   by_cases e : i = j
   ·subst e
    obtain ⟨f1, f2, f3, f4, f5, f6⟩ := step_facts (by omega) hl hs
    have g0 := gv_bd (rd_T30 ps i).f0
    have t0 := tk_bd (rd_T30 ps i).f0
    have r0 := rd_bd (a := (i : Int)) hb
    obtain ⟨q1, q2⟩ := Hs.run_keep ps d (i + 1) l2 l' h
    have hr : rd l' (i : Int) = rd l (i : Int) := by rw [q1 i (by rw [k3 i (by omega)]; omega), k3 i (by omega)]
    refine ⟨f1, by omega, by omega, by omega, fun hg => ?_, fun hf => ?_⟩
    ·obtain ⟨g1, g2⟩ := ok_goes f1 hg (by omega) (by omega)
     have e5 := f5 hg (by omega)
     obtain ⟨z, hz⟩ : ∃ z : Nat, (rd_T30 ps i).f1 = (z : Int) := ⟨(rd_T30 ps i).f1.toNat, by omega⟩
     rw [hz] at e5 ⊢
     rw [hr, q1 z (by rw [e5]; omega), e5]
    ·have e6 := f6 hf
     rw [hr, q1 (i + 1) (by rw [e6]; omega), e6]
   ·exact run_facts ps d (i + 1) l2 l' (by omega) (by omega) (k5 hb) h j (by omega) h2
theorem dep_facts {ps : List S30} (h : okB ps = true) : ps.length ≤ 400 ∧ ∃ l : List Int, rd l 0 = 0 ∧ rd l (ps.length : Int) = 0 ∧ ∀ j : Nat, j < ps.length →
   okI (rd_T30 ps j).f0 (rd_T30 ps j).f1 (rd_T30 ps j).f2.f0 (rd_T30 ps j).f2.f1 j ps.length = true ∧ 0 ≤ rd l j ∧ tk (rd_T30 ps j).f0 ≤ rd l j ∧ rd l j - tk (rd_T30 ps j).f0 + gv (rd_T30 ps j).f0 ≤ 12 ∧ (goB (rd_T30 ps j).f0 = true → rd l (rd_T30 ps j).f1 = rd l j - tk (rd_T30 ps j).f0 + gv (rd_T30 ps j).f0) ∧ (foB (rd_T30 ps j).f0 = true → rd l ((j + 1 : Nat) : Int) = rd l j - tk (rd_T30 ps j).f0 + gv (rd_T30 ps j).f0) := by
 unfold okB at h
 cases hd : dep ps with
 | none => rw [hd] at h; cases h
 | some l =>
  rw [hd] at h
  obtain ⟨n0, _, _, n3⟩ := Hs.dep_some hd
  refine ⟨n0, l, n3, by simpa using h, fun j hj => ?_⟩
  unfold dep at hd
  rw [if_neg (by omega)] at hd
  refine run_facts ps ps.length 0 _ l (by omega) (by simp) (fun x hx => ?_) hd j (by omega) hj
  rcases List.mem_or_eq_of_mem_set hx with h1 | rfl
  ·rw [List.eq_of_mem_replicate h1]; omega
  ·omega
end Go.Proofs.YtjamfddhcigchaaGreatDoor.Hk
