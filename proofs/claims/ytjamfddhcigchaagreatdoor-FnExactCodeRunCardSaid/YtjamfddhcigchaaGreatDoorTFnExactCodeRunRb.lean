/- spec.CodeRun of a memory and code: what the plain run tells. No other condition. -/
import Derived.Test.YtjamfddhcigchaaGreatDoorTFnExactCodeRunSr2
namespace Go.Proofs.YtjamfddhcigchaaGreatDoor.Rb
open Go.RowKit  Go.Proofs.YtjamfddhcigchaaGreatDoor.Gm Go.Proofs.YtjamfddhcigchaaGreatDoor.Gn Go.Proofs.YtjamfddhcigchaaGreatDoor.Gz Go.Proofs.YtjamfddhcigchaaGreatDoor.Gq Go.Proofs.YtjamfddhcigchaaGreatDoor.Hm Go.Proofs.YtjamfddhcigchaaGreatDoor.Hn Go.Proofs.YtjamfddhcigchaaGreatDoor.Hp Go.Proofs.YtjamfddhcigchaaGreatDoor.Sd Go.Proofs.YtjamfddhcigchaaGreatDoor.Sr Go.Proofs.YtjamfddhcigchaaGreatDoor.Sr2 Go.Proofs.YtjamfddhcigchaaGreatDoor.HFnExactCodeRun Go.Proofs.YtjamfddhcigchaaGreatDoorW.PrintWords Go.Proofs.YtjamfddhcigchaaGreatDoorW.PrintLast Go.Proofs.YtjamfddhcigchaaGreatDoorW.PrintMore
set_option linter.unusedVariables false
set_option linter.unusedSimpArgs false
theorem cut_isN (n : Int) : (cut n = n) ↔ Gm.isN n = true := by
 unfold Gm.isN cut mn mx
 simp only [Bool.and_eq_true, decide_eq_true_eq]
 constructor
 ·intro h; split at h <;> split at h <;> omega
 ·intro h; split <;> split <;> omega
theorem l2L (l : List Int) (hl : l.length ≤ 9223372036854775807) : ∀ (d k i : Nat), i + d = l.length → spec_l2List.l0 (k + d + 1) l (i : Int) = some (decide (l.length = 6) && (l.drop i).all Gm.isN)
 | 0, k, i, h => by
  rw [spec_l2List.l0, if_neg (by omega), List.drop_of_length_le (by omega)]
  by_cases c : l.length = 6
  ·simp [c]
  ·have : ¬ (l.length : Int) = 6 := by omega
   simp [c, this]
 | d + 1, k, i, h => by
  have hi : i < l.length := by omega
  rw [spec_l2List.l0, if_pos (by omega), if_pos (by omega), cut_same]
  simp only [Option.bind_some]
  rw [rdI l i hi, List.drop_eq_getElem_cons hi, List.all_cons]
  by_cases c : cut l[i] = l[i]
  ·rw [if_pos c, (cut_isN _).1 c, Bool.true_and, show wrap64 ((i : Int) + 1) = ((i + 1 : Nat) : Int) by unfold wrap64; omega, show k + (d + 1) = k + d + 1 by omega]
   exact l2L l hl d k (i + 1) (by omega)
  ·rw [if_neg c]
   have : Gm.isN l[i] = false := by
    cases e : Gm.isN l[i] with
    | false => rfl
    | true => exact absurd ((cut_isN _).2 e) c
   rw [this]; simp
theorem listOkS (l : List Int) (hl : l.length ≤ 9223372036854775807) (k : Nat) (hk : l.length + 1 ≤ k) : spec_l2List.f k l = some (okL l) := by
 have h := l2L l hl l.length (k - l.length - 1) 0 (by omega)
 unfold spec_l2List.f
 rw [show k - l.length - 1 + l.length + 1 = k by omega] at h
 rw [show (0 : Int) = ((0 : Nat) : Int) from rfl, h]
 rfl
theorem memOkS (l0 l1 l2 : List Int) (h0 : l0.length ≤ 9223372036854775807) (h1 : l1.length ≤ 9223372036854775807) (h2 : l2.length ≤ 9223372036854775807) (k : Nat) (hk : l0.length + l1.length + l2.length + 1 ≤ k) : spec_MemOk.f k l0 l1 l2 = some (okM l0 l1 l2) := by
 unfold spec_MemOk.f okM
 rw [listOkS l0 h0 k (by omega), listOkS l1 h1 k (by omega), listOkS l2 h2 k (by omega)]
 simp only [Option.bind_some]
 cases okL l0 <;> cases okL l1 <;> rfl
theorem specRun_any (A0 A1 A2 : Option Addr) (c0 c1 c2 : Nat) (l0 l1 l2 : List Int) (B : Option Addr) (cc : Nat) (ps : List S30) (fuel : Int) (w : World) (hr0 : Kd.C (Kd.int .i64) w A0 l0.length l0) (hr1 : Kd.C (Kd.int .i64) w A1 l1.length l1) (hr2 : Kd.C (Kd.int .i64) w A2 l2.length l2) (hc0 : l0.length ≤ c0) (hc1 : l1.length ≤ c1) (hc2 : l2.length ≤ c2) (hp : Kd.C k30 w B ps.length ps) (hcc : ps.length ≤ cc) (hl : ps.length ≤ 1048576)
  (q : M3 × Int × Nat) (hq : runC ⟨l0, l1, l2⟩ ps fuel = some q) :
  Calls Tryz.prog 21 #[.agg #[.slice A0 l0.length c0, .slice A1 l1.length c1, .slice A2 l2.length c2], .slice B ps.length cc, .int .i64 fuel] w fun e w' => Ans w w w' e q := by
 have hm := memOkS l0 l1 l2 hr0.2.1 hr1.2.1 hr2.2.1 _ (Nat.le_refl _)
 unfold runC at hq
 by_cases h : okM l0 l1 l2 = true ∧ okB ps = true ∧ 0 ≤ fuel ∧ fuel ≤ 100
 ·rw [if_pos h] at hq
  rw [h.1] at hm
  exact specRun_good A0 A1 A2 c0 c1 c2 l0 l1 l2 B cc ps fuel w hr0 hr1 hr2 hc0 hc1 hc2 hp hcc hl _ hm h.2.1 h.2.2.1 h.2.2.2 (okM_len h.1) _ q hq (by have := (Hk.dep_facts h.2.1).1; omega)
 ·rw [if_neg h] at hq
  obtain rfl := Option.some.inj hq
  cases hm' : okM l0 l1 l2 with
  | false =>
   rw [hm'] at hm
   exact specRun_bad1 A0 A1 A2 c0 c1 c2 l0 l1 l2 B cc ps fuel w hr0 hr1 hr2 hc0 hc1 hc2 hp hcc hl _ hm
  | true =>
   rw [hm'] at hm
   refine specRun_bad2 A0 A1 A2 c0 c1 c2 l0 l1 l2 B cc ps fuel w hr0 hr1 hr2 hc0 hc1 hc2 hp hcc hl _ hm ?_
   cases hb : okB ps with
   | false => exact .inl rfl
   | true => exact .inr ⟨rfl, by rw [hm', hb] at h; simp only [true_and] at h; omega⟩
end Go.Proofs.YtjamfddhcigchaaGreatDoor.Rb
