/- What spec.CodeOk and spec.CodeDepth compute is what impl.depths says. No condition but the fuel of the printed functions. -/
import Derived.Test.YtjamfddhcigchaaGreatDoorTFnCodeSameHp
namespace Go.Proofs.YtjamfddhcigchaaGreatDoor.Hs
open Go.RowKit Go.Proofs.YtjamfddhcigchaaGreatDoor.HFnCodeSame Go.Proofs.YtjamfddhcigchaaGreatDoor.Ht Go.Proofs.YtjamfddhcigchaaGreatDoor.Hp Go.Proofs.YtjamfddhcigchaaGreatDoorW.PrintWords Go.Proofs.YtjamfddhcigchaaGreatDoorW.PrintLast Go.Proofs.YtjamfddhcigchaaGreatDoorW.PrintMore
set_option linter.unusedVariables false
set_option linter.unusedSimpArgs false
theorem wrap_id {x : Int} (h1 : -9223372036854775808 ≤ x) (h2 : x ≤ 9223372036854775807) : wrap64 x = x := by
 unfold wrap64; omega
theorem tell_keep {l : List Int} {a t : Int} {j : Nat} (h : 0 ≤ rd l (j : Int)) : rd (tell l a t) (j : Int) = rd l (j : Int) := by
 unfold tell; split
 ·rename_i hq
  by_cases e : a.toNat = j
  ·exfalso
   have : rd l a = rd l (j : Int) := by unfold rd; rw [e, Int.toNat_natCast]
   omega
  ·unfold rd; rw [Int.toNat_natCast, List.getD_eq_getElem?_getD, List.getD_eq_getElem?_getD, List.getElem?_set_ne e]
 ·rfl
theorem step_some {ins : S30} {i n : Nat} {l l' : List Int} (h : Hp.step ins i n l = some l') : okI ins.f0 ins.f1 ins.f2.f0 ins.f2.f1 i n = true ∧ rd l i ≠ -1 ∧ (∀ j : Nat, 0 ≤ rd l (j : Int) → rd l' (j : Int) = rd l (j : Int)) ∧ l'.length = l.length ∧ ((∀ x ∈ l, -1 ≤ x ∧ x ≤ 12) → ∀ x ∈ l', -1 ≤ x ∧ x ≤ 12) := by
 unfold Hp.step at h
 have g0 := gv_bd ins.f0
 have t0 := tk_bd ins.f0
 by_cases c1 : okI ins.f0 ins.f1 ins.f2.f0 ins.f2.f1 i n = true
 ·rw [if_pos c1] at h
  by_cases c2 : rd l i = -1
  ·rw [if_pos c2] at h; cases h
  rw [if_neg c2] at h
  by_cases c3 : rd l i < tk ins.f0
  ·rw [if_pos c3] at h; cases h
  rw [if_neg c3] at h
  by_cases c4 : 12 < rd l i - tk ins.f0 + gv ins.f0
  ·rw [if_pos c4] at h; cases h
  rw [if_neg c4] at h
  have tb : -1 ≤ rd l i - tk ins.f0 + gv ins.f0 ∧ rd l i - tk ins.f0 + gv ins.f0 ≤ 12 := by omega
  generalize rd l i - tk ins.f0 + gv ins.f0 = t at h tb
  refine ⟨c1, c2, ?_⟩
  repeat' split at h
  all_goals first | cases h | skip
  ·exact ⟨fun j hj => by rw [tell_keep (by rw [tell_keep hj]; exact hj), tell_keep hj], by rw [tell_length, tell_length], fun hb => tell_bd (tell_bd hb tb) tb⟩
  ·exact ⟨fun j hj => tell_keep hj, by rw [tell_length], fun hb => tell_bd hb tb⟩
  ·exact ⟨fun j hj => tell_keep hj, by rw [tell_length], fun hb => tell_bd hb tb⟩
  ·exact ⟨fun j hj => rfl, rfl, fun hb => hb⟩
 ·rw [if_neg c1] at h; cases h
def allOk (ps : List S30) : Nat → Nat → Bool
 | 0, _ => true
 | d + 1, i => okI (rd_T30 ps i).f0 (rd_T30 ps i).f1 (rd_T30 ps i).f2.f0 (rd_T30 ps i).f2.f1 i ps.length && allOk ps d (i + 1)
theorem run_allOk (ps : List S30) : ∀ (d i : Nat) (l l' : List Int), Hp.run ps d i l = some l' → allOk ps d i = true
 | 0, _, _, _, _ => rfl
 | d + 1, i, l, l', h => by
  unfold Hp.run at h
  cases hs : Hp.step (rd_T30 ps i) i ps.length l with
  | none => rw [hs] at h; cases h
  | some l2 =>
   rw [hs] at h
   unfold allOk
   rw [(step_some hs).1, run_allOk ps d (i + 1) l2 l' h]; rfl
theorem run_keep (ps : List S30) : ∀ (d i : Nat) (l l' : List Int), Hp.run ps d i l = some l' → (∀ j : Nat, 0 ≤ rd l (j : Int) → rd l' (j : Int) = rd l (j : Int)) ∧ l'.length = l.length
 | 0, i, l, l', h => by
  obtain rfl := Option.some.inj (show some l = some l' from h)
  exact ⟨fun _ _ => rfl, rfl⟩
 | d + 1, i, l, l', h => by
  unfold Hp.run at h
  cases hs : Hp.step (rd_T30 ps i) i ps.length l with
  | none => rw [hs] at h; cases h
  | some l2 =>
   rw [hs] at h
   obtain ⟨_, _, h1, h2, _⟩ := step_some hs
   obtain ⟨h3, h4⟩ := run_keep ps d (i + 1) l2 l' h
   exact ⟨fun j hj => by rw [h3 j (by rw [h1 j hj]; exact hj), h1 j hj], by omega⟩
theorem dep_some {ps : List S30} {l : List Int} (h : dep ps = some l) : ps.length ≤ 400 ∧ allOk ps ps.length 0 = true ∧ l.length = ps.length + 1 ∧ rd l 0 = 0 := by
 unfold dep at h
 by_cases hn : 400 < ps.length
 ·rw [if_pos hn] at h; cases h
 rw [if_neg hn] at h
 obtain ⟨h1, h2⟩ := run_keep ps _ _ _ _ h
 have h3 : rd ((List.replicate (ps.length + 1) (-1 : Int)).set 0 0) ((0 : Nat) : Int) = 0 := by
  rw [List.replicate_succ]; rfl
 refine ⟨by omega, run_allOk ps _ _ _ _ h, by rw [h2]; simp, ?_⟩
 have := h1 0 (by rw [h3]; omega)
 rw [h3] at this
 exact this
end Go.Proofs.YtjamfddhcigchaaGreatDoor.Hs
