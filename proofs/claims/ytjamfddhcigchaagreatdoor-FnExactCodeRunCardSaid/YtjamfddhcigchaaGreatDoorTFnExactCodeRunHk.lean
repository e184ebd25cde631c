/- What spec.CodeOk and spec.CodeDepth compute is what impl.depths says. No condition but the fuel of the printed functions. -/
import Derived.Test.YtjamfddhcigchaaGreatDoorTFnExactCodeRunHd
import Derived.WalkSmall
namespace Go.Proofs.YtjamfddhcigchaaGreatDoor.Hs
open Go.RowKit Go.Proofs.YtjamfddhcigchaaGreatDoor.HFnExactCodeRun Go.Proofs.YtjamfddhcigchaaGreatDoor.Ht Go.Proofs.YtjamfddhcigchaaGreatDoor.Hp Go.Proofs.YtjamfddhcigchaaGreatDoorW.PrintWords Go.Proofs.YtjamfddhcigchaaGreatDoorW.PrintLast Go.Proofs.YtjamfddhcigchaaGreatDoorW.PrintMore
set_option linter.unusedVariables false
set_option linter.unusedSimpArgs false
theorem wrap_id {x : Int} (h1 : -9223372036854775808 ≤ x) (h2 : x ≤ 9223372036854775807) : wrap64 x = x := by
 unfold wrap64; omega
theorem cutS (b : Int) : spec_NumCut.f b = some (if 1000000 < b then 1000000 else if b < -1000000 then -1000000 else b) := by
 unfold spec_NumCut.f spec_l1Min.f spec_l1Max.f
 by_cases h : (1000000 : Int) < b
 ·rw [if_pos h, if_pos h]; simp only [Option.bind_some]; rw [if_neg (by omega)]; rfl
 ·rw [if_neg h, if_neg h]; simp only [Option.bind_some]
  by_cases h2 : b < -1000000
  ·rw [if_pos (by omega), if_pos h2]; rfl
  ·rw [if_neg h2]
   by_cases h3 : (-1000000 : Int) > b
   ·omega
   ·rw [if_neg h3]; rfl
theorem cutB (b : Int) : ((if 1000000 < b then (1000000 : Int) else if b < -1000000 then -1000000 else b) == b) = isN b := by
 unfold isN
 by_cases h : (1000000 : Int) < b
 ·rw [if_pos h, decide_eq_false (by omega : ¬ b ≤ 1000000), Bool.and_false]; simpa using (by omega : ¬ (1000000 : Int) = b)
 ·rw [if_neg h]
  by_cases h2 : b < -1000000
  ·rw [if_pos h2, decide_eq_false (by omega : ¬ -1000000 ≤ b), Bool.false_and]; simpa using (by omega : ¬ (-1000000 : Int) = b)
  ·rw [if_neg h2, decide_eq_true (by omega : b ≤ 1000000), decide_eq_true (by omega : -1000000 ≤ b)]; simp
theorem aOkS (k i : Int) : spec_AddrOk.f k i = some (aOk k i) := aOk_some k i
theorem insS (k : Nat) (a b c d at_ n : Int) : spec_l5Ins.f (k + 1) a b c d at_ n = some (okI a b c d at_ n) := by
 unfold spec_l5Ins.f okI
 by_cases h1 : a = 1
 ·rw [if_pos h1, if_pos h1, cutS]; simp only [Option.bind_some]; rw [cutB]
  show (if z2 c d = true then _ else _) = _
  cases z2 c d <;> simp
 rw [if_neg h1, if_neg h1]
 by_cases h2 : a = 2
 ·rw [if_pos h2, if_pos h2, aOkS]; simp only [Option.bind_some]
  cases aOk c d <;> simp
 rw [if_neg h2, if_neg h2]
 by_cases h3 : a = 3
 ·rw [if_pos h3, if_pos h3, aOkS]; simp only [Option.bind_some]
  cases aOk c d
  ·simp
  ·by_cases hc : c = 1
   ·rw [if_pos rfl, if_pos hc]; simp [hc]
   ·rw [if_pos rfl, if_neg hc]; simp [bne, hc]
 rw [if_neg h3, if_neg h3]
 by_cases h4 : a = 4
 ·rw [if_pos h4, if_pos h4]
  show (if z2 c d = true then _ else _) = _
  cases z2 c d
  ·simp
  ·rw [if_pos rfl]
   by_cases hb : b ≥ 3
   ·rw [if_pos hb, decide_eq_true (by omega : 3 ≤ b)]; simp
   ·rw [if_neg hb, decide_eq_false (by omega : ¬ 3 ≤ b)]; simp
 rw [if_neg h4, if_neg h4]
 by_cases h5 : a = 5
 ·rw [if_pos h5, if_pos h5]
  show (if z2 c d = true then _ else _) = _
  cases z2 c d <;> simp
 rw [if_neg h5, if_neg h5]
 have jt : ∀ a', spec_l5Ins.j0 (k + 1) at_ n (c == 0 && (d == 0)) a' true a b c d = some (decide (b > at_) && (decide (b ≤ n) && z2 c d)) := by
  intro a'
  simp only [spec_l5Ins.j0]
  rw [if_pos trivial]
  show (if z2 c d = true then _ else _) = _
  cases z2 c d
  ·simp
  ·rw [if_pos rfl]
   by_cases q1 : b > at_
   ·rw [if_pos q1, decide_eq_true q1]; simp
   ·rw [if_neg q1, decide_eq_false q1]; simp
 by_cases h6 : a = 6
 ·rw [if_pos h6, if_pos (Or.inl h6), show (a == 6) = true by simpa using h6]; exact jt a
 rw [if_neg h6]
 by_cases h7 : a = 7
 ·rw [if_pos (Or.inr h7), show (a == 7) = true by simpa using h7]; exact jt a
 rw [if_neg (by omega), show (a == 7) = false by simpa using h7]
 simp only [spec_l5Ins.j0]
 rw [if_neg (by simp)]
 by_cases h8 : a = 8
 ·rw [if_pos h8, if_pos h8]
  show (if z2 c d = true then _ else _) = _
  cases z2 c d
  ·simp
  ·rw [if_pos rfl]
   by_cases q1 : b ≥ 0
   ·rw [if_pos q1, decide_eq_true q1]; simp
   ·rw [if_neg q1, decide_eq_false q1]; simp
 ·rw [if_neg h8, if_neg h8]
theorem turnS (k : Nat) (a b c d : Int) : spec_l5Turn.f (k + 2) a b c d = some (gv a - tk a, tk a) := by
 unfold spec_l5Turn.f gv tk
 by_cases h1 : a = 1
 ·subst h1; rfl
 by_cases h2 : a = 2
 ·subst h2; rfl
 by_cases h3 : a = 3
 ·subst h3; rfl
 by_cases h4 : a = 4
 ·subst h4; rfl
 by_cases h5 : a = 5
 ·subst h5; rfl
 by_cases h6 : a = 6
 ·subst h6; rfl
 rw [if_neg h1, show (a == 2) = false by simpa using h2]
 simp only [spec_l5Turn.j0]
 rw [if_neg (by simp), if_neg h3, show (a == 6) = false by simpa using h6]
 simp only [spec_l5Turn.j1]
 rw [if_neg (by simp), if_neg h4, if_neg h5, if_neg (by omega), if_neg (by omega), if_neg h4]
 rfl
theorem jumpsS (a b c d : Int) : spec_l5Jumps.f a b c d = some (goB a) := by
 unfold spec_l5Jumps.f goB
 by_cases h6 : a = 6
 ·subst h6; rfl
 by_cases h7 : a = 7
 ·subst h7; rfl
 rw [if_neg h6, if_neg h7, show (a == 6) = false by simpa using h6, show (a == 7) = false by simpa using h7]; simp
theorem tell_keep {l : List Int} {a t : Int} {j : Nat} (h : 0 ≤ rd l (j : Int)) : rd (tell l a t) (j : Int) = rd l (j : Int) := by
 unfold tell; split
 ·rename_i hq
  by_cases e : a.toNat = j
  ·exfalso
   have : rd l a = rd l (j : Int) := by unfold rd; rw [e, Int.toNat_natCast]
   omega
  ·unfold rd; rw [Int.toNat_natCast, List.getD_eq_getElem?_getD, List.getD_eq_getElem?_getD, List.getElem?_set_ne e]
 ·rfl
theorem told_set {l : List Int} {a t : Int} (h : told l a t = true) (h1 : a.toNat < l.length) : l.set a.toNat t = tell l a t := by
 unfold told at h
 by_cases hq : rd l a = -1
 ·unfold tell; rw [if_pos hq]
 ·have e : tell l a t = l := by unfold tell; rw [if_neg hq]
  rw [e] at h ⊢
  have h2 : rd l a = t := by simpa using h
  unfold rd at h2
  rw [List.getD_eq_getElem?_getD, List.getElem?_eq_getElem h1] at h2
  apply List.ext_getElem?
  intro j
  by_cases e2 : a.toNat = j
  ·subst e2; rw [List.getElem?_set_self h1, List.getElem?_eq_getElem h1]; simpa using h2.symm
  ·rw [List.getElem?_set_ne e2]
theorem told_again {l : List Int} {a t : Int} (h : told l a t = true) (ht : t ≠ -1) : told (tell l a t) a t = true ∧ tell (tell l a t) a t = tell l a t := by
 have h2 : rd (tell l a t) a = t := by unfold told at h; simpa using h
 have e : tell (tell l a t) a t = tell l a t := by
  rw [show tell (tell l a t) a t = (if rd (tell l a t) a = -1 then (tell l a t).set a.toNat t else tell l a t) from rfl, if_neg (by rw [h2]; exact ht)]
 exact ⟨by unfold told; rw [e, h2]; simp, e⟩
theorem told_rd (l : List Int) (a t : Int) (h1 : a.toNat < l.length) : told l a t = (rd l a == -1 || rd l a == t) := by
 unfold told tell
 by_cases hq : rd l a = -1
 ·rw [if_pos hq, hq]
  have : rd (l.set a.toNat t) a = t := by unfold rd; rw [List.getD_eq_getElem?_getD, List.getElem?_set_self h1]; rfl
  rw [this]; simp
 ·rw [if_neg hq, show (rd l a == -1) = false by simpa using hq, Bool.false_or]
theorem step_some {ins : S30} {i n : Nat} {l l' : List Int} (h : Hp.step ins i n l = some l') : okI ins.f0 ins.f1 ins.f2.f0 ins.f2.f1 i n = true ∧ rd l i ≠ -1 ∧ (∀ j : Nat, 0 ≤ rd l (j : Int) → rd l' (j : Int) = rd l (j : Int)) ∧ l'.length = l.length ∧ ((∀ x ∈ l, -1 ≤ x ∧ x ≤ 12) → ∀ x ∈ l', -1 ≤ x ∧ x ≤ 12) := by
 unfold Hp.step at h
 have g0 := gv_bd ins.f0
 have t0 := tk_bd ins.f0
 by_cases c1 : okI ins.f0 ins.f1 ins.f2.f0 ins.f2.f1 i n = true
 ·rw [if_pos c1] at h
  by_cases c2 : rd l i = -1
  ·rw [if_pos c2] at h; cases h
  rw [if_neg c2] at h
  by_cases c3 : rd l i < tk ins.f0
  ·rw [if_pos c3] at h; cases h
  rw [if_neg c3] at h
  by_cases c4 : 12 < rd l i - tk ins.f0 + gv ins.f0
  ·rw [if_pos c4] at h; cases h
  rw [if_neg c4] at h
  have tb : -1 ≤ rd l i - tk ins.f0 + gv ins.f0 ∧ rd l i - tk ins.f0 + gv ins.f0 ≤ 12 := by omega
  generalize rd l i - tk ins.f0 + gv ins.f0 = t at h tb
  refine ⟨c1, c2, ?_⟩
  repeat' split at h
  all_goals first | cases h | skip
  ·exact ⟨fun j hj => by rw [tell_keep (by rw [tell_keep hj]; exact hj), tell_keep hj], by rw [tell_length, tell_length], fun hb => tell_bd (tell_bd hb tb) tb⟩
  ·exact ⟨fun j hj => tell_keep hj, by rw [tell_length], fun hb => tell_bd hb tb⟩
  ·exact ⟨fun j hj => tell_keep hj, by rw [tell_length], fun hb => tell_bd hb tb⟩
  ·exact ⟨fun j hj => rfl, rfl, fun hb => hb⟩
 ·rw [if_neg c1] at h; cases h
theorem j3S (k : Nat) (ps : List S30) (l : List Int) (i t tg : Int) (h0 : 0 ≤ tg) (h1 : tg < (l.length : Int)) (hp : tg ≤ i → 0 ≤ rd l tg) (hb : -1 ≤ rd l tg) : spec_l5Depths.j3 (k + 1) ps l i t tg = spec_l5Depths.j4 k ps l i t tg (!(told l tg t)) := by
 simp only [spec_l5Depths.j3]
 rw [told_rd l tg t (by omega)]
 by_cases c : tg ≤ i
 ·have := hp c
  rw [if_pos c, if_pos h0, if_pos h1, show (rd l tg == -1) = false by simpa using (by omega : ¬ rd l tg = -1)]
  by_cases e : rd l tg = t
  ·rw [if_pos e, if_neg (by omega), show (rd l tg == t) = true by simpa using e]; rfl
  ·rw [if_neg e, show (rd l tg == t) = false by simpa using e]; rfl
 ·rw [if_neg c, if_pos (by omega), if_pos h0, if_pos h1]
  by_cases e : rd l tg ≥ 0
  ·rw [if_pos e, show (rd l tg == -1) = false by simpa using (by omega : ¬ rd l tg = -1)]; rfl
  ·rw [if_neg e, show (rd l tg == -1) = true by simpa using (by omega : rd l tg = -1)]; rfl
theorem j5S (k : Nat) (ps : List S30) (l : List Int) (i t : Int) (hi : 0 ≤ i) (h1 : i + 1 < (l.length : Int)) (hm : (l.length : Int) ≤ 500) (hb : -1 ≤ rd l (i + 1)) : spec_l5Depths.j5 (k + 1) ps l i t false = if told l (i + 1) t = true then spec_l5Depths.l1 k ps (tell l (i + 1) t) (i + 1) else some [] := by
 simp only [spec_l5Depths.j5]
 rw [if_neg (by simp), wrap_id (by omega) (by omega), if_pos (by omega), if_pos h1]
 by_cases ht : told l (i + 1) t = true
 ·rw [if_pos ht, ← told_set ht (by omega)]
  have h2 := told_rd l (i + 1) t (by omega)
  rw [ht] at h2
  by_cases e : rd l (i + 1) ≥ 0
  ·rw [if_pos e, if_pos (by
    rw [show (rd l (i + 1) == -1) = false by simpa using (by omega : ¬ rd l (i + 1) = -1), Bool.false_or] at h2
    simpa using h2.symm)]
  ·rw [if_neg e]
 ·rw [if_neg ht]
  have h2 := told_rd l (i + 1) t (by omega)
  rw [show told l (i + 1) t = false by simpa using ht] at h2
  have h3 : ¬ rd l (i + 1) = -1 ∧ ¬ rd l (i + 1) = t := by
   constructor
   ·intro e; rw [e] at h2; simp at h2
   ·intro e; rw [e] at h2; simp at h2
  rw [if_pos (by omega), if_neg h3.2]
theorem l1S (k : Nat) (ps : List S30) (i : Nat) (l : List Int) (hi : i < ps.length) (hn : ps.length ≤ 400) (hl : l.length = ps.length + 1) (hb : ∀ x ∈ l, -1 ≤ x ∧ x ≤ 12) (hp : ∀ j : Nat, j < i → 0 ≤ rd l (j : Int))
  (hok : okI (rd_T30 ps i).f0 (rd_T30 ps i).f1 (rd_T30 ps i).f2.f0 (rd_T30 ps i).f2.f1 i ps.length = true) :
  spec_l5Depths.l1 (k + 5) ps l (i : Int) = match Hp.step (rd_T30 ps i) i ps.length l with
   | none => some []
   | some l' => spec_l5Depths.l1 k ps l' ((i + 1 : Nat) : Int) := by
 simp only [spec_l5Depths.l1]
 rw [if_pos (by omega), if_pos (by omega), turnS]
 simp only [Option.bind_some]
 rw [if_pos (by omega)]
 unfold Hp.step
 rw [if_pos hok]
 have hg := fun h => ok_goes hok h (by omega) (by omega)
 have g0 := gv_bd (rd_T30 ps i).f0
 have t0 := tk_bd (rd_T30 ps i).f0
 have v0 := rd_bd (a := (i : Int)) hb
 by_cases c3 : rd l i < tk (rd_T30 ps i).f0
 ·rw [if_pos c3]
  simp only [spec_l5Depths.j2]
  rw [if_pos trivial]
  by_cases c2 : rd l i = -1
  ·rw [if_pos c2]
  ·rw [if_neg c2, if_pos c3]
 have c2 : ¬ rd l i = -1 := by omega
 rw [if_neg c3, if_neg c2, if_neg c3]
 have tw : wrap64 (rd l i + (gv (rd_T30 ps i).f0 - tk (rd_T30 ps i).f0)) = rd l i - tk (rd_T30 ps i).f0 + gv (rd_T30 ps i).f0 := by unfold wrap64; omega
 rw [tw]
 by_cases c4 : 12 < rd l i - tk (rd_T30 ps i).f0 + gv (rd_T30 ps i).f0
 ·rw [if_pos c4, decide_eq_true c4]
  simp only [spec_l5Depths.j2]
  rw [if_pos trivial]
 rw [if_neg c4, decide_eq_false c4]
 simp only [spec_l5Depths.j2]
 rw [if_neg (by simp), if_pos (by omega), if_pos (by omega), if_pos (by omega), jumpsS]
 simp only [Option.bind_some]
 rw [tw, wrap_id (x := (i : Int) + 1) (by omega) (by omega)]
 have tb : 0 ≤ rd l i - tk (rd_T30 ps i).f0 + gv (rd_T30 ps i).f0 ∧ rd l i - tk (rd_T30 ps i).f0 + gv (rd_T30 ps i).f0 ≤ 12 := by omega
 generalize rd l i - tk (rd_T30 ps i).f0 + gv (rd_T30 ps i).f0 = t at tb ⊢
 have hpi : ∀ a : Int, 0 ≤ a → a ≤ i → 0 ≤ rd l a := by
  intro a h0 h1
  obtain ⟨j, rfl⟩ := Int.eq_ofNat_of_zero_le h0
  by_cases e : j = i
  ·subst e; omega
  ·exact hp j (by omega)
 have j4S : ∀ (tg : Int), 0 ≤ tg → tg ≤ (ps.length : Int) → spec_l5Depths.j4 (k + 2) ps l (i : Int) t tg (!(told l tg t)) = if told l tg t = true then (if foB (rd_T30 ps i).f0 = true then spec_l5Depths.j5 (k + 1) ps (tell l tg t) (i : Int) t false else spec_l5Depths.l1 k ps (tell l tg t) ((i + 1 : Nat) : Int)) else some [] := by
  intro tg h0 h1
  simp only [spec_l5Depths.j4]
  by_cases ht : told l tg t = true
  ·rw [ht, if_neg (by simp), if_pos h0, if_pos (by omega), if_pos rfl]
   simp only [Option.bind_some]
   rw [told_set ht (by omega), if_pos (by omega), if_pos (by omega)]
   have hj : spec_l5Depths.j5 (k + 1) ps (tell l tg t) (i : Int) t true = spec_l5Depths.l1 k ps (tell l tg t) ((i + 1 : Nat) : Int) := by
    simp only [spec_l5Depths.j5]
    rw [if_pos trivial, wrap_id (by omega) (by omega)]; rfl
   by_cases c7 : (rd_T30 ps i).f0 = 7
   ·rw [if_pos c7, hj, if_neg (by simp [foB, c7])]
   ·rw [if_neg c7]
    by_cases c8 : (rd_T30 ps i).f0 = 8
    ·rw [show ((rd_T30 ps i).f0 == 8) = true by simpa using c8, hj, if_neg (by simp [foB, c8])]
    ·rw [show ((rd_T30 ps i).f0 == 8) = false by simpa using c8, if_pos (by simp [foB, c7, c8])]
  ·rw [show told l tg t = false by simpa using ht]; rfl
 cases hgo : goB (rd_T30 ps i).f0 with
 | true =>
  obtain ⟨b0, b1⟩ := hg hgo
  rw [if_pos rfl, if_pos rfl, j3S (k + 2) ps l i t _ b0 (by omega) (fun h => hpi _ b0 h) (rd_bd hb).1, j4S _ b0 b1]
  by_cases ht : told l (rd_T30 ps i).f1 t = true
  ·rw [if_pos ht, if_pos ht]
   by_cases hf : foB (rd_T30 ps i).f0 = true
   ·rw [if_pos hf, if_pos hf, j5S k ps _ i t (by omega) (by rw [tell_length]; omega) (by rw [tell_length]; omega) (rd_bd (tell_bd hb (by omega))).1]
    show _ = match (if told _ ((i + 1 : Nat) : Int) t = true then some (tell _ ((i + 1 : Nat) : Int) t) else none) with | none => some [] | some l' => _
    rw [show ((i : Int) + 1) = ((i + 1 : Nat) : Int) from rfl]
    by_cases h2 : told (tell l (rd_T30 ps i).f1 t) ((i + 1 : Nat) : Int) t = true
    ·rw [if_pos h2, if_pos h2]
    ·rw [if_neg h2, if_neg h2]
   ·rw [if_neg hf, if_neg hf]
  ·rw [if_neg ht, if_neg ht]
 | false =>
  have hf : foB (rd_T30 ps i).f0 = true := by
   simp only [goB, Bool.or_eq_false_iff] at hgo
   unfold foB; rw [hgo.2.1, hgo.2.2]; rfl
  rw [if_neg (by simp), if_neg (by simp), if_pos hf, j3S (k + 2) ps l i t _ (by omega) (by omega) (fun h => by omega) (rd_bd hb).1, j4S _ (by omega) (by omega)]
  rw [show ((i : Int) + 1) = ((i + 1 : Nat) : Int) from rfl]
  by_cases ht : told l ((i + 1 : Nat) : Int) t = true
  ·obtain ⟨a1, a2⟩ := told_again ht (by omega)
   rw [if_pos ht, if_pos ht, if_pos hf, j5S k ps _ i t (by omega) (by rw [tell_length]; omega) (by rw [tell_length]; omega) (rd_bd (tell_bd hb (by omega))).1]
   rw [show ((i : Int) + 1) = ((i + 1 : Nat) : Int) from rfl, if_pos a1, a2]
  ·rw [if_neg ht, if_neg ht]
def allOk (ps : List S30) : Nat → Nat → Bool
 | 0, _ => true
 | d + 1, i => okI (rd_T30 ps i).f0 (rd_T30 ps i).f1 (rd_T30 ps i).f2.f0 (rd_T30 ps i).f2.f1 i ps.length && allOk ps d (i + 1)
theorem run_allOk (ps : List S30) : ∀ (d i : Nat) (l l' : List Int), Hp.run ps d i l = some l' → allOk ps d i = true
 | 0, _, _, _, _ => rfl
 | d + 1, i, l, l', h => by
  unfold Hp.run at h
  cases hs : Hp.step (rd_T30 ps i) i ps.length l with
  | none => rw [hs] at h; cases h
  | some l2 =>
   rw [hs] at h
   unfold allOk
   rw [(step_some hs).1, run_allOk ps d (i + 1) l2 l' h]; rfl
theorem l1_run (ps : List S30) (hn : ps.length ≤ 400) : ∀ (d k i : Nat) (l : List Int), i + d = ps.length → l.length = ps.length + 1 → (∀ x ∈ l, -1 ≤ x ∧ x ≤ 12) → (∀ j : Nat, j < i → 0 ≤ rd l (j : Int)) → allOk ps d i = true → 5 * d + 1 ≤ k →
  spec_l5Depths.l1 k ps l (i : Int) = some ((Hp.run ps d i l).getD [])
 | 0, k, i, l, hi, hl, hb, hp, ha, hk => by
  obtain ⟨k, rfl⟩ : ∃ m, k = m + 1 := ⟨k - 1, by omega⟩
  simp only [spec_l5Depths.l1]
  rw [if_neg (by omega)]; rfl
 | d + 1, k, i, l, hi, hl, hb, hp, ha, hk => by
  obtain ⟨k, rfl⟩ : ∃ m, k = m + 5 := ⟨k - 5, by omega⟩
  unfold allOk at ha
  rw [Bool.and_eq_true] at ha
  rw [l1S k ps i l (by omega) hn hl hb hp ha.1]
  unfold Hp.run
  cases hs : Hp.step (rd_T30 ps i) i ps.length l with
  | none => rfl
  | some l' =>
   obtain ⟨_, hv, hk2, hln, hbd⟩ := step_some hs
   have v0 := rd_bd (a := (i : Int)) hb
   exact l1_run ps hn d k (i + 1) l' (by omega) (by omega) (hbd hb) (fun j hj => by
    by_cases e : j = i
    ·subst e; rw [hk2 j (by omega)]; omega
    ·rw [hk2 j (hp j (by omega))]; exact hp j (by omega)) ha.2 (by omega)
theorem l0_run (ps : List S30) (hn : ps.length ≤ 400) : ∀ (d k i : Nat) (x : List Int), i + d = ps.length + 1 → x.length = ps.length + 1 →
  spec_l5Depths.l0 (k + d + 1) ps x (i : Int) = spec_l5Depths.l1 k ps (x.take i ++ List.replicate d (-1)) 0
 | 0, k, i, x, hi, hx => by
  simp only [spec_l5Depths.l0]
  rw [if_neg (by omega), List.take_of_length_le (by omega)]; simp
 | d + 1, k, i, x, hi, hx => by
  rw [show k + (d + 1) + 1 = (k + d + 1) + 1 by omega]
  rw [spec_l5Depths.l0]
  rw [if_pos (by omega), if_pos (by omega), if_pos (by omega), wrap_id (by omega) (by omega), Int.toNat_natCast]
  have := l0_run ps hn d k (i + 1) (x.set i (-1)) (by omega) (by simpa using hx)
  rw [show ((i : Int) + 1) = ((i + 1 : Nat) : Int) from rfl, this]
  congr 1
  rw [List.take_succ_eq_append_getElem (by simpa using (by omega : i < x.length)), List.take_set, List.set_eq_of_length_le (by simp; omega), List.replicate_succ]
  simp
theorem depthsS (ps : List S30) (hn : ps.length ≤ 400) (ha : allOk ps ps.length 0 = true) (k : Nat) (hk : 2500 ≤ k) : spec_l5Depths.f k ps = some ((dep ps).getD []) := by
 unfold spec_l5Depths.f dep
 rw [wrap_id (by omega) (by omega), if_pos (by omega), if_pos (by omega), if_neg (by omega)]
 obtain ⟨m, rfl⟩ : ∃ m, k = m + ps.length + 1 := ⟨k - ps.length - 1, by omega⟩
 have e1 : ((ps.length : Int) + 1).toNat = ps.length + 1 := by omega
 have h := l0_run ps hn ps.length m 1 (List.replicate (ps.length + 1) 0) (by omega) (by simp)
 rw [e1]
 rw [show ((1 : Nat) : Int) = 1 from rfl] at h
 rw [h]
 have e2 : (List.replicate (ps.length + 1) (0 : Int)).take 1 ++ List.replicate ps.length (-1) = (List.replicate (ps.length + 1) (-1)).set 0 0 := by
  rw [List.replicate_succ, List.replicate_succ]; rfl
 rw [e2]
 have hb : ∀ x ∈ (List.replicate (ps.length + 1) (-1 : Int)).set 0 0, -1 ≤ x ∧ x ≤ 12 := by
  intro x hx
  rcases List.mem_or_eq_of_mem_set hx with h1 | rfl
  ·rw [List.mem_replicate] at h1; omega
  ·omega
 have := l1_run ps hn ps.length m 0 _ (by omega) (by simp) hb (by omega) ha (by omega)
 exact this
theorem run_keep (ps : List S30) : ∀ (d i : Nat) (l l' : List Int), Hp.run ps d i l = some l' → (∀ j : Nat, 0 ≤ rd l (j : Int) → rd l' (j : Int) = rd l (j : Int)) ∧ l'.length = l.length
 | 0, i, l, l', h => by
  obtain rfl := Option.some.inj (show some l = some l' from h)
  exact ⟨fun _ _ => rfl, rfl⟩
 | d + 1, i, l, l', h => by
  unfold Hp.run at h
  cases hs : Hp.step (rd_T30 ps i) i ps.length l with
  | none => rw [hs] at h; cases h
  | some l2 =>
   rw [hs] at h
   obtain ⟨_, _, h1, h2, _⟩ := step_some hs
   obtain ⟨h3, h4⟩ := run_keep ps d (i + 1) l2 l' h
   exact ⟨fun j hj => by rw [h3 j (by rw [h1 j hj]; exact hj), h1 j hj], by omega⟩
theorem dep_some {ps : List S30} {l : List Int} (h : dep ps = some l) : ps.length ≤ 400 ∧ allOk ps ps.length 0 = true ∧ l.length = ps.length + 1 ∧ rd l 0 = 0 := by
 unfold dep at h
 by_cases hn : 400 < ps.length
 ·rw [if_pos hn] at h; cases h
 rw [if_neg hn] at h
 obtain ⟨h1, h2⟩ := run_keep ps _ _ _ _ h
 have h3 : rd ((List.replicate (ps.length + 1) (-1 : Int)).set 0 0) ((0 : Nat) : Int) = 0 := by
  rw [List.replicate_succ]; rfl
 refine ⟨by omega, run_allOk ps _ _ _ _ h, by rw [h2]; simp, ?_⟩
 have := h1 0 (by rw [h3]; omega)
 rw [h3] at this
 exact this
theorem okLoop (ps : List S30) (hn : ps.length ≤ 400) : ∀ (d k i : Nat), i + d = ps.length →
  spec_CodeOk.l0 (k + d + 2) ps (i : Int) = if allOk ps d i = true then spec_CodeOk.l0 (k + 2) ps (ps.length : Int) else some false
 | 0, k, i, hi => by
  obtain rfl : i = ps.length := by omega
  rw [show allOk ps 0 ps.length = true from rfl, if_pos rfl, Nat.add_zero]
 | d + 1, k, i, hi => by
  rw [show k + (d + 1) + 2 = (k + d + 2) + 1 by omega, spec_CodeOk.l0]
  rw [if_pos (by omega), if_pos (by omega), insS]
  simp only [Option.bind_some]
  rw [wrap_id (by omega) (by omega), show ((i : Int) + 1) = ((i + 1 : Nat) : Int) from rfl, okLoop ps hn d k (i + 1) (by omega)]
  rw [show allOk ps (d + 1) i = (okI (rd_T30 ps i).f0 (rd_T30 ps i).f1 (rd_T30 ps i).f2.f0 (rd_T30 ps i).f2.f1 i ps.length && allOk ps d (i + 1)) from rfl]
  cases okI (rd_T30 ps i).f0 (rd_T30 ps i).f1 (rd_T30 ps i).f2.f0 (rd_T30 ps i).f2.f1 i ps.length <;> simp
theorem endOk_ (f : Option (List Int)) (q : List Int) (n : Int) (h : f = some q) : (f.bind fun t162 => (if (t162.length : Int) = n + 1 then (if 0 ≤ n then (if n < (t162.length : Int) then (some ((rd t162 n) == 0)) else (none)) else (none)) else (some false))) = if (q.length : Int) = n + 1 then (if 0 ≤ n then some (rd q n == 0) else none) else some false := by
 subst h
 simp only [Option.bind_some]
 by_cases c : (q.length : Int) = n + 1
 ·rw [if_pos c, if_pos c, if_pos (by omega : n < (q.length : Int))]
 ·rw [if_neg c, if_neg c]
theorem okB_len (ps : List S30) : (if ((((dep ps).getD []).length : Nat) : Int) = (ps.length : Int) + 1 then (if 0 ≤ (ps.length : Int) then some (rd ((dep ps).getD []) (ps.length : Int) == 0) else none) else some false) = some (okB ps) := by
 unfold okB
 cases hd : dep ps with
 | none =>
  rw [if_neg (by simp only [Option.getD_none, List.length_nil]; omega)]
 | some l =>
  have h3 := dep_some hd
  simp only [Option.getD_some]
  rw [if_pos (by omega), if_pos (by omega)]
theorem endOk (ps : List S30) (hn : ps.length ≤ 400) (ha : allOk ps ps.length 0 = true) (k : Nat) (hk : 2500 ≤ k) : spec_CodeOk.l0 (k + 1) ps (ps.length : Int) = some (okB ps) := by
 have hw : wrap64 ((ps.length : Int) + 1) = (ps.length : Int) + 1 := wrap_id (by omega) (by omega)
 have e := depthsS ps hn ha k hk
 have e2 := okB_len ps
 rw [spec_CodeOk.l0, if_neg (by omega), hw]
 exact (endOk_ _ _ _ e).trans e2
theorem codeOkS (ps : List S30) (hl : ps.length ≤ 1048576) (k : Nat) (hk : 4000 ≤ k) : spec_CodeOk.f k ps = some (okB ps) := by
 unfold spec_CodeOk.f
 by_cases hn : ps.length ≤ 400
 ·rw [if_neg (by omega)]
  obtain ⟨m, hm⟩ : ∃ m, k = m + 1 + ps.length + 2 := ⟨k - ps.length - 3, by omega⟩
  have h := okLoop ps hn ps.length (m + 1) 0 (by omega)
  rw [← hm] at h
  have h' : spec_CodeOk.l0 k ps 0 = _ := h
  rw [h']
  by_cases ha : allOk ps ps.length 0 = true
  ·rw [if_pos ha]
   exact endOk ps hn ha (m + 2) (by omega)
  ·rw [if_neg ha]
   unfold okB
   cases hd : dep ps with
   | none => rfl
   | some l => exact absurd (dep_some hd).2.1 ha
 ·rw [if_pos (by omega)]
  unfold okB dep
  rw [if_pos (by omega)]
end Go.Proofs.YtjamfddhcigchaaGreatDoor.Hs
namespace Go.Proofs.YtjamfddhcigchaaGreatDoor.Hc
open Go.RowKit Go.Proofs.YtjamfddhcigchaaGreatDoor.Hd Go.Proofs.YtjamfddhcigchaaGreatDoor.Hs Go.Proofs.YtjamfddhcigchaaGreatDoor.Ht Go.Proofs.YtjamfddhcigchaaGreatDoor.Hp Go.Proofs.YtjamfddhcigchaaGreatDoor.HFnExactCodeRun Go.Proofs.YtjamfddhcigchaaGreatDoorW.PrintWords Go.Proofs.YtjamfddhcigchaaGreatDoorW.PrintLast Go.Proofs.YtjamfddhcigchaaGreatDoorW.PrintMore
set_option linter.unusedVariables false
set_option linter.unusedSimpArgs false
attribute [local go_sem] max2_int min2_int max_two min_two
set_option maxRecDepth 100000 in
theorem codeOk_any (A : Option Addr) (cc : Nat) (ps : List S30) (w : World) (hr : Kd.C k30 w A ps.length ps) (hc : ps.length ≤ cc) :
  Calls Tryz.prog 15 #[.slice A ps.length cc] w fun e w' => e = .returned (.bool (okB ps)) ∧ Below w.heap.size w w' := by
 have h := depths_any A cc ps w hr hc
 generalize okB ps = b at h
 clear hr hc
 go_enter Tryz.func15, Tryz.ntmps15
 go_wp2_with fail
 refine h.mono ?_
 rintro e w' ⟨v, rfl, _, hb⟩
 clear h
 go_wp2
 go_ret
 exact ⟨rfl, hb⟩
end Go.Proofs.YtjamfddhcigchaaGreatDoor.Hc
namespace Go.Proofs.YtjamfddhcigchaaGreatDoor.Hk
open Go.RowKit  Go.Proofs.YtjamfddhcigchaaGreatDoor.Ht Go.Proofs.YtjamfddhcigchaaGreatDoor.Hp Go.Proofs.YtjamfddhcigchaaGreatDoor.Hd Go.Proofs.YtjamfddhcigchaaGreatDoor.Hs Go.Proofs.YtjamfddhcigchaaGreatDoor.HFnExactCodeRun Go.Proofs.YtjamfddhcigchaaGreatDoorW.PrintWords Go.Proofs.YtjamfddhcigchaaGreatDoorW.PrintLast Go.Proofs.YtjamfddhcigchaaGreatDoorW.PrintMore
set_option linter.unusedVariables false
set_option linter.unusedSimpArgs false
theorem told_eq {l : List Int} {a t : Int} (h : told l a t = true) : rd (tell l a t) a = t := by unfold told at h; simpa using h
theorem step_facts {ins : S30} {i n : Nat} {l l' : List Int} (hn : i < n) (hl : l.length = n + 1) (h : Hp.step ins i n l = some l') :
  okI ins.f0 ins.f1 ins.f2.f0 ins.f2.f1 i n = true ∧ rd l i ≠ -1 ∧ tk ins.f0 ≤ rd l i ∧ rd l i - tk ins.f0 + gv ins.f0 ≤ 12 ∧ (goB ins.f0 = true → 0 ≤ rd l i - tk ins.f0 + gv ins.f0 → rd l' ins.f1 = rd l i - tk ins.f0 + gv ins.f0) ∧ (foB ins.f0 = true → rd l' ((i + 1 : Nat) : Int) = rd l i - tk ins.f0 + gv ins.f0) := by
 have K := Hs.step_some h
 unfold Hp.step at h
 by_cases c1 : okI ins.f0 ins.f1 ins.f2.f0 ins.f2.f1 i n = true
 rotate_left
 ·rw [if_neg c1] at h; cases h
 rw [if_pos c1] at h
 by_cases c2 : rd l i = -1
 ·rw [if_pos c2] at h; cases h
 rw [if_neg c2] at h
 by_cases c3 : rd l i < tk ins.f0
 ·rw [if_pos c3] at h; cases h
 rw [if_neg c3] at h
 by_cases c4 : 12 < rd l i - tk ins.f0 + gv ins.f0
 ·rw [if_pos c4] at h; cases h
 rw [if_neg c4] at h
 refine ⟨c1, c2, by omega, by omega, ?_⟩
 generalize rd l i - tk ins.f0 + gv ins.f0 = t at h ⊢
 by_cases cg : goB ins.f0 = true
 ·obtain ⟨g0, g1⟩ := ok_goes c1 cg (by omega) (by omega)
  rw [if_pos cg] at h
  by_cases ct : told l ins.f1 t = true
  rotate_left
  ·rw [if_neg ct] at h; cases h
  rw [if_pos ct] at h
  by_cases cf : foB ins.f0 = true
  ·rw [if_pos cf] at h
   by_cases ct2 : told (tell l ins.f1 t) ((i + 1 : Nat) : Int) t = true
   rotate_left
   ·rw [if_neg ct2] at h; cases h
   rw [if_pos ct2] at h
   obtain rfl := Option.some.inj h
   refine ⟨fun _ ht => ?_, fun _ => told_eq ct2⟩
   have e := told_eq ct
   obtain ⟨j, hj⟩ : ∃ j : Nat, ins.f1 = (j : Int) := ⟨ins.f1.toNat, by omega⟩
   rw [hj] at e ⊢
   rw [Hs.tell_keep (by rw [e]; exact ht), e]
  ·rw [if_neg cf] at h
   obtain rfl := Option.some.inj h
   exact ⟨fun _ _ => told_eq ct, fun hf => absurd hf cf⟩
 ·rw [if_neg cg] at h
  by_cases cf : foB ins.f0 = true
  ·rw [if_pos cf] at h
   by_cases ct2 : told l ((i + 1 : Nat) : Int) t = true
   rotate_left
   ·rw [if_neg ct2] at h; cases h
   rw [if_pos ct2] at h
   obtain rfl := Option.some.inj h
   exact ⟨fun hg => absurd hg cg, fun _ => told_eq ct2⟩
  ·rw [if_neg cf] at h
   exact ⟨fun hg => absurd hg cg, fun hf => absurd hf cf⟩
theorem run_facts (ps : List S30) : ∀ (d i : Nat) (l l' : List Int), i + d = ps.length → l.length = ps.length + 1 → (∀ x ∈ l, -1 ≤ x ∧ x ≤ 12) → Hp.run ps d i l = some l' → ∀ j : Nat, i ≤ j → j < ps.length →
   okI (rd_T30 ps j).f0 (rd_T30 ps j).f1 (rd_T30 ps j).f2.f0 (rd_T30 ps j).f2.f1 j ps.length = true ∧ 0 ≤ rd l' j ∧ tk (rd_T30 ps j).f0 ≤ rd l' j ∧ rd l' j - tk (rd_T30 ps j).f0 + gv (rd_T30 ps j).f0 ≤ 12 ∧ (goB (rd_T30 ps j).f0 = true → rd l' (rd_T30 ps j).f1 = rd l' j - tk (rd_T30 ps j).f0 + gv (rd_T30 ps j).f0) ∧ (foB (rd_T30 ps j).f0 = true → rd l' ((j + 1 : Nat) : Int) = rd l' j - tk (rd_T30 ps j).f0 + gv (rd_T30 ps j).f0)
 | 0, i, l, l', hi, _, _, _, j, h1, h2 => by omega
 | d + 1, i, l, l', hi, hl, hb, h, j, h1, h2 => by
  unfold Hp.run at h
  cases hs : Hp.step (rd_T30 ps i) i ps.length l with
  | none => rw [hs] at h; cases h
  | some l2 =>
   rw [hs] at h
   obtain ⟨_, _, k3, k4, k5⟩ := Hs.step_some hs
   by_cases e : i = j
   ·subst e
    obtain ⟨f1, f2, f3, f4, f5, f6⟩ := step_facts (by omega) hl hs
    have g0 := gv_bd (rd_T30 ps i).f0
    have t0 := tk_bd (rd_T30 ps i).f0
    have r0 := rd_bd (a := (i : Int)) hb
    obtain ⟨q1, q2⟩ := Hs.run_keep ps d (i + 1) l2 l' h
    have hr : rd l' (i : Int) = rd l (i : Int) := by rw [q1 i (by rw [k3 i (by omega)]; omega), k3 i (by omega)]
    refine ⟨f1, by omega, by omega, by omega, fun hg => ?_, fun hf => ?_⟩
    ·obtain ⟨g1, g2⟩ := ok_goes f1 hg (by omega) (by omega)
     have e5 := f5 hg (by omega)
     obtain ⟨z, hz⟩ : ∃ z : Nat, (rd_T30 ps i).f1 = (z : Int) := ⟨(rd_T30 ps i).f1.toNat, by omega⟩
     rw [hz] at e5 ⊢
     rw [hr, q1 z (by rw [e5]; omega), e5]
    ·have e6 := f6 hf
     rw [hr, q1 (i + 1) (by rw [e6]; omega), e6]
   ·exact run_facts ps d (i + 1) l2 l' (by omega) (by omega) (k5 hb) h j (by omega) h2
theorem dep_facts {ps : List S30} (h : okB ps = true) : ps.length ≤ 400 ∧ ∃ l : List Int, rd l 0 = 0 ∧ rd l (ps.length : Int) = 0 ∧ ∀ j : Nat, j < ps.length →
   okI (rd_T30 ps j).f0 (rd_T30 ps j).f1 (rd_T30 ps j).f2.f0 (rd_T30 ps j).f2.f1 j ps.length = true ∧ 0 ≤ rd l j ∧ tk (rd_T30 ps j).f0 ≤ rd l j ∧ rd l j - tk (rd_T30 ps j).f0 + gv (rd_T30 ps j).f0 ≤ 12 ∧ (goB (rd_T30 ps j).f0 = true → rd l (rd_T30 ps j).f1 = rd l j - tk (rd_T30 ps j).f0 + gv (rd_T30 ps j).f0) ∧ (foB (rd_T30 ps j).f0 = true → rd l ((j + 1 : Nat) : Int) = rd l j - tk (rd_T30 ps j).f0 + gv (rd_T30 ps j).f0) := by
 unfold okB at h
 cases hd : dep ps with
 | none => rw [hd] at h; cases h
 | some l =>
  rw [hd] at h
  obtain ⟨n0, _, _, n3⟩ := Hs.dep_some hd
  refine ⟨n0, l, n3, by simpa using h, fun j hj => ?_⟩
  unfold dep at hd
  rw [if_neg (by omega)] at hd
  refine run_facts ps ps.length 0 _ l (by omega) (by simp) (fun x hx => ?_) hd j (by omega) hj
  rcases List.mem_or_eq_of_mem_set hx with h1 | rfl
  ·rw [List.eq_of_mem_replicate h1]; omega
  ·omega
end Go.Proofs.YtjamfddhcigchaaGreatDoor.Hk
