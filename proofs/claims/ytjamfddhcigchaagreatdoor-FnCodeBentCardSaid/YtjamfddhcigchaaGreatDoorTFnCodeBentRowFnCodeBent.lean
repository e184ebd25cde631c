/- Code that is ok is not with a number that is held at the end, with one that is missing, or with a way behind its end. No condition. -/
import Derived.Test.YtjamfddhcigchaaGreatDoorTFnCodeBentHw
import Derived.Test.YtjamfddhcigchaaGreatDoorRows
import Derived.Test.YtjamfddhcigchaaGreatDoorTie
import Derived.Test.YtjamfddhcigchaaGreatDoorCards
import Derived.LaidMore
import Derived.Stop.Joined
import Derived.SevenTiedAt
import Derived.ChangeVars
import Derived.RowKitTokens
import Derived.ProofKit
import Derived.OpenShut
import Derived.ShutString
import Derived.ChangeOld
import Derived.Lib.SmallJoins
import Derived.ChangeSame
import Derived.Deep.Strs
namespace Go.Proofs.YtjamfddhcigchaaGreatDoor.He
open Go.RowKit Go.Proofs.YtjamfddhcigchaaGreatDoor.Hs Go.Proofs.YtjamfddhcigchaaGreatDoor.Ht Go.Proofs.YtjamfddhcigchaaGreatDoor.Hp Go.Proofs.YtjamfddhcigchaaGreatDoor.HFnCodeBent Go.Proofs.YtjamfddhcigchaaGreatDoorW.PrintWords Go.Proofs.YtjamfddhcigchaaGreatDoorW.PrintLast Go.Proofs.YtjamfddhcigchaaGreatDoorW.PrintMore
set_option linter.unusedVariables false
set_option linter.unusedSimpArgs false
theorem rd_app (l e : List Int) (a : Int) (h0 : 0 ≤ a) (h : a < (l.length : Int)) : rd (l ++ e) a = rd l a := by
  unfold rd
  rw [List.getD_eq_getElem?_getD, List.getD_eq_getElem?_getD, List.getElem?_append_left (by omega)]
theorem tell_app (l e : List Int) (a v : Int) (h0 : 0 ≤ a) (h : a < (l.length : Int)) : tell (l ++ e) a v = tell l a v ++ e := by
  unfold tell
  rw [rd_app l e a h0 h]
  split
  · rw [List.set_append_left _ _ (by omega)]
  · rfl
theorem told_app (l e : List Int) (a v : Int) (h0 : 0 ≤ a) (h : a < (l.length : Int)) : told (l ++ e) a v = told l a v := by
  unfold told
  rw [tell_app l e a v h0 h, rd_app _ e a h0 (by rw [tell_length]; exact h)]
theorem okI_le {a b c d i n m : Int} (hm : n ≤ m) (h : okI a b c d i n = true) : okI a b c d i m = true := by
  unfold okI at h ⊢
  repeat' split at h
  all_goals first | simp_all; done | (simp_all; omega)
theorem step_app {ins : S30} {i n m : Nat} {l l' : List Int} (E : List Int) (hi : i < n) (hm : n ≤ m) (hl : l.length = n + 1) (h : Hp.step ins i n l = some l') : Hp.step ins i m (l ++ E) = some (l' ++ E) := by
  unfold Hp.step at h ⊢
  by_cases c1 : okI ins.f0 ins.f1 ins.f2.f0 ins.f2.f1 i n = true
  rotate_left
  · rw [if_neg c1] at h; cases h
  rw [if_pos c1] at h
  rw [if_pos (okI_le (by omega) c1), rd_app l E i (by omega) (by omega)]
  by_cases c2 : rd l i = -1
  · rw [if_pos c2] at h; cases h
  rw [if_neg c2] at h ⊢
  by_cases c3 : rd l i < tk ins.f0
  · rw [if_pos c3] at h; cases h
  rw [if_neg c3] at h ⊢
  by_cases c4 : 12 < rd l i - tk ins.f0 + gv ins.f0
  · rw [if_pos c4] at h; cases h
  rw [if_neg c4] at h ⊢
  generalize rd l i - tk ins.f0 + gv ins.f0 = t at h ⊢
  by_cases cg : goB ins.f0 = true
  · obtain ⟨g0, g1⟩ := ok_goes c1 cg (by omega) (by omega)
    rw [if_pos cg] at h ⊢
    rw [told_app l E _ t g0 (by omega), tell_app l E _ t g0 (by omega)]
    by_cases ct : told l ins.f1 t = true
    rotate_left
    · rw [if_neg ct] at h; cases h
    rw [if_pos ct] at h ⊢
    by_cases cf : foB ins.f0 = true
    · rw [if_pos cf] at h ⊢
      rw [told_app _ E _ t (by omega) (by rw [tell_length]; omega), tell_app _ E _ t (by omega) (by rw [tell_length]; omega)]
      by_cases ct2 : told (tell l ins.f1 t) ((i + 1 : Nat) : Int) t = true
      · rw [if_pos ct2] at h ⊢
        rw [← Option.some.inj h]
      · rw [if_neg ct2] at h; cases h
    · rw [if_neg cf] at h ⊢
      rw [← Option.some.inj h]
  · rw [if_neg cg] at h ⊢
    by_cases cf : foB ins.f0 = true
    · rw [if_pos cf] at h ⊢
      rw [told_app l E _ t (by omega) (by omega), tell_app l E _ t (by omega) (by omega)]
      by_cases ct2 : told l ((i + 1 : Nat) : Int) t = true
      · rw [if_pos ct2] at h ⊢
        rw [← Option.some.inj h]
      · rw [if_neg ct2] at h; cases h
    · rw [if_neg cf] at h ⊢
      rw [← Option.some.inj h]
theorem rd30_app (ps xs : List S30) (i : Nat) (h : i < ps.length) : rd_T30 (ps ++ xs) (i : Int) = rd_T30 ps (i : Int) := by
  unfold rd_T30
  rw [List.getD_eq_getElem?_getD, List.getD_eq_getElem?_getD, List.getElem?_append_left (by omega)]
theorem rd30_at (ps xs : List S30) (j : Nat) (h : j < xs.length) : rd_T30 (ps ++ xs) ((ps.length + j : Nat) : Int) = xs[j] := by
  unfold rd_T30
  rw [Int.toNat_natCast, List.getD_eq_getElem?_getD, List.getElem?_append_right (by omega), show ps.length + j - ps.length = j by omega, List.getElem?_eq_getElem h]; rfl
theorem run_app (ps xs : List S30) (E : List Int) : ∀ (d i : Nat) (l l' : List Int), i + d ≤ ps.length → l.length = ps.length + 1 → Hp.run ps d i l = some l' → Hp.run (ps ++ xs) d i (l ++ E) = some (l' ++ E) ∧ l'.length = ps.length + 1
  | 0, i, l, l', _, hl, h => by
    obtain rfl := Option.some.inj (show some l = some l' from h)
    exact ⟨rfl, hl⟩
  | d + 1, i, l, l', hi, hl, h => by
    unfold Hp.run at h ⊢
    cases hs : Hp.step (rd_T30 ps i) i ps.length l with
    | none => rw [hs] at h; cases h
    | some l2 =>
      rw [hs] at h
      rw [rd30_app ps xs i (by omega), step_app E (by omega) (by rw [List.length_append]; omega) hl hs]
      exact run_app ps xs E d (i + 1) l2 l' (by omega) (by rw [(Hs.step_some hs).2.2.2.1]; exact hl) h
theorem run_add (ps : List S30) (e : Nat) : ∀ (d i : Nat) (l l' : List Int), Hp.run ps d i l = some l' → Hp.run ps (d + e) i l = Hp.run ps e (i + d) l'
  | 0, i, l, l', h => by
    obtain rfl := Option.some.inj (show some l = some l' from h)
    rw [Nat.zero_add, Nat.add_zero]
  | d + 1, i, l, l', h => by
    rw [show d + 1 + e = (d + e) + 1 by omega]
    unfold Hp.run at h
    rw [Hp.run]
    cases hs : Hp.step (rd_T30 ps i) i ps.length l with
    | none => rw [hs] at h; cases h
    | some l2 =>
      rw [hs] at h
      simp only []
      rw [run_add ps e d (i + 1) l2 l' h, show i + 1 + d = i + (d + 1) by omega]
theorem dep_app {ps xs : List S30} (h : okB ps = true) (hn : (ps ++ xs).length ≤ 400) : ∃ l : List Int, l.length = ps.length + 1 ∧ rd l (ps.length : Int) = 0 ∧ dep (ps ++ xs) = Hp.run (ps ++ xs) xs.length ps.length (l ++ List.replicate xs.length (-1)) := by
  unfold okB at h
  cases hd : dep ps with
  | none => rw [hd] at h; cases h
  | some l =>
    rw [hd] at h
    have hr : rd l (ps.length : Int) = 0 := by simpa using h
    have hn2 : ps.length ≤ 400 := by rw [List.length_append] at hn; omega
    unfold dep at hd ⊢
    rw [if_neg (by omega)] at hd
    obtain ⟨e1, e2⟩ := run_app ps xs (List.replicate xs.length (-1)) ps.length 0 _ l (by omega) (by simp) hd
    refine ⟨l, e2, hr, ?_⟩
    rw [if_neg (by omega)]
    have e3 : (List.replicate ((ps ++ xs).length + 1) (-1 : Int)).set 0 0 = (List.replicate (ps.length + 1) (-1 : Int)).set 0 0 ++ List.replicate xs.length (-1) := by
      rw [List.length_append, show ps.length + xs.length + 1 = (ps.length + 1) + xs.length by omega, ← List.replicate_append_replicate, List.set_append_left _ _ (by simp)]
    rw [e3, show (ps ++ xs).length = ps.length + xs.length from List.length_append, run_add (ps ++ xs) xs.length ps.length 0 _ _ e1, Nat.zero_add]
theorem okB_long {ps : List S30} (h : ¬ ps.length ≤ 400) : okB ps = false := by
  unfold okB dep
  rw [if_pos (by omega)]
theorem okB_ins {ps : List S30} (j : Nat) (hj : j < ps.length) (h : okI (rd_T30 ps j).f0 (rd_T30 ps j).f1 (rd_T30 ps j).f2.f0 (rd_T30 ps j).f2.f1 j ps.length = false) : okB ps = false := by
  have A : ∀ (d i : Nat), Hs.allOk ps d i = true → i ≤ j → j < i + d → False := by
    intro d
    induction d with
    | zero => intro i _ h1 h2; omega
    | succ d ih =>
      intro i ha h1 h2
      unfold Hs.allOk at ha
      rw [Bool.and_eq_true] at ha
      by_cases e : i = j
      · subst e; rw [h] at ha; exact absurd ha.1 (by decide)
      · exact ih (i + 1) ha.2 (by omega) (by omega)
  unfold okB
  cases hd : dep ps with
  | none => rfl
  | some l => exact (A _ _ (Hs.dep_some hd).2.1 (by omega) (by omega)).elim
theorem endA {ps : List S30} (h : okB ps = true) : okB (ps ++ [⟨1, 1, ⟨0, 0⟩⟩]) = false := by
  by_cases hn : (ps ++ [(⟨1, 1, ⟨0, 0⟩⟩ : S30)]).length ≤ 400
  rotate_left
  · exact okB_long hn
  obtain ⟨l, hl, hr, e⟩ := dep_app h hn
  unfold okB
  have e1 : rd (l ++ [(-1 : Int)]) (ps.length : Int) = 0 := by rw [rd_app l _ _ (by omega) (by omega)]; exact hr
  have e2 : rd (l ++ [(-1 : Int)]) ((ps.length + 1 : Nat) : Int) = -1 := by
    unfold rd
    rw [Int.toNat_natCast, List.getD_eq_getElem?_getD, List.getElem?_append_right (by omega), show ps.length + 1 - l.length = 0 by omega]; rfl
  have e3 : rd ((l ++ [(-1 : Int)]).set (ps.length + 1) 1) ((ps.length + 1 : Nat) : Int) = 1 := by
    unfold rd
    rw [Int.toNat_natCast, List.getD_eq_getElem?_getD, List.getElem?_set_self (by simp; omega)]; rfl
  have hs : dep (ps ++ [⟨1, 1, ⟨0, 0⟩⟩]) = some ((l ++ [(-1 : Int)]).set (ps.length + 1) 1) := by
    rw [e]
    show Hp.run _ 1 _ (l ++ [(-1 : Int)]) = _
    unfold Hp.run
    rw [show ((ps.length : Nat) : Int) = ((ps.length + 0 : Nat) : Int) from rfl, rd30_at ps _ 0 (by simp)]
    have hst : Hp.step (⟨1, 1, ⟨0, 0⟩⟩ : S30) ps.length (ps ++ [(⟨1, 1, ⟨0, 0⟩⟩ : S30)]).length (l ++ [(-1 : Int)]) = some ((l ++ [(-1 : Int)]).set (ps.length + 1) 1) := by
      unfold Hp.step
      rw [if_pos (show okI 1 1 0 0 _ _ = true from rfl), e1]
      rw [if_neg (by decide), if_neg (show ¬ (0 : Int) < tk 1 by decide), if_neg (show ¬ (12 : Int) < 0 - tk 1 + gv 1 by decide), if_neg (show ¬ goB 1 = true by decide), if_pos (show foB 1 = true by decide)]
      rw [show (0 : Int) - tk 1 + gv 1 = 1 by decide]
      have et : tell (l ++ [(-1 : Int)]) ((ps.length + 1 : Nat) : Int) 1 = (l ++ [(-1 : Int)]).set (ps.length + 1) 1 := by
        unfold tell; rw [if_pos e2, Int.toNat_natCast]
      have ed : told (l ++ [(-1 : Int)]) ((ps.length + 1 : Nat) : Int) 1 = true := by
        unfold told; rw [et, e3]; rfl
      rw [if_pos ed, et]
    show (match Hp.step (⟨1, 1, ⟨0, 0⟩⟩ : S30) ps.length _ _ with | none => none | some l' => Hp.run _ 0 _ l') = _
    rw [hst]; rfl
  rw [hs]
  show (rd ((l ++ [(-1 : Int)]).set (ps.length + 1) 1) (((ps ++ [(⟨1, 1, ⟨0, 0⟩⟩ : S30)]).length : Nat) : Int) == 0) = false
  rw [show (ps ++ [(⟨1, 1, ⟨0, 0⟩⟩ : S30)]).length = ps.length + 1 by simp, e3]; rfl
theorem endB {ps : List S30} (h : okB ps = true) : okB (ps ++ [⟨5, 0, ⟨0, 0⟩⟩]) = false := by
  by_cases hn : (ps ++ [(⟨5, 0, ⟨0, 0⟩⟩ : S30)]).length ≤ 400
  rotate_left
  · exact okB_long hn
  obtain ⟨l, hl, hr, e⟩ := dep_app h hn
  have e1 : rd (l ++ [(-1 : Int)]) (ps.length : Int) = 0 := by rw [rd_app l _ _ (by omega) (by omega)]; exact hr
  have hs : dep (ps ++ [⟨5, 0, ⟨0, 0⟩⟩]) = none := by
    rw [e]
    show Hp.run _ 1 _ (l ++ [(-1 : Int)]) = _
    unfold Hp.run
    rw [show ((ps.length : Nat) : Int) = ((ps.length + 0 : Nat) : Int) from rfl, rd30_at ps _ 0 (by simp)]
    have hst : Hp.step (⟨5, 0, ⟨0, 0⟩⟩ : S30) ps.length (ps ++ [(⟨5, 0, ⟨0, 0⟩⟩ : S30)]).length (l ++ [(-1 : Int)]) = none := by
      unfold Hp.step
      rw [if_pos (show okI 5 0 0 0 _ _ = true from rfl), e1, if_neg (by decide), if_pos (show (0 : Int) < tk 5 by decide)]
    show (match Hp.step (⟨5, 0, ⟨0, 0⟩⟩ : S30) ps.length _ _ with | none => none | some l' => Hp.run _ 0 _ l') = _
    rw [hst]
  unfold okB; rw [hs]
theorem endC {ps : List S30} (n : Int) (hn : n = (ps.length : Int) + 2) : okB (ps ++ [⟨7, n, ⟨0, 0⟩⟩]) = false := by
  refine okB_ins ps.length (by simp) ?_
  rw [show ((ps.length : Nat) : Int) = ((ps.length + 0 : Nat) : Int) from rfl, rd30_at ps _ 0 (by simp)]
  show okI 7 n 0 0 _ _ = false
  unfold okI
  simp
  omega
theorem endD {ps : List S30} : okB (ps ++ [⟨1, 1, ⟨0, 0⟩⟩, ⟨3, 0, ⟨1, 0⟩⟩]) = false := by
  refine okB_ins (ps.length + 1) (by simp) ?_
  rw [rd30_at ps _ 1 (by simp)]
  rfl
end Go.Proofs.YtjamfddhcigchaaGreatDoor.He
namespace Go.Proofs.YtjamfddhcigchaaGreatDoor.Hx
open Go.RowKit Go.Proofs.YtjamfddhcigchaaGreatDoor.HFnCodeBent Go.Proofs.YtjamfddhcigchaaGreatDoorW.PrintWords Go.Proofs.YtjamfddhcigchaaGreatDoorW.PrintLast Go.Proofs.YtjamfddhcigchaaGreatDoorW.PrintMore
set_option linter.unusedVariables false
set_option linter.unusedSimpArgs false
theorem ob_ {α β : Type} (a : α) (f : α → Option β) : (some a).bind f = f a := rfl
theorem wrap_id {x : Int} (h1 : -9223372036854775808 ≤ x) (h2 : x ≤ 9223372036854775807) : wrap64 x = x := by
  unfold wrap64; omega
theorem xor_i64_nat (a b : Nat) (ha : a < 9223372036854775808) (hb : b < 9223372036854775808) :
    Go.bits .xor .i64 (a : Int) (b : Int) = ((a ^^^ b : Nat) : Int) := by
  have hx : a ^^^ b < 2 ^ 63 := Nat.xor_lt_two_pow (by omega) (by omega)
  have h1 : (BitVec.ofInt 64 (a : Int)).toNat = a := by
    rw [BitVec.ofInt_natCast, BitVec.toNat_ofNat]; exact Nat.mod_eq_of_lt (by omega)
  have h2 : (BitVec.ofInt 64 (b : Int)).toNat = b := by
    rw [BitVec.ofInt_natCast, BitVec.toNat_ofNat]; exact Nat.mod_eq_of_lt (by omega)
  show IntKind.i64.wrap ((BitVec.ofInt 64 (a : Int) ^^^ BitVec.ofInt 64 (b : Int)).toNat : Int) = _
  rw [BitVec.toNat_xor, h1, h2, IntKind.wrap_i64]
  omega
theorem xor_i64_nonneg (x y : Int) (hx : 0 ≤ x) (hx' : x < 9223372036854775808) (hy : 0 ≤ y) (hy' : y < 9223372036854775808) :
    0 ≤ Go.bits .xor .i64 x y := by
  obtain ⟨a, rfl⟩ := Int.eq_ofNat_of_zero_le hx
  obtain ⟨b, rfl⟩ := Int.eq_ofNat_of_zero_le hy
  rw [xor_i64_nat a b (by omega) (by omega)]
  exact Int.natCast_nonneg _
def Byt (l : List Int) : Prop := ∀ x ∈ l, 0 ≤ x ∧ x ≤ 255
theorem rd_byt {l : List Int} (h : Byt l) (i : Int) : 0 ≤ rd l i ∧ rd l i ≤ 255 := by
  unfold rd
  by_cases hi : i.toNat < l.length
  · rw [List.getD_eq_getElem?_getD, List.getElem?_eq_getElem hi]; exact h _ (List.getElem_mem hi)
  · rw [List.getD_eq_getElem?_getD, List.getElem?_eq_none (by omega)]; simp
theorem tmod_bd {a b : Int} (ha : 0 ≤ a) (hb : 0 < b) : 0 ≤ Int.tmod a b ∧ Int.tmod a b < b := by
  rw [Int.tmod_eq_emod_of_nonneg ha]
  exact ⟨Int.emod_nonneg _ (by omega), Int.emod_lt_of_pos _ hb⟩
theorem tdiv_bd {a b : Int} (ha : 0 ≤ a) (hb : 0 < b) : 0 ≤ Int.tdiv a b ∧ Int.tdiv a b ≤ a := by
  rw [Int.tdiv_eq_ediv_of_nonneg ha]
  exact ⟨Int.ediv_nonneg ha (by omega), Int.ediv_le_self _ ha⟩
theorem pick_some {l : List Int} (h : Byt l) (k : Nat) (p n : Int) (hp : 0 ≤ p) (hp' : p ≤ 1000000000000) :
    ∃ r, spec_l12Rd_pick.f (k + 1) l p n = some (r, p + 1) ∧ 0 ≤ r ∧ (r < n ∨ (n < 1 ∧ r = 0)) := by
  have hw : wrap64 (p + 1) = p + 1 := wrap_id (by omega) (by omega)
  have hw2 : wrap64 (p + 1 - 1) = p := by rw [wrap_id (by omega) (by omega)]; omega
  unfold spec_l12Rd_pick.f
  by_cases hn : n < 1
  · refine ⟨0, ?_, by omega, .inr ⟨hn, rfl⟩⟩
    rw [if_pos hn]; simp only [spec_l12Rd_pick.j0, if_true]; rw [hw]
  · rw [if_neg hn]
    by_cases hl : (l.length : Int) = 0
    · refine ⟨0, ?_, by omega, .inl (by omega)⟩
      have e : ((l.length : Int) == 0) = true := by simpa using hl
      rw [e]; simp only [spec_l12Rd_pick.j0, if_true]; rw [hw]
    · have e : ((l.length : Int) == 0) = false := by simpa using hl
      have hn0 : ¬ n = 0 := by omega
      rw [e]; simp only [spec_l12Rd_pick.j0]
      rw [if_neg (by simp), hw, hw2]
      by_cases hlt : p < (l.length : Int)
      · rw [if_pos hlt, if_pos hp, if_neg hn0]
        have hb := rd_byt h p
        rw [wrap_id (x := rd l p) (by omega) (by omega)]
        have ht := tmod_bd (a := rd l p) (b := n) hb.1 (by omega)
        exact ⟨_, rfl, ht.1, .inl ht.2⟩
      · have hL : 0 < (l.length : Int) := by omega
        have ht1 := tmod_bd (a := p) (b := (l.length : Int)) hp hL
        have e7 : wrap64 (p * 7) = p * 7 := wrap_id (by omega) (by omega)
        have e73 : wrap64 (p * 7 + 3) = p * 7 + 3 := wrap_id (by omega) (by omega)
        have ht2 := tmod_bd (a := p * 7 + 3) (b := (l.length : Int)) (by omega) hL
        rw [if_neg hlt, if_neg hl, if_pos ht1.1, if_pos ht1.2, e7, e73, if_pos ht2.1, if_pos ht2.2, if_neg hn0]
        have hb1 := rd_byt h (Int.tmod p (l.length : Int))
        have hb2 := rd_byt h (Int.tmod (p * 7 + 3) (l.length : Int))
        have hd := tdiv_bd (a := p) (b := (l.length : Int)) hp hL
        generalize rd l (Int.tmod p (l.length : Int)) = A at hb1 ⊢
        generalize rd l (Int.tmod (p * 7 + 3) (l.length : Int)) = B at hb2 ⊢
        generalize Int.tdiv p (l.length : Int) = D at hd ⊢
        rw [wrap_id (x := A) (by omega) (by omega), wrap_id (x := B) (by omega) (by omega), wrap_id (x := D) (by omega) (by omega), wrap_id (x := A * 131) (by omega) (by omega), wrap_id (x := B * 1117) (by omega) (by omega), wrap_id (x := p * 29) (by omega) (by omega), wrap_id (x := D * 53) (by omega) (by omega), wrap_id (x := A * 131 + B * 1117) (by omega) (by omega), wrap_id (x := A * 131 + B * 1117 + p * 29) (by omega) (by omega), wrap_id (x := A * 131 + B * 1117 + p * 29 + D * 53) (by omega) (by omega)]
        have hx0 : 0 ≤ A * 131 + B * 1117 + p * 29 + D * 53 := by omega
        have hx1 : A * 131 + B * 1117 + p * 29 + D * 53 < 9223372036854775807 := by omega
        generalize A * 131 + B * 1117 + p * 29 + D * 53 = X at hx0 hx1 ⊢
        have hd2 := tdiv_bd (a := X) (b := 64) hx0 (by omega)
        rw [wrap_id (x := Int.tdiv X 64) (by omega) (by omega)]
        have hnn := xor_i64_nonneg X (Int.tdiv X 64) hx0 (by omega) hd2.1 (by omega)
        have ht := tmod_bd (a := Go.bits .xor .i64 X (Int.tdiv X 64)) (b := n) hnn (by omega)
        exact ⟨_, rfl, ht.1, .inl ht.2⟩
theorem rd_mem {l : List Int} {i : Int} (h0 : 0 ≤ i) (h1 : i < (l.length : Int)) : rd l i ∈ l := by
  unfold rd
  rw [List.getD_eq_getElem?_getD, List.getElem?_eq_getElem (by omega)]; exact List.getElem_mem _
theorem num_some {l : List Int} (h : Byt l) (k : Nat) (p : Int) (xs : List Int) (hx : 0 < xs.length) (hp : 0 ≤ p) (hp' : p ≤ 1000000000000) :
    ∃ r, spec_l12Rd_num.f (k + 1) l p xs = some (r, p + 1) ∧ r ∈ xs := by
  obtain ⟨i, hi, h0, h1⟩ := pick_some h k p (xs.length : Int) hp hp'
  have h1' : i < (xs.length : Int) := by omega
  refine ⟨rd xs i, ?_, rd_mem h0 h1'⟩
  unfold spec_l12Rd_num.f
  rw [hi]; simp only [ob_]
  rw [if_pos h0, if_pos h1']
theorem byt_of {l : List Int} (h : ∀ x ∈ l, (Lit.int .u8 x).wf = true) : Byt l := by
  intro x hx
  have := h x hx
  simp [Lit.wf, IntKind.min, IntKind.max, IntKind.bits, IntKind.signed] at this
  omega
theorem open_some {l : List Int} (h : Byt l) : ∃ l', spec_l12Open.f l = some (l', 0) ∧ Byt l' := by
  unfold spec_l12Open.f
  by_cases hl : (l.length : Int) > 2000
  · rw [if_pos hl, if_pos (by omega)]
    exact ⟨_, rfl, fun x hx => h x (List.mem_of_mem_take hx)⟩
  · rw [if_neg hl]; exact ⟨l, rfl, h⟩
theorem l2Addr_some {l : List Int} (h : Byt l) (k : Nat) (p : Int) (hp : 0 ≤ p) (hp' : p ≤ 100000000) : ∃ a i, spec_l2Addr.f (k + 1) l p = some (a, i, p + 2) := by
  unfold spec_l2Addr.f
  obtain ⟨a, ha, _⟩ := pick_some h k p 3 hp (by omega)
  obtain ⟨b, hb, _⟩ := pick_some h k (p + 1) 3 (by omega) (by omega)
  rw [ha]; simp only [ob_]
  rw [hb]; simp only [ob_]
  exact ⟨_, _, by rw [show p + 1 + 1 = p + 2 by omega]⟩
theorem l2To_some {l : List Int} (h : Byt l) (k : Nat) (p : Int) (hp : 0 ≤ p) (hp' : p ≤ 100000000) : ∃ a i, spec_l2To.f (k + 1) l p = some (a, i, p + 2) := by
  unfold spec_l2To.f
  obtain ⟨a, ha, _⟩ := pick_some h k p 2 hp (by omega)
  obtain ⟨b, hb, _⟩ := pick_some h k (p + 1) 3 (by omega) (by omega)
  rw [ha]; simp only [ob_]
  rw [hb]; simp only [ob_]
  exact ⟨_, _, by rw [show p + 1 + 1 = p + 2 by omega]⟩
theorem bent_addr {l : List Int} (h : Byt l) (k : Nat) (p : Int) (hp : 0 ≤ p) (hp' : p ≤ 100000000) : ∃ a i q, spec_l2AddrBent.f (k + 1) l p = some (a, i, q) := by
  unfold spec_l2AddrBent.f
  obtain ⟨a, i, ha⟩ := l2Addr_some h k p hp hp'
  obtain ⟨b, hb, _⟩ := pick_some h k (p + 2) 16 (by omega) (by omega)
  rw [ha]; simp only [ob_]
  rw [hb]; simp only [ob_]
  obtain ⟨c, hc, _⟩ := num_some h k (p + 2 + 1) [0, 4, (-1)] (by simp) (by omega) (by omega)
  obtain ⟨d, hd, _⟩ := num_some h k (p + 2 + 1) [(-1), 6, 5] (by simp) (by omega) (by omega)
  rw [hc, hd]; simp only [ob_]
  split
  · exact ⟨_, _, _, rfl⟩
  · split <;> exact ⟨_, _, _, rfl⟩
def okX : Nat → S120 → Prop
  | 0, _ => False
  | d + 1, x => ((x.f0 = 1 ∨ x.f0 = 2) ∧ x.f3 = []) ∨ ((x.f0 = 10 ∧ x.f3.length = 1 ∨ (3 ≤ x.f0 ∧ x.f0 ≤ 9) ∧ x.f3.length = 2) ∧ ∀ y ∈ x.f3, okX d y)
theorem okX_up : ∀ (d : Nat) (x : S120), okX d x → okX (d + 1) x
  | 0, _, h => h.elim
  | d + 1, x, h => by
    rcases h with h | ⟨h1, h2⟩
    · exact .inl h
    · exact .inr ⟨h1, fun y hy => okX_up d y (h2 y hy)⟩
theorem okX_le {d e : Nat} (h : d ≤ e) {x : S120} (hx : okX d x) : okX e x := by
  induction e with
  | zero => obtain rfl : d = 0 := by omega
            exact hx
  | succ e ih =>
    by_cases he : d = e + 1
    · subst he; exact hx
    · exact okX_up e x (ih (by omega))
def eb : Nat → Int
  | 0 => 0
  | d + 1 => 2 * eb d + 4
theorem eb_nn : ∀ d, 0 ≤ eb d
  | 0 => by decide
  | d + 1 => by have := eb_nn d; show 0 ≤ 2 * eb d + 4; omega
theorem kids_some (k : Nat) (r : Int) : ∃ t, spec_l3Kids.f (k + 1) r = some t ∧ (r = 10 → t = 1) ∧ (3 ≤ r → r ≤ 9 → t = 2) := by
  unfold spec_l3Kids.f
  by_cases h1 : r = 1
  · rw [if_pos h1]; exact ⟨_, rfl, fun h => by omega, fun h => by omega⟩
  rw [if_neg h1]
  by_cases h2 : r = 2
  · subst h2; exact ⟨_, rfl, fun h => by omega, fun h => by omega⟩
  rw [show (r == 2) = false by simpa using h2]
  simp only [spec_l3Kids.j0]
  rw [if_neg (by decide)]
  by_cases h10 : r = 10
  · rw [if_pos h10]; exact ⟨_, rfl, fun _ => rfl, fun h => by omega⟩
  rw [if_neg h10]
  by_cases h3 : r ≥ 3
  · rw [if_pos h3]
    by_cases h9 : r ≤ 9
    · rw [if_pos h9]; exact ⟨_, rfl, fun h => by omega, fun _ _ => rfl⟩
    · rw [if_neg h9]; exact ⟨_, rfl, fun h => by omega, fun _ h => by omega⟩
  · rw [if_neg h3]; exact ⟨_, rfl, fun h => by omega, fun h => by omega⟩
theorem leaf_some {l : List Int} (h : Byt l) (k : Nat) (a p : Int) (hp : 0 ≤ p) (hp' : p ≤ 10000000) :
    ∃ (x : S120) (q : Int), spec_l3Expr.j0 (k + 2) a true l p = some (x.f0, x.f1, x.f2.f0, x.f2.f1, x.f3, q) ∧ okX 1 x ∧ p ≤ q ∧ q ≤ p + 3 := by
  rw [show k + 2 = (k + 1) + 1 from rfl]
  simp only [spec_l3Expr.j0, if_true]
  obtain ⟨b, hb, _⟩ := pick_some h k p 3 hp (by omega)
  rw [hb]; simp only [ob_]
  obtain ⟨n, hn, _⟩ := num_some h k (p + 1) [0, 1, 2, 3, (-1), 5, 1000000] (by simp) (by omega) (by omega)
  obtain ⟨u, v, hu⟩ := l2Addr_some h k (p + 1) (by omega) (by omega)
  rw [hn, hu]; simp only [ob_]
  split
  · exact ⟨⟨1, n, ⟨0, 0⟩, []⟩, _, rfl, .inl ⟨.inl rfl, rfl⟩, by omega, by omega⟩
  · exact ⟨⟨2, 0, ⟨u, v⟩, []⟩, _, rfl, .inl ⟨.inr rfl, rfl⟩, by omega, by omega⟩
theorem eta120 (x : S120) : (⟨x.f0, x.f1, ⟨x.f2.f0, x.f2.f1⟩, x.f3⟩ : S120) = x := by cases x; rfl
theorem kids_end {l : List Int} (k : Nat) (a r p : Int) (acc : List S120) : spec_l3Expr.l0 (k + 1) a 0 l p r 0 0 0 acc = some (r, 0, 0, 0, acc, p) := by
  rw [spec_l3Expr.l0, if_neg (by decide)]
theorem kids_step {l : List Int} (k d : Nat) (a r p n : Int) (acc : List S120) (ha : wrap64 (a - 1) = (d : Int)) (hn : 0 < n) (hn2 : n ≤ 2) (hl : acc.length ≤ 2) {x : S120} {q : Int} (hx : spec_l3Expr.f k l p (d : Int) = some (x.f0, x.f1, x.f2.f0, x.f2.f1, x.f3, q)) :
    spec_l3Expr.l0 (k + 1) a n l p r 0 0 0 acc = spec_l3Expr.l0 k a (n - 1) l q r 0 0 0 (acc ++ [x]) := by
  rw [spec_l3Expr.l0, if_pos hn, ha, hx]; simp only [ob_]
  rw [if_pos (by omega), wrap_id (x := n - 1) (by omega) (by omega), eta120]
theorem expr_some {l : List Int} (h : Byt l) : ∀ (d : Nat), 1 ≤ d → d ≤ 3 → ∀ (k : Nat) (p : Int), 0 ≤ p → p + eb d + 10 ≤ 1000000 →
    ∃ (x : S120) (q : Int), spec_l3Expr.f (k + 8 * d) l p (d : Int) = some (x.f0, x.f1, x.f2.f0, x.f2.f1, x.f3, q) ∧ okX d x ∧ p ≤ q ∧ q ≤ p + eb d
  | 0, h1, _, _, _, _, _ => by omega
  | 1, _, _, k, p, h0, h1 => by
    have h1 : p + 4 + 10 ≤ 1000000 := h1
    obtain ⟨x, q, hx, ho, q0, q1⟩ := leaf_some h (k + 5) 1 p h0 (by omega)
    refine ⟨x, q, ?_, ho, q0, by show q ≤ p + 4; omega⟩
    rw [show k + 8 * 1 = (k + 7) + 1 by omega, spec_l3Expr.f, if_pos (by decide)]
    exact hx
  | d + 2, _, hd, k, p, h0, h1 => by
    have hb : eb (d + 2) = 2 * eb (d + 1) + 4 := rfl
    have hn := eb_nn (d + 1)
    have hB : eb (d + 1) ≤ 100 := by
      rcases (by omega : d = 0 ∨ d = 1) with rfl | rfl <;> decide
    rw [show k + 8 * (d + 2) = (k + 8 * d + 15) + 1 by omega, spec_l3Expr.f, if_neg (by omega)]
    obtain ⟨b, hb1, _⟩ := pick_some h (k + 8 * d + 14) p 4 h0 (by omega)
    rw [hb1]; simp only [ob_]
    by_cases hb0 : b = 0
    · subst hb0
      obtain ⟨x, q, hx, ho, q0, q1⟩ := leaf_some h (k + 8 * d + 13) ((d + 2 : Nat) : Int) (p + 1) (by omega) (by omega)
      exact ⟨x, q, hx, okX_le (by omega) ho, by omega, by omega⟩
    rw [show (b == 0) = false by simpa using hb0, spec_l3Expr.j0, if_neg (by decide)]
    obtain ⟨r, hr, hm⟩ := num_some h (k + 8 * d + 13) (p + 1) [3, 3, 4, 5, 6, 6, 7, 8, 9, 10] (by simp) (by omega) (by omega)
    rw [hr]; simp only [ob_]
    obtain ⟨t, ht, t1, t2⟩ := kids_some (k + 8 * d + 13) r
    rw [ht]; simp only [ob_]
    have ha : wrap64 (((d + 2 : Nat) : Int) - 1) = ((d + 1 : Nat) : Int) := by rw [wrap_id (by omega) (by omega)]; omega
    have hrr : r = 10 ∨ (3 ≤ r ∧ r ≤ 9) := by simp only [List.mem_cons, List.not_mem_nil, or_false] at hm; omega
    obtain ⟨x, q, hx, ho, q0, q1⟩ := expr_some h (d + 1) (by omega) (by omega) (k + 5) (p + 1 + 1) (by omega) (by omega)
    rw [show k + 5 + 8 * (d + 1) = k + 8 * d + 13 by omega] at hx
    rcases hrr with rfl | ⟨r3, r9⟩
    · obtain rfl : t = 1 := t1 rfl
      rw [show k + 8 * d + 14 = (k + 8 * d + 13) + 1 by omega, kids_step _ (d + 1) _ _ _ 1 [] ha (by omega) (by omega) (by simp) hx, show k + 8 * d + 13 = (k + 8 * d + 12) + 1 by omega]
      refine ⟨⟨10, 0, ⟨0, 0⟩, [] ++ [x]⟩, q, kids_end _ _ _ _ _, .inr ⟨.inl ⟨rfl, rfl⟩, fun y hy => ?_⟩, by omega, by omega⟩
      obtain rfl : y = x := by simpa using hy
      exact ho
    · obtain rfl : t = 2 := t2 r3 r9
      obtain ⟨x2, q2, hx2, ho2, s0, s1⟩ := expr_some h (d + 1) (by omega) (by omega) (k + 4) q (by omega) (by omega)
      rw [show k + 4 + 8 * (d + 1) = k + 8 * d + 12 by omega] at hx2
      rw [show k + 8 * d + 14 = (k + 8 * d + 13) + 1 by omega, kids_step _ (d + 1) _ _ _ 2 [] ha (by omega) (by omega) (by simp) hx, show k + 8 * d + 13 = (k + 8 * d + 12) + 1 by omega, kids_step _ (d + 1) _ _ _ (2 - 1) _ ha (by omega) (by omega) (by simp) hx2, show k + 8 * d + 12 = (k + 8 * d + 11) + 1 by omega]
      refine ⟨⟨r, 0, ⟨0, 0⟩, [] ++ [x] ++ [x2]⟩, q2, kids_end _ _ _ _ _, .inr ⟨.inr ⟨⟨r3, r9⟩, rfl⟩, fun y hy => ?_⟩, by omega, by omega⟩
      have : y = x ∨ y = x2 := by simpa using hy
      rcases this with rfl | rfl
      · exact ho
      · exact ho2
def okS : Nat → S122 → Prop
  | 0, _ => False
  | d + 1, s => (s.f0 = 1 ∨ s.f0 = 2 ∨ s.f0 = 3) ∧ okX 3 s.f2 ∧ s.f3.length ≤ 3 ∧ s.f4.length ≤ 3 ∧ (∀ t ∈ s.f3, okS d t) ∧ ∀ t ∈ s.f4, okS d t
theorem okS_up : ∀ (d : Nat) (s : S122), okS d s → okS (d + 1) s
  | 0, _, h => h.elim
  | d + 1, s, ⟨h1, h2, h3, h4, h5, h6⟩ => ⟨h1, h2, h3, h4, fun t ht => okS_up d t (h5 t ht), fun t ht => okS_up d t (h6 t ht)⟩
theorem okS_le {d e : Nat} (h : d ≤ e) {s : S122} (hs : okS d s) : okS e s := by
  induction e with
  | zero => obtain rfl : d = 0 := by omega
            exact hs
  | succ e ih =>
    by_cases he : d = e + 1
    · subst he; exact hs
    · exact okS_up e s (ih (by omega))
theorem set_ok {x : S122} {d : Nat} (h0 : x.f0 = 1) (h2 : okX 3 x.f2) (h3 : x.f3 = []) (h4 : x.f4 = []) : okS (d + 1) x :=
  ⟨.inl h0, h2, by simp [h3], by simp [h4], by simp [h3], by simp [h4]⟩
theorem count_some {l : List Int} (h : Byt l) (p : Int) (hp : 0 ≤ p) (hp' : p ≤ 900000) :
    ∃ (s : S122) (q : Int), spec_l4Count.f l p = some (s.f0, s.f1.f0, s.f1.f1, s.f2.f0, s.f2.f1, s.f2.f2.f0, s.f2.f2.f1, s.f2.f3, s.f3, s.f4, q) ∧ okS 2 s ∧ p ≤ q ∧ q ≤ p + 50 := by
  unfold spec_l4Count.f
  obtain ⟨a, ha, _⟩ := pick_some h 999 p 3 hp (by omega)
  obtain ⟨n, hn, _⟩ := num_some h 999 (p + 1) [1, 3, 5, 9, 200] (by simp) (by omega) (by omega)
  obtain ⟨m, hm, _⟩ := num_some h 999 (p + 1 + 1) [1, 1, 2, 0] (by simp) (by omega) (by omega)
  obtain ⟨c, hc, _⟩ := pick_some h 999 (p + 1 + 1 + 1) 2 (by omega) (by omega)
  obtain ⟨t0, t1, ht⟩ := l2To_some h 999 (p + 1 + 1 + 1 + 1) (by omega) (by omega)
  obtain ⟨x, q, hx, ho, q0, q1⟩ := expr_some h 2 (by omega) (by omega) 984 (p + 1 + 1 + 1 + 1 + 2) (by omega) (by show _ + 12 + 10 ≤ _; omega)
  have q1' : q ≤ p + 1 + 1 + 1 + 1 + 2 + 12 := q1
  replace hx : spec_l3Expr.f 1000 l (p + 1 + 1 + 1 + 1 + 2) 2 = _ := hx
  rw [show (999 + 1 : Nat) = 1000 from rfl] at ha hn hm hc ht
  have k1 : ∀ u : Int, okX 3 ⟨6, 0, ⟨0, 0⟩, [(⟨2, 0, ⟨3, a⟩, []⟩ : S120), ⟨1, u, ⟨0, 0⟩, []⟩]⟩ := fun u => .inr ⟨.inr ⟨(show (3 : Int) ≤ 6 ∧ (6 : Int) ≤ 9 by decide), rfl⟩, fun y hy => by
    have : y = ⟨2, 0, ⟨3, a⟩, []⟩ ∨ y = ⟨1, u, ⟨0, 0⟩, []⟩ := by simpa using hy
    rcases this with rfl | rfl
    · exact .inl ⟨.inr rfl, rfl⟩
    · exact .inl ⟨.inl rfl, rfl⟩⟩
  have k2 : ∀ u : Int, okX 3 ⟨3, 0, ⟨0, 0⟩, [(⟨2, 0, ⟨3, a⟩, []⟩ : S120), ⟨1, u, ⟨0, 0⟩, []⟩]⟩ := fun u => .inr ⟨.inr ⟨(show (3 : Int) ≤ 3 ∧ (3 : Int) ≤ 9 by decide), rfl⟩, fun y hy => by
    have : y = ⟨2, 0, ⟨3, a⟩, []⟩ ∨ y = ⟨1, u, ⟨0, 0⟩, []⟩ := by simpa using hy
    rcases this with rfl | rfl
    · exact .inl ⟨.inr rfl, rfl⟩
    · exact .inl ⟨.inl rfl, rfl⟩⟩
  have s1 : okS 1 ⟨1, ⟨3, a⟩, ⟨3, 0, ⟨0, 0⟩, [(⟨2, 0, ⟨3, a⟩, []⟩ : S120), ⟨1, m, ⟨0, 0⟩, []⟩]⟩, [], []⟩ := set_ok rfl (k2 m) rfl rfl
  rw [ha]; simp only [ob_]
  rw [hn]; simp only [ob_]
  rw [hm]; simp only [ob_]
  rw [hc]; simp only [ob_]
  by_cases hc0 : c = 0
  · rw [if_pos hc0, ht]; simp only [ob_]
    rw [hx]; simp only [ob_, eta120]
    refine ⟨⟨3, ⟨0, 0⟩, ⟨6, 0, ⟨0, 0⟩, [(⟨2, 0, ⟨3, a⟩, []⟩ : S120), ⟨1, n, ⟨0, 0⟩, []⟩]⟩, [⟨1, ⟨3, a⟩, ⟨3, 0, ⟨0, 0⟩, [(⟨2, 0, ⟨3, a⟩, []⟩ : S120), ⟨1, m, ⟨0, 0⟩, []⟩]⟩, [], []⟩, ⟨1, ⟨t0, t1⟩, x, [], []⟩], []⟩, q, rfl, ⟨.inr (.inr rfl), k1 n, by simp, by simp, fun t ht => ?_, fun t ht => by simp at ht⟩, by omega, by omega⟩
    have : t = ⟨1, ⟨3, a⟩, ⟨3, 0, ⟨0, 0⟩, [(⟨2, 0, ⟨3, a⟩, []⟩ : S120), ⟨1, m, ⟨0, 0⟩, []⟩]⟩, [], []⟩ ∨ t = ⟨1, ⟨t0, t1⟩, x, [], []⟩ := by simpa using ht
    rcases this with rfl | rfl
    · exact s1
    · exact set_ok rfl (okX_le (by omega) ho) rfl rfl
  · rw [if_neg hc0]
    refine ⟨⟨3, ⟨0, 0⟩, ⟨6, 0, ⟨0, 0⟩, [(⟨2, 0, ⟨3, a⟩, []⟩ : S120), ⟨1, n, ⟨0, 0⟩, []⟩]⟩, [⟨1, ⟨3, a⟩, ⟨3, 0, ⟨0, 0⟩, [(⟨2, 0, ⟨3, a⟩, []⟩ : S120), ⟨1, m, ⟨0, 0⟩, []⟩]⟩, [], []⟩], []⟩, _, rfl, ⟨.inr (.inr rfl), k1 n, by simp, by simp, fun t ht => ?_, fun t ht => by simp at ht⟩, by omega, by omega⟩
    obtain rfl : t = ⟨1, ⟨3, a⟩, ⟨3, 0, ⟨0, 0⟩, [(⟨2, 0, ⟨3, a⟩, []⟩ : S120), ⟨1, m, ⟨0, 0⟩, []⟩]⟩, [], []⟩ := by simpa using ht
    exact s1
theorem eta122 (s : S122) : (⟨s.f0, ⟨s.f1.f0, s.f1.f1⟩, ⟨s.f2.f0, s.f2.f1, ⟨s.f2.f2.f0, s.f2.f2.f1⟩, s.f2.f3⟩, s.f3, s.f4⟩ : S122) = s := by
  cases s with
  | mk a b c d e => cases c; rfl
def LP (l : List Int) (a : Int) (d c : Nat) (C : Int) : Prop := ∀ (k : Nat) (p : Int), 0 ≤ p → p + C ≤ 400000 → ∃ xs q, spec_l4List.f (k + c) l p a = some (xs, q) ∧ xs.length ≤ 3 ∧ (∀ s ∈ xs, okS d s) ∧ p ≤ q ∧ q ≤ p + C
theorem LP.up {l : List Int} {a : Int} {d c d' c' : Nat} {C C' : Int} (h : LP l a d c C) (hd : d ≤ d') (hc : c ≤ c') (hC : C ≤ C') : LP l a d' c' C' := fun k p h0 h1 => by
  obtain ⟨xs, q, e, hl, ho, q0, q1⟩ := h (k + (c' - c)) p h0 (by omega)
  rw [show k + (c' - c) + c = k + c' by omega] at e
  exact ⟨xs, q, e, hl, fun s hs => okS_le hd (ho s hs), q0, by omega⟩
theorem list_le0 {l : List Int} (h : Byt l) {a : Int} (ha : a ≤ 0) : LP l a 0 4 1 := fun k p h0 h1 => by
  obtain ⟨b, hb, _⟩ := pick_some h (k + 2) p 4 h0 (by omega)
  rw [show k + 4 = (k + 3) + 1 from rfl, spec_l4List.f, hb]; simp only [ob_]
  rw [show k + 3 = (k + 2) + 1 from rfl, spec_l4List.l0, show decide (a > 0) = false from decide_eq_false (by omega)]
  refine ⟨[], p + 1, ?_, by simp, fun s hs => by simp at hs, by omega, by omega⟩
  split
  · rw [show k + 2 = (k + 1) + 1 from rfl, spec_l4List.j1, if_neg (by decide)]
  · rw [show k + 2 = (k + 1) + 1 from rfl, spec_l4List.j1, if_neg (by decide)]
theorem list_iter {l : List Int} (h : Byt l) (d c : Nat) (a C : Int) (a1 : 1 ≤ a) (a3 : a ≤ 3) (hd : 1 < a → 1 ≤ d) (hC : 1 ≤ C) (H1 : LP l (a - 1) d c C) (H2 : LP l (a - 2) d c C)
    (k : Nat) (acc : List S122) (n p : Int) (hn : 0 < n) (hn3 : n ≤ 3) (hacc : acc.length ≤ 3) (h0 : 0 ≤ p) (h1 : p + 2 * C + 100 ≤ 400000) :
    ∃ acc' q, spec_l4List.l0 (k + c + 40) a acc n l p = spec_l4List.l0 (k + c + 37) a acc' (n - 1) l q ∧ (acc' = acc ∨ ∃ s, acc' = acc ++ [s] ∧ okS (d + 1) s) ∧ p ≤ q ∧ q ≤ p + 2 * C + 100 := by
  have w1 : wrap64 (a - 1) = a - 1 := wrap_id (by omega) (by omega)
  have w2 : wrap64 (a - 2) = a - 2 := wrap_id (by omega) (by omega)
  have wn : wrap64 (n - 1) = n - 1 := wrap_id (by omega) (by omega)
  obtain ⟨b, hb, b0, b1⟩ := pick_some h (k + c + 37) p 7 h0 (by omega)
  rw [show k + c + 40 = (k + c + 39) + 1 from rfl, spec_l4List.l0, if_pos hn, show decide (a > 0) = true from decide_eq_true (by omega), show k + c + 39 = (k + c + 38) + 1 from rfl, spec_l4List.j1, if_pos rfl, hb]
  simp only [ob_]
  have E : ∀ (e : Nat) (r : Int), 1 ≤ e → e ≤ 3 → 0 ≤ r → r ≤ 400000 → ∃ (x : S120) (q : Int), spec_l3Expr.f (k + c + 37) l r (e : Int) = some (x.f0, x.f1, x.f2.f0, x.f2.f1, x.f3, q) ∧ okX 3 x ∧ r ≤ q ∧ q ≤ r + 28 := by
    intro e r e1 e3 r0 r1
    have he : eb e ≤ 28 := by rcases (by omega : e = 1 ∨ e = 2 ∨ e = 3) with rfl | rfl | rfl <;> decide
    obtain ⟨x, q, hx, ho, q0, q1⟩ := expr_some h e e1 e3 (k + c + 37 - 8 * e) r r0 (by omega)
    rw [show k + c + 37 - 8 * e + 8 * e = k + c + 37 by omega] at hx
    exact ⟨x, q, hx, okX_le e3 ho, q0, by omega⟩
  have app : ∀ (s : S122) (q : Int), okS (d + 1) s → p ≤ q → q ≤ p + 2 * C + 100 → ∃ acc' q', (if acc.length < 1099511627776 then spec_l4List.l0 (k + c + 37) a (acc ++ [s]) (wrap64 (n - 1)) l q else none) = spec_l4List.l0 (k + c + 37) a acc' (n - 1) l q' ∧ (acc' = acc ∨ ∃ s, acc' = acc ++ [s] ∧ okS (d + 1) s) ∧ p ≤ q' ∧ q' ≤ p + 2 * C + 100 := by
    intro s q hs q0 q1
    rw [if_pos (by omega), wn]
    exact ⟨_, q, rfl, .inr ⟨s, rfl, hs⟩, q0, q1⟩
  have J : ∀ x28 : Bool, (x28 = true → ∃ acc' q, spec_l4List.j2 (k + c + 38) a acc n b x28 l (p + 1) = spec_l4List.l0 (k + c + 37) a acc' (n - 1) l q ∧ (acc' = acc ∨ ∃ s, acc' = acc ++ [s] ∧ okS (d + 1) s) ∧ p ≤ q ∧ q ≤ p + 2 * C + 100) := by
    rintro _ rfl
    rw [show k + c + 38 = (k + c + 37) + 1 from rfl, spec_l4List.j2, if_pos rfl]
    obtain ⟨x, q, hx, ho, q0, q1⟩ := E 3 (p + 1) (by omega) (by omega) (by omega) (by omega)
    replace hx : spec_l3Expr.f (k + c + 37) l (p + 1) 3 = _ := hx
    obtain ⟨ys, r, hy, yl, yo, r0, r1⟩ := H1 (k + 37) q (by omega) (by omega)
    obtain ⟨zs, t, hz, zl, zo, t0, t1⟩ := H2 (k + 37) r (by omega) (by omega)
    rw [show k + 37 + c = k + c + 37 by omega] at hy hz
    rw [hx]; simp only [ob_]
    rw [w1, hy]; simp only [ob_]
    rw [w2, hz]; simp only [ob_, eta120]
    exact app ⟨2, ⟨0, 0⟩, x, ys, zs⟩ t ⟨.inr (.inl rfl), ho, yl, zl, yo, zo⟩ (by omega) (by omega)
  by_cases hb0 : b = 0
  · rw [if_pos hb0]; exact J _ (by simpa using hb0)
  rw [if_neg hb0]
  by_cases hb1 : b = 1
  · exact J _ (by simpa using hb1)
  rw [show (b == 1) = false by simpa using hb1, show k + c + 38 = (k + c + 37) + 1 from rfl, spec_l4List.j2, if_neg (by decide)]
  by_cases hb2 : b = 2
  · rw [if_pos hb2]
    by_cases ha : a > 1
    · rw [if_pos ha]
      obtain ⟨s, q, hs, ho, q0, q1⟩ := count_some h (p + 1) (by omega) (by omega)
      rw [hs]; simp only [ob_, eta122]
      exact app s q (okS_le (by have := hd ha; omega) ho) (by omega) (by omega)
    · rw [if_neg ha, wn]
      exact ⟨acc, p + 1, rfl, .inl rfl, by omega, by omega⟩
  rw [if_neg hb2]
  by_cases hb3 : b = 3
  · rw [if_pos hb3]
    obtain ⟨e, he, _⟩ := pick_some h (k + c + 36) (p + 1) 3 (by omega) (by omega)
    rw [he]; simp only [ob_]
    by_cases he0 : e = 0
    · rw [if_pos he0]
      obtain ⟨x, q, hx, ho, q0, q1⟩ := E 2 (p + 1 + 1) (by omega) (by omega) (by omega) (by omega)
      replace hx : spec_l3Expr.f (k + c + 37) l (p + 1 + 1) 2 = _ := hx
      obtain ⟨ys, r, hy, yl, yo, r0, r1⟩ := H1 (k + 37) q (by omega) (by omega)
      rw [show k + 37 + c = k + c + 37 by omega] at hy
      rw [hx]; simp only [ob_]
      rw [w1, hy]; simp only [ob_, eta120]
      exact app ⟨3, ⟨0, 0⟩, x, ys, []⟩ r ⟨.inr (.inr rfl), ho, yl, by simp, yo, fun t ht => by simp at ht⟩ (by omega) (by omega)
    · rw [if_neg he0, wn]
      exact ⟨acc, _, rfl, .inl rfl, by omega, by omega⟩
  rw [if_neg hb3]
  obtain ⟨u, v, hu⟩ := l2To_some h (k + c + 36) (p + 1) (by omega) (by omega)
  rw [hu]; simp only [ob_]
  obtain ⟨x, q, hx, ho, q0, q1⟩ := E 3 (p + 1 + 2) (by omega) (by omega) (by omega) (by omega)
  replace hx : spec_l3Expr.f (k + c + 37) l (p + 1 + 2) 3 = _ := hx
  rw [hx]; simp only [ob_, eta120]
  exact app ⟨1, ⟨u, v⟩, x, [], []⟩ q (set_ok rfl ho rfl rfl) (by omega) (by omega)
theorem list_loop {l : List Int} (h : Byt l) (d c : Nat) (a C : Int) (a1 : 1 ≤ a) (a3 : a ≤ 3) (hd : 1 < a → 1 ≤ d) (hC : 1 ≤ C) (H1 : LP l (a - 1) d c C) (H2 : LP l (a - 2) d c C) :
    ∀ (n k : Nat) (acc : List S122) (p : Int), n + acc.length ≤ 3 → 0 ≤ p → p + (n : Int) * (2 * C + 100) ≤ 400000 →
      ∃ ys q, spec_l4List.l0 (k + c + 37 + 3 * n) a acc (n : Int) l p = some (acc ++ ys, q) ∧ ys.length ≤ n ∧ (∀ s ∈ ys, okS (d + 1) s) ∧ p ≤ q ∧ q ≤ p + (n : Int) * (2 * C + 100)
  | 0, k, acc, p, _, h0, _ => by
    refine ⟨[], p, ?_, by simp, fun s hs => by simp at hs, by omega, by simp⟩
    rw [show k + c + 37 + 3 * 0 = (k + c + 36) + 1 from rfl, spec_l4List.l0, if_neg (by decide), show k + c + 36 = (k + c + 35) + 1 from rfl, spec_l4List.j1, if_neg (by decide), List.append_nil]
  | n + 1, k, acc, p, hl, h0, h1 => by
    have em : ((n + 1 : Nat) : Int) * (2 * C + 100) = (n : Int) * (2 * C + 100) + (2 * C + 100) := by rw [Int.natCast_add, Int.add_mul]; simp
    have hnn : 0 ≤ (n : Int) * (2 * C + 100) := Int.mul_nonneg (by omega) (by omega)
    obtain ⟨acc', q, e, ha, q0, q1⟩ := list_iter h d c a C a1 a3 hd hC H1 H2 (k + 3 * n) acc ((n + 1 : Nat) : Int) p (by omega) (by omega) (by omega) h0 (by omega)
    rw [show k + c + 37 + 3 * (n + 1) = k + 3 * n + c + 40 by omega, e, show ((n + 1 : Nat) : Int) - 1 = (n : Int) by omega, show k + 3 * n + c + 37 = k + c + 37 + 3 * n by omega]
    have hl' : n + acc'.length ≤ 3 := by
      rcases ha with rfl | ⟨s, rfl, _⟩
      · omega
      · simp; omega
    obtain ⟨ys, q', e', yl, yo, r0, r1⟩ := list_loop h d c a C a1 a3 hd hC H1 H2 n k acc' q hl' (by omega) (by omega)
    rw [e']
    rcases ha with rfl | ⟨s, rfl, hs⟩
    · exact ⟨ys, q', rfl, by omega, yo, by omega, by omega⟩
    · refine ⟨[s] ++ ys, q', by rw [List.append_assoc], by simp; omega, fun t ht => ?_, by omega, by omega⟩
      rcases List.mem_append.1 ht with ht | ht
      · rw [List.mem_singleton.1 ht]; exact hs
      · exact yo t ht
theorem list_of {k : Nat} {l : List Int} {p a n p' : Int} {r : Option (List S122 × Int)} (hb : spec_l12Rd_pick.f k l p 4 = some (n, p')) (e : spec_l4List.l0 k a [] n l p' = r) : spec_l4List.f (k + 1) l p a = r := by
  rw [spec_l4List.f, hb, ← e]; rfl
theorem list_step {l : List Int} (h : Byt l) (d c : Nat) (a C : Int) (a1 : 1 ≤ a) (a3 : a ≤ 3) (hd : 1 < a → 1 ≤ d) (hC : 1 ≤ C) (H1 : LP l (a - 1) d c C) (H2 : LP l (a - 2) d c C) : LP l a (d + 1) (c + 50) (6 * C + 310) := fun k p h0 h1 => by
  obtain ⟨b, hb, b0, b1⟩ := pick_some h (k + c + 48) p 4 h0 (by omega)
  obtain ⟨n, rfl⟩ : ∃ n : Nat, b = (n : Int) := ⟨b.toNat, by omega⟩
  have hn : n ≤ 3 := by omega
  have hb2 : (n : Int) * (2 * C + 100) ≤ 3 * (2 * C + 100) := Int.mul_le_mul_of_nonneg_right (by omega) (by omega)
  obtain ⟨ys, q, e, yl, yo, q0, q1⟩ := list_loop h d c a C a1 a3 hd hC H1 H2 n (k + 12 - 3 * n) [] (p + 1) (by rw [List.length_nil]; exact hn) (by omega) (by omega)
  have ek : k + 12 - 3 * n + c + 37 + 3 * n = k + c + 48 + 1 := by omega
  rw [ek] at e
  have ek2 : k + (c + 50) = k + c + 48 + 1 + 1 := by omega
  rw [ek2]
  exact ⟨[] ++ ys, q, list_of hb e, by rw [List.nil_append]; omega, by rw [List.nil_append]; exact yo, by omega, by omega⟩
theorem list3 {l : List Int} (h : Byt l) : LP l 3 3 154 14166 := by
  have z : ∀ a : Int, a ≤ 0 → LP l a 0 4 1 := fun a ha => list_le0 h ha
  have l1 : LP l 1 1 54 316 := list_step h 0 4 1 1 (by omega) (by omega) (by omega) (by omega) (z _ (by omega)) (z _ (by omega))
  have l2 : LP l 2 2 104 2206 := list_step h 1 54 2 316 (by omega) (by omega) (by omega) (by omega) l1 ((z 0 (by omega)).up (by omega) (by omega) (by omega))
  exact (list_step h 2 104 3 2206 (by omega) (by omega) (by omega) (by omega) l2 (l1.up (by omega) (by omega) (by omega))).up (by omega) (by omega) (by omega)
end Go.Proofs.YtjamfddhcigchaaGreatDoor.Hx
namespace Go.Proofs.YtjamfddhcigchaaGreatDoor.Hy
open Go.RowKit Go.Proofs.YtjamfddhcigchaaGreatDoor.HFnCodeBent Go.Proofs.YtjamfddhcigchaaGreatDoor.Hx Go.Proofs.YtjamfddhcigchaaGreatDoorW.PrintWords Go.Proofs.YtjamfddhcigchaaGreatDoorW.PrintLast Go.Proofs.YtjamfddhcigchaaGreatDoorW.PrintMore
set_option linter.unusedVariables false
set_option linter.unusedSimpArgs false
theorem rd120 (l : List S120) (i : Nat) (h : i < l.length) : rd_T120 l (i : Int) ∈ l := by
  unfold rd_T120
  rw [Int.toNat_natCast, List.getD_eq_getElem?_getD, List.getElem?_eq_getElem h]; exact List.getElem_mem h
theorem rd122 (l : List S122) (i : Nat) (h : i < l.length) : rd_T122 l (i : Int) ∈ l := by
  unfold rd_T122
  rw [Int.toNat_natCast, List.getD_eq_getElem?_getD, List.getElem?_eq_getElem h]; exact List.getElem_mem h
theorem okX_len {d : Nat} {x : S120} (h : okX d x) : x.f3.length ≤ 2 ∧ ∀ y ∈ x.f3, okX (d - 1) y := by
  cases d with
  | zero => exact h.elim
  | succ d =>
    rcases h with ⟨_, h⟩ | ⟨h, h2⟩
    · rw [h]; exact ⟨by simp, fun y hy => by simp at hy⟩
    · exact ⟨by rcases h with ⟨_, h⟩ | ⟨_, h⟩ <;> omega, h2⟩
theorem many_end {k : Nat} {a acc i a0 a1 a2 a3 : Int} {l : List S120} (h : ¬ i < (l.length : Int)) : spec_l3Many.l0 (k + 1) a acc i a0 a1 a2 a3 l = some acc := by
  rw [spec_l3Many.l0, if_neg h]
theorem many_neg {k : Nat} {a acc i a0 a1 a2 a3 : Int} {l : List S120} (h : i < (l.length : Int)) (ha : ¬ a > 0) : spec_l3Many.l0 (k + 1) a acc i a0 a1 a2 a3 l = some acc := by
  rw [spec_l3Many.l0, if_pos h, if_neg ha]
theorem many_step {k : Nat} {a acc i a0 a1 a2 a3 t : Int} {l : List S120} (h : i < (l.length : Int)) (h0 : 0 ≤ i) (ha : a > 0) (e : spec_l3Many.f k (rd_T120 l i).f0 (rd_T120 l i).f1 (rd_T120 l i).f2.f0 (rd_T120 l i).f2.f1 (rd_T120 l i).f3 (wrap64 (a - 1)) = some t) : spec_l3Many.l0 (k + 1) a acc i a0 a1 a2 a3 l = spec_l3Many.l0 k a (wrap64 (acc + t)) (wrap64 (i + 1)) a0 a1 a2 a3 l := by
  rw [spec_l3Many.l0, if_pos h, if_pos ha, if_pos h0, e]; rfl
theorem many_of {k : Nat} {a0 a1 a2 a3 a i : Int} {l : List S120} {r : Option Int} (hi : i = 0) (e : spec_l3Many.l0 k a 1 i a0 a1 a2 a3 l = r) : spec_l3Many.f (k + 1) a0 a1 a2 a3 l a = r := by
  subst hi; rw [spec_l3Many.f]; exact e
theorem many3 : ∀ (d : Nat) (x : S120), okX d x → ∀ (k : Nat) (a : Int), ∃ r, spec_l3Many.f (k + 5 * d + 5) x.f0 x.f1 x.f2.f0 x.f2.f1 x.f3 a = some r
  | 0, _, h, _, _ => h.elim
  | d + 1, x, h, k, a => by
    obtain ⟨hl, hk⟩ := okX_len h
    have L : ∀ (n k i : Nat) (acc : Int), n + i = x.f3.length → ∃ r, spec_l3Many.l0 (k + 5 * d + 5 + n + 1) a acc (i : Int) x.f0 x.f1 x.f2.f0 x.f2.f1 x.f3 = some r := by
      intro n
      induction n with
      | zero =>
        intro k i acc hi
        exact ⟨_, many_end (by omega)⟩
      | succ n ih =>
        intro k i acc hi
        by_cases ha : a > 0
        · obtain ⟨r, hr⟩ := many3 d _ (hk _ (rd120 x.f3 i (by omega))) (k + n + 1) (wrap64 (a - 1))
          rw [show k + n + 1 + 5 * d + 5 = k + 5 * d + 5 + n + 1 by omega] at hr
          rw [show k + 5 * d + 5 + (n + 1) + 1 = (k + 5 * d + 5 + n + 1) + 1 by omega, many_step (by omega) (by omega) ha hr]
          rw [show wrap64 ((i : Int) + 1) = ((i + 1 : Nat) : Int) by rw [wrap_id (by omega) (by omega)]; omega]
          exact ih k (i + 1) _ (by omega)
        · exact ⟨_, many_neg (by omega) ha⟩
    obtain ⟨r, hr⟩ := L x.f3.length (k + 5 - x.f3.length - 2 + 0) 0 1 (by omega)
    refine ⟨r, ?_⟩
    have ek : k + 5 * (d + 1) + 5 = (k + 5 - x.f3.length - 2 + 0 + 5 * d + 5 + x.f3.length + 1) + 1 := by omega
    rw [ek]
    exact many_of rfl hr
theorem addrOk_some (a b : Int) : ∃ r, spec_AddrOk.f a b = some r := by
  unfold spec_AddrOk.f; repeat' split
  all_goals exact ⟨_, rfl⟩
theorem cut_some (a : Int) : ∃ r, spec_NumCut.f a = some r := by
  unfold spec_NumCut.f spec_l1Min.f
  by_cases h : 1000000 < a
  · rw [if_pos h]; simp only [ob_]; unfold spec_l1Max.f; split <;> exact ⟨_, rfl⟩
  · rw [if_neg h]; simp only [ob_]; unfold spec_l1Max.f; split <;> exact ⟨_, rfl⟩
theorem form3 : ∀ (d : Nat) (x : S120), okX d x → ∀ (k : Nat) (a : Int), ∃ r, spec_l3Form.f (k + 9 * d + 9) x.f0 x.f1 x.f2.f0 x.f2.f1 x.f3 a = some r
  | 0, _, h, _, _ => h.elim
  | d + 1, x, h, k, a => by
    obtain ⟨hl, hk⟩ := okX_len h
    have L : ∀ (n k i : Nat), n + i = x.f3.length → ∃ r, spec_l3Form.l0 (k + 9 * d + 9 + n + 1) a (i : Int) x.f0 x.f1 x.f2.f0 x.f2.f1 x.f3 = some r := by
      intro n
      induction n with
      | zero =>
        intro k i hi
        rw [show k + 9 * d + 9 + 0 + 1 = (k + 9 * d + 9) + 1 from rfl, spec_l3Form.l0, if_neg (by omega)]
        exact ⟨_, rfl⟩
      | succ n ih =>
        intro k i hi
        rw [show k + 9 * d + 9 + (n + 1) + 1 = (k + 9 * d + 9 + n + 1) + 1 from rfl, spec_l3Form.l0, if_pos (by omega), if_pos (by omega)]
        obtain ⟨r, hr⟩ := form3 d _ (hk _ (rd120 x.f3 i (by omega))) (k + n + 1) (wrap64 (a - 1))
        rw [show k + n + 1 + 9 * d + 9 = k + 9 * d + 9 + n + 1 by omega] at hr
        rw [hr]; simp only [ob_]
        rw [show wrap64 ((i : Int) + 1) = ((i + 1 : Nat) : Int) by rw [wrap_id (by omega) (by omega)]; omega]
        cases r with
        | true => rw [if_pos rfl]; exact ih k (i + 1) (by omega)
        | false => exact ⟨_, rfl⟩
    have J2 : ∀ (m : Nat) (b : Bool), (∃ r, spec_l3Form.l0 m a 0 x.f0 x.f1 x.f2.f0 x.f2.f1 x.f3 = some r) → ∃ r, spec_l3Form.j2 (m + 1) a b x.f0 x.f1 x.f2.f0 x.f2.f1 x.f3 = some r := by
      intro m b hL
      rw [spec_l3Form.j2]; split
      · exact ⟨_, rfl⟩
      · exact hL
    have J1 : ∀ (m : Nat) (b : Bool), (∃ r, spec_l3Form.l0 m a 0 x.f0 x.f1 x.f2.f0 x.f2.f1 x.f3 = some r) → ∃ r, spec_l3Form.j1 (m + 1 + 1) a b x.f0 x.f1 x.f2.f0 x.f2.f1 x.f3 = some r := by
      intro m b hL
      rw [spec_l3Form.j1]; split
      · exact ⟨_, rfl⟩
      · split
        · obtain ⟨t, ht⟩ := addrOk_some x.f2.f0 x.f2.f1
          rw [ht]; simp only [ob_]
          split <;> exact J2 m _ hL
        · exact J2 m _ hL
    have J0 : ∀ (m : Nat) (b : Bool), (∃ r, spec_l3Form.l0 m a 0 x.f0 x.f1 x.f2.f0 x.f2.f1 x.f3 = some r) → ∃ r, spec_l3Form.j0 (m + 1 + 1 + 1) a b x.f0 x.f1 x.f2.f0 x.f2.f1 x.f3 = some r := by
      intro m b hL
      rw [spec_l3Form.j0]; split
      · exact ⟨_, rfl⟩
      · split
        · obtain ⟨t, ht⟩ := cut_some x.f1
          rw [ht]; simp only [ob_]
          split <;> exact J1 m _ hL
        · exact J1 m _ hL
    have hL := L x.f3.length (k + 9 - x.f3.length - 5) 0 (by omega)
    have ek : k + 9 * (d + 1) + 9 = (k + 9 - x.f3.length - 5 + 9 * d + 9 + x.f3.length + 1) + 1 + 1 + 1 + 1 := by omega
    rw [ek, spec_l3Form.f]
    split
    · exact J0 _ _ hL
    · obtain ⟨t, ht, _⟩ := kids_some (k + 9 - x.f3.length - 5 + 9 * d + 9 + x.f3.length + 1 + 1 + 1) x.f0
      rw [ht]; simp only [ob_]
      exact J0 _ _ hL
theorem exprOk_some (x : S120) (h : okX 3 x) (k : Nat) : ∃ r, spec_ExprOk.f (k + 36) x.f0 x.f1 x.f2.f0 x.f2.f1 x.f3 = some r := by
  unfold spec_ExprOk.f
  obtain ⟨r, hr⟩ := form3 3 x h k 6
  obtain ⟨t, ht⟩ := many3 3 x h (k + 16) 6
  rw [show k + 9 * 3 + 9 = k + 36 from rfl] at hr
  rw [show k + 16 + 5 * 3 + 5 = k + 36 from rfl] at ht
  rw [hr]; simp only [ob_]
  split
  · rw [ht]; exact ⟨_, rfl⟩
  · exact ⟨_, rfl⟩
theorem okS_len {d : Nat} {s : S122} (h : okS d s) : okX 3 s.f2 ∧ s.f3.length ≤ 3 ∧ s.f4.length ≤ 3 ∧ (∀ t ∈ s.f3, okS (d - 1) t) ∧ ∀ t ∈ s.f4, okS (d - 1) t := by
  cases d with
  | zero => exact h.elim
  | succ d => exact ⟨h.2.1, h.2.2.1, h.2.2.2.1, h.2.2.2.2.1, h.2.2.2.2.2⟩
theorem m4_end {k : Nat} {xs : List S122} {a acc i : Int} (h : ¬ i < (xs.length : Int)) : spec_l4Many.l0 (k + 1 + 1) xs a acc i = some acc := by
  rw [spec_l4Many.l0, if_neg h, spec_l4Many.j1, if_neg (by decide)]
theorem m4_neg {k : Nat} {xs : List S122} {a acc i : Int} (ha : ¬ a > 0) : spec_l4Many.l0 (k + 1 + 1) xs a acc i = some acc := by
  rw [spec_l4Many.l0, decide_eq_false ha]
  split
  · rw [spec_l4Many.j1, if_neg (by decide)]
  · rw [spec_l4Many.j1, if_neg (by decide)]
theorem m4_step {k : Nat} {xs : List S122} {a acc i t u : Int} (h : i < (xs.length : Int)) (h0 : 0 ≤ i) (ha : a > 0) (e : spec_l4Many.f k (rd_T122 xs i).f3 (wrap64 (a - 1)) = some t) (e2 : spec_l4Many.f k (rd_T122 xs i).f4 (wrap64 (a - 1)) = some u) : spec_l4Many.l0 (k + 1 + 1) xs a acc i = spec_l4Many.l0 k xs a (wrap64 ((wrap64 (acc + t)) + u)) (wrap64 (i + 1)) := by
  rw [spec_l4Many.l0, if_pos h, decide_eq_true ha, spec_l4Many.j1, if_pos rfl, if_pos h0, if_pos h, e]
  simp only [ob_]
  rw [e2]; rfl
theorem m4_of {k : Nat} {xs : List S122} {a n i : Int} {r : Option Int} (hi : i = 0) (hn : n = (xs.length : Int)) (e : spec_l4Many.l0 k xs a n i = r) : spec_l4Many.f (k + 1) xs a = r := by
  subst hi; subst hn; rw [spec_l4Many.f]; exact e
theorem many4 : ∀ (d : Nat) (xs : List S122), xs.length ≤ 3 → (∀ s ∈ xs, okS d s) → ∀ (k : Nat) (a : Int), ∃ r, spec_l4Many.f (k + 10 * d + 10) xs a = some r
  | 0, xs, hl, ho, k, a => by
    cases xs with
    | nil =>
      refine ⟨((([] : List S122).length : Nat) : Int), ?_⟩
      rw [show k + 10 * 0 + 10 = (k + 7 + 1 + 1) + 1 by omega]
      exact m4_of (i := ((0 : Nat) : Int)) rfl rfl (m4_end (by simp))
    | cons s t => exact (ho s (List.mem_cons_self ..)).elim
  | d + 1, xs, hl, ho, k, a => by
    have L : ∀ (n k i : Nat) (acc : Int), n + i = xs.length → ∃ r, spec_l4Many.l0 (k + 10 * d + 10 + 2 * n + 2) xs a acc (i : Int) = some r := by
      intro n
      induction n with
      | zero =>
        intro k i acc hi
        rw [show k + 10 * d + 10 + 2 * 0 + 2 = (k + 10 * d + 10) + 1 + 1 by omega]
        exact ⟨_, m4_end (by omega)⟩
      | succ n ih =>
        intro k i acc hi
        by_cases ha : a > 0
        · obtain ⟨_, l3, l4, o3, o4⟩ := okS_len (ho _ (rd122 xs i (by omega)))
          obtain ⟨t, ht⟩ := many4 d _ l3 o3 (k + 2 * n + 2) (wrap64 (a - 1))
          obtain ⟨u, hu⟩ := many4 d _ l4 o4 (k + 2 * n + 2) (wrap64 (a - 1))
          have ek : k + 2 * n + 2 + 10 * d + 10 = k + 10 * d + 10 + 2 * n + 2 := by omega
          rw [ek] at ht hu
          have ek2 : k + 10 * d + 10 + 2 * (n + 1) + 2 = (k + 10 * d + 10 + 2 * n + 2) + 1 + 1 := by omega
          rw [ek2, m4_step (by omega) (by omega) ha ht hu, show wrap64 ((i : Int) + 1) = ((i + 1 : Nat) : Int) by rw [wrap_id (by omega) (by omega)]; omega]
          exact ih k (i + 1) _ (by omega)
        · have ek2 : k + 10 * d + 10 + 2 * (n + 1) + 2 = (k + 10 * d + 10 + 2 * n + 2) + 1 + 1 := by omega
          rw [ek2]
          exact ⟨_, m4_neg ha⟩
    obtain ⟨r, hr⟩ := L xs.length (k + 7 - 2 * xs.length) 0 (xs.length : Int) (by omega)
    refine ⟨r, ?_⟩
    have ek : k + 10 * (d + 1) + 10 = (k + 7 - 2 * xs.length + 10 * d + 10 + 2 * xs.length + 2) + 1 := by omega
    rw [ek]
    exact m4_of rfl rfl hr
theorem f4_end {k : Nat} {xs : List S122} {a i : Int} (h : ¬ i < (xs.length : Int)) : spec_l4Form.l0 (k + 1) xs a i = some true := by
  rw [spec_l4Form.l0, if_neg h]
theorem f4_j2 {k : Nat} {xs : List S122} {a i : Int} {b : Bool} {s : S122} (he : ∃ r, spec_ExprOk.f k s.f2.f0 s.f2.f1 s.f2.f2.f0 s.f2.f2.f1 s.f2.f3 = some r) (h3 : ∃ r, spec_l4Form.f k s.f3 (wrap64 (a - 1)) = some r) (h4 : ∃ r, spec_l4Form.f k s.f4 (wrap64 (a - 1)) = some r) (hn : ∃ r, spec_l4Form.l0 k xs a (wrap64 (i + 1)) = some r) :
    ∃ r, spec_l4Form.j2 (k + 1) xs a i b s.f0 s.f1.f0 s.f1.f1 s.f2.f0 s.f2.f1 s.f2.f2.f0 s.f2.f2.f1 s.f2.f3 s.f3 s.f4 = some r := by
  obtain ⟨e, he⟩ := he
  obtain ⟨t, h3⟩ := h3
  obtain ⟨u, h4⟩ := h4
  rw [spec_l4Form.j2]; split
  · rw [he]; simp only [ob_]; split
    · rw [h3]; simp only [ob_]; split
      · rw [h4]; simp only [ob_]; split
        · exact hn
        · exact ⟨_, rfl⟩
      · exact ⟨_, rfl⟩
    · exact ⟨_, rfl⟩
  · exact ⟨_, rfl⟩
theorem f4_step {k : Nat} {xs : List S122} {a i : Int} (h : i < (xs.length : Int)) (h0 : 0 ≤ i) (he : ∃ r, spec_ExprOk.f k (rd_T122 xs i).f2.f0 (rd_T122 xs i).f2.f1 (rd_T122 xs i).f2.f2.f0 (rd_T122 xs i).f2.f2.f1 (rd_T122 xs i).f2.f3 = some r) (h3 : ∃ r, spec_l4Form.f k (rd_T122 xs i).f3 (wrap64 (a - 1)) = some r) (h4 : ∃ r, spec_l4Form.f k (rd_T122 xs i).f4 (wrap64 (a - 1)) = some r) (hn : ∃ r, spec_l4Form.l0 k xs a (wrap64 (i + 1)) = some r) :
    ∃ r, spec_l4Form.l0 (k + 1 + 1) xs a i = some r := by
  have J := fun b => f4_j2 (xs := xs) (i := i) (b := b) he h3 h4 hn
  rw [spec_l4Form.l0, if_pos h, if_pos h0]
  obtain ⟨t, ht⟩ := addrOk_some (rd_T122 xs i).f1.f0 (rd_T122 xs i).f1.f1
  rw [ht]; simp only [ob_]
  repeat' split
  all_goals exact J _
theorem f4_j0 {k : Nat} {xs : List S122} {a : Int} {b : Bool} (e : ∃ r, spec_l4Form.l0 k xs a 0 = some r) : ∃ r, spec_l4Form.j0 (k + 1) xs a b = some r := by
  rw [spec_l4Form.j0]; split
  · exact ⟨_, rfl⟩
  · exact e
theorem f4_of {k : Nat} {xs : List S122} {a i : Int} (hi : i = 0) (e : ∃ r, spec_l4Form.l0 k xs a i = some r) : ∃ r, spec_l4Form.f (k + 1 + 1) xs a = some r := by
  subst hi
  rw [spec_l4Form.f]; split
  · exact f4_j0 e
  · exact f4_j0 e
theorem form4 : ∀ (d : Nat) (xs : List S122), xs.length ≤ 3 → (∀ s ∈ xs, okS d s) → ∀ (k : Nat) (a : Int), ∃ r, spec_l4Form.f (k + 10 * d + 60) xs a = some r
  | 0, xs, hl, ho, k, a => by
    cases xs with
    | nil =>
      rw [show k + 10 * 0 + 60 = (k + 57 + 1) + 1 + 1 by omega]
      exact f4_of (i := ((0 : Nat) : Int)) rfl ⟨_, f4_end (by simp)⟩
    | cons s t => exact (ho s (List.mem_cons_self ..)).elim
  | d + 1, xs, hl, ho, k, a => by
    have L : ∀ (n k i : Nat), n + i = xs.length → ∃ r, spec_l4Form.l0 (k + 10 * d + 60 + 2 * n + 1) xs a (i : Int) = some r := by
      intro n
      induction n with
      | zero =>
        intro k i hi
        rw [show k + 10 * d + 60 + 2 * 0 + 1 = (k + 10 * d + 60) + 1 by omega]
        exact ⟨_, f4_end (by omega)⟩
      | succ n ih =>
        intro k i hi
        obtain ⟨ox, l3, l4, o3, o4⟩ := okS_len (ho _ (rd122 xs i (by omega)))
        have ht := form4 d _ l3 o3 (k + 2 * n + 1) (wrap64 (a - 1))
        have hu := form4 d _ l4 o4 (k + 2 * n + 1) (wrap64 (a - 1))
        have hx := exprOk_some _ ox (k + 10 * d + 24 + 2 * n + 1)
        have hr := ih k (i + 1) (by omega)
        have ek : k + 2 * n + 1 + 10 * d + 60 = k + 10 * d + 60 + 2 * n + 1 := by omega
        have ex : k + 10 * d + 24 + 2 * n + 1 + 36 = k + 10 * d + 60 + 2 * n + 1 := by omega
        rw [ek] at ht hu
        rw [ex] at hx
        have ek2 : k + 10 * d + 60 + 2 * (n + 1) + 1 = (k + 10 * d + 60 + 2 * n + 1) + 1 + 1 := by omega
        rw [ek2]
        refine f4_step (by omega) (by omega) hx ht hu ?_
        rw [show wrap64 ((i : Int) + 1) = ((i + 1 : Nat) : Int) by rw [wrap_id (by omega) (by omega)]; omega]
        exact hr
    have hL := L xs.length (k + 7 - 2 * xs.length) 0 (by omega)
    have ek : k + 10 * (d + 1) + 60 = (k + 7 - 2 * xs.length + 10 * d + 60 + 2 * xs.length + 1) + 1 + 1 := by omega
    rw [ek]
    exact f4_of rfl hL
theorem stmtsOk_some (xs : List S122) (hl : xs.length ≤ 3) (ho : ∀ s ∈ xs, okS 3 s) (k : Nat) : ∃ r, spec_StmtsOk.f (k + 90) xs = some r := by
  unfold spec_StmtsOk.f
  obtain ⟨r, hr⟩ := many4 3 xs hl ho (k + 50) 4
  obtain ⟨t, ht⟩ := form4 3 xs hl ho k 4
  have e1 : k + 50 + 10 * 3 + 10 = k + 90 := by omega
  have e2 : k + 10 * 3 + 60 = k + 90 := by omega
  rw [e1] at hr
  rw [e2] at ht
  rw [hr]; simp only [ob_]
  split
  · rw [ht]; exact ⟨_, rfl⟩
  · exact ⟨_, rfl⟩
theorem some_some {l : List Int} (h : Byt l) (k : Nat) : ∃ xs q, spec_l4Some.f (k + 200) l 0 = some (xs, q) ∧ xs.length ≤ 3 ∧ (∀ s ∈ xs, okS 3 s) ∧ 0 ≤ q ∧ q ≤ 20000 := by
  unfold spec_l4Some.f
  obtain ⟨xs, q, e, hl, ho, q0, q1⟩ := list3 h (k + 46) 0 (by omega) (by omega)
  obtain ⟨r, hr⟩ := stmtsOk_some xs hl ho (k + 110)
  have e1 : k + 46 + 154 = k + 200 := by omega
  have e2 : k + 110 + 90 = k + 200 := by omega
  rw [e1] at e
  rw [e2] at hr
  rw [e]; simp only [ob_]
  rw [hr]; simp only [ob_]
  split
  · exact ⟨xs, q, rfl, hl, ho, q0, by omega⟩
  · obtain ⟨s, q', hs, os, s0, s1⟩ := count_some h q (by omega) (by omega)
    rw [hs]; simp only [ob_, eta122]
    exact ⟨[s], q', rfl, by simp, fun t ht => by rw [List.mem_singleton.1 ht]; exact okS_le (by omega) os, by omega, by omega⟩
def xl : Nat → Nat
  | 0 => 0
  | d + 1 => 2 * xl d + 1
theorem x5_some : ∀ (d : Nat) (x : S120), okX d x → d ≤ 3 → ∀ (k : Nat), ∃ es, spec_l5Expr.f (k + d) x.f0 x.f1 x.f2.f0 x.f2.f1 x.f3 = some es ∧ es.length ≤ xl d
  | 0, _, h, _, _ => h.elim
  | d + 1, x, h, hd, k => by
    have hx : xl (d + 1) = 2 * xl d + 1 := rfl
    have hb : xl d ≤ 7 := by rcases (by omega : d = 0 ∨ d = 1 ∨ d = 2) with rfl | rfl | rfl <;> decide
    rw [show k + (d + 1) = (k + d) + 1 by omega, spec_l5Expr.f]
    rcases h with ⟨h, _⟩ | ⟨h, hk⟩
    · rcases h with h | h
      · rw [if_pos h]; exact ⟨_, rfl, by simp; omega⟩
      · rw [if_neg (by omega), if_pos h]; exact ⟨_, rfl, by simp; omega⟩
    · rcases h with ⟨h, hl⟩ | ⟨⟨h3, h9⟩, hl⟩
      · rw [if_neg (by omega), if_neg (by omega), if_pos h, if_pos (by omega)]
        obtain ⟨es, he, el⟩ := x5_some d _ (hk _ (rd120 x.f3 0 (by omega))) (by omega) k
        rw [show ((0 : Nat) : Int) = 0 from rfl] at he
        rw [he]; simp only [ob_]
        rw [if_pos (by simp; omega)]
        exact ⟨_, rfl, by simp; omega⟩
      · rw [if_neg (by omega), if_neg (by omega), if_neg (by omega), if_pos (by omega)]
        obtain ⟨es, he, el⟩ := x5_some d _ (hk _ (rd120 x.f3 0 (by omega))) (by omega) k
        obtain ⟨fs, hf, fl⟩ := x5_some d _ (hk _ (rd120 x.f3 1 (by omega))) (by omega) k
        rw [show ((0 : Nat) : Int) = 0 from rfl] at he
        rw [show ((1 : Nat) : Int) = 1 from rfl] at hf
        rw [he]; simp only [ob_]
        rw [if_pos (by omega), hf]; simp only [ob_]
        rw [if_pos (by omega)]; try simp only [ob_]
        rw [if_pos (by simp; omega)]
        exact ⟨_, rfl, by simp; omega⟩
def ol : Nat → Nat
  | 0 => 0
  | d + 1 => 3 * (2 * ol d + 10)
theorem one_some {F : List S122 → Int → Option (List S30)} (d : Nat) (hd : ol d ≤ 300) (s : S122) (a : Int) (h : okS (d + 1) s) (HF : ∀ xs : List S122, xs.length ≤ 3 → (∀ t ∈ xs, okS d t) → ∀ b, ∃ es, F xs b = some es ∧ es.length ≤ ol d) :
    ∃ es, spec_l5One.g F s.f0 s.f1.f0 s.f1.f1 s.f2.f0 s.f2.f1 s.f2.f2.f0 s.f2.f2.f1 s.f2.f3 s.f3 s.f4 a = some es ∧ es.length ≤ 2 * ol d + 10 := by
  obtain ⟨_, ox, l3, l4, o3, o4⟩ := h
  unfold spec_l5One.g
  obtain ⟨es, he, el⟩ := x5_some 3 _ ox (by omega) 997
  have el : es.length ≤ 7 := el
  rw [show 997 + 3 = 1000 from rfl] at he
  rw [he]; simp only [ob_]
  split
  · rw [if_pos (by omega)]; exact ⟨_, rfl, by simp; omega⟩
  · obtain ⟨bs, hb, bl⟩ := HF s.f3 l3 o3 (wrap64 (a + (wrap64 ((es.length : Int) + 1))))
    split
    · rw [hb]; simp only [ob_]
      rw [if_pos (by omega)]; try simp only [ob_]
      rw [if_pos (by simp; omega)]; try simp only [ob_]
      rw [if_pos (by simp; omega)]
      exact ⟨_, rfl, by simp; omega⟩
    · rw [hb]; simp only [ob_]
      obtain ⟨cs, hc, cl⟩ := HF s.f4 l4 o4 (wrap64 ((wrap64 ((wrap64 (a + (wrap64 ((es.length : Int) + 1)))) + (bs.length : Int))) + 1))
      rw [hc]; simp only [ob_]
      rw [if_pos (by omega)]; try simp only [ob_]
      rw [if_pos (by simp; omega)]; try simp only [ob_]
      rw [if_pos (by simp; omega)]; try simp only [ob_]
      rw [if_pos (by simp; omega)]
      exact ⟨_, rfl, by simp; omega⟩
theorem lp_end {G : Int → Int → Int → Int → Int → Int → Int → List S120 → List S122 → List S122 → Int → Option (List S30)} {k : Nat} {xs : List S122} {a i : Int} {acc : List S30} (h : ¬ i < (xs.length : Int)) : spec_l5Loop.l0 G (k + 1) xs a acc i = some acc := by
  rw [spec_l5Loop.l0, if_neg h]
theorem lp_step {G : Int → Int → Int → Int → Int → Int → Int → List S120 → List S122 → List S122 → Int → Option (List S30)} {k : Nat} {xs : List S122} {a i : Int} {acc es : List S30} (h : i < (xs.length : Int)) (h0 : 0 ≤ i) (he : G (rd_T122 xs i).f0 (rd_T122 xs i).f1.f0 (rd_T122 xs i).f1.f1 (rd_T122 xs i).f2.f0 (rd_T122 xs i).f2.f1 (rd_T122 xs i).f2.f2.f0 (rd_T122 xs i).f2.f2.f1 (rd_T122 xs i).f2.f3 (rd_T122 xs i).f3 (rd_T122 xs i).f4 (wrap64 (a + (acc.length : Int))) = some es) (hl : acc.length + es.length < 4398046511104) :
    spec_l5Loop.l0 G (k + 1) xs a acc i = spec_l5Loop.l0 G k xs a (acc ++ es) (wrap64 (i + 1)) := by
  rw [spec_l5Loop.l0, if_pos h, if_pos h0, he]; simp only [ob_]
  rw [if_pos hl]
theorem loop_some {G : Int → Int → Int → Int → Int → Int → Int → List S120 → List S122 → List S122 → Int → Option (List S30)} (xs : List S122) (a : Int) (B : Nat) (hB : B ≤ 1000) (hl : xs.length ≤ 3) (HG : ∀ s ∈ xs, ∀ b, ∃ es, G s.f0 s.f1.f0 s.f1.f1 s.f2.f0 s.f2.f1 s.f2.f2.f0 s.f2.f2.f1 s.f2.f3 s.f3 s.f4 b = some es ∧ es.length ≤ B) :
    ∀ (n k i : Nat) (acc : List S30), n + i = xs.length → acc.length ≤ i * B → ∃ es, spec_l5Loop.l0 G (k + n + 1) xs a acc (i : Int) = some es ∧ es.length ≤ xs.length * B
  | 0, k, i, acc, hi, ha => ⟨acc, lp_end (by omega), by rw [← hi]; simpa using ha⟩
  | n + 1, k, i, acc, hi, ha => by
    obtain ⟨es, he, el⟩ := HG _ (rd122 xs i (by omega)) (wrap64 (a + (acc.length : Int)))
    have hiB : i * B ≤ 3 * 1000 := Nat.mul_le_mul (by omega) hB
    have e1 : (i + 1) * B = i * B + B := by rw [Nat.add_mul, Nat.one_mul]
    rw [show k + (n + 1) + 1 = (k + n + 1) + 1 by omega, lp_step (by omega) (by omega) he (by omega), show wrap64 ((i : Int) + 1) = ((i + 1 : Nat) : Int) by rw [wrap_id (by omega) (by omega)]; omega]
    exact loop_some xs a B hB hl HG n k (i + 1) (acc ++ es) (by omega) (by rw [List.length_append, e1]; omega)
theorem deep_eq (m : Nat) (xs : List S122) (b : Int) : spec_l5Of.deep (m + 1) xs b = spec_l5Loop.l0 (spec_l5One.g (spec_l5Of.deep m)) 1000 xs b [] 0 := rfl
theorem deep_some : ∀ (d : Nat), d ≤ 3 → ∀ (n : Nat), d + 1 ≤ n → ∀ xs : List S122, xs.length ≤ 3 → (∀ t ∈ xs, okS d t) → ∀ b, ∃ es, spec_l5Of.deep n xs b = some es ∧ es.length ≤ ol d
  | 0, _, n, hn, xs, hl, ho, b => by
    obtain ⟨m, rfl⟩ : ∃ m, n = m + 1 := ⟨n - 1, by omega⟩
    cases xs with
    | nil => exact ⟨[], (deep_eq m [] b).trans (lp_end (k := 999) (by simp)), by simp⟩
    | cons s t => exact (ho s (List.mem_cons_self ..)).elim
  | d + 1, hd, n, hn, xs, hl, ho, b => by
    obtain ⟨m, rfl⟩ : ∃ m, n = m + 1 := ⟨n - 1, by omega⟩
    have hod : ol d ≤ 300 := by rcases (by omega : d = 0 ∨ d = 1 ∨ d = 2) with rfl | rfl | rfl <;> decide
    have HG : ∀ s ∈ xs, ∀ b, ∃ es, spec_l5One.g (spec_l5Of.deep m) s.f0 s.f1.f0 s.f1.f1 s.f2.f0 s.f2.f1 s.f2.f2.f0 s.f2.f2.f1 s.f2.f3 s.f3 s.f4 b = some es ∧ es.length ≤ 2 * ol d + 10 := fun s hs b => one_some d hod s b (ho s hs) (fun ys yl yo c => deep_some d (by omega) m (by omega) ys yl yo c)
    obtain ⟨es, he, el⟩ := loop_some (G := spec_l5One.g (spec_l5Of.deep m)) xs b (2 * ol d + 10) (by omega) hl HG xs.length (999 - xs.length) 0 [] (by omega) (by simp)
    have ek : 999 - xs.length + xs.length + 1 = 1000 := by omega
    rw [ek] at he
    have eo : ol (d + 1) = 3 * (2 * ol d + 10) := rfl
    have := Nat.mul_le_mul_right (2 * ol d + 10) hl
    exact ⟨es, (deep_eq m xs b).trans he, by omega⟩
end Go.Proofs.YtjamfddhcigchaaGreatDoor.Hy
namespace Go.Proofs.YtjamfddhcigchaaGreatDoor.Hz
open Go.RowKit Go.Proofs.YtjamfddhcigchaaGreatDoor.HFnCodeBent Go.Proofs.YtjamfddhcigchaaGreatDoor.Hx Go.Proofs.YtjamfddhcigchaaGreatDoor.Hy Go.Proofs.YtjamfddhcigchaaGreatDoorW.PrintWords Go.Proofs.YtjamfddhcigchaaGreatDoorW.PrintLast Go.Proofs.YtjamfddhcigchaaGreatDoorW.PrintMore
set_option linter.unusedVariables false
set_option linter.unusedSimpArgs false
theorem code_some {l : List Int} (h : Byt l) (k : Nat) : ∃ ps q, spec_l5Code.f (k + 200) l 0 = some (ps, q) ∧ ps.length ≤ 1300 := by
  unfold spec_l5Code.f
  obtain ⟨xs, q, e, hl, ho, q0, q1⟩ := some_some h k
  rw [e]; simp only [ob_]
  obtain ⟨t, ht, tl⟩ := deep_some 3 (by omega) 10 (by omega) xs hl ho 0
  have tl : t.length ≤ 1290 := tl
  rw [show spec_l5Of.f xs 0 = some t from ht]; simp only [ob_]
  by_cases hz : (t.length : Int) = 0
  · rw [if_pos hz]; exact ⟨_, _, rfl, by omega⟩
  rw [if_neg hz]
  obtain ⟨a, ha, a0, a1⟩ := pick_some h (k + 199) q (t.length : Int) q0 (by omega)
  obtain ⟨b, hb, _⟩ := pick_some h (k + 199) (q + 1) 30 (by omega) (by omega)
  have a1 : a < (t.length : Int) := by omega
  have wa : wrap64 (a + 1) = a + 1 := wrap_id (by omega) (by omega)
  rw [show k + 199 + 1 = k + 200 by omega] at ha hb
  rw [ha]; simp only [ob_]
  rw [hb]; simp only [ob_]
  have num := fun (xs : List Int) (hx : 0 < xs.length) => num_some h (k + 199) (q + 1 + 1) xs hx (by omega) (by omega)
  split
  · obtain ⟨n, hn, _⟩ := num [0, 9, 1, 5, 8] (by simp)
    rw [show k + 199 + 1 = k + 200 by omega] at hn
    rw [hn]; simp only [ob_]
    (try rw [if_pos a0]); (try rw [if_pos a1]); exact ⟨_, _, rfl, by simp; omega⟩
  split
  · obtain ⟨n, hn, _⟩ := num [0, (-1), (t.length : Int), wrap64 ((t.length : Int) + 1), wrap64 (a + 1)] (by simp)
    rw [show k + 199 + 1 = k + 200 by omega] at hn
    rw [hn]; simp only [ob_]
    (try rw [if_pos a0]); (try rw [if_pos a1]); exact ⟨_, _, rfl, by simp; omega⟩
  split
  · (try rw [if_pos a0])
    rw [if_pos (by omega), wa, if_pos (by omega), if_pos (by omega)]
    exact ⟨_, _, rfl, by have := List.length_eraseIdx_le t a.toNat; omega⟩
  split
  · obtain ⟨u, v, r, hu⟩ := bent_addr h (k + 199) (q + 1 + 1) (by omega) (by omega)
    rw [show k + 199 + 1 = k + 200 by omega] at hu
    rw [hu]; simp only [ob_]
    (try rw [if_pos a0]); (try rw [if_pos a1]); exact ⟨_, _, rfl, by simp; omega⟩
  split
  · obtain ⟨n, hn, _⟩ := pick_some h (k + 199) (q + 1 + 1) (t.length : Int) (by omega) (by omega)
    rw [show k + 199 + 1 = k + 200 by omega] at hn
    rw [hn]; simp only [ob_]
    rw [if_pos (by omega)]; exact ⟨_, _, rfl, by simp; omega⟩
  · exact ⟨_, _, rfl, by omega⟩
theorem draw_some {l : List Int} (h : Byt l) (k : Nat) : ∃ ps, spec_DrawCodeOk.f (k + 200) l = some ps ∧ ps.length ≤ 1300 := by
  unfold spec_DrawCodeOk.f
  obtain ⟨l', ho, h'⟩ := open_some h
  obtain ⟨ps, q, e, hl⟩ := code_some h' k
  rw [ho]; simp only [ob_]
  rw [e]
  exact ⟨ps, rfl, hl⟩
end Go.Proofs.YtjamfddhcigchaaGreatDoor.Hz
namespace Go.Proofs.YtjamfddhcigchaaGreatDoor.Hf
open Go.RowKit Go.Proofs.YtjamfddhcigchaaGreatDoor.HFnCodeBent Go.Proofs.YtjamfddhcigchaaGreatDoor.Hx Go.Proofs.YtjamfddhcigchaaGreatDoor.Hy Go.Proofs.YtjamfddhcigchaaGreatDoor.Hz Go.Proofs.YtjamfddhcigchaaGreatDoorW.PrintWords Go.Proofs.YtjamfddhcigchaaGreatDoorW.PrintLast Go.Proofs.YtjamfddhcigchaaGreatDoorW.PrintMore
set_option linter.unusedVariables false
set_option linter.unusedSimpArgs false
theorem FnCodeBent : laws_FnCodeBent.Pure := by
  intro l0 hm hs hw
  refine ⟨4200, ?_⟩
  unfold laws_FnCodeBent.f
  by_cases hl : (l0.length : Int) > 1048576
  · rw [if_pos hl]
  rw [if_neg hl]
  obtain ⟨ps, hd, hp⟩ := draw_some (byt_of hw) 4000
  rw [hd]; simp only [ob_]
  have hc := Hs.codeOkS ps (by omega) 4200 (by omega)
  rw [hc]; simp only [impl_CodeOk.f, ob_]
  rw [if_neg (by simp)]
  cases hb : Hp.okB ps with
  | true =>
    rw [if_pos rfl]
    rw [if_pos (by simp; omega)]; try simp only [ob_]
    rw [if_pos (by simp; omega)]; try simp only [ob_]
    rw [if_pos (by simp; omega)]; try simp only [ob_]
    rw [if_pos (by simp; omega)]; try simp only [ob_]
    rw [if_pos (by simp; omega)]; try simp only [ob_]
    rw [if_pos (by simp; omega)]; try simp only [ob_]
    rw [if_pos (by simp; omega)]; try simp only [ob_]
    rw [if_pos (by simp; omega)]; try simp only [ob_]
    have w : wrap64 ((ps.length : Int) + 2) = (ps.length : Int) + 2 := wrap_id (by omega) (by omega)
    rw [w, List.nil_append, He.endA hb, He.endB hb, He.endC _ rfl, He.endD]
    rfl
  | false =>
    rw [if_neg (by decide)]
    have hr : impl_CodeRun.f (List.replicate 6 0) (List.replicate 6 0) (List.replicate 6 0) ps 5 = some ([], [], [], 2, 0) := by
      unfold impl_CodeRun.f
      rw [if_pos ⟨by decide, hb, rfl⟩]
    have hdp : Hs.depB ps = -1 := by unfold Hs.depB; rw [hb]; rfl
    simp only [impl_MemOpen.f, ob_]
    rw [hr]; simp only [ob_, impl_CodeDepth.f]
    rw [if_pos trivial, hdp]; rfl
end Go.Proofs.YtjamfddhcigchaaGreatDoor.Hf
namespace Go.Proofs.YtjamfddhcigchaaGreatDoor.fnCodeBent
open Go.ChangeShapes Go.WideShapes Go.ChangeAt Go.RowKit Go.Joins
open Go.ChangeMaps (open_string shut_string)
set_option linter.unusedVariables false
set_option linter.unusedSimpArgs false
theorem blk_same {w w' : World} {g : Nat} {o : Obj} (h : w.heap[g]? = some o) (k : Below w.heap.size w w') : w'.heap[g]? = some o := Go.Proofs.YtjamfddhcigchaaGreatDoorW.PrintWords.blk_below h k
theorem own : ownKnob Tryz.prog.godebug = none := by kernel_rfl
theorem laidOut : laidOutB Tryz.prog = true := by kernel_rfl
def IsRow (k : IntKind) (w : World) (a : Option Addr) (len cap : Nat) (zs : List Int) : Prop :=
  (a = none ∧ len = 0 ∧ cap = 0 ∧ zs = []) ∨
  ∃ x, a = some x ∧ len ≤ cap ∧ cap ≤ maxLen ∧ zs.length = cap ∧ (∀ i, i < zs.length → w.cell? (x.add i) = some (.int k (zs.getD i 0))) ∧ ∀ n ∈ zs, (Lit.int k n).wf = true
set_option maxRecDepth 100000 in
theorem door_met (os : Os) (args : Array Value) : laidMetH Tryz.prog Rows.fnCodeBentRow.laid ((World.doorLaid Tryz.prog 400 os).forCall (fun _ _ => 0) ⟨#[], args, []⟩).memory :=
  laidMetH_of_parts3 (fuel := 8) (laidMet_of_run' 8 (by kernel_rfl) (by kernel_rfl)) (by kernel_rfl) (by kernel_rfl)
set_option maxRecDepth 100000 in
theorem lifted (os : Os) (started : os.Started) (H : Type) (enc : TypeId × Value → H) :
    ReturnsInHanded {} Tryz.checked os 4 .any (fun w args => (Rows.fnCodeBentSpec.pre enc Tryz.prog Tryz.f4 [] false w args ∧ laidMetH Tryz.prog Rows.fnCodeBentRow.laid w) ∧ sizedMet enc Tryz.prog Tryz.f4 (OpenSpec.ofChange Rows.fnCodeBentSpec) false w args) (Rows.fnCodeBentSpec.post enc Tryz.prog Tryz.f4 false true false false) := by
  refine returnsInHanded_of_change_and (C := Tryz.checked) (X := fun w _ => laidMetH Tryz.prog Rows.fnCodeBentRow.laid w) (fun _ _ _ hh h => h.of_heap hh) own started (by kernel_rfl) Tryz.func4
    (ChangeSpec.witness_shaped (enc := enc) (C := Tryz.checked) (os := os) (X := fun w _ => laidMetH Tryz.prog Rows.fnCodeBentRow.laid w) false (World.doorLaid Tryz.prog 400 os) #[.slice none 0 0] 8 rfl (World.shaped_of_RefB (by kernel_rfl) (by kernel_rfl)) (by kernel_rfl) (by kernel_rfl) (by kernel_rfl) (door_met os _)) ?_
  intro W base args ds gs before hval0 hW hcnd hsz0 hL _
  have hsz : (DataW.weightsEach Tryz.prog (Tryz.f4.params.toList ++ Rows.fnCodeBentSpec.plain.varTypes Tryz.prog) (ds ++ gs)).all (· ≤ reachBytes) = true := hsz0
  have hval : ∀ (j : Nat) t v, Tryz.f4.params[j]? = some t → args[j]? = some v → Value.okWide Tryz.prog W .any base t v := hval0
  have hW' := hW
  obtain ⟨p, q, hA0, hV, rfl, hfz, hnd⟩ := hW
  have hA : DataW.TrodAll enc Tryz.prog W 0 (fun _ => true) true Tryz.f4.params.toList args.toList ds p := hA0
  rw [Tryz.params4] at hA hval hsz
  obtain ⟨v0, vs0, d0, ds0, p0, q0, hargs, rfl, rfl, h0, r0⟩ := trodAll_cons hA
  obtain ⟨rfl, rfl, rfl⟩ := trodAll_nil r0
  obtain rfl : args = #[v0] := by cases args; simp_all
  have hV1 : DataW.TrodVars enc Tryz.prog W (fun _ => true) ["loop.example/stopgate/impl.errLong"] gs q := hV
  obtain ⟨gV, tV, csV, fuV, dV, pV, rfl, hgV, htV, hvarV, hdV, rfl⟩ := trodVars_one hV1
  obtain rfl : 0 = gV := Option.some.inj ((show Tryz.prog.globalNamed "loop.example/stopgate/impl.errLong" = some 0 by kernel_rfl).symm.trans hgV)
  obtain rfl : 72 = tV := Option.some.inj ((show (Tryz.prog.globals[0]?).map (·.type) = some 72 by kernel_rfl).symm.trans htV)
  obtain ⟨oldV, hcsV, hoV, hxV⟩ := held_of_trod_list Tryz.underlying72 hdV
  simp only [Prod.mk.injEq] at hxV
  obtain ⟨rfl, rfl⟩ := hxV
  obtain rfl : csV = #[oldV] := by cases csV; simp_all
  have hvars : ∀ (W' : World), Below W.heap.size W W' → ∀ sp : Nat → Bool, DataW.TrodVars enc Tryz.prog W' sp ["loop.example/stopgate/impl.errLong"] [tok enc oldV] (MemPlace.row ⟨0, 0, none⟩ (#[oldV] : Array Value).size ++ []) := fun W' bel sp => by
    refine trodVars_mk1 (enc := enc) (spare := sp) (fuel := 1) (d := tok enc oldV) (p := []) hgV htV ?_ (trod_held Tryz.underlying72 hoV 0)
    have hv := hvarV
    unfold World.var? at hv ⊢
    rw [hgV] at hv ⊢
    simp only [Hx.ob_] at hv ⊢
    cases hh : W.heap[0]? with
    | none => rw [hh] at hv; cases hv
    | some o => rw [blk_same hh bel, ← hh]; exact hv
  have k0 := h0
  have lt0 : ∀ x ∈ p0, x.block < W.heap.size := by obtain ⟨m, hm⟩ := k0; exact DataW.trod_lt m _ _ _ hm
  clear hA0 hval0 hsz0
  suffices hfin : Calls Tryz.prog 4 #[v0] W fun e w' => e = .returned (.bool true) ∧ Below W.heap.size W w' by
    refine hfin.mono fun e W' ⟨he, bel⟩ => ?_
    subst he
    exact ⟨_, rfl, _, _, _, [], _, _, hW', trodAll_mk1 (shut_bool Tryz.underlying4 _), (trodAll_cons_mk (Below.trod laidOut (by kernel_rfl) (of_decide_eq_true (by kernel_rfl)) k0 bel lt0) trodAll_mk0), hvars _ bel _, bel.frame _, fun h => by cases h⟩
  obtain ⟨a0, len0, cap0, rfl⟩ := okWide_slice Tryz.underlying22 (hval 0 22 v0 rfl rfl)
  have y0 : len0 * 1 ≤ 140737488351232 := Go.Proofs.YtjamfddhcigchaaGreatDoorW.PrintWords.sized_ints hsz (j := 0) (t := 22) rfl rfl Tryz.underlying22 Tryz.underlying5 (by kernel_rfl) (by kernel_rfl) h0
  obtain ⟨z0, w0⟩ : ∃ zs, IsRow .u8 W a0 len0 cap0 zs := by
    obtain ⟨fuel, hf⟩ := h0
    rcases open_ints Tryz.underlying22 Tryz.underlying5 (by kernel_rfl) hf with ⟨hcs, _⟩ | ⟨x, l, c, zs, hcs, _, hl, hm, hz, _, hcell, hwz⟩
    · simp [Value.cells] at hcs
      obtain ⟨rfl, rfl, rfl⟩ := hcs
      exact ⟨[], .inl ⟨rfl, rfl, rfl, rfl⟩⟩
    · simp [Value.cells] at hcs
      obtain ⟨rfl, rfl, rfl⟩ := hcs
      exact ⟨zs, .inr ⟨_, rfl, hl, hm, by simpa using hz, hcell, hwz⟩⟩
  exact HFnCodeBent.laws_FnCodeBent.walk Hf.FnCodeBent a0 len0 cap0 z0 W w0 y0
theorem over : Rows.fnCodeBentRow.holds Tryz.pinned (OpenSpec.ofChange Rows.fnCodeBentSpec) :=
  OpenClaim.holds_of_wide 4 Tryz.f4 rfl rfl rfl rfl rfl rfl rfl ⟨rfl, rfl, rfl, rfl, rfl⟩ rfl rfl rfl rfl rfl (by kernel_rfl) Tryz.func4 (by kernel_rfl)
    (of_decide_eq_true (by kernel_rfl)) (by unfold Func.isWrapper; first | (rw [if_pos (by decide +kernel)]; kernel_rfl) | (rw [if_neg (by decide +kernel)]; exact ⟨rfl, rfl⟩))
    (fun os started H enc _ => lifted os started H enc)
theorem card_holds : Rows.FnCodeBentCardSaid :=
  Claim7.holds_tied_plain_at .later [] [.sentinel] true (true, "8e2eed3da5832f03801593413d0d97074931c9fe972dc2260191ac3ee88f37b4") true
    over (fun _ h => by cases h) (by kernel_rfl) (fun _ h => by cases h) fnCodeBent_row_tie rfl ⟨rfl, rfl⟩ (by kernel_rfl) rfl
    (fun f fn hf hfn => by
      obtain rfl : f = 4 := Option.some.inj ((show Tryz.prog.funcNamed "loop.example/stopgate/laws.FnCodeBent" = some 4 by kernel_rfl).symm.trans hf) |>.symm
      obtain rfl : fn = Tryz.f4 := (Option.some.inj (Tryz.func4.symm.trans hfn)).symm
      exact ⟨by kernel_rfl, fun j t ht => by
        rw [Tryz.params4] at ht
        have hm : t ∈ [22] := by simpa using Array.mem_of_getElem? ht
        have hall : ([22].all fun u => !Tryz.prog.wantsStandIn u) = true := by kernel_rfl
        exact (show Tryz.prog.wantsStandIn t = false by simpa using List.all_eq_true.1 hall t hm)⟩)
    (by kernel_rfl)
end Go.Proofs.YtjamfddhcigchaaGreatDoor.fnCodeBent
namespace Go.Proofs.YtjamfddhcigchaaGreatDoor
theorem fnCodeBentCard_holds : Rows.FnCodeBentCardSaid := fnCodeBent.card_holds
#print axioms fnCodeBentCard_holds
end Go.Proofs.YtjamfddhcigchaaGreatDoor
