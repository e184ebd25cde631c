/- What spec.NetOk computes, in plain Lean. No condition beyond the fuel of the printed functions. -/
import Derived.Test.YtphblfmjdiigkaaGreatDoorTFnExactNetTextHFnExactNetTextx6
import Derived.Test.YtphblfmjdiigkaaGreatDoorTFnExactNetTextHFnExactNetTextx11
import Derived.Test.YtphblfmjdiigkaaGreatDoorTFnExactNetTextHj7
namespace Go.Proofs.YtphblfmjdiigkaaGreatDoor.Hj8
open Go.RowKit Go.Proofs.YtphblfmjdiigkaaGreatDoor.Hb Go.Proofs.YtphblfmjdiigkaaGreatDoor.Hj1 Go.Proofs.YtphblfmjdiigkaaGreatDoor.Hj2 Go.Proofs.YtphblfmjdiigkaaGreatDoor.Hj3 Go.Proofs.YtphblfmjdiigkaaGreatDoor.Hj4 Go.Proofs.YtphblfmjdiigkaaGreatDoor.Hj5 Go.Proofs.YtphblfmjdiigkaaGreatDoor.Hj6 Go.Proofs.YtphblfmjdiigkaaGreatDoor.Hj7 Go.Proofs.YtphblfmjdiigkaaGreatDoor.HFnExactNetText Go.Proofs.YtphblfmjdiigkaaGreatDoorW.PrintWords Go.Proofs.YtphblfmjdiigkaaGreatDoorW.PrintLast Go.Proofs.YtphblfmjdiigkaaGreatDoorW.PrintMore
set_option linter.unusedVariables false
set_option linter.unusedSimpArgs false
theorem gateT (a : Int) : spec_l7Gate.f a = some (gB a) := by
  unfold spec_l7Gate.f gB
  by_cases h : a ≥ 11
  · rw [if_pos h, decide_eq_true (by omega : 11 ≤ a), Bool.true_and]
  · rw [if_neg h, decide_eq_false (by omega : ¬ 11 ≤ a), Bool.false_and]
theorem twoT (a : Int) : spec_l7Two.f a = some (twB a) := by
  unfold spec_l7Two.f twB
  rw [gateT]; simp only [Option.bind_some]
  cases gB a
  · by_cases h : a = 3
    · rw [if_neg (by simp), if_pos h]; simp [h]
    · rw [if_neg (by simp), if_neg h]; simp [h]
  · rfl
theorem l6NT (k : Nat) (a b : Int) : spec_l6N.f (k + 1) a b = some (sizedB a b) := by
  have hj : ∀ a' : Int, 1 ≤ a' → a' ≤ 3 → spec_l6N.j0 (k + 1) b a' true = some (sizedB a' b) := by
    intro a' h1 h2
    rw [spec_l6N.j0, if_pos rfl]
    unfold sizedB
    rw [decide_eq_true h1, decide_eq_true h2, decide_eq_false (by omega : ¬ 4 ≤ a')]
    by_cases h : b ≥ 0
    · rw [if_pos h, decide_eq_true (by omega : 0 ≤ b)]; simp
    · rw [if_neg h, decide_eq_false (by omega : ¬ 0 ≤ b)]; simp
  unfold spec_l6N.f
  by_cases h1 : a = 1
  · subst h1; rw [if_pos rfl]; exact hj 1 (by omega) (by omega)
  by_cases h2 : a = 2
  · subst h2; rw [if_neg h1, if_pos rfl]; exact hj 2 (by omega) (by omega)
  by_cases h3 : a = 3
  · subst h3; rw [if_neg h1, if_neg h2]; exact hj 3 (by omega) (by omega)
  rw [if_neg h1, if_neg h2, show (a == 3) = false by simpa using h3, spec_l6N.j0, if_neg (by simp)]
  unfold sizedB
  by_cases h4 : a = 4
  · subst h4
    rw [if_pos rfl]
    by_cases hb : b = 0
    · subst hb; rfl
    · rw [show (b == 0) = false by simpa using hb, decide_eq_false hb]; simp
  by_cases h5 : a = 5
  · subst h5
    rw [if_neg h4, if_pos rfl]
    by_cases hb : b = 0
    · subst hb; rfl
    · rw [show (b == 0) = false by simpa using hb, decide_eq_false hb]; simp
  rw [if_neg h4, if_neg h5]
  have e : (decide (1 ≤ a) && decide (a ≤ 3)) = false := by
    by_cases h : 1 ≤ a
    · rw [decide_eq_false (by omega : ¬ a ≤ 3), Bool.and_false]
    · rw [decide_eq_false h, Bool.false_and]
  have e2 : (decide (4 ≤ a) && decide (a ≤ 5)) = false := by
    by_cases h : 4 ≤ a
    · rw [decide_eq_false (by omega : ¬ a ≤ 5), Bool.and_false]
    · rw [decide_eq_false h, Bool.false_and]
  rw [e, e2]; simp
theorem aOkT (k i : Int) : spec_AddrOk.f k i = some (aOk k i) := aOk_some k i
theorem srcT (a t c d n : Int) (b : Bool) : spec_l7Src.f a t c d b n = some (sOk a t c d n) := by
  unfold spec_l7Src.f sOk inB
  by_cases h1 : a = 1
  · rw [if_pos h1, if_pos h1, aOkT]; simp only [Option.bind_some]
    cases aOk c d <;> simp
  rw [if_neg h1, if_neg h1]
  by_cases h2 : a = 2
  · rw [if_pos h2, if_pos (Or.inl h2 : a = 2 ∨ a = 3)]
    by_cases q1 : t ≥ 0
    · rw [if_pos q1, decide_eq_true (by omega : 0 ≤ t)]
      by_cases q2 : t < n
      · rw [if_pos q2, decide_eq_true q2]; simp
      · rw [if_neg q2, decide_eq_false q2]; simp
    · rw [if_neg q1, decide_eq_false (by omega : ¬ 0 ≤ t)]; simp
  rw [if_neg h2]
  by_cases h3 : a = 3
  · rw [if_pos h3, if_pos (Or.inr h3 : a = 2 ∨ a = 3)]
    by_cases q1 : t ≥ 0
    · rw [if_pos q1, decide_eq_true (by omega : 0 ≤ t)]
      by_cases q2 : t < n
      · rw [if_pos q2, decide_eq_true q2]; simp
      · rw [if_neg q2, decide_eq_false q2]; simp
    · rw [if_neg q1, decide_eq_false (by omega : ¬ 0 ≤ t)]; simp
  · rw [if_neg h3, if_neg (by omega)]
theorem sized_bl {a b : Int} (h : sizedB a b = true) : blB a = true := by
  unfold sizedB at h; unfold blB
  simp at h ⊢
  omega
abbrev WF (k : Nat) (x : S43) (n : Int) : Option Bool := spec_l7Wire.f k x.f0 x.f1 x.f2.f0 x.f2.f1 x.f2.f2.f0 x.f2.f2.f1 x.f2.f3 x.f3.f0 x.f3.f1 x.f3.f2.f0 x.f3.f2.f1 x.f3.f3 n
theorem wireT (k : Nat) (x : S43) (n : Int) : WF (k + 1) x n = some (wOk x n) := by
  have hj : ∀ q : Bool, spec_l7Wire.j0 (k + 1) n q x.f0 x.f1 x.f2.f0 x.f2.f1 x.f2.f2.f0 x.f2.f2.f1 x.f2.f3 x.f3.f0 x.f3.f1 x.f3.f2.f0 x.f3.f2.f1 x.f3.f3 = some (!q && (if twB x.f0 = true then sOkS x.f3 n else z46B x.f3)) := by
    intro q
    rw [spec_l7Wire.j0]
    cases q with
    | true => rfl
    | false =>
      rw [if_neg (by simp), twoT]
      simp only [Option.bind_some]
      cases twB x.f0 with
      | true =>
        rw [if_pos rfl, srcT]; rfl
      | false =>
        rw [if_neg (by simp)]
        unfold z46B
        cases x.f3.f3 <;> rfl
  show spec_l7Wire.f (k + 1) _ _ _ _ _ _ _ _ _ _ _ _ _ = _
  unfold spec_l7Wire.f
  have hlast : (!((insL x).any fun s => !(sOkS s n)) && !(!(twB x.f0) && !(z46B x.f3))) = (sOkS x.f2 n && (if twB x.f0 = true then sOkS x.f3 n else z46B x.f3)) := by
    unfold insL
    cases twB x.f0 with
    | true => simp
    | false => simp
  have hw : ∀ p : Bool, (p && (!(!(twB x.f0) && !(z46B x.f3)) && !((insL x).any fun s => !(sOkS s n)))) = (p && (sOkS x.f2 n && (if twB x.f0 = true then sOkS x.f3 n else z46B x.f3))) := by
    intro p; rw [← hlast]; cases p <;> simp [Bool.and_comm]
  have hwd : wOk x n = (!((gB x.f0 && x.f1 != 0) || (blB x.f0 && !(sizedB x.f0 x.f1)) || (!(gB x.f0) && !(blB x.f0))) && (sOkS x.f2 n && (if twB x.f0 = true then sOkS x.f3 n else z46B x.f3))) := by
    unfold wOk; exact hw _
  rw [hwd, gateT]
  simp only [Option.bind_some]
  cases hg : gB x.f0 with
  | true =>
    have hb : blB x.f0 = false := by
      unfold gB at hg; unfold blB
      simp only [Bool.and_eq_true, decide_eq_true_eq] at hg
      rw [decide_eq_false (by omega : ¬ x.f0 ≤ 5), Bool.and_false]
    rw [if_pos rfl, hb]
    by_cases hn : x.f1 = 0
    · rw [if_pos hn, if_pos rfl, srcT]
      simp only [Option.bind_some]
      rw [hj, hn]; simp [sOkS]
    · rw [if_neg hn, hj, show (x.f1 != 0) = true by simpa using hn]; simp
  | false =>
    rw [if_neg (by simp), if_neg (by simp), l6NT]
    simp only [Option.bind_some]
    cases hs : sizedB x.f0 x.f1 with
    | true =>
      rw [if_pos rfl, srcT, sized_bl hs]
      simp only [Option.bind_some]
      rw [hj]; simp [sOkS]
    | false =>
      rw [if_neg (by simp), hj]
      cases blB x.f0 <;> simp
def dA (l : List S43) (m : List S66) : Nat → Nat → Bool
  | 0, _ => true
  | d + 1, i => dOk l m i && dA l m d (i + 1)
theorem dA_iff (l : List S43) (m : List S66) : ∀ (d i : Nat), dA l m d i = true ↔ ∀ j, i ≤ j → j < i + d → dOk l m j = true
  | 0, i => ⟨fun _ j h1 h2 => by omega, fun _ => rfl⟩
  | d + 1, i => by
    rw [dA, Bool.and_eq_true, dA_iff l m d (i + 1)]
    constructor
    · rintro ⟨h1, h2⟩ j h3 h4
      by_cases e : j = i
      · subst e; exact h1
      · exact h2 j (by omega) (by omega)
    · intro h
      exact ⟨h i (by omega) (by omega), fun j h1 h2 => h j (by omega) (by omega)⟩
theorem l2T (l : List S43) (m : List S66) (e : S66) (i : Nat) (hi : i < m.length) (h4 : m.length ≤ 4) : ∀ (d j k : Nat), j + d = i →
    spec_NetOk.l2 (k + d + 1) (i : Int) (j : Int) l m e.f0.f0 e.f0.f1 e.f1 = if ((m.take i).drop j).any (fun x => toB x e) = true then some false else spec_NetOk.l1 k ((i + 1 : Nat) : Int) l m
  | 0, j, k, hj => by
    have hw : wrap64 ((i : Int) + 1) = ((i + 1 : Nat) : Int) := wrap_id (by omega) (by omega)
    rw [spec_NetOk.l2, if_neg (by omega), hw, List.drop_of_length_le (by rw [List.length_take]; omega), if_neg (by simp)]
  | d + 1, j, k, hj => by
    have hw : wrap64 ((j : Int) + 1) = ((j + 1 : Nat) : Int) := wrap_id (by omega) (by omega)
    have hjm : j < m.length := by omega
    have hjt : j < (m.take i).length := by rw [List.length_take]; omega
    rw [show k + (d + 1) + 1 = (k + d + 1) + 1 by omega, spec_NetOk.l2, if_pos (by omega), if_pos (by omega), if_pos (by omega), rd62 m j hjm, hw, List.drop_eq_getElem_cons hjt, List.any_cons, List.getElem_take]
    have hrec := l2T l m e i hi h4 d (j + 1) k (by omega)
    have hT : (m[j].f0.f0 == e.f0.f0 && m[j].f0.f1 == e.f0.f1) = toB m[j] e := rfl
    rw [hT]
    by_cases c : toB m[j] e = true
    · rw [if_pos c, c]; rfl
    · rw [if_neg c, show toB m[j] e = false by simpa using c, Bool.false_or, hrec]
theorem l1T (l : List S43) (m : List S66) (hw : okW l) (h8 : l.length ≤ 8) (h4 : m.length ≤ 4) : ∀ (d i k : Nat), i + d = m.length → 20 * d + 1000 ≤ k →
    spec_NetOk.l1 k (i : Int) l m = some (dA l m d i && (((orD l).length : Int) == (l.length : Int)))
  | 0, i, k, hi, hk => by
    obtain ⟨k, rfl⟩ : ∃ q, k = q + 1 := ⟨k - 1, by omega⟩
    rw [spec_NetOk.l1, if_neg (by omega), spec_orderS l hw h8 k (by omega)]
    rfl
  | d + 1, i, k, hi, hk => by
    have him : i < m.length := by omega
    obtain ⟨q, rfl⟩ : ∃ q, k = (q + i + 1) + 1 + 1 := ⟨k - i - 3, by omega⟩
    rw [spec_NetOk.l1, if_pos (by omega), if_pos (by omega), rd62 m i him, aOkT]
    simp only [Option.bind_some]
    have hd : dOk l m i = (ncl m[i] l && !((m.take i).any fun x => toB x m[i])) := by unfold dOk; rw [List.getElem?_eq_getElem him]
    have jt : spec_NetOk.j3 (q + i + 1 + 1) (i : Int) true l m m[i].f0.f0 m[i].f0.f1 m[i].f1 = some false := by rw [spec_NetOk.j3, if_pos rfl]
    have jf : spec_NetOk.j3 (q + i + 1 + 1) (i : Int) false l m m[i].f0.f0 m[i].f0.f1 m[i].f1 = if (m.take i).any (fun x => toB x m[i]) = true then some false else spec_NetOk.l1 q ((i + 1 : Nat) : Int) l m := by
      rw [spec_NetOk.j3, if_neg (by simp)]
      have := l2T l m m[i] i him h4 i 0 q (by omega)
      rw [List.drop_zero] at this
      exact this
    have hbad : ncl m[i] l = false → some (dA l m (d + 1) i && (((orD l).length : Int) == (l.length : Int))) = some false := by
      intro h; rw [dA, hd, h]; rfl
    cases ha : aOk m[i].f0.f0 m[i].f0.f1 with
    | false => rw [if_neg (by simp), jt, hbad (by unfold ncl pB; rw [ha]; rfl)]
    | true =>
      rw [if_pos rfl]
      by_cases c1 : m[i].f0.f0 = 1
      · rw [if_pos c1, jt, hbad (by unfold ncl pB; rw [ha, c1]; rfl)]
      rw [if_neg c1]
      have hp : pB m[i].f0.f0 m[i].f0.f1 = true := by unfold pB; rw [ha, show (m[i].f0.f0 != 1) = true by simpa using c1]; rfl
      by_cases c2 : m[i].f1 < 0
      · rw [if_pos c2, jt, hbad (by unfold ncl; rw [hp, decide_eq_false (by omega : ¬ 0 ≤ m[i].f1)]; rfl)]
      rw [if_neg c2]
      by_cases c3 : m[i].f1 ≥ (l.length : Int)
      · rw [decide_eq_true c3, jt, hbad (by unfold ncl; rw [hp, decide_eq_false (by omega : ¬ m[i].f1 < (l.length : Int)), Bool.and_false]; rfl)]
      rw [decide_eq_false c3, jf]
      have hn : ncl m[i] l = true := by unfold ncl; rw [hp, decide_eq_true (by omega : 0 ≤ m[i].f1), decide_eq_true (by omega : m[i].f1 < (l.length : Int))]; rfl
      rw [hn, Bool.true_and] at hd
      cases hany : (m.take i).any fun x => toB x m[i] with
      | true =>
        rw [if_pos rfl, dA, hd, hany]; rfl
      | false =>
        rw [if_neg (by simp), l1T l m hw h8 h4 d (i + 1) q (by omega) (by omega), dA, hd, hany]; rfl
def nOk (l : List S43) (m : List S66) : Bool := decide (l.length ≤ 8) && (decide (m.length ≤ 4) && (l.all (fun x => wOk x l.length) && (dA l m m.length 0 && (((orD l).length : Int) == (l.length : Int)))))
theorem okW_of (l : List S43) (h : l.all (fun x => wOk x l.length) = true) : okW l := by
  intro i hi
  rw [rd48 l i hi]
  exact inR_of _ _ (List.all_eq_true.1 h _ (List.getElem_mem hi))
theorem l0T (l : List S43) (m : List S66) (h8 : l.length ≤ 8) (h4 : m.length ≤ 4) : ∀ (d i k : Nat), i + d = l.length → 1200 + d ≤ k →
    spec_NetOk.l0 k (i : Int) l m = if (l.drop i).all (fun x => wOk x l.length) = true then spec_NetOk.l1 (k - d - 1) 0 l m else some false
  | 0, i, k, hi, hk => by
    obtain ⟨k, rfl⟩ : ∃ q, k = q + 1 := ⟨k - 1, by omega⟩
    rw [spec_NetOk.l0, if_neg (by omega), List.drop_of_length_le (by omega), if_pos (by rfl)]
    rfl
  | d + 1, i, k, hi, hk => by
    have hil : i < l.length := by omega
    have hw : wrap64 ((i : Int) + 1) = ((i + 1 : Nat) : Int) := wrap_id (by omega) (by omega)
    obtain ⟨k, rfl⟩ : ∃ q, k = q + 1 + 1 := ⟨k - 2, by omega⟩
    have hwt := wireT k (rd_T43 l (i : Int)) (l.length : Int)
    rw [spec_NetOk.l0, if_pos (by omega), if_pos (by omega), show spec_l7Wire.f (k + 1) (rd_T43 l (i : Int)).f0 (rd_T43 l (i : Int)).f1 (rd_T43 l (i : Int)).f2.f0 (rd_T43 l (i : Int)).f2.f1 (rd_T43 l (i : Int)).f2.f2.f0 (rd_T43 l (i : Int)).f2.f2.f1 (rd_T43 l (i : Int)).f2.f3 (rd_T43 l (i : Int)).f3.f0 (rd_T43 l (i : Int)).f3.f1 (rd_T43 l (i : Int)).f3.f2.f0 (rd_T43 l (i : Int)).f3.f2.f1 (rd_T43 l (i : Int)).f3.f3 (l.length : Int) = some (wOk (rd_T43 l (i : Int)) (l.length : Int)) from hwt]
    simp only [Option.bind_some]
    rw [rd48 l i hil, hw, List.drop_eq_getElem_cons hil, List.all_cons]
    cases hq : wOk l[i] (l.length : Int) with
    | false => rw [if_neg (by simp), if_neg (by simp)]
    | true =>
      rw [if_pos rfl, l0T l m h8 h4 d (i + 1) (k + 1) (by omega) (by omega), Bool.true_and]
      have e : k + 1 - d - 1 = k + 1 + 1 - (d + 1) - 1 := by omega
      rw [e]
theorem netOkT (l : List S43) (m : List S66) (k : Nat) (hk : 2000 ≤ k) : spec_NetOk.f k l m = some (nOk l m) := by
  have jt : ∀ q, spec_NetOk.j0 (q + 1) true l m = some false := fun q => by rw [spec_NetOk.j0, if_pos rfl]
  obtain ⟨k, rfl⟩ : ∃ q, k = q + 1 := ⟨k - 1, by omega⟩
  unfold spec_NetOk.f nOk
  by_cases h8 : l.length ≤ 8
  · rw [if_neg (by omega), decide_eq_true h8, Bool.true_and]
    by_cases h4 : m.length ≤ 4
    · rw [decide_eq_true h4, decide_eq_false (by omega : ¬ (m.length : Int) > 4), Bool.true_and, spec_NetOk.j0, if_neg (by simp)]
      have h := l0T l m h8 h4 l.length 0 k (by omega) (by omega)
      rw [show ((0 : Nat) : Int) = 0 from rfl, List.drop_zero] at h
      rw [h]
      cases ha : l.all (fun x => wOk x l.length) with
      | true =>
        rw [if_pos rfl, Bool.true_and]
        exact l1T l m (okW_of l ha) h8 h4 m.length 0 _ (by omega) (by omega)
      | false => rw [if_neg (by simp), Bool.false_and]
    · rw [decide_eq_true (by omega : (m.length : Int) > 4), jt, decide_eq_false h4]; rfl
  · rw [if_pos (by omega), jt, decide_eq_false h8]; rfl
/-- impl.netOk answers the same. -/
theorem netOkC (l : List S43) (m : List S66) (A B : Option Addr) (c d : Nat) (w : World) (hc : l.length ≤ c) (hd : m.length ≤ d) (hC : Kd.C k43 w A l.length l) (hD : Kd.C k66 w B m.length m) :
    Calls Tryz.prog 23 #[.agg #[.slice A l.length c, .slice B m.length d]] w fun e w' => e = .returned (.bool (nOk l m)) ∧ Below w.heap.size w w' := by
  refine (netOk_any l m A B c d 900 (orD l) w hc hd hC hD (fun h8 ha => impl_orderS l m (okW_of l ha) h8 900 (Nat.le_refl _))).mono ?_
  rintro e w' ⟨r, rfl, hr, hb⟩
  have e : r = nOk l m := by
    rw [Bool.eq_iff_iff, hr.out]
    unfold nOk
    simp only [Bool.and_eq_true, decide_eq_true_eq, dA_iff, beq_iff_eq]
    constructor
    · rintro ⟨h1, h2, h3, h4, h5⟩
      exact ⟨h1, h2, h3, fun j _ hj => h4 j (by omega), by omega⟩
    · rintro ⟨h1, h2, h3, h4, h5⟩
      exact ⟨h1, h2, h3, fun j hj => h4 j (by omega) (by omega), by omega⟩
  exact ⟨by rw [e], hb⟩
end Go.Proofs.YtphblfmjdiigkaaGreatDoor.Hj8
