/- The program's order of wires is orD for wires that are right. No condition beyond the fuel of the printed function. -/
import Derived.Test.YtphblfmjdiigkaaGreatDoorTFnExactNetTextHFnExactNetTextx6
import Derived.Test.YtphblfmjdiigkaaGreatDoorTFnExactNetTextHFnExactNetTextx11
import Derived.Test.YtphblfmjdiigkaaGreatDoorTFnExactNetTextHj6
namespace Go.Proofs.YtphblfmjdiigkaaGreatDoor.Hj7
open Go.RowKit Go.Proofs.YtphblfmjdiigkaaGreatDoor.Hb Go.Proofs.YtphblfmjdiigkaaGreatDoor.Hj1 Go.Proofs.YtphblfmjdiigkaaGreatDoor.Hj2 Go.Proofs.YtphblfmjdiigkaaGreatDoor.Hj3 Go.Proofs.YtphblfmjdiigkaaGreatDoor.Hj4 Go.Proofs.YtphblfmjdiigkaaGreatDoor.Hj5 Go.Proofs.YtphblfmjdiigkaaGreatDoor.Hj6 Go.Proofs.YtphblfmjdiigkaaGreatDoor.HFnExactNetText Go.Proofs.YtphblfmjdiigkaaGreatDoorW.PrintWords Go.Proofs.YtphblfmjdiigkaaGreatDoorW.PrintLast Go.Proofs.YtphblfmjdiigkaaGreatDoorW.PrintMore
set_option linter.unusedVariables false
set_option linter.unusedSimpArgs false
theorem rd_set (l : List Int) (i j : Nat) (v : Int) (h : i < l.length) : rd (l.set i v) (j : Int) = if j = i then v else rd l (j : Int) := by
  unfold rd
  rw [Int.toNat_natCast, List.getD_eq_getElem?_getD, List.getD_eq_getElem?_getD]
  by_cases e : j = i
  · subst e; rw [if_pos rfl, List.getElem?_set_self h]; rfl
  · rw [if_neg e, List.getElem?_set_ne (Ne.symm e)]
def V (x : S43) (i : Int) : Int := b1 (x.f2.f0 == 2 && decide (x.f2.f1 < i)) + b1 (twB x.f0 && (x.f3.f0 == 2 && decide (x.f3.f1 < i)))
theorem b1_lt (p : Bool) (t i : Int) : b1 (p && decide (t < i + 1)) = b1 (p && decide (t < i)) + b1 (p && t == i) := by
  cases p
  · simp [b1]
  · by_cases h1 : t < i
    · rw [decide_eq_true h1, decide_eq_true (by omega : t < i + 1), show (t == i) = false by simpa using (by omega : ¬ t = i)]; simp [b1]
    · rw [decide_eq_false h1]
      by_cases h2 : t = i
      · rw [decide_eq_true (by omega : t < i + 1), show (t == i) = true by simpa using h2]; simp [b1]
      · rw [decide_eq_false (by omega : ¬ t < i + 1), show (t == i) = false by simpa using h2]; simp [b1]
theorem V_succ (x : S43) (i : Int) : V x (i + 1) = V x i + wt x i := by
  unfold V wt
  have h1 := b1_lt (x.f2.f0 == 2) x.f2.f1 i
  have h2 := b1_lt (twB x.f0 && x.f3.f0 == 2) x.f3.f1 i
  simp only [Bool.and_assoc] at h2
  rw [h1, h2]; omega
theorem V_zero (n : Nat) (x : S43) (hx : inR n x) : V x 0 = 0 := by
  unfold V
  have h1 : (x.f2.f0 == 2 && decide (x.f2.f1 < 0)) = false := by
    by_cases c : x.f2.f0 = 2
    · rw [decide_eq_false (by have := (hx.1 c).1; omega), Bool.and_false]
    · rw [show (x.f2.f0 == 2) = false by simpa using c]; rfl
  have h2 : (x.f3.f0 == 2 && decide (x.f3.f1 < 0)) = false := by
    by_cases c : x.f3.f0 = 2
    · rw [decide_eq_false (by have := (hx.2.1 c).1; omega), Bool.and_false]
    · rw [show (x.f3.f0 == 2) = false by simpa using c]; rfl
  rw [h1, h2, Bool.and_false]; rfl
theorem td_repl (n : Nat) (a : Int) : td (List.replicate n false) a = false := by
  unfold td rdOf
  rw [List.getD_eq_getElem?_getD, List.getElem?_replicate]
  split <;> rfl
theorem V_n (n : Nat) (x : S43) (hx : inR n x) : V x n = U (List.replicate n false) x := by
  unfold V U
  rw [td_repl, td_repl]
  have h1 : (x.f2.f0 == 2 && decide (x.f2.f1 < (n : Int))) = (x.f2.f0 == 2 && !false) := by
    by_cases c : x.f2.f0 = 2
    · rw [decide_eq_true (hx.1 c).2]; simp
    · rw [show (x.f2.f0 == 2) = false by simpa using c]; rfl
  have h2 : (twB x.f0 && (x.f3.f0 == 2 && decide (x.f3.f1 < (n : Int)))) = (x.f3.f0 == 2 && !false) := by
    by_cases c : x.f3.f0 = 2
    · have htw : twB x.f0 = true := by
        cases h : twB x.f0 with
        | true => rfl
        | false => have := hx.2.2 h; omega
      rw [htw, decide_eq_true (hx.2.1 c).2]; simp
    · rw [show (x.f3.f0 == 2) = false by simpa using c]; simp
  rw [h1, h2]
theorem V_rng (x : S43) (i : Int) : 0 ≤ V x i ∧ V x i ≤ 2 := by
  have h1 := b1_01 (x.f2.f0 == 2 && decide (x.f2.f1 < i))
  have h2 := b1_01 (twB x.f0 && (x.f3.f0 == 2 && decide (x.f3.f1 < i)))
  unfold V; omega
theorem V_next (x : S43) (at_ : Nat) (u : Int) (hv : u = V x at_) : wrap64 (u + wt x at_) = V x ((at_ + 1 : Nat) : Int) := by
  have hc : ((at_ + 1 : Nat) : Int) = (at_ : Int) + 1 := by omega
  have hb := V_rng x ((at_ : Int) + 1)
  rw [hc, hv]
  rw [V_succ] at hb ⊢
  generalize V x at_ + wt x at_ = z at hb
  exact wrap_id (by omega) (by omega)
theorem l1_end (l : List S43) (m : List S66) (x : S43) (i : Nat) (h8 : l.length ≤ 8) (hi : i < l.length) (k : Nat) (W : List Int) (n1 : Int) (hn : wrap64 ((i : Int) + 1) = n1) :
    impl_Net_order.l1 (k + 1) W (i : Int) l (l.length : Int) (i : Int) (l.length : Int) (l.length : Int) l m x.f0 x.f1 x.f2.f0 x.f2.f1 x.f2.f2.f0 x.f2.f2.f1 x.f2.f3 x.f3.f0 x.f3.f1 x.f3.f2.f0 x.f3.f2.f1 x.f3.f3 = impl_Net_order.l0 k W l (l.length : Int) n1 l m := by
  rw [impl_Net_order.l1, if_neg (by omega), hn]
theorem l1_step (l : List S43) (m : List S66) (x : S43) (i at_ k : Nat) (W : List Int) (h8 : l.length ≤ 8) (hi : i < l.length) (ha : at_ < l.length) (hW : W.length = l.length) (v : Int) (hv : wrap64 (rd W (i : Int) + wt x at_) = v) (n1 : Int) (hn : wrap64 ((at_ : Int) + 1) = n1) :
    impl_Net_order.l1 (k + 4) W (i : Int) l (l.length : Int) (i : Int) (l.length : Int) (at_ : Int) l m x.f0 x.f1 x.f2.f0 x.f2.f1 x.f2.f2.f0 x.f2.f2.f1 x.f2.f3 x.f3.f0 x.f3.f1 x.f3.f2.f0 x.f3.f2.f1 x.f3.f3 = impl_Net_order.l1 (k + 3) (W.set i v) (i : Int) l (l.length : Int) (i : Int) (l.length : Int) n1 l m x.f0 x.f1 x.f2.f0 x.f2.f1 x.f2.f2.f0 x.f2.f2.f1 x.f2.f3 x.f3.f0 x.f3.f1 x.f3.f2.f0 x.f3.f2.f1 x.f3.f3 := by
  have hw := waitsS k x at_
  rw [impl_Net_order.l1, if_pos (by omega), if_pos (by omega), if_pos (by omega), hw, Option.bind_some, hv, hn, Int.toNat_natCast]
theorem l1_run (l : List S43) (m : List S66) (x : S43) (i : Nat) (h8 : l.length ≤ 8) (hi : i < l.length) (d : Nat) : ∀ (at_ k : Nat) (W : List Int), at_ + d = l.length → W.length = l.length → rd W (i : Int) = V x at_ →
    impl_Net_order.l1 (k + d + 4) W (i : Int) l (l.length : Int) (i : Int) (l.length : Int) (at_ : Int) l m x.f0 x.f1 x.f2.f0 x.f2.f1 x.f2.f2.f0 x.f2.f2.f1 x.f2.f3 x.f3.f0 x.f3.f1 x.f3.f2.f0 x.f3.f2.f1 x.f3.f3 = impl_Net_order.l0 (k + 3) (if d = 0 then W else W.set i (V x l.length)) l (l.length : Int) ((i + 1 : Nat) : Int) l m := by
  induction d with
  | zero =>
    intro at_ k W ha hW hv
    obtain rfl : at_ = l.length := by omega
    have hw2 : wrap64 ((i : Int) + 1) = ((i + 1 : Nat) : Int) := wrap_id (by omega) (by omega)
    have hs := l1_end l m x i h8 hi (k + 3) W _ hw2
    have e1 : k + 0 + 4 = k + 3 + 1 := by omega
    rw [if_pos rfl, e1]
    exact hs
  | succ d ih =>
    intro at_ k W ha hW hv
    have ha1 : at_ < l.length := by omega
    have ha2 : at_ + 1 + d = l.length := by omega
    have hiW : i < W.length := by omega
    have hd0 : ¬ d + 1 = 0 := by omega
    have hw2 : wrap64 ((at_ : Int) + 1) = ((at_ + 1 : Nat) : Int) := wrap_id (by omega) (by omega)
    have e1 : k + (d + 1) + 4 = k + d + 1 + 4 := by omega
    have e2 : k + d + 4 = k + d + 1 + 3 := by omega
    have e3 : d = 0 → at_ + 1 = l.length := by omega
    have hw1 := V_next x at_ _ hv
    have hs := l1_step l m x i at_ (k + d + 1) W h8 hi ha1 hW _ hw1 _ hw2
    have hrd : rd (W.set i (V x ((at_ + 1 : Nat) : Int))) (i : Int) = V x ((at_ + 1 : Nat) : Int) := by rw [rd_set _ _ _ _ hiW, if_pos rfl]
    have hrec := ih (at_ + 1) k (W.set i (V x ((at_ + 1 : Nat) : Int))) ha2 (by rw [List.length_set]; exact hW) hrd
    have hfin : (if d = 0 then W.set i (V x ((at_ + 1 : Nat) : Int)) else (W.set i (V x ((at_ + 1 : Nat) : Int))).set i (V x l.length)) = W.set i (V x l.length) := by
      by_cases hd : d = 0
      · rw [if_pos hd, e3 hd]
      · rw [if_neg hd, List.set_set]
    rw [hfin] at hrec
    rw [if_neg hd0, ← hrec, e1, e2]
    exact hs
theorem l0_run (l : List S43) (m : List S66) (hw : okW l) (h8 : l.length ≤ 8) : ∀ (d i k : Nat) (W : List Int), i + d = l.length → W.length = l.length → (∀ j : Nat, j < i → rd W (j : Int) = V (rd_T43 l (j : Int)) l.length) → (∀ j : Nat, i ≤ j → j < l.length → rd W (j : Int) = 0) →
    ∃ W', W'.length = l.length ∧ (∀ j : Nat, j < l.length → rd W' (j : Int) = V (rd_T43 l (j : Int)) l.length) ∧ impl_Net_order.l0 (k + d * (l.length + 2) + 3) W l (l.length : Int) (i : Int) l m = impl_Net_order.l2 (k + 2) W' [] l m
  | 0, i, k, W, hi, hW, h1, h2 => ⟨W, hW, fun j hj => h1 j (by omega), by
    rw [show k + 0 * (l.length + 2) + 3 = (k + 2) + 1 by omega, impl_Net_order.l0, if_neg (by omega)]⟩
  | d + 1, i, k, W, hi, hW, h1, h2 => by
    obtain ⟨W', hl, hv, he⟩ := l0_run l m hw h8 d (i + 1) k (W.set i (V (rd_T43 l (i : Int)) l.length)) (by omega) (by simpa using hW)
      (fun j hj => by
        rw [rd_set _ _ _ _ (by omega)]
        by_cases e : j = i
        · subst e; rw [if_pos rfl]
        · rw [if_neg e]; exact h1 j (by omega))
      (fun j hj hj2 => by rw [rd_set _ _ _ _ (by omega), if_neg (by omega)]; exact h2 j (by omega) hj2)
    refine ⟨W', hl, hv, ?_⟩
    have h := l1_run l m (rd_T43 l (i : Int)) i h8 (by omega) l.length 0 (k + d * (l.length + 2)) W (by omega) hW (by rw [h2 i (by omega) (by omega)]; exact (V_zero l.length _ (hw i (by omega))).symm)
    rw [if_neg (by omega)] at h
    have e : k + (d + 1) * (l.length + 2) + 3 = (k + d * (l.length + 2) + l.length + 4) + 1 := by
      rw [Nat.succ_mul]; omega
    rw [e, impl_Net_order.l0, if_pos (by omega), if_pos (by omega), if_pos (by omega)]
    exact h.trans he
structure Rel (l : List S43) (told : List Bool) (W : List Int) (B : Int) : Prop where
  lt : told.length = l.length
  lw : W.length = l.length
  hi : ∀ j : Nat, j < l.length → td told (j : Int) = true → rd W (j : Int) < 0
  lo : ∀ j : Nat, j < l.length → td told (j : Int) = false → rd W (j : Int) = U told (rd_T43 l (j : Int))
  bd : ∀ j : Nat, j < l.length → -B ≤ rd W (j : Int) ∧ rd W (j : Int) ≤ 2
theorem index_run (l : List S43) (told : List Bool) (W : List Int) (B : Int) (h : Rel l told W B) (h8 : l.length ≤ 8) : ∀ (d i k : Nat), i + d = l.length →
    slices_Index_int_int.l0 (k + d + 1) W 0 (W.length : Int) (i : Int) = some (match pk l told d i with | none => -1 | some j => (j : Int))
  | 0, i, k, hi => by
    have := h.lw
    rw [slices_Index_int_int.l0, if_neg (by omega)]; rfl
  | d + 1, i, k, hi => by
    have := h.lw
    rw [show k + (d + 1) + 1 = (k + d + 1) + 1 by omega, slices_Index_int_int.l0, if_pos (by omega), if_pos (by omega), if_pos (by omega), pk]
    have hrec := index_run l told W B h h8 d (i + 1) k (by omega)
    by_cases c : td told (i : Int) = false ∧ wq told (rd_T43 l (i : Int)) = false
    · have : (0 : Int) = rd W (i : Int) := by rw [h.lo i (by omega) c.1]; exact ((wq_U told _).2 c.2).symm
      rw [if_pos this, if_pos c]
    · have : ¬ (0 : Int) = rd W (i : Int) := by
        intro e
        cases ht : td told (i : Int) with
        | true => have := h.hi i (by omega) ht; omega
        | false => exact c ⟨ht, (wq_U told _).1 (by rw [← h.lo i (by omega) ht]; exact e.symm)⟩
      rw [if_neg this, if_neg c, wrap_id (by omega) (by omega)]
      exact hrec
theorem l3_step (l : List S43) (m : List S66) (i at_ k : Nat) (W out : List Int) (h8 : l.length ≤ 8) (hi : i < l.length) (hW : W.length = l.length) (v : Int) (hv : wrap64 (rd W (i : Int) - wt (rd_T43 l (i : Int)) at_) = v) (n1 : Int) (hn : wrap64 ((i : Int) + 1) = n1) :
    impl_Net_order.l3 (k + 4) W out (at_ : Int) l (l.length : Int) (i : Int) l m = impl_Net_order.l3 (k + 3) (W.set i v) out (at_ : Int) l (l.length : Int) n1 l m := by
  have hw := waitsS k (rd_T43 l (i : Int)) at_
  rw [impl_Net_order.l3, if_pos (by omega), if_pos (by omega), if_pos (by omega), if_pos (by omega), hw, Option.bind_some, hv, hn, Int.toNat_natCast]
theorem l3_end (l : List S43) (m : List S66) (at_ k : Nat) (W out : List Int) :
    impl_Net_order.l3 (k + 1) W out (at_ : Int) l (l.length : Int) (l.length : Int) l m = impl_Net_order.l2 k W out l m := by
  rw [impl_Net_order.l3, if_neg (by omega)]
theorem l3_run (l : List S43) (m : List S66) (h8 : l.length ≤ 8) (B : Int) (hB : 0 ≤ B ∧ B ≤ 1000) (out : List Int) (at_ : Nat) (d : Nat) : ∀ (i k : Nat) (W : List Int), i + d = l.length → W.length = l.length → (∀ j : Nat, i ≤ j → j < l.length → -B ≤ rd W (j : Int) ∧ rd W (j : Int) ≤ 2) →
    ∃ W', W'.length = l.length ∧ (∀ j : Nat, j < l.length → rd W' (j : Int) = if j < i then rd W (j : Int) else rd W (j : Int) - wt (rd_T43 l (j : Int)) at_) ∧ impl_Net_order.l3 (k + d + 4) W out (at_ : Int) l (l.length : Int) (i : Int) l m = impl_Net_order.l2 (k + 3) W' out l m := by
  induction d with
  | zero =>
    intro i k W hi hW hb
    obtain rfl : i = l.length := by omega
    refine ⟨W, hW, fun j hj => by rw [if_pos (by omega)], ?_⟩
    exact l3_end l m at_ (k + 3) W out
  | succ d ih =>
    intro i k W hi hW hb
    have r2 := wt_rng (rd_T43 l (i : Int)) at_
    have hbi := hb i (by omega) (by omega)
    obtain ⟨W', hl, hv, he⟩ := ih (i + 1) k (W.set i (rd W (i : Int) - wt (rd_T43 l (i : Int)) at_)) (by omega) (by simpa using hW)
      (fun j hj hj2 => by rw [rd_set _ _ _ _ (by omega), if_neg (by omega)]; exact hb j (by omega) hj2)
    refine ⟨W', hl, fun j hj => ?_, ?_⟩
    · rw [hv j hj, rd_set _ _ _ _ (by omega)]
      by_cases e : j = i
      · subst e; rw [if_pos (by omega), if_pos rfl, if_neg (by omega)]
      · rw [if_neg e]
        by_cases h1 : j < i
        · rw [if_pos h1, if_pos (by omega)]
        · rw [if_neg h1, if_neg (by omega)]
    · have hw1 : wrap64 (rd W (i : Int) - wt (rd_T43 l (i : Int)) at_) = rd W (i : Int) - wt (rd_T43 l (i : Int)) at_ := wrap_id (by omega) (by omega)
      have hw2 : wrap64 ((i : Int) + 1) = ((i + 1 : Nat) : Int) := wrap_id (by omega) (by omega)
      have hs := l3_step l m i at_ (k + d + 1) W out h8 (by omega) hW _ hw1 _ hw2
      have e1 : k + (d + 1) + 4 = k + d + 1 + 4 := by omega
      have e2 : k + d + 4 = k + d + 1 + 3 := by omega
      rw [e1]
      rw [e2] at he
      rw [← he]
      exact hs
def nF : List Bool → Nat
  | [] => 0
  | b :: bs => (if b = true then 0 else 1) + nF bs
theorem nF_set : ∀ (told : List Bool) (j : Nat), j < told.length → td told (j : Int) = false → nF (told.set j true) + 1 = nF told
  | [], j, h, _ => by simp at h
  | b :: bs, 0, h, ht => by
    have : b = false := ht
    subst this
    simp [nF]; omega
  | b :: bs, j + 1, h, ht => by
    have h2 : td bs (j : Int) = false := ht
    have := nF_set bs j (by simpa using h) h2
    simp only [List.set_cons_succ, nF]
    omega
theorem nF_repl (n : Nat) : nF (List.replicate n false) = n := by
  induction n with
  | zero => rfl
  | succ n ih => rw [List.replicate_succ, nF, ih]; simp; omega
theorem l2_run (l : List S43) (m : List S66) (hw : okW l) (h8 : l.length ≤ 8) : ∀ (f k : Nat) (told : List Bool) (W out : List Int) (B : Int), nF told ≤ f → Rel l told W B → 1 ≤ B → B + 3 * f ≤ 900 → out.length + f ≤ 100 → 30 * f + 30 ≤ k →
    impl_Net_order.l2 k W out l m = some (ordR l f told out)
  | f, k, told, W, out, B, hn, hR, hB0, hB, ho, hk => by
    obtain ⟨k, rfl⟩ : ∃ q, k = (q + l.length + 8) + 1 := ⟨k - l.length - 9, by omega⟩
    have hlw := hR.lw
    have hidx : slices_Index_int_int.f (k + l.length + 8) W 0 = some (match pk l told l.length 0 with | none => -1 | some j => (j : Int)) := by
      unfold slices_Index_int_int.f
      have := index_run l told W B hR h8 l.length 0 (k + 7) (by omega)
      rw [show k + 7 + l.length + 1 = k + l.length + 8 by omega] at this
      exact this
    rw [impl_Net_order.l2, hidx]
    simp only [Option.bind_some]
    cases hp : pk l told l.length 0 with
    | none =>
      rw [if_pos (by decide)]
      cases f with
      | zero => rfl
      | succ f => rw [ordR, hp]
    | some j =>
      dsimp only
      obtain ⟨_, h2, h3⟩ := pk_some l told _ _ _ hp
      have hj : j < l.length := by omega
      have hjt : j < told.length := by rw [hR.lt]; exact hj
      have hns := nF_set told j hjt h3
      obtain ⟨f, rfl⟩ : ∃ q, f = q + 1 := ⟨f - 1, by omega⟩
      obtain ⟨W', hl', hv', he'⟩ := l3_run l m h8 B ⟨by omega, by omega⟩ (out ++ [(j : Int)]) j l.length 0 (k + 4) (W.set j (-1)) (by omega) (by simpa using hlw)
        (fun i _ hi => by
          rw [rd_set _ _ _ _ (by omega)]
          have := hR.bd i hi
          by_cases e : i = j
          · rw [if_pos e]; omega
          · rw [if_neg e]; exact this)
      rw [if_neg (by omega), if_pos (by omega), if_pos (by omega), if_pos (by omega), Int.toNat_natCast]
      rw [show k + 4 + l.length + 4 = k + l.length + 8 by omega] at he'
      refine Eq.trans he' ?_
      rw [ordR, hp]
      refine l2_run l m hw h8 f (k + 4 + 3) (told.set j true) W' (out ++ [(j : Int)]) (B + 3) (by omega) ⟨by rw [List.length_set]; exact hR.lt, hl', ?_, ?_, ?_⟩ (by omega) (by omega) (by simp; omega) (by omega)
      · intro i hi ht
        rw [hv' i hi, if_neg (by omega), rd_set _ _ _ _ (by omega)]
        have r2 := wt_rng (rd_T43 l (i : Int)) j
        by_cases e : i = j
        · rw [if_pos e]; omega
        · rw [if_neg e]
          rw [td_set told j _ (by omega) hjt, show ((i : Int) == (j : Int)) = false by simpa using (by omega : ¬ (i : Int) = (j : Int)), Bool.or_false] at ht
          have := hR.hi i hi ht
          omega
      · intro i hi ht
        rw [hv' i hi, if_neg (by omega), rd_set _ _ _ _ (by omega)]
        rw [td_set told j _ (by omega) hjt] at ht
        by_cases e : i = j
        · subst e; simp at ht
        · rw [show ((i : Int) == (j : Int)) = false by simpa using (by omega : ¬ (i : Int) = (j : Int)), Bool.or_false] at ht
          rw [if_neg e, hR.lo i hi ht, U_set l.length told _ j (hw i hi) hjt h3]
      · intro i hi
        rw [hv' i hi, if_neg (by omega), rd_set _ _ _ _ (by omega)]
        have r2 := wt_rng (rd_T43 l (i : Int)) j
        have := hR.bd i hi
        by_cases e : i = j
        · rw [if_pos e]; omega
        · rw [if_neg e]; omega
theorem impl_orderS (l : List S43) (m : List S66) (hw : okW l) (h8 : l.length ≤ 8) (k : Nat) (hk : 900 ≤ k) : impl_Net_order.f k l m = some (orD l) := by
  unfold impl_Net_order.f orD
  rw [if_pos (by omega), if_pos (by omega), Int.toNat_natCast]
  have hz : ∀ j : Nat, rd (List.replicate l.length (0 : Int)) (j : Int) = 0 := by
    intro j
    unfold rd
    rw [Int.toNat_natCast, List.getD_eq_getElem?_getD, List.getElem?_replicate]
    split <;> rfl
  have hm : l.length * (l.length + 2) ≤ 80 := by
    have h1 : l.length * (l.length + 2) ≤ 8 * 10 := Nat.mul_le_mul h8 (by omega)
    omega
  obtain ⟨q, rfl⟩ : ∃ q, k = q + l.length * (l.length + 2) + 3 := ⟨k - l.length * (l.length + 2) - 3, by omega⟩
  obtain ⟨W', hl', hv', he'⟩ := l0_run l m hw h8 l.length 0 q (List.replicate l.length 0) (by omega) (by simp) (fun j hj => by omega) (fun j _ _ => hz j)
  refine Eq.trans he' ?_
  refine l2_run l m hw h8 l.length (q + 2) (List.replicate l.length false) W' [] 1 (by rw [nF_repl]; exact Nat.le_refl _) ⟨by simp, hl', ?_, ?_, ?_⟩ (by omega) (by omega) (by simp; omega) (by omega)
  · intro j hj ht
    rw [td_repl] at ht; cases ht
  · intro j hj ht
    rw [hv' j hj]; exact V_n l.length _ (hw j hj)
  · intro j hj
    rw [hv' j hj]
    have := V_rng (rd_T43 l (j : Int)) l.length
    omega
end Go.Proofs.YtphblfmjdiigkaaGreatDoor.Hj7
