/- What the reference's and the program's order of wires compute, in plain Lean: they are the same for wires that are right. No condition beyond the fuel of the printed functions. -/
import Derived.Test.YtphblfmjdiigkaaGreatDoorTFnExactNetTextHFnExactNetTextx6
import Derived.Test.YtphblfmjdiigkaaGreatDoorTFnExactNetTextHFnExactNetTextx11
import Derived.Test.YtphblfmjdiigkaaGreatDoorTFnExactNetTextHj5
import Derived.Test.YtphblfmjdiigkaaGreatDoorTFnExactNetTextHj4
namespace Go.Proofs.YtphblfmjdiigkaaGreatDoor.Hj6
open Go.RowKit Go.Proofs.YtphblfmjdiigkaaGreatDoor.Hb Go.Proofs.YtphblfmjdiigkaaGreatDoor.Hj1 Go.Proofs.YtphblfmjdiigkaaGreatDoor.Hj2 Go.Proofs.YtphblfmjdiigkaaGreatDoor.Hj3 Go.Proofs.YtphblfmjdiigkaaGreatDoor.Hj4 Go.Proofs.YtphblfmjdiigkaaGreatDoor.Hj5 Go.Proofs.YtphblfmjdiigkaaGreatDoor.HFnExactNetText Go.Proofs.YtphblfmjdiigkaaGreatDoorW.PrintWords Go.Proofs.YtphblfmjdiigkaaGreatDoorW.PrintLast Go.Proofs.YtphblfmjdiigkaaGreatDoorW.PrintMore
set_option linter.unusedVariables false
set_option linter.unusedSimpArgs false
theorem wrap_id {x : Int} (h1 : -9223372036854775808 ≤ x) (h2 : x ≤ 9223372036854775807) : wrap64 x = x := by
  unfold wrap64; omega
def b1 (b : Bool) : Int := if b = true then 1 else 0
theorem b1_01 (b : Bool) : 0 ≤ b1 b ∧ b1 b ≤ 1 := by unfold b1; split <;> omega
/-- How many inputs of a wire wait for wire number a. -/
def wt (x : S43) (a : Int) : Int := b1 (x.f2.f0 == 2 && x.f2.f1 == a) + b1 (twB x.f0 && (x.f3.f0 == 2 && x.f3.f1 == a))
theorem wt_rng (x : S43) (a : Int) : 0 ≤ wt x a ∧ wt x a ≤ 2 := by
  have h1 := b1_01 (x.f2.f0 == 2 && x.f2.f1 == a)
  have h2 := b1_01 (twB x.f0 && (x.f3.f0 == 2 && x.f3.f1 == a))
  unfold wt; omega
theorem waits_end (k : Nat) (a s : Int) (ls : List S41) : impl_Wire_waits.l0 (k + 1) a s ls (ls.length : Int) (ls.length : Int) = some s := by
  rw [impl_Wire_waits.l0, if_neg (by omega)]
theorem waits_step (k : Nat) (a s : Int) (ls : List S41) (i : Nat) (h : i < ls.length) (hl : ls.length ≤ 2) (hs : 0 ≤ s ∧ s ≤ 2) : impl_Wire_waits.l0 (k + 1) a s ls (ls.length : Int) (i : Int) = impl_Wire_waits.l0 k a (s + b1 (ls[i].f0 == 2 && ls[i].f1 == a)) ls (ls.length : Int) ((i + 1 : Nat) : Int) := by
  rw [impl_Wire_waits.l0, if_pos (by omega), if_pos (by omega), if_pos (by omega), rd46 ls i h, wrap_id (x := (i : Int) + 1) (by omega) (by omega), wrap_id (x := s + 1) (by omega) (by omega)]
  by_cases c1 : ls[i].f0 = 2
  · rw [if_pos c1]
    by_cases c2 : ls[i].f1 = a
    · rw [if_pos c2, c1, c2]; simp [b1]
    · rw [if_neg c2, c1, show (ls[i].f1 == a) = false by simpa using c2]; simp [b1]
  · rw [if_neg c1, show (ls[i].f0 == 2) = false by simpa using c1]; simp [b1]
theorem waitsS (k : Nat) (x : S43) (a : Int) : impl_Wire_waits.f (k + 3) x.f0 x.f1 x.f2.f0 x.f2.f1 x.f2.f2.f0 x.f2.f2.f1 x.f2.f3 x.f3.f0 x.f3.f1 x.f3.f2.f0 x.f3.f2.f1 x.f3.f3 a = some (wt x a) := by
  unfold impl_Wire_waits.f
  rw [insS]
  simp only [Option.bind_some]
  unfold insL wt
  have r1 := b1_01 (x.f2.f0 == 2 && x.f2.f1 == a)
  cases twB x.f0 with
  | true =>
    rw [if_pos rfl]
    have s1 := waits_step (k + 2) a 0 [x.f2, x.f3] 0 (by simp) (by simp) (by omega)
    have s2 := waits_step (k + 1) a (0 + b1 (x.f2.f0 == 2 && x.f2.f1 == a)) [x.f2, x.f3] 1 (by simp) (by simp) (by omega)
    have s3 := waits_end k a (0 + b1 (x.f2.f0 == 2 && x.f2.f1 == a) + b1 (x.f3.f0 == 2 && x.f3.f1 == a)) [x.f2, x.f3]
    have e : impl_Wire_waits.l0 (k + 3) a 0 [x.f2, x.f3] ([x.f2, x.f3].length : Int) 0 = some (0 + b1 (x.f2.f0 == 2 && x.f2.f1 == a) + b1 (x.f3.f0 == 2 && x.f3.f1 == a)) := s1.trans (s2.trans s3)
    rw [e, Bool.true_and, Int.zero_add]
  | false =>
    rw [if_neg (by simp)]
    have s1 := waits_step (k + 2) a 0 [x.f2] 0 (by simp) (by simp) (by omega)
    have s3 := waits_end (k + 1) a (0 + b1 (x.f2.f0 == 2 && x.f2.f1 == a)) [x.f2]
    have e : impl_Wire_waits.l0 (k + 3) a 0 [x.f2] ([x.f2].length : Int) 0 = some (0 + b1 (x.f2.f0 == 2 && x.f2.f1 == a)) := s1.trans s3
    rw [e, Bool.false_and]; simp [b1]
/-- Whether number a has been told. -/
def td (told : List Bool) (a : Int) : Bool := rdOf false told a
/-- How many inputs of a wire wait for one that is not told. -/
def U (told : List Bool) (x : S43) : Int := b1 (x.f2.f0 == 2 && !(td told x.f2.f1)) + b1 (x.f3.f0 == 2 && !(td told x.f3.f1))
/-- A wire whose waits are in range. -/
def inR (n : Nat) (x : S43) : Prop := (x.f2.f0 = 2 → 0 ≤ x.f2.f1 ∧ x.f2.f1 < n) ∧ (x.f3.f0 = 2 → 0 ≤ x.f3.f1 ∧ x.f3.f1 < n) ∧ (twB x.f0 = false → x.f3.f0 = 0)
theorem sOk_rng {a t c d n : Int} (h : sOk a t c d n = true) (ha : a = 2) : 0 ≤ t ∧ t < n := by
  unfold sOk inB at h
  rw [if_neg (by omega), if_pos (.inl ha)] at h
  simp at h
  omega
theorem inR_of (n : Nat) (x : S43) (h : wOk x n = true) : inR n x := by
  unfold wOk at h
  simp only [Bool.and_eq_true, Bool.not_eq_true'] at h
  obtain ⟨_, h2, h3⟩ := h
  rw [List.any_eq_false] at h3
  have hA : sOkS x.f2 n = true := by
    have := h3 x.f2 (by unfold insL; split <;> simp)
    simpa using this
  refine ⟨fun e => sOk_rng hA e, fun e => ?_, fun e => ?_⟩
  · by_cases ht : twB x.f0 = true
    · have hB : sOkS x.f3 n = true := by
        have := h3 x.f3 (by unfold insL; rw [if_pos ht]; simp)
        simpa using this
      exact sOk_rng hB e
    · exfalso
      rw [show twB x.f0 = false by simpa using ht] at h2
      simp [z46B] at h2
      omega
  · rw [e] at h2
    simp [z46B] at h2
    exact h2.1
theorem td_set (told : List Bool) (i : Nat) (a : Int) (ha : 0 ≤ a) (hi : i < told.length) : td (told.set i true) a = (td told a || a == (i : Int)) := by
  unfold td rdOf
  by_cases e : a = (i : Int)
  · subst e
    rw [Int.toNat_natCast, List.getD_eq_getElem?_getD, List.getElem?_set_self hi]; simp
  · have h2 : i ≠ a.toNat := by omega
    rw [show (a == (i : Int)) = false by simpa using e, Bool.or_false, List.getD_eq_getElem?_getD, List.getD_eq_getElem?_getD, List.getElem?_set_ne h2]
theorem b1_split (p q r : Bool) (hr : p = true → r = true → q = false) : b1 (p && !(q || r)) = b1 (p && !q) - b1 (p && r) := by
  cases p <;> cases q <;> cases r <;> simp [b1] at hr ⊢
theorem U_set (n : Nat) (told : List Bool) (x : S43) (i : Nat) (hx : inR n x) (hi : i < told.length) (ht : td told (i : Int) = false) : U (told.set i true) x = U told x - wt x (i : Int) := by
  unfold U wt
  have e1 : b1 (x.f2.f0 == 2 && !(td (told.set i true) x.f2.f1)) = b1 (x.f2.f0 == 2 && !(td told x.f2.f1)) - b1 (x.f2.f0 == 2 && x.f2.f1 == (i : Int)) := by
    by_cases c : x.f2.f0 = 2
    · rw [td_set told i _ (hx.1 c).1 hi]
      exact b1_split _ _ _ (fun _ h => by rw [show x.f2.f1 = (i : Int) by simpa using h]; exact ht)
    · rw [show (x.f2.f0 == 2) = false by simpa using c]; simp [b1]
  have e2 : b1 (x.f3.f0 == 2 && !(td (told.set i true) x.f3.f1)) = b1 (x.f3.f0 == 2 && !(td told x.f3.f1)) - b1 (twB x.f0 && (x.f3.f0 == 2 && x.f3.f1 == (i : Int))) := by
    by_cases c : x.f3.f0 = 2
    · have htw : twB x.f0 = true := by
        cases h : twB x.f0 with
        | true => rfl
        | false => have := hx.2.2 h; omega
      rw [htw, Bool.true_and, td_set told i _ (hx.2.1 c).1 hi]
      exact b1_split _ _ _ (fun _ h => by rw [show x.f3.f1 = (i : Int) by simpa using h]; exact ht)
    · rw [show (x.f3.f0 == 2) = false by simpa using c]; simp [b1]
  rw [e1, e2]; omega
def wq (told : List Bool) (x : S43) : Bool := (x.f2.f0 == 2 && !(td told x.f2.f1)) || (x.f3.f0 == 2 && !(td told x.f3.f1))
theorem wq_U (told : List Bool) (x : S43) : (U told x = 0) ↔ wq told x = false := by
  unfold U wq
  cases (x.f2.f0 == 2 && !(td told x.f2.f1)) <;> cases (x.f3.f0 == 2 && !(td told x.f3.f1)) <;> simp [b1]
theorem l7WaitsS (x : S43) (told : List Bool) (hx : inR told.length x) : spec_l7Waits.f x.f0 x.f1 x.f2.f0 x.f2.f1 x.f2.f2.f0 x.f2.f2.f1 x.f2.f3 x.f3.f0 x.f3.f1 x.f3.f2.f0 x.f3.f2.f1 x.f3.f3 told = some (wq told x) := by
  unfold spec_l7Waits.f wq td
  by_cases c1 : x.f2.f0 = 2
  · obtain ⟨h1, h2⟩ := hx.1 c1
    rw [if_pos c1, if_pos h1, if_pos h2, show (x.f2.f0 == 2) = true by simpa using c1]
    cases hq : rdOf false told x.f2.f1
    · rfl
    · rw [if_pos rfl]
      by_cases c2 : x.f3.f0 = 2
      · obtain ⟨h3, h4⟩ := hx.2.1 c2
        rw [if_pos c2, if_pos h3, if_pos h4, show (x.f3.f0 == 2) = true by simpa using c2]; simp
      · rw [if_neg c2, show (x.f3.f0 == 2) = false by simpa using c2]; simp
  · rw [if_neg c1, show (x.f2.f0 == 2) = false by simpa using c1]
    by_cases c2 : x.f3.f0 = 2
    · obtain ⟨h3, h4⟩ := hx.2.1 c2
      rw [if_pos c2, if_pos h3, if_pos h4, show (x.f3.f0 == 2) = true by simpa using c2]; simp
    · rw [if_neg c2, show (x.f3.f0 == 2) = false by simpa using c2]; simp
/-- The first wire that can be told, from i on. -/
def pk (l : List S43) (told : List Bool) : Nat → Nat → Option Nat
  | 0, _ => none
  | d + 1, i => if td told (i : Int) = false ∧ wq told (rd_T43 l (i : Int)) = false then some i else pk l told d (i + 1)
def ordR (l : List S43) : Nat → List Bool → List Int → List Int
  | 0, _, out => out
  | f + 1, told, out => match pk l told l.length 0 with
    | none => out
    | some i => ordR l f (told.set i true) (out ++ [(i : Int)])
theorem pk_some (l : List S43) (told : List Bool) : ∀ (d i j : Nat), pk l told d i = some j → i ≤ j ∧ j < i + d ∧ td told (j : Int) = false
  | 0, i, j, h => by cases h
  | d + 1, i, j, h => by
    rw [pk] at h
    by_cases c : td told (i : Int) = false ∧ wq told (rd_T43 l (i : Int)) = false
    · rw [if_pos c] at h
      obtain rfl := Option.some.inj h
      exact ⟨by omega, by omega, c.1⟩
    · rw [if_neg c] at h
      obtain ⟨h1, h2, h3⟩ := pk_some l told d (i + 1) j h
      exact ⟨by omega, by omega, h3⟩
def okW (l : List S43) : Prop := ∀ i, i < l.length → inR l.length (rd_T43 l (i : Int))
theorem spec_in (l : List S43) (told : List Bool) (out : List Int) (r : Int) (hw : okW l) (ht : told.length = l.length) (h8 : l.length ≤ 8) (ho : out.length ≤ 100) (hr : 0 ≤ r ∧ r ≤ 8) : ∀ (d i k : Nat), i + d = l.length →
    spec_l7Order.l1 (k + 2 * d + 3) l told out r (-1) (i : Int) = match pk l told d i with
      | none => spec_l7Order.l0 (k + 1) l told out (r + 1)
      | some j => spec_l7Order.l0 (k + 2 * (i + d - j) - 1) l (told.set j true) (out ++ [(j : Int)]) (r + 1)
  | 0, i, k, hi => by
    rw [show k + 2 * 0 + 3 = (k + 2) + 1 by omega, spec_l7Order.l1, if_neg (by omega), spec_l7Order.j2, if_neg (by simp), if_neg (by omega), wrap_id (by omega) (by omega)]
    rfl
  | d + 1, i, k, hi => by
    have hrec := spec_in l told out r hw ht h8 ho hr d (i + 1) k (by omega)
    rw [show k + 2 * (d + 1) + 3 = (k + 2 * d + 4) + 1 by omega, spec_l7Order.l1, if_pos (by omega), show decide ((-1 : Int) < 0) = true from rfl, spec_l7Order.j2, if_pos rfl, if_pos (by omega), if_pos (by omega), wrap_id (x := (i : Int) + 1) (by omega) (by omega), pk]
    have hii : ((i : Int) + 1) = ((i + 1 : Nat) : Int) := rfl
    cases hq : td told (i : Int) with
    | true =>
      rw [if_pos (show rdOf false told (i : Int) = true from hq), if_neg (by simp), hii, hrec]
      have e : i + 1 + d = i + (d + 1) := by omega
      rw [e]
    | false =>
      rw [if_neg (by rw [show rdOf false told (i : Int) = false from hq]; simp), if_pos (by omega), l7WaitsS _ told (by rw [ht]; exact hw i (by omega))]
      simp only [Option.bind_some]
      cases hz : wq told (rd_T43 l (i : Int)) with
      | true =>
        rw [if_pos rfl, if_neg (by simp), hii, hrec]
        have e : i + 1 + d = i + (d + 1) := by omega
        rw [e]
      | false =>
        rw [if_neg (by simp), if_pos (by simp), hii]
        have hex : ∀ (q : Nat) (z : Int), 0 ≤ z → spec_l7Order.l1 (q + 2) l told out r (i : Int) z = spec_l7Order.l0 q l (told.set i true) (out ++ [(i : Int)]) (r + 1) := by
          intro q z hz0
          rw [spec_l7Order.l1]
          have hd : decide ((i : Int) < 0) = false := decide_eq_false (by omega)
          have hj : spec_l7Order.j2 (q + 1) l told out r (i : Int) z false = spec_l7Order.l0 q l (told.set i true) (out ++ [(i : Int)]) (r + 1) := by
            rw [spec_l7Order.j2, if_neg (by simp), if_pos (by omega), if_pos (by omega), if_pos (by omega), if_pos (by omega), wrap_id (by omega) (by omega), Int.toNat_natCast]
          rw [hd]
          split <;> exact hj
        rw [show k + 2 * d + 3 = (k + 2 * d + 1) + 2 by omega, hex _ _ (by omega)]
        congr 1
        omega
theorem spec_ord (l : List S43) (hw : okW l) (h8 : l.length ≤ 8) : ∀ (f k r : Nat) (told : List Bool) (out : List Int), r + f = l.length → told.length = l.length → out.length + f ≤ 100 → 100 * f + 20 ≤ k →
    spec_l7Order.l0 k l told out (r : Int) = some (ordR l f told out)
  | 0, k, r, told, out, hr, ht, ho, hk => by
    obtain ⟨k, rfl⟩ : ∃ q, k = q + 1 := ⟨k - 1, by omega⟩
    rw [spec_l7Order.l0, if_neg (by omega)]; rfl
  | f + 1, k, r, told, out, hr, ht, ho, hk => by
    obtain ⟨k, rfl⟩ : ∃ q, k = (q + 2 * l.length + 3) + 1 := ⟨k - 2 * l.length - 4, by omega⟩
    rw [spec_l7Order.l0, if_pos (by omega)]
    have h := spec_in l told out (r : Int) hw ht h8 (by omega) (by omega) l.length 0 k (by omega)
    rw [show ((0 : Nat) : Int) = 0 from rfl] at h
    rw [h, ordR]
    have hrr : ((r : Int) + 1) = ((r + 1 : Nat) : Int) := rfl
    cases hp : pk l told l.length 0 with
    | none =>
      show spec_l7Order.l0 (k + 1) l told out ((r : Int) + 1) = some out
      rw [hrr, spec_ord l hw h8 f (k + 1) (r + 1) told out (by omega) ht (by omega) (by omega)]
      cases f with
      | zero => rfl
      | succ f => rw [ordR, hp]
    | some j =>
      obtain ⟨_, h2, _⟩ := pk_some l told _ _ _ hp
      show spec_l7Order.l0 (k + 2 * (0 + l.length - j) - 1) l (told.set j true) (out ++ [(j : Int)]) ((r : Int) + 1) = _
      rw [hrr, spec_ord l hw h8 f _ (r + 1) _ _ (by omega) (by rw [List.length_set]; exact ht) (by simp; omega) (by omega)]
def orD (l : List S43) : List Int := ordR l l.length (List.replicate l.length false) []
theorem spec_orderS (l : List S43) (hw : okW l) (h8 : l.length ≤ 8) (k : Nat) (hk : 900 ≤ k) : spec_l7Order.f k l = some (orD l) := by
  unfold spec_l7Order.f orD
  rw [if_pos (by omega), if_pos (by omega), Int.toNat_natCast]
  have := spec_ord l hw h8 l.length k 0 (List.replicate l.length false) [] (by omega) (by simp) (by simp; omega) (by omega)
  exact this
end Go.Proofs.YtphblfmjdiigkaaGreatDoor.Hj6
