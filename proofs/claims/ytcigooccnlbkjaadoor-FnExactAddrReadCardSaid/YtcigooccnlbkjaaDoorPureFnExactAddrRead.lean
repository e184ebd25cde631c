/- The law FnExactAddrRead returns true for every text. No condition. -/
import Derived.Test.YtcigooccnlbkjaaDoorHFnExactAddrReadx1
namespace Go.Proofs.YtcigooccnlbkjaaDoor.Pure
open Go.RowKit Go.Proofs.YtcigooccnlbkjaaDoor.HFnExactAddrRead Go.Proofs.YtcigooccnlbkjaaDoorW.PrintWords Go.Proofs.YtcigooccnlbkjaaDoorW.PrintLast
theorem tl (p q : UInt8) : (⟨#[p, q]⟩ : ByteArray).toList = [p, q] := by rw [ByteArray.toList_eq]
theorem b0 (p q : UInt8) : bt ⟨#[p, q]⟩ 0 = (p.toNat : Int) := by rfl
theorem b1 (p q : UInt8) : bt ⟨#[p, q]⟩ 1 = (q.toNat : Int) := by rfl
theorem wrap_id {x : Int} (h1 : -9223372036854775808 ≤ x) (h2 : x ≤ 9223372036854775807) : wrap64 x = x := by
  unfold wrap64; omega
theorem t_no (k i : Int) (h : i < 0 ∨ 6 ≤ i) (p q : UInt8) : ¬ (Ha.txt k i).toList = [p, q] := by
  have e : Ha.aOk k i = false := by
    cases hA : Ha.aOk k i with
    | false => rfl
    | true =>
      simp only [Ha.aOk, Bool.and_eq_true, decide_eq_true_eq] at hA
      omega
  unfold Ha.txt
  rw [e, if_neg (by simp), ByteArray.toList_eq]
  simp
def L : Int → UInt8 := fun k => if k = 1 then 105 else if k = 2 then 111 else 118
theorem t_yes (k : Int) (n : Nat) (hk : k = 1 ∨ k = 2 ∨ k = 3) (hn : n < 6) : (Ha.txt k (n : Int)).toList = [L k, UInt8.ofNat (48 + n)] := by
  rw [ByteArray.toList_eq]
  rcases hk with rfl | rfl | rfl <;> rcases (by omega : n = 0 ∨ n = 1 ∨ n = 2 ∨ n = 3 ∨ n = 4 ∨ n = 5) with rfl | rfl | rfl | rfl | rfl | rfl <;> kernel_rfl
theorem j0_true (k : Nat) (a : ByteArray) : spec_AddrRead.j0 (k + 1) a true = some (0, 0, false) := by
  simp only [spec_AddrRead.j0, if_true]
theorem impl_no (a : ByteArray) (p q : UInt8) (ha : a = ⟨#[p, q]⟩) (h : (q.toNat : Int) < 48 ∨ 54 ≤ (q.toNat : Int)) : impl_AddrRead.l0 5 a 1 = some (0, 0, false) := by
  subst ha
  have hq : q.toNat < 256 := q.toNat_lt
  have step : ∀ k (m : Nat), 1 ≤ k → k ≤ 3 → impl_AddrRead.l0 (m + 1) ⟨#[p, q]⟩ k = impl_AddrRead.l0 m ⟨#[p, q]⟩ (k + 1) := by
    intro k m h1 h3
    simp only [impl_AddrRead.l0]
    rw [if_pos h3, if_pos (by show (1 : Int) < 2; omega), b1, wrap_id (x := (q.toNat : Int)) (by omega) (by omega), wrap_id (x := (q.toNat : Int) - 48) (by omega) (by omega), wrap_id (x := k + 1) (by omega) (by omega)]
    simp only [impl_AddrText.f, Option.bind_some]
    rw [tl, if_neg (t_no k _ (by omega) p q)]
  rw [step 1 4 (by omega) (by omega), show (1 : Int) + 1 = 2 from rfl, step 2 3 (by omega) (by omega), show (2 : Int) + 1 = 3 from rfl, step 3 2 (by omega) (by omega)]
  simp only [impl_AddrRead.l0]
  rw [if_neg (by omega)]
theorem impl_yes (a : ByteArray) (p q : UInt8) (n : Nat) (hn : n < 6) (ha : a = ⟨#[p, q]⟩) (h : q.toNat = 48 + n) : impl_AddrRead.l0 5 a 1 = some (if p = 105 then (1, (n : Int), true) else if p = 111 then (2, (n : Int), true) else if p = 118 then (3, (n : Int), true) else (0, 0, false)) := by
  subst ha
  have hq : q = UInt8.ofNat (48 + n) := by rw [← h]; exact (UInt8.ofNat_toNat).symm
  have step : ∀ k (m : Nat), 1 ≤ k → k ≤ 3 → impl_AddrRead.l0 (m + 1) ⟨#[p, q]⟩ k = if p = L k then some (k, (n : Int), true) else impl_AddrRead.l0 m ⟨#[p, q]⟩ (k + 1) := by
    intro k m h1 h3
    simp only [impl_AddrRead.l0]
    rw [if_pos h3, if_pos (by show (1 : Int) < 2; omega), b1, wrap_id (x := (q.toNat : Int)) (by omega) (by omega), wrap_id (x := (q.toNat : Int) - 48) (by omega) (by omega), wrap_id (x := k + 1) (by omega) (by omega)]
    simp only [impl_AddrText.f, Option.bind_some]
    rw [tl, show (q.toNat : Int) - 48 = (n : Int) by omega, t_yes k n (by omega) hn, hq]
    by_cases hp : p = L k
    · rw [if_pos hp, if_pos (by rw [hp])]
    · rw [if_neg hp, if_neg (by intro e; exact hp (List.cons.inj e).1.symm)]
  rw [step 1 4 (by omega) (by omega), show (1 : Int) + 1 = 2 from rfl, step 2 3 (by omega) (by omega), show (2 : Int) + 1 = 3 from rfl, step 3 2 (by omega) (by omega)]
  have e4 : impl_AddrRead.l0 2 ⟨#[p, q]⟩ (3 + 1) = some (0, 0, false) := by
    simp only [impl_AddrRead.l0]
    rw [if_neg (by omega)]
  rw [e4]
  show (if p = 105 then some ((1 : Int), (n : Int), true) else if p = 111 then some (2, (n : Int), true) else if p = 118 then some (3, (n : Int), true) else some (0, 0, false)) = _
  (repeat' split) <;> rfl
theorem u8_iff (p : UInt8) (n : Nat) (hn : n < 256) : (p.toNat : Int) = (n : Int) ↔ p = UInt8.ofNat n := by
  constructor
  · intro h
    have : p.toNat = n := by omega
    rw [← this]; exact (UInt8.ofNat_toNat).symm
  · intro h
    rw [h]; simp; omega
theorem spec_yes (a : ByteArray) (p q : UInt8) (n : Nat) (hn : n < 6) (ha : a = ⟨#[p, q]⟩) (h : q.toNat = 48 + n) : spec_AddrRead.j0 5 a false = some (if p = 105 then (1, (n : Int), true) else if p = 111 then (2, (n : Int), true) else if p = 118 then (3, (n : Int), true) else (0, 0, false)) := by
  subst ha
  simp only [spec_AddrRead.j0]
  rw [if_neg (by simp), if_pos (by show (1 : Int) < 2; omega), if_pos (by show (0 : Int) < 2; omega), b0, b1, wrap_id (x := (q.toNat : Int)) (by omega) (by omega), wrap_id (x := (q.toNat : Int) - 48) (by omega) (by omega), show (q.toNat : Int) - 48 = (n : Int) by omega]
  have e1 : (p.toNat : Int) = 105 ↔ p = 105 := u8_iff p 105 (by omega)
  have e2 : (p.toNat : Int) = 111 ↔ p = 111 := u8_iff p 111 (by omega)
  have e3 : (p.toNat : Int) = 118 ↔ p = 118 := u8_iff p 118 (by omega)
  by_cases h1 : p = 105
  · rw [if_pos (e1.2 h1), if_pos h1]
  rw [if_neg (fun e => h1 (e1.1 e)), if_neg h1]
  by_cases h2 : p = 111
  · rw [if_pos (e2.2 h2), if_pos h2]
  rw [if_neg (fun e => h2 (e2.1 e)), if_neg h2]
  by_cases h3 : p = 118
  · rw [if_pos (e3.2 h3), if_pos h3]
  rw [if_neg (fun e => h3 (e3.1 e)), if_neg h3]
theorem two (a : ByteArray) (h : (a.size : Int) = 2) : ∃ p q, a = ⟨#[p, q]⟩ := by
  obtain ⟨⟨l⟩⟩ := a
  have hl : l.length = 2 := by
    have : (ByteArray.mk ⟨l⟩).size = l.length := rfl
    omega
  match l, hl with
  | [p, q], _ => exact ⟨p, q, rfl⟩
theorem eq_ok (a b : Int) : laws_eqAddr.f a b a b = some true := by
  unfold laws_eqAddr.f; rw [if_pos rfl, if_pos rfl]
theorem fin {s i : Option (Int × Int × Bool)} (x : Int × Int × Bool) (hs : s = some x) (hi : i = some x) : (s.bind fun bt107 => (i.bind fun bt111 => ((laws_eqAddr.f bt111.1 bt111.2.1 bt107.1 bt107.2.1).bind fun t115 => (if t115 = true then (if (bt111.2.2 != bt107.2.2) = true then (some false) else (some true)) else (some false))))) = some true := by
  rw [hs, hi]; simp only [Option.bind_some, eq_ok]; simp
theorem FnExactAddrRead : laws_FnExactAddrRead.Pure := by
  intro a _
  refine ⟨5, ?_⟩
  unfold laws_FnExactAddrRead.f
  by_cases hl : (a.size : Int) > 1048576
  · rw [if_pos hl]
  rw [if_neg hl]
  by_cases h2 : (a.size : Int) = 2
  · obtain ⟨p, q, rfl⟩ := two a h2
    have hq : q.toNat < 256 := q.toNat_lt
    by_cases hy : (q.toNat : Int) < 48 ∨ 54 ≤ (q.toNat : Int)
    · refine fin (0, 0, false) ?_ ?_
      · unfold spec_AddrRead.f
        rw [if_pos h2, if_pos (by show (1 : Int) < 2; omega), b1]
        by_cases h48 : (q.toNat : Int) < 48
        · rw [if_pos h48]; exact j0_true 4 _
        · rw [if_neg h48, wrap_id (x := (q.toNat : Int)) (by omega) (by omega), decide_eq_true (by omega : (q.toNat : Int) ≥ 54)]; exact j0_true 4 _
      · unfold impl_AddrRead.f
        rw [if_pos h2]; exact impl_no _ p q rfl hy
    · have hn : q.toNat - 48 < 6 := by omega
      have hq2 : q.toNat = 48 + (q.toNat - 48) := by omega
      generalize q.toNat - 48 = n at hn hq2
      refine fin _ ?_ (by unfold impl_AddrRead.f; rw [if_pos h2]; exact impl_yes _ p q n hn rfl hq2)
      unfold spec_AddrRead.f
      rw [if_pos h2, if_pos (by show (1 : Int) < 2; omega), b1, if_neg (by omega), wrap_id (x := (q.toNat : Int)) (by omega) (by omega), decide_eq_false (by omega : ¬ (q.toNat : Int) ≥ 54)]
      exact spec_yes _ p q n hn rfl hq2
  · refine fin (0, 0, false) ?_ ?_
    · unfold spec_AddrRead.f
      rw [if_neg h2]; exact j0_true 4 _
    · unfold impl_AddrRead.f
      rw [if_neg h2]
end Go.Proofs.YtcigooccnlbkjaaDoor.Pure
