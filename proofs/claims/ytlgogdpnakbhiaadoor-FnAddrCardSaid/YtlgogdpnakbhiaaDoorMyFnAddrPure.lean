/- The plain laws under the law FnAddr. No condition. -/
import Derived.Test.YtlgogdpnakbhiaaDoorMyFnAddrDraw
import Derived.WalkKit
import Derived.KernelRfl
import Derived.WalkLawsBesides
import Derived.WalkSpells
import Derived.Below
import Derived.Deep.RegionHeld
namespace Go.Proofs.YtlgogdpnakbhiaaDoor.MyFnAddrPure
open Go.RowKit Go.Proofs.YtlgogdpnakbhiaaDoor.HFnAddr Go.Proofs.YtlgogdpnakbhiaaDoor.MyFnAddrDraw Go.Proofs.YtlgogdpnakbhiaaDoorW.PrintWords Go.Proofs.YtlgogdpnakbhiaaDoorW.PrintLast Go.Proofs.YtlgogdpnakbhiaaDoorW.PrintMore
set_option linter.unusedVariables false
set_option linter.unusedSimpArgs false
theorem rdI (l : List Int) (i : Nat) (h : i < l.length) : rd l (i : Int) = l[i] := by
  unfold rd; rw [Int.toNat_natCast, List.getD_eq_getElem?_getD, List.getElem?_eq_getElem h]; rfl
def cutD (n : Int) : Int := mn (mx n (-1000000)) 1000000
theorem cut_some (n : Int) : spec_NumCut.f n = some (cutD n) := by
  unfold spec_NumCut.f spec_l1Min.f spec_l1Max.f cutD mn mx
  (repeat' split) <;> simp only [Option.bind_some] <;> (repeat' split) <;> simp only [Option.some.injEq, Option.bind_some] <;> omega
theorem cut_isN (n : Int) : Hm.isN (cutD n) = true := by
  have e : cutD n = if n < -1000000 then -1000000 else if 1000000 < n then 1000000 else n := by unfold cutD mn mx; (repeat' split) <;> omega
  have e2 : Hm.isN (cutD n) = true ↔ (-1000000 ≤ cutD n ∧ cutD n ≤ 1000000) := by simp [Hm.isN]
  rw [e2, e]
  (repeat' split) <;> constructor <;> omega
theorem cut_same (n : Int) : cutD n = n ↔ Hm.isN n = true := by
  have e : cutD n = if n < -1000000 then -1000000 else if 1000000 < n then 1000000 else n := by unfold cutD mn mx; (repeat' split) <;> omega
  have e2 : Hm.isN n = true ↔ (-1000000 ≤ n ∧ n ≤ 1000000) := by simp [Hm.isN]
  rw [e, e2]
  (repeat' split) <;> constructor <;> intros <;> omega
theorem list_loop (x : List Int) (hx : x.length ≤ 1048576) (d : Nat) : ∀ (k i : Nat), i + d = x.length → d < k → spec_l2List.l0 k x (i : Int) = some (decide (x.length = 6) && (x.drop i).all Hm.isN) ∨ (∃ b, spec_l2List.l0 k x (i : Int) = some false ∧ (x.drop i).all Hm.isN = b ∧ b = false) := by
  induction d with
  | zero =>
    intro k i hi hk
    obtain ⟨k, rfl⟩ : ∃ m, k = m + 1 := ⟨k - 1, by omega⟩
    simp only [spec_l2List.l0]
    rw [if_neg (by omega), List.drop_eq_nil_of_le (by omega)]
    left
    by_cases h : x.length = 6
    · simp [h]
    · have : ((x.length : Int) == 6) = false := by simp; omega
      rw [this]; simp [h]
  | succ d ih =>
    intro k i hi hk
    obtain ⟨k, rfl⟩ : ∃ m, k = m + 1 := ⟨k - 1, by omega⟩
    have hil : i < x.length := by omega
    simp only [spec_l2List.l0]
    rw [if_pos (by omega), if_pos (by omega), rdI x i hil, cut_some]
    simp only [Option.bind_some]
    rw [List.drop_eq_getElem_cons hil, List.all_cons]
    by_cases h : cutD x[i] = x[i]
    · rw [if_pos h, (cut_same _).1 h, Bool.true_and, wrap_id (by omega) (by omega)]
      exact ih k (i + 1) (by omega) (by omega)
    · have hn : Hm.isN x[i] = false := by
        cases hq : Hm.isN x[i] with
        | false => rfl
        | true => exact absurd ((cut_same _).2 hq) h
      rw [if_neg h, hn]; right; exact ⟨false, rfl, by simp, rfl⟩
theorem list_some (x : List Int) (hx : x.length ≤ 1048576) (k : Nat) (hk : x.length < k) : spec_l2List.f k x = some (Hm.okL x) := by
  unfold spec_l2List.f Hm.okL
  rcases list_loop x hx x.length k 0 (by omega) (by omega) with h | ⟨b, h, h2, h3⟩
  · exact h
  · subst h3
    simp only [List.drop_zero] at h2
    rw [h2, Bool.and_false]; exact h
theorem specOk_some (a b c : List Int) (ha : a.length ≤ 1048576) (hb : b.length ≤ 1048576) (hc : c.length ≤ 1048576) (k : Nat) (ka : a.length < k) (kb : b.length < k) (kc : c.length < k) : spec_MemOk.f k a b c = some (Hm.okM a b c) := by
  unfold spec_MemOk.f Hm.okM
  rw [list_some a ha k ka, list_some b hb k kb, list_some c hc k kc]; simp only [Option.bind_some]
  cases Hm.okL a <;> cases Hm.okL b <;> rfl
theorem addrBent_some {l : List Int} (h : Byt l) (k : Nat) (p : Int) (hp : 0 ≤ p) (hp' : p ≤ 1000000) : ∃ j i q, spec_l2AddrBent.f (k + 1) l p = some (j, i, q) ∧ p ≤ q ∧ q ≤ p + 10 := by
  unfold spec_l2AddrBent.f spec_l2Addr.f
  obtain ⟨r0, h0, b0, c0⟩ := pick_some h k p 3 hp (by omega)
  obtain ⟨r1, h1, b1, c1⟩ := pick_some h k (p + 1) 3 (by omega) (by omega)
  obtain ⟨r2, h2, b2, c2⟩ := pick_some h k (p + 1 + 1) 16 (by omega) (by omega)
  obtain ⟨r3, h3, _⟩ := num_some h k (p + 1 + 1 + 1) [0, 4, (-1)] (by simp) (by omega) (by omega)
  obtain ⟨r4, h4, _⟩ := num_some h k (p + 1 + 1 + 1) [(-1), 6, 5] (by simp) (by omega) (by omega)
  rw [h0]; simp only [Option.bind_some]
  rw [h1]; simp only [Option.bind_some]
  rw [h2]; simp only [Option.bind_some]
  rw [h3, h4]; simp only [Option.bind_some]
  (repeat' split) <;> (refine ⟨_, _, _, rfl, ?_, ?_⟩ <;> omega)
theorem tl (p q : UInt8) : (⟨#[p, q]⟩ : ByteArray).toList = [p, q] := by rw [ByteArray.toList_eq]
theorem b0 (p q : UInt8) : bt ⟨#[p, q]⟩ 0 = (p.toNat : Int) := by rfl
theorem b1 (p q : UInt8) : bt ⟨#[p, q]⟩ 1 = (q.toNat : Int) := by rfl
theorem t_no (k i : Int) (h : i < 0 ∨ 6 ≤ i) (p q : UInt8) : ¬ (Ha.txt k i).toList = [p, q] := by
  have e : Ha.aOk k i = false := by
    cases hA : Ha.aOk k i with
    | false => rfl
    | true =>
      simp only [Ha.aOk, Bool.and_eq_true, decide_eq_true_eq] at hA
      omega
  unfold Ha.txt
  rw [e, if_neg (by simp), ByteArray.toList_eq]
  simp
def L : Int → UInt8 := fun k => if k = 1 then 105 else if k = 2 then 111 else 118
theorem t_yes (k : Int) (n : Nat) (hk : k = 1 ∨ k = 2 ∨ k = 3) (hn : n < 6) : (Ha.txt k (n : Int)).toList = [L k, UInt8.ofNat (48 + n)] := by
  rw [ByteArray.toList_eq]
  rcases hk with rfl | rfl | rfl <;> rcases (by omega : n = 0 ∨ n = 1 ∨ n = 2 ∨ n = 3 ∨ n = 4 ∨ n = 5) with rfl | rfl | rfl | rfl | rfl | rfl <;> kernel_rfl
theorem j0_true (k : Nat) (a : ByteArray) : spec_AddrRead.j0 (k + 1) a true = some (0, 0, false) := by
  simp only [spec_AddrRead.j0, if_true]
theorem impl_no (a : ByteArray) (p q : UInt8) (ha : a = ⟨#[p, q]⟩) (h : (q.toNat : Int) < 48 ∨ 54 ≤ (q.toNat : Int)) : impl_AddrRead.l0 5 a 1 = some (0, 0, false) := by
  subst ha
  have hq : q.toNat < 256 := q.toNat_lt
  have step : ∀ k (m : Nat), 1 ≤ k → k ≤ 3 → impl_AddrRead.l0 (m + 1) ⟨#[p, q]⟩ k = impl_AddrRead.l0 m ⟨#[p, q]⟩ (k + 1) := by
    intro k m h1 h3
    simp only [impl_AddrRead.l0]
    rw [if_pos h3, if_pos (by show (1 : Int) < 2; omega), b1, wrap_id (x := (q.toNat : Int)) (by omega) (by omega), wrap_id (x := (q.toNat : Int) - 48) (by omega) (by omega), wrap_id (x := k + 1) (by omega) (by omega)]
    simp only [impl_AddrText.f, Option.bind_some]
    rw [tl, if_neg (t_no k _ (by omega) p q)]
  rw [step 1 4 (by omega) (by omega), show (1 : Int) + 1 = 2 from rfl, step 2 3 (by omega) (by omega), show (2 : Int) + 1 = 3 from rfl, step 3 2 (by omega) (by omega)]
  simp only [impl_AddrRead.l0]
  rw [if_neg (by omega)]
theorem impl_yes (a : ByteArray) (p q : UInt8) (n : Nat) (hn : n < 6) (ha : a = ⟨#[p, q]⟩) (h : q.toNat = 48 + n) : impl_AddrRead.l0 5 a 1 = some (if p = 105 then (1, (n : Int), true) else if p = 111 then (2, (n : Int), true) else if p = 118 then (3, (n : Int), true) else (0, 0, false)) := by
  subst ha
  have hq : q = UInt8.ofNat (48 + n) := by rw [← h]; exact (UInt8.ofNat_toNat).symm
  have step : ∀ k (m : Nat), 1 ≤ k → k ≤ 3 → impl_AddrRead.l0 (m + 1) ⟨#[p, q]⟩ k = if p = L k then some (k, (n : Int), true) else impl_AddrRead.l0 m ⟨#[p, q]⟩ (k + 1) := by
    intro k m h1 h3
    simp only [impl_AddrRead.l0]
    rw [if_pos h3, if_pos (by show (1 : Int) < 2; omega), b1, wrap_id (x := (q.toNat : Int)) (by omega) (by omega), wrap_id (x := (q.toNat : Int) - 48) (by omega) (by omega), wrap_id (x := k + 1) (by omega) (by omega)]
    simp only [impl_AddrText.f, Option.bind_some]
    rw [tl, show (q.toNat : Int) - 48 = (n : Int) by omega, t_yes k n (by omega) hn, hq]
    by_cases hp : p = L k
    · rw [if_pos hp, if_pos (by rw [hp])]
    · rw [if_neg hp, if_neg (by intro e; exact hp (List.cons.inj e).1.symm)]
  rw [step 1 4 (by omega) (by omega), show (1 : Int) + 1 = 2 from rfl, step 2 3 (by omega) (by omega), show (2 : Int) + 1 = 3 from rfl, step 3 2 (by omega) (by omega)]
  have e4 : impl_AddrRead.l0 2 ⟨#[p, q]⟩ (3 + 1) = some (0, 0, false) := by
    simp only [impl_AddrRead.l0]
    rw [if_neg (by omega)]
  rw [e4]
  show (if p = 105 then some ((1 : Int), (n : Int), true) else if p = 111 then some (2, (n : Int), true) else if p = 118 then some (3, (n : Int), true) else some (0, 0, false)) = _
  (repeat' split) <;> rfl
theorem u8_iff (p : UInt8) (n : Nat) (hn : n < 256) : (p.toNat : Int) = (n : Int) ↔ p = UInt8.ofNat n := by
  constructor
  · intro h
    have : p.toNat = n := by omega
    rw [← this]; exact (UInt8.ofNat_toNat).symm
  · intro h
    rw [h]; simp; omega
theorem spec_yes (a : ByteArray) (p q : UInt8) (n : Nat) (hn : n < 6) (ha : a = ⟨#[p, q]⟩) (h : q.toNat = 48 + n) : spec_AddrRead.j0 5 a false = some (if p = 105 then (1, (n : Int), true) else if p = 111 then (2, (n : Int), true) else if p = 118 then (3, (n : Int), true) else (0, 0, false)) := by
  subst ha
  simp only [spec_AddrRead.j0]
  rw [if_neg (by simp), if_pos (by show (1 : Int) < 2; omega), if_pos (by show (0 : Int) < 2; omega), b0, b1, wrap_id (x := (q.toNat : Int)) (by omega) (by omega), wrap_id (x := (q.toNat : Int) - 48) (by omega) (by omega), show (q.toNat : Int) - 48 = (n : Int) by omega]
  have e1 : (p.toNat : Int) = 105 ↔ p = 105 := u8_iff p 105 (by omega)
  have e2 : (p.toNat : Int) = 111 ↔ p = 111 := u8_iff p 111 (by omega)
  have e3 : (p.toNat : Int) = 118 ↔ p = 118 := u8_iff p 118 (by omega)
  by_cases h1 : p = 105
  · rw [if_pos (e1.2 h1), if_pos h1]
  rw [if_neg (fun e => h1 (e1.1 e)), if_neg h1]
  by_cases h2 : p = 111
  · rw [if_pos (e2.2 h2), if_pos h2]
  rw [if_neg (fun e => h2 (e2.1 e)), if_neg h2]
  by_cases h3 : p = 118
  · rw [if_pos (e3.2 h3), if_pos h3]
  rw [if_neg (fun e => h3 (e3.1 e)), if_neg h3]
theorem two (a : ByteArray) (h : (a.size : Int) = 2) : ∃ p q, a = ⟨#[p, q]⟩ := by
  obtain ⟨⟨l⟩⟩ := a
  have hl : l.length = 2 := by
    have : (ByteArray.mk ⟨l⟩).size = l.length := rfl
    omega
  match l, hl with
  | [p, q], _ => exact ⟨p, q, rfl⟩
theorem addr_some (k i : Int) : spec_AddrOk.f k i = some (Ha.aOk k i) := by
  unfold spec_AddrOk.f Ha.aOk
  by_cases h1 : k ≥ 1
  · rw [if_pos h1]
    by_cases h2 : k ≤ 3
    · rw [if_pos h2]
      by_cases h3 : i ≥ 0
      · rw [if_pos h3]; simp [h2, (by omega : 1 ≤ k), (by omega : 0 ≤ i)]
      · rw [if_neg h3]; simp [(by omega : ¬ 0 ≤ i)]
    · rw [if_neg h2]; simp [h2]
  · rw [if_neg h1]; simp [(by omega : ¬ 1 ≤ k)]
theorem spec_some (a b : Int) : spec_AddrText.f 5 a b = some (Ha.txt a b) := by
  cases hA : Ha.aOk a b with
  | false =>
    unfold spec_AddrText.f Ha.txt
    rw [addr_some, hA]; rfl
  | true =>
    simp only [Ha.aOk, Bool.and_eq_true, decide_eq_true_eq] at hA
    obtain ⟨h1, h2, h3, h4⟩ := hA
    rcases (by omega : a = 1 ∨ a = 2 ∨ a = 3) with rfl | rfl | rfl <;> rcases (by omega : b = 0 ∨ b = 1 ∨ b = 2 ∨ b = 3 ∨ b = 4 ∨ b = 5) with rfl | rfl | rfl | rfl | rfl | rfl <;> kernel_rfl
theorem t_eq (k : Int) (n : Nat) (hk : k = 1 ∨ k = 2 ∨ k = 3) (hn : n < 6) : Ha.txt k (n : Int) = ⟨#[L k, UInt8.ofNat (48 + n)]⟩ := by
  rcases hk with rfl | rfl | rfl <;> rcases (by omega : n = 0 ∨ n = 1 ∨ n = 2 ∨ n = 3 ∨ n = 4 ∨ n = 5) with rfl | rfl | rfl | rfl | rfl | rfl <;> kernel_rfl
theorem u8_48 (n : Nat) (hn : n < 6) : (UInt8.ofNat (48 + n)).toNat = 48 + n := by
  rcases (by omega : n = 0 ∨ n = 1 ∨ n = 2 ∨ n = 3 ∨ n = 4 ∨ n = 5) with rfl | rfl | rfl | rfl | rfl | rfl <;> rfl
theorem read_txt (J I : Int) : ∃ x1 x2, impl_AddrRead.f 5 (Ha.txt J I) = some (x1, x2, Ha.aOk J I) ∧ (Ha.aOk J I = true → x1 = J ∧ x2 = I) := by
  cases hA : Ha.aOk J I with
  | false =>
    refine ⟨0, 0, ?_, fun h => by cases h⟩
    have e : Ha.txt J I = ⟨#[]⟩ := by unfold Ha.txt; rw [hA]; rfl
    rw [e]; unfold impl_AddrRead.f; rw [if_neg (by show ¬ (0 : Int) = 2; omega)]
  | true =>
    simp only [Ha.aOk, Bool.and_eq_true, decide_eq_true_eq] at hA
    obtain ⟨h1, h2, h3, h4⟩ := hA
    obtain ⟨n, rfl⟩ : ∃ n : Nat, I = (n : Int) := ⟨I.toNat, by omega⟩
    have hn : n < 6 := by omega
    have hk : J = 1 ∨ J = 2 ∨ J = 3 := by omega
    refine ⟨J, n, ?_, fun _ => ⟨rfl, rfl⟩⟩
    rw [t_eq J n hk hn]
    unfold impl_AddrRead.f
    rw [if_pos (by show (2 : Int) = 2; rfl), impl_yes _ (L J) (UInt8.ofNat (48 + n)) n hn rfl (u8_48 n hn)]
    rcases hk with rfl | rfl | rfl <;> simp [L]
theorem read_any (t : ByteArray) : ∃ y1 y2 f, spec_AddrRead.f 5 t = some (y1, y2, f) ∧ impl_AddrRead.f 5 t = some (y1, y2, f) ∧ (f = true → Ha.txt y1 y2 = t) := by
  by_cases h2 : (t.size : Int) = 2
  · obtain ⟨p, q, rfl⟩ := two t h2
    have hq : q.toNat < 256 := q.toNat_lt
    by_cases hy : (q.toNat : Int) < 48 ∨ 54 ≤ (q.toNat : Int)
    · refine ⟨0, 0, false, ?_, ?_, fun h => by cases h⟩
      · unfold spec_AddrRead.f
        rw [if_pos h2, if_pos (by show (1 : Int) < 2; omega), b1]
        by_cases h48 : (q.toNat : Int) < 48
        · rw [if_pos h48]; exact j0_true 4 _
        · rw [if_neg h48, wrap_id (x := (q.toNat : Int)) (by omega) (by omega), decide_eq_true (by omega : (q.toNat : Int) ≥ 54)]; exact j0_true 4 _
      · unfold impl_AddrRead.f
        rw [if_pos h2]; exact impl_no _ p q rfl hy
    · have hn : q.toNat - 48 < 6 := by omega
      have hq2 : q.toNat = 48 + (q.toNat - 48) := by omega
      generalize q.toNat - 48 = n at hn hq2
      have hq3 : q = UInt8.ofNat (48 + n) := by rw [← hq2]; exact (UInt8.ofNat_toNat).symm
      have hs : spec_AddrRead.f 5 ⟨#[p, q]⟩ = some (if p = 105 then (1, (n : Int), true) else if p = 111 then (2, (n : Int), true) else if p = 118 then (3, (n : Int), true) else (0, 0, false)) := by
        unfold spec_AddrRead.f
        rw [if_pos h2, if_pos (by show (1 : Int) < 2; omega), b1, if_neg (by omega), wrap_id (x := (q.toNat : Int)) (by omega) (by omega), decide_eq_false (by omega : ¬ (q.toNat : Int) ≥ 54)]
        exact spec_yes _ p q n hn rfl hq2
      have hi : impl_AddrRead.f 5 ⟨#[p, q]⟩ = some (if p = 105 then (1, (n : Int), true) else if p = 111 then (2, (n : Int), true) else if p = 118 then (3, (n : Int), true) else (0, 0, false)) := by
        unfold impl_AddrRead.f; rw [if_pos h2]; exact impl_yes _ p q n hn rfl hq2
      by_cases p1 : p = 105
      · rw [if_pos p1] at hs hi
        exact ⟨_, _, _, hs, hi, fun _ => by rw [t_eq 1 n (.inl rfl) hn, p1, hq3]; rfl⟩
      · rw [if_neg p1] at hs hi
        by_cases p2 : p = 111
        · rw [if_pos p2] at hs hi
          exact ⟨_, _, _, hs, hi, fun _ => by rw [t_eq 2 n (.inr (.inl rfl)) hn, p2, hq3]; rfl⟩
        · rw [if_neg p2] at hs hi
          by_cases p3 : p = 118
          · rw [if_pos p3] at hs hi
            exact ⟨_, _, _, hs, hi, fun _ => by rw [t_eq 3 n (.inr (.inr rfl)) hn, p3, hq3]; rfl⟩
          · rw [if_neg p3] at hs hi
            exact ⟨_, _, _, hs, hi, fun h => by cases h⟩
  · refine ⟨0, 0, false, ?_, ?_, fun h => by cases h⟩
    · unfold spec_AddrRead.f
      rw [if_neg h2]; exact j0_true 4 _
    · unfold impl_AddrRead.f
      rw [if_neg h2]
theorem of_some {l : List Int} (h : Byt l) (k : Nat) (p : Int) (xs : List ByteArray) (hx : 0 < xs.length) (hs : ∀ x ∈ xs, x.size ≤ 2) (hp : 0 ≤ p) (hp' : p ≤ 1000000000000) :
    ∃ r, spec_l12Rd_of.f (k + 1) l p xs = some (r, p + 1) ∧ r.size ≤ 2 := by
  obtain ⟨i, hi, h0, h1⟩ := pick_some h k p (xs.length : Int) hp hp'
  have h1' : i < (xs.length : Int) := by omega
  refine ⟨rdOf ByteArray.empty xs i, ?_, ?_⟩
  · unfold spec_l12Rd_of.f
    rw [hi]; simp only [Option.bind_some]
    rw [if_pos h0, if_pos h1']
  · unfold rdOf
    rw [List.getD_eq_getElem?_getD, List.getElem?_eq_getElem (by omega)]; exact hs _ (List.getElem_mem _)
theorem drawAddrRead_some {l : List Int} (h : Byt l) : ∃ t, spec_DrawAddrRead.f 1 l = some t := by
  obtain ⟨l', ho, h'⟩ := open_some h
  obtain ⟨r, e, s1⟩ := of_some h' 0 0 ([(⟨#[105]⟩ : ByteArray), (⟨#[111]⟩ : ByteArray), (⟨#[118]⟩ : ByteArray), (⟨#[120]⟩ : ByteArray), (⟨#[]⟩ : ByteArray), (⟨#[73]⟩ : ByteArray)] : List ByteArray) (by simp) (by simp; decide) (by omega) (by omega)
  obtain ⟨r', e', s2⟩ := of_some h' 0 (0 + 1) ([(⟨#[48]⟩ : ByteArray), (⟨#[53]⟩ : ByteArray), (⟨#[54]⟩ : ByteArray), (⟨#[]⟩ : ByteArray), (⟨#[48, 49]⟩ : ByteArray), (⟨#[45, 49]⟩ : ByteArray), (⟨#[50]⟩ : ByteArray)] : List ByteArray) (by simp) (by simp; decide) (by omega) (by omega)
  unfold spec_DrawAddrRead.f
  rw [ho]; simp only [Option.bind_some]
  rw [e]; simp only [Option.bind_some]
  rw [e']; simp only [Option.bind_some]
  rw [if_pos (by omega)]; exact ⟨_, rfl⟩
theorem drawAddrText_some {l : List Int} (h : Byt l) : ∃ J I, spec_DrawAddrText.f 1 l = some (J, I) := by
  obtain ⟨l', ho, h'⟩ := open_some h
  unfold spec_DrawAddrText.f
  rw [ho]; simp only [Option.bind_some]
  obtain ⟨j, i, p, ha, _, _⟩ := addrBent_some h' 0 0 (by omega) (by omega)
  rw [ha]; simp only [Option.bind_some]
  exact ⟨j, i, rfl⟩
theorem loop_same (x y : List Int) (hl : x.length = y.length) (hx : x.length ≤ 1048576) (d : Nat) : ∀ (k i : Nat), i + d = x.length → d < k → spec_l2Ints.l0 k x y (i : Int) = some (decide (x.drop i = y.drop i)) ∧ slices_Equal_int_int.l0 k x y (x.length : Int) (i : Int) = some (decide (x.drop i = y.drop i)) := by
  induction d with
  | zero =>
    intro k i hi hk
    obtain ⟨k, rfl⟩ : ∃ m, k = m + 1 := ⟨k - 1, by omega⟩
    simp only [spec_l2Ints.l0, slices_Equal_int_int.l0]
    rw [if_neg (by omega), if_neg (by omega), List.drop_eq_nil_of_le (by omega), List.drop_eq_nil_of_le (by omega)]; simp
  | succ d ih =>
    intro k i hi hk
    obtain ⟨k, rfl⟩ : ∃ m, k = m + 1 := ⟨k - 1, by omega⟩
    have q0 : i < x.length := by omega
    have q1 : i < y.length := by omega
    simp only [spec_l2Ints.l0, slices_Equal_int_int.l0]
    have p0 : (i : Int) < (x.length : Int) := by omega
    have p1 : (i : Int) < (y.length : Int) := by omega
    have p2 : (0 : Int) ≤ (i : Int) := by omega
    simp only [p0, p1, p2, if_true]
    rw [wrap_id (by omega) (by omega)]
    obtain ⟨h1, h2⟩ := ih k (i + 1) (by omega) (by omega)
    rw [show ((i : Int) + 1) = ((i + 1 : Nat) : Int) by omega, h1, h2, rdI x i q0, rdI y i q1, List.drop_eq_getElem_cons q0, List.drop_eq_getElem_cons q1]
    by_cases e : x[i] = y[i]
    · have key : decide (x[i] :: x.drop (i + 1) = y[i] :: y.drop (i + 1)) = decide (x.drop (i + 1) = y.drop (i + 1)) := decide_eq_decide.2 ⟨fun h => (List.cons.inj h).2, fun h => by rw [e, h]⟩
      rw [key, if_pos e]; exact ⟨rfl, rfl⟩
    · have key : decide (x[i] :: x.drop (i + 1) = y[i] :: y.drop (i + 1)) = false := decide_eq_false fun h => e (List.cons.inj h).1
      rw [key, if_neg e]; exact ⟨rfl, rfl⟩
theorem ints_same (x y : List Int) (hx : x.length ≤ 10) : spec_l2Ints.f 20 x y = some (decide (x = y)) ∧ slices_Equal_int_int.f 20 x y = some (decide (x = y)) := by
  unfold spec_l2Ints.f slices_Equal_int_int.f
  by_cases hl : (x.length : Int) = (y.length : Int)
  · rw [if_pos hl, if_pos hl]
    have := loop_same x y (by omega) (by omega) x.length 20 0 (by omega) (by omega)
    simpa using this
  · rw [if_neg hl, if_neg hl]
    have : ¬ x = y := fun e => hl (by rw [e])
    simp [this]
def eqM (a b c d e f : List Int) : Bool := decide (a = d) && (decide (b = e) && decide (c = f))
theorem same_val (a b c d e f : List Int) (ha : a.length ≤ 10) (hb : b.length ≤ 10) (hc : c.length ≤ 10) : spec_MemSame.f 20 a b c d e f = some (eqM a b c d e f) ∧ impl_MemSame.f 20 a b c d e f = some (eqM a b c d e f) := by
  unfold spec_MemSame.f impl_MemSame.f eqM
  obtain ⟨u1, u2⟩ := ints_same a d ha
  obtain ⟨v1, v2⟩ := ints_same b e hb
  obtain ⟨x1, x2⟩ := ints_same c f hc
  rw [u1, u2, v1, v2, x1, x2]; simp only [Option.bind_some]
  cases decide (a = d) <;> cases decide (b = e) <;> exact ⟨rfl, rfl⟩
def gEq (a b c d e f : List Int) (k i : Int) : Bool := Hn.gM a b c k i == Hn.gM d e f k i
def chk (a b c d e f : List Int) (n : Nat) : Bool := (List.range n).all fun m => gEq a b c d e f (((m / 6 : Nat) : Int) + 1) ((m % 6 : Nat) : Int)
theorem chk_succ (a b c d e f : List Int) (n : Nat) : chk a b c d e f (n + 1) = (chk a b c d e f n && gEq a b c d e f (((n / 6 : Nat) : Int) + 1) ((n % 6 : Nat) : Int)) := by
  unfold chk; rw [List.range_succ, List.all_append]; simp
theorem ext6 (x y : List Int) (hx : x.length = 6) (hy : y.length = 6) (h : ∀ i : Nat, i < 6 → rd x (i : Int) = rd y (i : Int)) : x = y := by
  apply List.ext_getElem (by omega)
  intro i h1 h2
  have := h i (by omega)
  rw [rdI x i h1, rdI y i h2] at this
  exact this
theorem okM_len {l0 l1 l2 : List Int} (h : Hm.okM l0 l1 l2 = true) : l0.length = 6 ∧ l1.length = 6 ∧ l2.length = 6 := by
  simp only [Hm.okM, Hm.okL, Bool.and_eq_true, decide_eq_true_eq] at h
  exact ⟨h.1.1.1, h.1.2.1, h.2.1⟩
theorem chk18 (a b c d e f : List Int) (h1 : Hm.okM a b c = true) (h2 : Hm.okM d e f = true) : chk a b c d e f 18 = eqM a b c d e f := by
  obtain ⟨la, lb, lc⟩ := okM_len h1
  obtain ⟨ld, le, lf⟩ := okM_len h2
  have g : ∀ (x y z : List Int) (k i : Nat), Hm.okM x y z = true → k < 3 → i < 6 → Hn.gM x y z ((k : Int) + 1) (i : Int) = rd (Hn.pk x y z ((k : Int) + 1)) (i : Int) := by
    intro x y z k i ho hk hi
    have ha : Hn.aOk ((k : Int) + 1) (i : Int) = true := by
      simp only [Hn.aOk, Bool.and_eq_true, decide_eq_true_eq]; omega
    unfold Hn.gM; rw [ho, ha]; rfl
  rw [Bool.eq_iff_iff]
  unfold chk eqM gEq
  simp only [List.all_eq_true, List.mem_range, beq_iff_eq, Bool.and_eq_true, decide_eq_true_eq]
  constructor
  · intro h
    refine ⟨ext6 a d la ld fun i hi => ?_, ext6 b e lb le fun i hi => ?_, ext6 c f lc lf fun i hi => ?_⟩
    · have := h i (by omega)
      rw [g a b c _ _ h1 (by omega) (by omega), g d e f _ _ h2 (by omega) (by omega), show i / 6 = 0 by omega, show i % 6 = i by omega] at this
      exact this
    · have := h (6 + i) (by omega)
      rw [g a b c _ _ h1 (by omega) (by omega), g d e f _ _ h2 (by omega) (by omega), show (6 + i) / 6 = 1 by omega, show (6 + i) % 6 = i by omega] at this
      exact this
    · have := h (12 + i) (by omega)
      rw [g a b c _ _ h1 (by omega) (by omega), g d e f _ _ h2 (by omega) (by omega), show (12 + i) / 6 = 2 by omega, show (12 + i) % 6 = i by omega] at this
      exact this
  · rintro ⟨rfl, rfl, rfl⟩ m _
    rfl
end Go.Proofs.YtlgogdpnakbhiaaDoor.MyFnAddrPure
