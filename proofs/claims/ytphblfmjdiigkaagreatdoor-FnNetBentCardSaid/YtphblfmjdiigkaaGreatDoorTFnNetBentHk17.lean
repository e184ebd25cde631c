/- What spec.DrawNetOk answers exists for every list of bytes; the law FnNetBent. No condition. -/
import Derived.Test.YtphblfmjdiigkaaGreatDoorTFnNetBentHk16
import Derived.Test.YtphblfmjdiigkaaGreatDoorTFnNetBentHk9
import Derived.Test.YtphblfmjdiigkaaGreatDoorTFnNetBentHk8
import Derived.Test.YtphblfmjdiigkaaGreatDoorTFnNetBentHk7
import Derived.Test.YtphblfmjdiigkaaGreatDoorTFnNetBentHk6
import Derived.Test.YtphblfmjdiigkaaGreatDoorTFnNetBentHk5
import Derived.Test.YtphblfmjdiigkaaGreatDoorTFnNetBentHFnNetBentx4
import Derived.Test.YtphblfmjdiigkaaGreatDoorTFnNetBentHFnNetBentx6
import Derived.Test.YtphblfmjdiigkaaGreatDoorTFnNetBentHFnNetBentx7
import Derived.Test.YtphblfmjdiigkaaGreatDoorTFnNetBentHFnNetBentx8
import Derived.Test.YtphblfmjdiigkaaGreatDoorTFnNetBentHFnNetBentx9
import Derived.Test.YtphblfmjdiigkaaGreatDoorTFnNetBentHFnNetBentx12
import Derived.WalkLawsBesides
import Derived.WalkSpells
import Derived.Deep.RegionHeld
import Derived.Deep.DeepCutAuto
import Derived.Deep.CutBlock
namespace Go.Proofs.YtphblfmjdiigkaaGreatDoor.Hk17
open Go.RowKit Go.Proofs.YtphblfmjdiigkaaGreatDoor.Hk16 Go.Proofs.YtphblfmjdiigkaaGreatDoor.Hk9 Go.Proofs.YtphblfmjdiigkaaGreatDoor.Hk15 Go.Proofs.YtphblfmjdiigkaaGreatDoor.Hk8 Go.Proofs.YtphblfmjdiigkaaGreatDoor.Hb Go.Proofs.YtphblfmjdiigkaaGreatDoor.Hk1 Go.Proofs.YtphblfmjdiigkaaGreatDoor.Hk2 Go.Proofs.YtphblfmjdiigkaaGreatDoor.Hk3 Go.Proofs.YtphblfmjdiigkaaGreatDoor.Hk4 Go.Proofs.YtphblfmjdiigkaaGreatDoor.Hk5 Go.Proofs.YtphblfmjdiigkaaGreatDoor.Hk6 Go.Proofs.YtphblfmjdiigkaaGreatDoor.Hk7 Go.Proofs.YtphblfmjdiigkaaGreatDoor.HFnNetBent Go.Proofs.YtphblfmjdiigkaaGreatDoorW.PrintWords Go.Proofs.YtphblfmjdiigkaaGreatDoorW.PrintLast Go.Proofs.YtphblfmjdiigkaaGreatDoorW.PrintMore
set_option linter.unusedVariables false
set_option linter.unusedSimpArgs false
theorem wrap_id {x : Int} (h1 : -9223372036854775808 ≤ x) (h2 : x ≤ 9223372036854775807) : wrap64 x = x := by
  unfold wrap64; omega
theorem xor_i64_nat (a b : Nat) (ha : a < 9223372036854775808) (hb : b < 9223372036854775808) :
    Go.bits .xor .i64 (a : Int) (b : Int) = ((a ^^^ b : Nat) : Int) := by
  have hx : a ^^^ b < 2 ^ 63 := Nat.xor_lt_two_pow (by omega) (by omega)
  have h1 : (BitVec.ofInt 64 (a : Int)).toNat = a := by
    rw [BitVec.ofInt_natCast, BitVec.toNat_ofNat]; exact Nat.mod_eq_of_lt (by omega)
  have h2 : (BitVec.ofInt 64 (b : Int)).toNat = b := by
    rw [BitVec.ofInt_natCast, BitVec.toNat_ofNat]; exact Nat.mod_eq_of_lt (by omega)
  show IntKind.i64.wrap ((BitVec.ofInt 64 (a : Int) ^^^ BitVec.ofInt 64 (b : Int)).toNat : Int) = _
  rw [BitVec.toNat_xor, h1, h2, IntKind.wrap_i64]
  omega
theorem xor_i64_nonneg (x y : Int) (hx : 0 ≤ x) (hx' : x < 9223372036854775808) (hy : 0 ≤ y) (hy' : y < 9223372036854775808) :
    0 ≤ Go.bits .xor .i64 x y := by
  obtain ⟨a, rfl⟩ := Int.eq_ofNat_of_zero_le hx
  obtain ⟨b, rfl⟩ := Int.eq_ofNat_of_zero_le hy
  rw [xor_i64_nat a b (by omega) (by omega)]
  exact Int.natCast_nonneg _
def Byt (l : List Int) : Prop := ∀ x ∈ l, 0 ≤ x ∧ x ≤ 255
theorem rd_byt {l : List Int} (h : Byt l) (i : Int) : 0 ≤ rd l i ∧ rd l i ≤ 255 := by
  unfold rd
  by_cases hi : i.toNat < l.length
  · rw [List.getD_eq_getElem?_getD, List.getElem?_eq_getElem hi]; exact h _ (List.getElem_mem hi)
  · rw [List.getD_eq_getElem?_getD, List.getElem?_eq_none (by omega)]; simp
theorem tmod_bd {a b : Int} (ha : 0 ≤ a) (hb : 0 < b) : 0 ≤ Int.tmod a b ∧ Int.tmod a b < b := by
  rw [Int.tmod_eq_emod_of_nonneg ha]
  exact ⟨Int.emod_nonneg _ (by omega), Int.emod_lt_of_pos _ hb⟩
theorem tdiv_bd {a b : Int} (ha : 0 ≤ a) (hb : 0 < b) : 0 ≤ Int.tdiv a b ∧ Int.tdiv a b ≤ a := by
  rw [Int.tdiv_eq_ediv_of_nonneg ha]
  exact ⟨Int.ediv_nonneg ha (by omega), Int.ediv_le_self _ ha⟩
/-- What one pick gives: a number from 0 on, below n where n is at least 1; the place goes one on. -/
theorem pick_some {l : List Int} (h : Byt l) (k : Nat) (p n : Int) (hp : 0 ≤ p) (hp' : p ≤ 1000000000000) :
    ∃ r, spec_l12Rd_pick.f (k + 1) l p n = some (r, p + 1) ∧ 0 ≤ r ∧ (r < n ∨ (n < 1 ∧ r = 0)) := by
  have hw : wrap64 (p + 1) = p + 1 := wrap_id (by omega) (by omega)
  have hw2 : wrap64 (p + 1 - 1) = p := by rw [wrap_id (by omega) (by omega)]; omega
  unfold spec_l12Rd_pick.f
  by_cases hn : n < 1
  · refine ⟨0, ?_, by omega, .inr ⟨hn, rfl⟩⟩
    rw [if_pos hn]; simp only [spec_l12Rd_pick.j0, if_true]; rw [hw]
  · rw [if_neg hn]
    by_cases hl : (l.length : Int) = 0
    · refine ⟨0, ?_, by omega, .inl (by omega)⟩
      have e : ((l.length : Int) == 0) = true := by simpa using hl
      rw [e]; simp only [spec_l12Rd_pick.j0, if_true]; rw [hw]
    · have e : ((l.length : Int) == 0) = false := by simpa using hl
      have hn0 : ¬ n = 0 := by omega
      rw [e]; simp only [spec_l12Rd_pick.j0]
      rw [if_neg (by simp), hw, hw2]
      by_cases hlt : p < (l.length : Int)
      · rw [if_pos hlt, if_pos hp, if_neg hn0]
        have hb := rd_byt h p
        rw [wrap_id (x := rd l p) (by omega) (by omega)]
        have ht := tmod_bd (a := rd l p) (b := n) hb.1 (by omega)
        exact ⟨_, rfl, ht.1, .inl ht.2⟩
      · have hL : 0 < (l.length : Int) := by omega
        have ht1 := tmod_bd (a := p) (b := (l.length : Int)) hp hL
        have e7 : wrap64 (p * 7) = p * 7 := wrap_id (by omega) (by omega)
        have e73 : wrap64 (p * 7 + 3) = p * 7 + 3 := wrap_id (by omega) (by omega)
        have ht2 := tmod_bd (a := p * 7 + 3) (b := (l.length : Int)) (by omega) hL
        rw [if_neg hlt, if_neg hl, if_pos ht1.1, if_pos ht1.2, e7, e73, if_pos ht2.1, if_pos ht2.2, if_neg hn0]
        have hb1 := rd_byt h (Int.tmod p (l.length : Int))
        have hb2 := rd_byt h (Int.tmod (p * 7 + 3) (l.length : Int))
        have hd := tdiv_bd (a := p) (b := (l.length : Int)) hp hL
        generalize rd l (Int.tmod p (l.length : Int)) = A at hb1 ⊢
        generalize rd l (Int.tmod (p * 7 + 3) (l.length : Int)) = B at hb2 ⊢
        generalize Int.tdiv p (l.length : Int) = D at hd ⊢
        rw [wrap_id (x := A) (by omega) (by omega), wrap_id (x := B) (by omega) (by omega), wrap_id (x := D) (by omega) (by omega), wrap_id (x := A * 131) (by omega) (by omega), wrap_id (x := B * 1117) (by omega) (by omega), wrap_id (x := p * 29) (by omega) (by omega), wrap_id (x := D * 53) (by omega) (by omega), wrap_id (x := A * 131 + B * 1117) (by omega) (by omega), wrap_id (x := A * 131 + B * 1117 + p * 29) (by omega) (by omega), wrap_id (x := A * 131 + B * 1117 + p * 29 + D * 53) (by omega) (by omega)]
        have hx0 : 0 ≤ A * 131 + B * 1117 + p * 29 + D * 53 := by omega
        have hx1 : A * 131 + B * 1117 + p * 29 + D * 53 < 9223372036854775807 := by omega
        generalize A * 131 + B * 1117 + p * 29 + D * 53 = X at hx0 hx1 ⊢
        have hd2 := tdiv_bd (a := X) (b := 64) hx0 (by omega)
        rw [wrap_id (x := Int.tdiv X 64) (by omega) (by omega)]
        have hnn := xor_i64_nonneg X (Int.tdiv X 64) hx0 (by omega) hd2.1 (by omega)
        have ht := tmod_bd (a := Go.bits .xor .i64 X (Int.tdiv X 64)) (b := n) hnn (by omega)
        exact ⟨_, rfl, ht.1, .inl ht.2⟩
theorem rd_mem {l : List Int} {i : Int} (h0 : 0 ≤ i) (h1 : i < (l.length : Int)) : rd l i ∈ l := by
  unfold rd
  rw [List.getD_eq_getElem?_getD, List.getElem?_eq_getElem (by omega)]; exact List.getElem_mem _
theorem num_some {l : List Int} (h : Byt l) (k : Nat) (p : Int) (xs : List Int) (hx : 0 < xs.length) (hp : 0 ≤ p) (hp' : p ≤ 1000000000000) :
    ∃ r, spec_l12Rd_num.f (k + 1) l p xs = some (r, p + 1) ∧ r ∈ xs := by
  obtain ⟨i, hi, h0, h1⟩ := pick_some h k p (xs.length : Int) hp hp'
  have h1' : i < (xs.length : Int) := by omega
  refine ⟨rd xs i, ?_, rd_mem h0 h1'⟩
  unfold spec_l12Rd_num.f
  rw [hi]; simp only [Option.bind_some]
  rw [if_pos h0, if_pos h1']
theorem byt_of {l : List Int} (h : ∀ x ∈ l, (Lit.int .u8 x).wf = true) : Byt l := by
  intro x hx
  have := h x hx
  simp [Lit.wf, IntKind.min, IntKind.max, IntKind.bits, IntKind.signed] at this
  omega
theorem open_some {l : List Int} (h : Byt l) : ∃ l', spec_l12Open.f l = some (l', 0) ∧ Byt l' := by
  unfold spec_l12Open.f
  by_cases hl : (l.length : Int) > 2000
  · rw [if_pos hl, if_pos (by omega)]
    exact ⟨_, rfl, fun x hx => h x (List.mem_of_mem_take hx)⟩
  · rw [if_neg hl]; exact ⟨l, rfl, h⟩
theorem kind_some {l : List Int} (h : Byt l) (k : Nat) (p : Int) (hp : 0 ≤ p) (hp' : p ≤ 100000000) :
    ∃ a n q, spec_l6Kind.f (k + 1) l p = some (a, n, q) ∧ p ≤ q ∧ q ≤ p + 2 ∧ 1 ≤ a ∧ a ≤ 5 ∧ 0 ≤ n ∧ n ≤ 1000 ∧ (3 < a → n = 0) := by
  obtain ⟨a, ha, a0, a1⟩ := pick_some h k p 5 hp (by omega)
  unfold spec_l6Kind.f
  rw [ha]; simp only [Option.bind_some]
  rw [wrap_id (x := 1 + a) (by omega) (by omega)]
  by_cases h3 : 1 + a > 3
  · rw [if_pos h3]; exact ⟨_, _, _, rfl, by omega, by omega, by omega, by omega, by omega, by omega, fun _ => rfl⟩
  · rw [if_neg h3]
    obtain ⟨n, hn, hm⟩ := num_some h k (p + 1) [0, 1, 2, 3, 5, 1000] (by simp) (by omega) (by omega)
    rw [hn]
    refine ⟨_, _, _, rfl, by omega, by omega, by omega, by omega, ?_, ?_, fun h => by omega⟩
    · simp only [List.mem_cons, List.not_mem_nil, or_false] at hm; omega
    · simp only [List.mem_cons, List.not_mem_nil, or_false] at hm; omega
theorem l2Addr_some {l : List Int} (h : Byt l) (k : Nat) (p : Int) (hp : 0 ≤ p) (hp' : p ≤ 100000000) : ∃ a i, spec_l2Addr.f (k + 1) l p = some (a, i, p + 2) := by
  unfold spec_l2Addr.f
  obtain ⟨a, ha, _⟩ := pick_some h k p 3 hp (by omega)
  obtain ⟨b, hb, _⟩ := pick_some h k (p + 1) 3 (by omega) (by omega)
  rw [ha]; simp only [Option.bind_some]
  rw [hb]; simp only [Option.bind_some]
  exact ⟨_, _, by rw [show p + 1 + 1 = p + 2 by omega]⟩
theorem src_j0 {l : List Int} (h : Byt l) (k : Nat) (n : Int) (b : Bool) (p : Int) (hp : 0 ≤ p) (hp' : p ≤ 100000000) (e : Bool) :
    ∃ r1 r2 r3 r4 r5 q, spec_l7SrcDraw.j0 (k + 2) n b l p 0 0 0 0 e = some (r1, r2, r3, r4, r5, q) ∧ p ≤ q ∧ q ≤ p + 2 := by
  rw [show k + 2 = (k + 1) + 1 from rfl]
  simp only [spec_l7SrcDraw.j0]
  obtain ⟨a, i, ha⟩ := l2Addr_some h k p hp hp'
  obtain ⟨c, hc, _⟩ := pick_some h k p n hp (by omega)
  rw [ha, hc]; simp only [Option.bind_some]
  split
  · split
    · exact ⟨_, _, _, _, _, _, rfl, by omega, by omega⟩
    · exact ⟨_, _, _, _, _, _, rfl, by omega, by omega⟩
  · exact ⟨_, _, _, _, _, _, rfl, by omega, by omega⟩
theorem src_some {l : List Int} (h : Byt l) (k : Nat) (p a b : Int) (hp : 0 ≤ p) (hp' : p ≤ 10000000) :
    ∃ r1 r2 r3 r4 r5 q, spec_l7SrcDraw.f (k + 2) l p a b = some (r1, r2, r3, r4, r5, q) ∧ p ≤ q ∧ q ≤ p + 4 := by
  unfold spec_l7SrcDraw.f
  obtain ⟨x, hx, _⟩ := pick_some h (k + 1) p 4 hp (by omega)
  obtain ⟨y, hy, _⟩ := pick_some h (k + 1) (p + 1) 5 (by omega) (by omega)
  obtain ⟨z, hz, _⟩ := pick_some h (k + 1) (p + 1 + 1) a (by omega) (by omega)
  rw [hx]; simp only [Option.bind_some]
  rw [hy]; simp only [Option.bind_some]
  rw [hz]; simp only [Option.bind_some]
  split
  · exact ⟨_, _, _, _, _, _, rfl, by omega, by omega⟩
  · split
    · obtain ⟨r1, r2, r3, r4, r5, q, e, h1, h2⟩ := src_j0 h k b (y == 1) (p + 1 + 1) (by omega) (by omega) (x == 0)
      exact ⟨r1, r2, r3, r4, r5, q, e, by omega, by omega⟩
    · obtain ⟨r1, r2, r3, r4, r5, q, e, h1, h2⟩ := src_j0 h k b (y == 2) (p + 1 + 1) (by omega) (by omega) (x == 0)
      exact ⟨r1, r2, r3, r4, r5, q, e, by omega, by omega⟩
theorem l1_some {l : List Int} (h : Byt l) (x4 : Int) (xs : List S43) : ∀ (d kf : Nat) (p : Int) (ys : List S66), 2 * d + 3 ≤ kf → 0 ≤ p → p + 10 * d ≤ 1000000 → ys.length + d ≤ 100 →
    ∃ ys' q, spec_l7Net.l1 kf x4 (d : Int) l p xs ys = some (xs, ys', q) ∧ ys'.length ≤ ys.length + d ∧ 0 ≤ q ∧ q ≤ p + 10 * d
  | 0, kf, p, ys, hk, hp, hp', hy => by
    obtain ⟨k, rfl⟩ : ∃ q, kf = q + 1 + 1 := ⟨kf - 2, by omega⟩
    simp only [spec_l7Net.l1]
    rw [if_neg (by omega)]
    simp only [spec_l7Net.j3]
    rw [if_neg (by simp)]
    exact ⟨ys, p, rfl, by omega, hp, by omega⟩
  | d + 1, kf, p, ys, hk, hp, hp', hy => by
    obtain ⟨k, rfl⟩ : ∃ q, kf = q + 1 + 1 + 1 := ⟨kf - 3, by omega⟩
    simp only [spec_l7Net.l1]
    rw [if_pos (by omega)]
    simp only [spec_l7Net.j3]
    by_cases hx : x4 > 0
    · rw [decide_eq_true hx, if_pos rfl]
      obtain ⟨a, ha, _⟩ := pick_some h k p 2 hp (by omega)
      obtain ⟨b, hb, _⟩ := pick_some h k (p + 1) x4 (by omega) (by omega)
      rw [ha]; simp only [Option.bind_some]
      rw [hb]; simp only [Option.bind_some]
      rw [if_pos (by omega), show wrap64 (((d + 1 : Nat) : Int) - 1) = (d : Int) by rw [wrap_id (by omega) (by omega)]; omega]
      obtain ⟨ys', q, e, h1, h2, h3⟩ := l1_some h x4 xs d (k + 1) (p + 1 + 1) (ys ++ [⟨⟨wrap64 (2 + a), ((d + 1 : Nat) : Int)⟩, b⟩]) (by omega) (by omega) (by omega) (by simp; omega)
      refine ⟨ys', q, e, ?_, h2, by omega⟩
      simp at h1; omega
    · rw [decide_eq_false hx, if_neg (by simp)]
      exact ⟨ys, p, rfl, by omega, hp, by omega⟩
theorem j1_some {l : List Int} (h : Byt l) (kf : Nat) (x4 i p : Int) (xs : List S43) (a b : Int) (d : Nat) (hk : 3 ≤ kf) (hp : 0 ≤ p) (hp' : p ≤ 1000000) (hxl : xs.length ≤ 100)
    (IH : ∀ (q : Int) (zs : List S43), p ≤ q → q ≤ p + 8 → zs.length = xs.length + 1 → ∃ xs' ys' r, spec_l7Net.l0 kf x4 (wrap64 (i + 1)) l q zs = some (xs', ys', r) ∧ xs'.length ≤ xs.length + 1 + d ∧ ys'.length ≤ 3 ∧ 0 ≤ r ∧ r ≤ p + 8 + 20 * d + 31) :
    ∃ xs' ys' r, spec_l7Net.j1 (kf + 1) x4 i l p xs a b 0 0 0 0 false 0 0 0 0 false = some (xs', ys', r) ∧ xs'.length ≤ xs.length + 1 + d ∧ ys'.length ≤ 3 ∧ 0 ≤ r ∧ r ≤ p + 8 + 20 * d + 31 := by
  obtain ⟨k, rfl⟩ : ∃ q, kf = q + 2 := ⟨kf - 2, by omega⟩
  simp only [spec_l7Net.j1]
  obtain ⟨s1, s2, s3, s4, s5, q1, e1, h1, h2⟩ := src_some h k p x4 i hp (by omega)
  obtain ⟨z1, z2, z3, z4, z5, q2, e2, h3, h4⟩ := src_some h k q1 x4 i (by omega) (by omega)
  rw [e1]; simp only [Option.bind_some]
  rw [twoT]; simp only [Option.bind_some]
  rw [e2]; simp only [Option.bind_some]
  split
  · rw [if_pos (by omega)]
    exact IH q2 _ (by omega) (by omega) (by simp)
  · rw [if_pos (by omega)]
    exact IH q1 _ (by omega) (by omega) (by simp)
theorem l0_some {l : List Int} (h : Byt l) (x4 : Int) (h10 : x4 ≤ 10) : ∀ (d kf : Nat) (i p : Int) (xs : List S43), x4 = i + d → 0 ≤ i → 3 * d + 20 ≤ kf → 0 ≤ p → p + 20 * d + 100 ≤ 1000000 → xs.length + d ≤ 100 →
    ∃ xs' ys' q, spec_l7Net.l0 kf x4 i l p xs = some (xs', ys', q) ∧ xs'.length ≤ xs.length + d ∧ ys'.length ≤ 3 ∧ 0 ≤ q ∧ q ≤ p + 20 * d + 31
  | 0, kf, i, p, xs, hx, hi, hk, hp, hp', hl => by
    obtain ⟨k, rfl⟩ : ∃ q, kf = q + 1 + 1 := ⟨kf - 2, by omega⟩
    simp only [spec_l7Net.l0]
    rw [if_neg (by omega)]
    obtain ⟨a, ha, a0, a1⟩ := pick_some h k p 4 hp (by omega)
    rw [ha]; simp only [Option.bind_some]
    obtain ⟨n, rfl⟩ := Int.eq_ofNat_of_zero_le a0
    obtain ⟨ys', q, e, h1, h2, h3⟩ := l1_some h x4 xs n (k + 1) (p + 1) [] (by omega) (by omega) (by omega) (by simp; omega)
    refine ⟨xs, ys', q, e, by omega, ?_, h2, by omega⟩
    simp at h1; omega
  | d + 1, kf, i, p, xs, hx, hi, hk, hp, hp', hl => by
    obtain ⟨k, rfl⟩ : ∃ q, kf = q + 1 + 1 + 1 := ⟨kf - 3, by omega⟩
    simp only [spec_l7Net.l0]
    rw [if_pos (by omega)]
    obtain ⟨a, ha, a0, a1⟩ := pick_some h (k + 1) p 3 hp (by omega)
    obtain ⟨b, hb, b0, b1⟩ := pick_some h (k + 1) (p + 1) 2 (by omega) (by omega)
    obtain ⟨c, n, q, hc, c0, c1, _⟩ := kind_some h (k + 1) (p + 1 + 1) (by omega) (by omega)
    rw [ha]; simp only [Option.bind_some]
    rw [hb]; simp only [Option.bind_some]
    rw [hc]; simp only [Option.bind_some]
    have hwi : wrap64 (i + 1) = i + 1 := wrap_id (by omega) (by omega)
    split
    · obtain ⟨xs', ys', r, e, h1, h2, h3, h4⟩ := j1_some h (k + 1) x4 i q xs c n d (by omega) (by omega) (by omega) (by omega) (fun q' zs g1 g2 g3 => by
        rw [hwi]
        obtain ⟨xs', ys', r, e, h1, h2, h3, h4⟩ := l0_some h x4 h10 d (k + 1) (i + 1) q' zs (by omega) (by omega) (by omega) (by omega) (by omega) (by omega)
        exact ⟨xs', ys', r, e, by omega, h2, h3, by omega⟩)
      exact ⟨xs', ys', r, e, by omega, h2, h3, by omega⟩
    · obtain ⟨xs', ys', r, e, h1, h2, h3, h4⟩ := j1_some h (k + 1) x4 i (p + 1 + 1) xs (wrap64 (11 + a)) 0 d (by omega) (by omega) (by omega) (by omega) (fun q' zs g1 g2 g3 => by
        rw [hwi]
        obtain ⟨xs', ys', r, e, h1, h2, h3, h4⟩ := l0_some h x4 h10 d (k + 1) (i + 1) q' zs (by omega) (by omega) (by omega) (by omega) (by omega) (by omega)
        exact ⟨xs', ys', r, e, by omega, h2, h3, by omega⟩)
      exact ⟨xs', ys', r, e, by omega, h2, h3, by omega⟩
theorem net_some {l : List Int} (h : Byt l) (k : Nat) (hk : 100 ≤ k) : ∃ xs ys q, spec_l7Net.f k l 0 = some (xs, ys, q) ∧ xs.length ≤ 10 ∧ ys.length ≤ 3 ∧ 0 ≤ q ∧ q ≤ 1000 := by
  unfold spec_l7Net.f
  obtain ⟨k, rfl⟩ : ∃ q, k = q + 1 := ⟨k - 1, by omega⟩
  obtain ⟨a, ha, a0, a1⟩ := pick_some h k 0 6 (by omega) (by omega)
  rw [ha]; simp only [Option.bind_some]
  obtain ⟨n, rfl⟩ := Int.eq_ofNat_of_zero_le a0
  obtain ⟨xs, ys, q, e, h1, h2, h3, h4⟩ := l0_some h (n : Int) (by omega) n (k + 1) 0 (0 + 1) [] (by omega) (by omega) (by omega) (by omega) (by omega) (by simp; omega)
  refine ⟨xs, ys, q, e, ?_, h2, h3, by omega⟩
  simp at h1; omega
theorem bent_j0 {l : List Int} (h : Byt l) (k : Nat) (p : Int) (xs : List S43) (ys : List S66) (hp : 0 ≤ p) (hp' : p ≤ 10000) (hx : xs.length ≤ 10) (hy : ys.length ≤ 3) : ∃ xs' ys' q, spec_l7Bent.j0 (k + 2) l p xs ys = some (xs', ys', q) := by
  rw [show k + 2 = (k + 1) + 1 from rfl]
  simp only [spec_l7Bent.j0]
  by_cases h0 : (xs.length : Int) = 0
  · rw [if_pos h0]; exact ⟨_, _, _, rfl⟩
  rw [if_neg h0]
  obtain ⟨a, ha, a0, a1⟩ := pick_some h k p (xs.length : Int) hp (by omega)
  obtain ⟨b, hb, _⟩ := pick_some h k (p + 1) 40 (by omega) (by omega)
  rw [ha]; simp only [Option.bind_some]
  rw [hb]; simp only [Option.bind_some]
  have ax : a < (xs.length : Int) := by omega
  rw [if_pos a0, if_pos ax]
  split
  · exact ⟨_, _, _, rfl⟩
  split
  · obtain ⟨c, hc, _⟩ := num_some h k (p + 1 + 1) [0, 6, 14, 4] (by simp) (by omega) (by omega)
    rw [hc]; simp only [Option.bind_some]
    exact ⟨_, _, _, rfl⟩
  split
  · obtain ⟨c, hc, _⟩ := num_some h k (p + 1 + 1) [(-1), 1, 1001] (by simp) (by omega) (by omega)
    rw [hc]; simp only [Option.bind_some]
    exact ⟨_, _, _, rfl⟩
  split
  · obtain ⟨c, hc, _⟩ := pick_some h k (p + 1 + 1) 5 (by omega) (by omega)
    obtain ⟨e, he, _⟩ := pick_some h k (p + 1 + 1 + 1) 9 (by omega) (by omega)
    rw [hc]; simp only [Option.bind_some]
    rw [he]; simp only [Option.bind_some]
    rw [if_pos (by omega)]
    exact ⟨_, _, _, rfl⟩
  · exact ⟨_, _, _, rfl⟩
theorem bent_some {l : List Int} (h : Byt l) : ∃ xs ys q, spec_l7Bent.f 1000 l 0 = some (xs, ys, q) := by
  unfold spec_l7Bent.f
  obtain ⟨xs, ys, q, e, h1, h2, h3, h4⟩ := net_some h 1000 (by omega)
  rw [e]; simp only [Option.bind_some]
  obtain ⟨a, ha, a0, a1⟩ := pick_some h 999 q 3 h3 (by omega)
  rw [ha]; simp only [Option.bind_some]
  split
  · have et : spec_l7Turned.f 1000 xs ys = some (xs.reverse.map (turnW ((xs.length : Int) - 1)), ys.map (turnD ((xs.length : Int) - 1))) := by
      unfold spec_l7Turned.f; rw [if_pos ⟨by omega, by omega⟩]
    rw [et]; simp only [Option.bind_some]
    exact bent_j0 h 998 (q + 1) _ _ (by omega) (by omega) (by simpa using h1) (by simpa using h2)
  · exact bent_j0 h 998 (q + 1) _ _ (by omega) (by omega) h1 h2
theorem draw_some {l : List Int} (h : Byt l) : ∃ xs ys, spec_DrawNetOk.f 1000 l = some (xs, ys) := by
  unfold spec_DrawNetOk.f
  obtain ⟨l', ho, h'⟩ := open_some h
  rw [ho]; simp only [Option.bind_some]
  obtain ⟨xs, ys, q, e⟩ := bent_some h'
  rw [e]; simp only [Option.bind_some]
  exact ⟨_, _, rfl⟩
/-- The law returns true for every list of bytes. -/
theorem walkLaw (A0 : Option Addr) (c0 : Nat) (l0 : List Int) (w : World) (hr : Kd.C (Kd.int .u8) w A0 l0.length l0) (hc : l0.length ≤ c0) (hb : Byt l0) :
    Calls Tryz.prog 4 #[.slice A0 l0.length c0] w fun e w' => e = .returned (.bool true) ∧ Below w.heap.size w w' := by
  by_cases hl : (l0.length : Int) > 1048576
  · have t1 : decide ((l0.length : Int) > 1048576) = true := decide_eq_true hl
    have t1' : decide (1048576 < (l0.length : Int)) = true := decide_eq_true hl
    go_enter Tryz.func4, Tryz.ntmps4
    go_wp2
    go_ret
    exact ⟨rfl, Below.refl _ _⟩
  · obtain ⟨xs, ys, e⟩ := draw_some hb
    refine walk A0 c0 l0 w hl xs ys ((spec_DrawNetOk.calls 1000 A0 c0 l0 xs ys w hr hc e).mono ?_) (laws xs ys) (fun h => ⟨(nOk_open h).1, (nOk_open h).2.1⟩)
    rintro e w' ⟨v0, v1, rfl, hR, hS, hB⟩
    obtain ⟨A, c, rfl, h1, h2⟩ := Kd.R_reads hR
    obtain ⟨B, d, rfl, h3, h4⟩ := Kd.R_reads hS
    exact ⟨A, c, B, d, rfl, h1, h3, h2, h4, hB⟩
theorem walkRow (a0 : Option Addr) (len0 cap0 : Nat) (z0 : List Int) (w : World) (w0 : (a0 = none ∧ len0 = 0 ∧ cap0 = 0 ∧ z0 = []) ∨ ∃ x, a0 = some x ∧ len0 ≤ cap0 ∧ cap0 ≤ maxLen ∧ z0.length = cap0 ∧ (∀ i, i < z0.length → w.cell? (x.add i) = some (.int .u8 (z0.getD i 0))) ∧ ∀ n ∈ z0, (Lit.int .u8 n).wf = true) (y0 : len0 * 1 ≤ 140737488351232) :
    Calls Tryz.prog 4 #[.slice a0 len0 cap0] w fun e w' => e = .returned (.bool true) ∧ Below w.heap.size w w' := by
  obtain ⟨l0, rfl, hr0, hm0, hw0, hc0⟩ := ReadsInt.ofRowC w0
  exact walkLaw a0 cap0 l0 w (Kd.C_of_reads (d := (0 : Int)) (h1 := fun _ => rfl) hr0) hc0 (byt_of hw0)
end Go.Proofs.YtphblfmjdiigkaaGreatDoor.Hk17
