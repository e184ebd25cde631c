/- Whether two nets are one: what both sides answer. No condition. -/
import Derived.Test.YtphblfmjdiigkaaGreatDoorTFnNetSameHFnNetSamex10
import Derived.Test.YtphblfmjdiigkaaGreatDoorTFnNetSameHFnNetSamex15
import Derived.Test.YtphblfmjdiigkaaGreatDoorTFnNetSameHFnNetSamex16
import Derived.WalkSmall
namespace Go.Proofs.YtphblfmjdiigkaaGreatDoor.Hv9
open Go.RowKit Go.Proofs.YtphblfmjdiigkaaGreatDoor.HFnNetSame Go.Proofs.YtphblfmjdiigkaaGreatDoorW.PrintWords Go.Proofs.YtphblfmjdiigkaaGreatDoorW.PrintLast Go.Proofs.YtphblfmjdiigkaaGreatDoorW.PrintMore
set_option linter.unusedVariables false
set_option linter.unusedSimpArgs false
theorem wrap_id' {x : Int} (h1 : -9223372036854775808 ≤ x) (h2 : x ≤ 9223372036854775807) : wrap64 x = x := by
  unfold wrap64; omega
theorem rd43' (l : List S43) (i : Nat) (h : i < l.length) : rd_T43 l (i : Int) = l[i] := by
  unfold rd_T43; rw [Int.toNat_natCast, List.getD_eq_getElem?_getD, List.getElem?_eq_getElem h]; rfl
theorem rd66' (l : List S66) (i : Nat) (h : i < l.length) : rd_T66 l (i : Int) = l[i] := by
  unfold rd_T66; rw [Int.toNat_natCast, List.getD_eq_getElem?_getD, List.getElem?_eq_getElem h]; rfl
theorem drop_eq {α : Type} {a c : List α} {i : Nat} (ha : i < a.length) (hc : i < c.length) : (a.drop i = c.drop i) ↔ (a[i] = c[i] ∧ a.drop (i + 1) = c.drop (i + 1)) := by
  rw [List.drop_eq_getElem_cons ha, List.drop_eq_getElem_cons hc, List.cons.injEq]
theorem impW (a c : List S43) (hl : a.length = c.length) (hb : a.length ≤ 9223372036854775807) : ∀ (d k i : Nat), i + d = a.length → d < k → ∃ v, impl_Wire_39.l0 k a c (a.length : Int) (i : Int) = some v ∧ (v = true ↔ a.drop i = c.drop i)
  | 0, k, i, hi, hk => by
    obtain ⟨k, rfl⟩ : ∃ q, k = q + 1 := ⟨k - 1, by omega⟩
    rw [impl_Wire_39.l0, if_neg (by omega)]
    exact ⟨true, rfl, by rw [List.drop_of_length_le (by omega), List.drop_of_length_le (by omega)]; simp⟩
  | d + 1, k, i, hi, hk => by
    obtain ⟨k, rfl⟩ : ∃ q, k = q + 1 := ⟨k - 1, by omega⟩
    have hw : wrap64 ((i : Int) + 1) = ((i + 1 : Nat) : Int) := wrap_id' (by omega) (by omega)
    obtain ⟨v, e, hv⟩ := impW a c hl hb d k (i + 1) (by omega) (by omega)
    rw [impl_Wire_39.l0, if_pos (by omega), if_pos (by omega), if_pos (by omega), if_pos (by omega), rd43' a i (by omega), rd43' c i (by omega), hw, e, drop_eq (by omega) (by omega)]
    generalize a[i]'(by omega) = x
    generalize c[i]'(by omega) = y
    obtain ⟨x0, x1, ⟨x2, x3, ⟨x4, x5⟩, x6⟩, ⟨x7, x8, ⟨x9, x10⟩, x11⟩⟩ := x
    obtain ⟨y0, y1, ⟨y2, y3, ⟨y4, y5⟩, y6⟩, ⟨y7, y8, ⟨y9, y10⟩, y11⟩⟩ := y
    split
    · rename_i h
      refine ⟨false, rfl, ⟨fun h => (by cases h), fun h2 => ?_⟩⟩
      obtain ⟨h3, _⟩ := h2
      injection h3 with g0 g1 g2 g3
      injection g2 with g4 g5 g6 g7
      injection g6 with g8 g9
      injection g3 with g10 g11 g12 g13
      injection g12 with g14 g15
      subst g0 g1 g4 g5 g8 g9 g7 g10 g11 g14 g15 g13
      simp at h
    · rename_i h
      refine ⟨v, rfl, hv.trans ⟨fun h2 => ⟨?_, h2⟩, fun h2 => h2.2⟩⟩
      simp only [Bool.or_eq_true, Bool.not_eq_true', not_or, Bool.not_eq_false, beq_iff_eq, beq_eq_false_iff_ne, ne_eq, Decidable.not_not] at h
      obtain ⟨rfl, rfl, ⟨rfl, rfl, ⟨rfl, rfl⟩, rfl⟩, rfl, rfl, ⟨rfl, rfl⟩, rfl⟩ := h
      rfl
theorem impD (a c : List S66) (hl : a.length = c.length) (hb : a.length ≤ 9223372036854775807) : ∀ (d k i : Nat), i + d = a.length → d < k → ∃ v, impl_Drive_40.l0 k a c (a.length : Int) (i : Int) = some v ∧ (v = true ↔ a.drop i = c.drop i)
  | 0, k, i, hi, hk => by
    obtain ⟨k, rfl⟩ : ∃ q, k = q + 1 := ⟨k - 1, by omega⟩
    rw [impl_Drive_40.l0, if_neg (by omega)]
    exact ⟨true, rfl, by rw [List.drop_of_length_le (by omega), List.drop_of_length_le (by omega)]; simp⟩
  | d + 1, k, i, hi, hk => by
    obtain ⟨k, rfl⟩ : ∃ q, k = q + 1 := ⟨k - 1, by omega⟩
    have hw : wrap64 ((i : Int) + 1) = ((i + 1 : Nat) : Int) := wrap_id' (by omega) (by omega)
    obtain ⟨v, e, hv⟩ := impD a c hl hb d k (i + 1) (by omega) (by omega)
    rw [impl_Drive_40.l0, if_pos (by omega), if_pos (by omega), if_pos (by omega), if_pos (by omega), rd66' a i (by omega), rd66' c i (by omega), hw, e, drop_eq (by omega) (by omega)]
    generalize a[i]'(by omega) = x
    generalize c[i]'(by omega) = y
    obtain ⟨⟨x0, x1⟩, x2⟩ := x
    obtain ⟨⟨y0, y1⟩, y2⟩ := y
    split
    · rename_i h
      refine ⟨false, rfl, ⟨fun h => (by cases h), fun h2 => ?_⟩⟩
      obtain ⟨h3, _⟩ := h2
      injection h3 with g0 g1
      injection g0 with g2 g3
      subst g1 g2 g3
      simp at h
    · rename_i h
      refine ⟨v, rfl, hv.trans ⟨fun h2 => ⟨?_, h2⟩, fun h2 => h2.2⟩⟩
      simp only [Bool.or_eq_true, Bool.not_eq_true', not_or, Bool.not_eq_false, beq_iff_eq, beq_eq_false_iff_ne, ne_eq, Decidable.not_not] at h
      obtain ⟨⟨rfl, rfl⟩, rfl⟩ := h
      rfl
theorem impSame (a c : List S43) (b e : List S66) (ha : a.length ≤ 9223372036854775807) (hb : b.length ≤ 9223372036854775807) : ∃ k v, impl_NetSame.f k a b c e = some v ∧ (v = true ↔ (a = c ∧ b = e)) := by
  refine ⟨a.length + b.length + 1, ?_⟩
  unfold impl_NetSame.f
  obtain ⟨v, h1, h2⟩ : ∃ v, impl_Wire_39.f (a.length + b.length + 1) a c = some v ∧ (v = true ↔ a = c) := by
    unfold impl_Wire_39.f
    by_cases h : (a.length : Int) = (c.length : Int)
    · rw [if_pos h]
      obtain ⟨v, e1, e2⟩ := impW a c (by omega) ha a.length (a.length + b.length + 1) 0 (by omega) (by omega)
      rw [List.drop_zero, List.drop_zero] at e2
      exact ⟨v, e1, e2⟩
    · rw [if_neg h]; exact ⟨false, rfl, ⟨fun h => (by cases h), fun h2 => absurd (by rw [h2]) h⟩⟩
  obtain ⟨u, h3, h4⟩ : ∃ v, impl_Drive_40.f (a.length + b.length + 1) b e = some v ∧ (v = true ↔ b = e) := by
    unfold impl_Drive_40.f
    by_cases h : (b.length : Int) = (e.length : Int)
    · rw [if_pos h]
      obtain ⟨v, e1, e2⟩ := impD b e (by omega) hb b.length (a.length + b.length + 1) 0 (by omega) (by omega)
      rw [List.drop_zero, List.drop_zero] at e2
      exact ⟨v, e1, e2⟩
    · rw [if_neg h]; exact ⟨false, rfl, ⟨fun h => (by cases h), fun h2 => absurd (by rw [h2]) h⟩⟩
  rw [h1]
  simp only [Option.bind_some]
  cases v with
  | true => rw [if_pos rfl, h3]; exact ⟨u, rfl, h4.trans ⟨fun h => ⟨h2.1 rfl, h⟩, fun h => h.2⟩⟩
  | false => rw [if_neg (by simp)]; exact ⟨false, rfl, ⟨fun h => (by cases h), fun h => absurd (h2.2 h.1) (by simp)⟩⟩
theorem speD (a c : List S43) (b e : List S66) (hl : b.length = e.length) (hb : b.length ≤ 9223372036854775807) : ∀ (d k i : Nat), i + d = b.length → d < k → ∃ v, spec_NetSame.l1 k (i : Int) a b c e = some v ∧ (v = true ↔ b.drop i = e.drop i)
  | 0, k, i, hi, hk => by
    obtain ⟨k, rfl⟩ : ∃ q, k = q + 1 := ⟨k - 1, by omega⟩
    rw [spec_NetSame.l1, if_neg (by omega)]
    exact ⟨true, rfl, by rw [List.drop_of_length_le (by omega), List.drop_of_length_le (by omega)]; simp⟩
  | d + 1, k, i, hi, hk => by
    obtain ⟨k, rfl⟩ : ∃ q, k = q + 1 := ⟨k - 1, by omega⟩
    have hw : wrap64 ((i : Int) + 1) = ((i + 1 : Nat) : Int) := wrap_id' (by omega) (by omega)
    obtain ⟨v, e', hv⟩ := speD a c b e hl hb d k (i + 1) (by omega) (by omega)
    rw [spec_NetSame.l1, if_pos (by omega), if_pos (by omega), if_pos (by omega), rd66' b i (by omega), rd66' e i (by omega), hw, e', drop_eq (by omega) (by omega)]
    generalize b[i]'(by omega) = x
    generalize e[i]'(by omega) = y
    obtain ⟨⟨x0, x1⟩, x2⟩ := x
    obtain ⟨⟨y0, y1⟩, y2⟩ := y
    split
    · rename_i h
      refine ⟨false, rfl, ⟨fun h => (by cases h), fun h2 => ?_⟩⟩
      obtain ⟨h3, _⟩ := h2
      injection h3 with g0 g1
      injection g0 with g2 g3
      subst g1 g2 g3
      simp at h
    · rename_i h
      refine ⟨v, rfl, hv.trans ⟨fun h2 => ⟨?_, h2⟩, fun h2 => h2.2⟩⟩
      simp only [Bool.or_eq_true, Bool.not_eq_true', not_or, Bool.not_eq_false, beq_iff_eq, beq_eq_false_iff_ne, ne_eq, Decidable.not_not] at h
      obtain ⟨⟨rfl, rfl⟩, rfl⟩ := h
      rfl
theorem speW (a c : List S43) (b e : List S66) (hl : a.length = c.length) (ha : a.length ≤ 9223372036854775807) (hm : b.length = e.length) (hb : b.length ≤ 9223372036854775807) : ∀ (d k i : Nat), i + d = a.length → d + b.length + 1 < k → ∃ v, spec_NetSame.l0 k (i : Int) a b c e = some v ∧ (v = true ↔ (a.drop i = c.drop i ∧ b = e))
  | 0, k, i, hi, hk => by
    obtain ⟨k, rfl⟩ : ∃ q, k = q + 1 := ⟨k - 1, by omega⟩
    rw [spec_NetSame.l0, if_neg (by omega)]
    obtain ⟨v, e1, e2⟩ := speD a c b e hm hb b.length k 0 (by omega) (by omega)
    rw [List.drop_zero, List.drop_zero] at e2
    refine ⟨v, e1, e2.trans ⟨fun h => ⟨by rw [List.drop_of_length_le (by omega), List.drop_of_length_le (by omega)], h⟩, fun h => h.2⟩⟩
  | d + 1, k, i, hi, hk => by
    obtain ⟨k, rfl⟩ : ∃ q, k = q + 1 := ⟨k - 1, by omega⟩
    have hw : wrap64 ((i : Int) + 1) = ((i + 1 : Nat) : Int) := wrap_id' (by omega) (by omega)
    obtain ⟨v, e', hv⟩ := speW a c b e hl ha hm hb d k (i + 1) (by omega) (by omega)
    rw [spec_NetSame.l0, if_pos (by omega), if_pos (by omega), if_pos (by omega), rd43' a i (by omega), rd43' c i (by omega), hw, e', drop_eq (by omega) (by omega)]
    generalize a[i]'(by omega) = x
    generalize c[i]'(by omega) = y
    obtain ⟨x0, x1, ⟨x2, x3, ⟨x4, x5⟩, x6⟩, ⟨x7, x8, ⟨x9, x10⟩, x11⟩⟩ := x
    obtain ⟨y0, y1, ⟨y2, y3, ⟨y4, y5⟩, y6⟩, ⟨y7, y8, ⟨y9, y10⟩, y11⟩⟩ := y
    split
    · rename_i h
      refine ⟨false, rfl, ⟨fun h => (by cases h), fun h2 => ?_⟩⟩
      obtain ⟨⟨h3, _⟩, _⟩ := h2
      injection h3 with g0 g1 g2 g3
      injection g2 with g4 g5 g6 g7
      injection g6 with g8 g9
      injection g3 with g10 g11 g12 g13
      injection g12 with g14 g15
      subst g0 g1 g4 g5 g8 g9 g7 g10 g11 g14 g15 g13
      simp at h
    · rename_i h
      refine ⟨v, rfl, hv.trans ⟨fun h2 => ⟨⟨?_, h2.1⟩, h2.2⟩, fun h2 => ⟨h2.1.2, h2.2⟩⟩⟩
      simp only [Bool.or_eq_true, Bool.not_eq_true', not_or, Bool.not_eq_false, beq_iff_eq, beq_eq_false_iff_ne, ne_eq, Decidable.not_not] at h
      obtain ⟨rfl, rfl, ⟨rfl, rfl, ⟨rfl, rfl⟩, rfl⟩, rfl, rfl, ⟨rfl, rfl⟩, rfl⟩ := h
      rfl
theorem speSame (a c : List S43) (b e : List S66) (ha : a.length ≤ 9223372036854775807) (hb : b.length ≤ 9223372036854775807) : ∃ k v, spec_NetSame.f k a b c e = some v ∧ (v = true ↔ (a = c ∧ b = e)) := by
  refine ⟨a.length + b.length + 4, ?_⟩
  unfold spec_NetSame.f
  by_cases h : (a.length : Int) = (c.length : Int)
  · rw [if_pos h, spec_NetSame.j0]
    by_cases h2 : b.length = e.length
    · rw [if_neg (by simp [h2])]
      obtain ⟨v, e1, e2⟩ := speW a c b e (by omega) ha h2 hb a.length (a.length + b.length + 3) 0 (by omega) (by omega)
      rw [List.drop_zero, List.drop_zero] at e2
      exact ⟨v, e1, e2⟩
    · rw [if_pos (by simp; omega)]
      exact ⟨false, rfl, ⟨fun h => (by cases h), fun h3 => absurd (by rw [h3.2]) h2⟩⟩
  · rw [if_neg h, spec_NetSame.j0, if_pos rfl]
    exact ⟨false, rfl, ⟨fun h => (by cases h), fun h3 => absurd (by rw [h3.1]) h⟩⟩
end Go.Proofs.YtphblfmjdiigkaaGreatDoor.Hv9
