/- The two texts of a net are one. No condition. -/
import Derived.Test.YtphblfmjdiigkaaGreatDoorTFnNetSameHv4
namespace Go.Proofs.YtphblfmjdiigkaaGreatDoor.Hv5
open Go.RowKit Go.Proofs.YtphblfmjdiigkaaGreatDoor.Hv4 Go.Proofs.YtphblfmjdiigkaaGreatDoor.Hv3 Go.Proofs.YtphblfmjdiigkaaGreatDoor.Hv2 Go.Proofs.YtphblfmjdiigkaaGreatDoor.Hu9 Go.Proofs.YtphblfmjdiigkaaGreatDoor.Hu8 Go.Proofs.YtphblfmjdiigkaaGreatDoor.Hb Go.Proofs.YtphblfmjdiigkaaGreatDoor.Hu1 Go.Proofs.YtphblfmjdiigkaaGreatDoor.Hu2 Go.Proofs.YtphblfmjdiigkaaGreatDoor.Hu3 Go.Proofs.YtphblfmjdiigkaaGreatDoor.Hu4 Go.Proofs.YtphblfmjdiigkaaGreatDoor.Hu5 Go.Proofs.YtphblfmjdiigkaaGreatDoor.Hu6 Go.Proofs.YtphblfmjdiigkaaGreatDoor.Hu7 Go.Proofs.YtphblfmjdiigkaaGreatDoor.HFnNetSame Go.Proofs.YtphblfmjdiigkaaGreatDoorW.PrintWords Go.Proofs.YtphblfmjdiigkaaGreatDoorW.PrintLast Go.Proofs.YtphblfmjdiigkaaGreatDoorW.PrintMore
set_option linter.unusedVariables false
set_option linter.unusedSimpArgs false
theorem wf_facts {x : S43} {n : Int} (h : wOk x n = true) : 0 ≤ x.f1 ∧ x.f1 ≤ 1000 ∧ (!(gB x.f0) && decide (x.f0 ≤ 3)) = (blB x.f0 && decide (x.f0 ≤ 3)) ∧ sOkS x.f2 n = true ∧ (twB x.f0 = true → sOkS x.f3 n = true) := by
  have hw := wk_facts h
  have h' := h
  unfold wOk at h'
  simp only [Bool.and_eq_true, Bool.not_eq_true', Bool.or_eq_false_iff, Bool.and_eq_false_iff] at h'
  obtain ⟨⟨⟨h1, h2⟩, h3⟩, -⟩ := h'
  have hin := hw.2.2
  refine ⟨?_, ?_, ?_, hin _ (by unfold insL; split <;> simp), fun ht => hin _ (by unfold insL; rw [if_pos ht]; simp)⟩
  · rcases hw.1 with hk | hk
    · have hb : blB x.f0 = true := by unfold blB; simp; omega
      rcases h2 with h2 | h2
      · rw [hb] at h2; cases h2
      · unfold sizedB at h2; simp at h2; omega
    · have hg : gB x.f0 = true := by unfold gB; simp; omega
      rcases h1 with h1 | h1
      · rw [hg] at h1; cases h1
      · simp at h1; omega
  · rcases hw.1 with hk | hk
    · have hb : blB x.f0 = true := by unfold blB; simp; omega
      rcases h2 with h2 | h2
      · rw [hb] at h2; cases h2
      · unfold sizedB at h2; simp at h2; omega
    · have hg : gB x.f0 = true := by unfold gB; simp; omega
      rcases h1 with h1 | h1
      · rw [hg] at h1; cases h1
      · simp at h1; omega
  · unfold gB blB
    rcases hw.1 with hk | hk
    · rw [decide_eq_false (by omega : ¬ 11 ≤ x.f0), decide_eq_true (by omega : 1 ≤ x.f0), decide_eq_true (by omega : x.f0 ≤ 5)]; rfl
    · rw [decide_eq_false (by omega : ¬ x.f0 ≤ 3)]; simp
end Go.Proofs.YtphblfmjdiigkaaGreatDoor.Hv5
namespace Go.Proofs.YtphblfmjdiigkaaGreatDoor.Hv8
open Go.RowKit Go.Proofs.YtphblfmjdiigkaaGreatDoor.Hv5 Go.Proofs.YtphblfmjdiigkaaGreatDoor.Hv4 Go.Proofs.YtphblfmjdiigkaaGreatDoor.Hv3 Go.Proofs.YtphblfmjdiigkaaGreatDoor.Hv2 Go.Proofs.YtphblfmjdiigkaaGreatDoor.Hu9 Go.Proofs.YtphblfmjdiigkaaGreatDoor.Hu8 Go.Proofs.YtphblfmjdiigkaaGreatDoor.Hb Go.Proofs.YtphblfmjdiigkaaGreatDoor.Hu1 Go.Proofs.YtphblfmjdiigkaaGreatDoor.Hu2 Go.Proofs.YtphblfmjdiigkaaGreatDoor.Hu3 Go.Proofs.YtphblfmjdiigkaaGreatDoor.Hu4 Go.Proofs.YtphblfmjdiigkaaGreatDoor.Hu5 Go.Proofs.YtphblfmjdiigkaaGreatDoor.Hu6 Go.Proofs.YtphblfmjdiigkaaGreatDoor.Hu7 Go.Proofs.YtphblfmjdiigkaaGreatDoor.HFnNetSame Go.Proofs.YtphblfmjdiigkaaGreatDoorW.PrintWords Go.Proofs.YtphblfmjdiigkaaGreatDoorW.PrintLast Go.Proofs.YtphblfmjdiigkaaGreatDoorW.PrintMore
set_option linter.unusedVariables false
set_option linter.unusedSimpArgs false
theorem split_at {α : Type} (c : α) : ∀ (a b r s : List α), c ∉ a → c ∉ b → a ++ c :: r = b ++ c :: s → a = b ∧ r = s
  | [], [], r, s, _, _, h => ⟨rfl, by simpa using h⟩
  | [], y :: b, r, s, _, hb, h => by
    simp only [List.nil_append, List.cons_append, List.cons.injEq] at h
    exact absurd (by rw [h.1]; exact List.mem_cons_self ..) hb
  | x :: a, [], r, s, ha, _, h => by
    simp only [List.nil_append, List.cons_append, List.cons.injEq] at h
    exact absurd (by rw [← h.1]; exact List.mem_cons_self ..) ha
  | x :: a, y :: b, r, s, ha, hb, h => by
    simp only [List.cons_append, List.cons.injEq] at h
    have := split_at c a b r s (fun hm => ha (List.mem_cons_of_mem _ hm)) (fun hm => hb (List.mem_cons_of_mem _ hm)) h.2
    exact ⟨by rw [h.1, this.1], this.2⟩
theorem join_inj (p q : List UInt8) (c : UInt8) (hp : c ∉ p) : ∀ (xs ys : List (List UInt8)) (x y : List UInt8), (∀ z ∈ x :: xs, c ∉ z) → (∀ z ∈ y :: ys, c ∉ z) →
    x ++ Lib.joinTail (p ++ c :: q) xs = y ++ Lib.joinTail (p ++ c :: q) ys → x = y ∧ xs = ys
  | [], [], x, y, _, _, h => ⟨by simpa [Lib.joinTail] using h, rfl⟩
  | [], v :: ys, x, y, hx, hy, h => by
    exfalso
    have hc : c ∈ x ++ Lib.joinTail (p ++ c :: q) [] := by rw [h]; simp [Lib.joinTail]
    simp [Lib.joinTail] at hc
    exact hx x (List.mem_cons_self ..) hc
  | u :: xs, [], x, y, hx, hy, h => by
    exfalso
    have hc : c ∈ y ++ Lib.joinTail (p ++ c :: q) [] := by rw [← h]; simp [Lib.joinTail]
    simp [Lib.joinTail] at hc
    exact hy y (List.mem_cons_self ..) hc
  | u :: xs, v :: ys, x, y, hx, hy, h => by
    have e1 : x ++ Lib.joinTail (p ++ c :: q) (u :: xs) = (x ++ p) ++ c :: (q ++ (u ++ Lib.joinTail (p ++ c :: q) xs)) := by simp [Lib.joinTail]
    have e2 : y ++ Lib.joinTail (p ++ c :: q) (v :: ys) = (y ++ p) ++ c :: (q ++ (v ++ Lib.joinTail (p ++ c :: q) ys)) := by simp [Lib.joinTail]
    rw [e1, e2] at h
    have hs := split_at c _ _ _ _ (fun hm => (List.mem_append.1 hm).elim (hx x (List.mem_cons_self ..)) hp) (fun hm => (List.mem_append.1 hm).elim (hy y (List.mem_cons_self ..)) hp) h
    have hxy : x = y := List.append_cancel_right hs.1
    have ih := join_inj p q c hp xs ys u v (fun z hz => hx z (List.mem_cons_of_mem _ hz)) (fun z hz => hy z (List.mem_cons_of_mem _ hz)) (List.append_cancel_left hs.2)
    exact ⟨hxy, by rw [ih.1, ih.2]⟩
def bl (x : ByteArray) : List UInt8 := x.data.toList
theorem bl_inj {x y : ByteArray} (h : bl x = bl y) : x = y := ByteArray.ext (Array.ext' h)
theorem bl_app (x y : ByteArray) : bl (x ++ y) = bl x ++ bl y := by
  unfold bl; simp only [ByteArray.data_append, Array.toList_append]
theorem bl_join (xs : List ByteArray) (sep : ByteArray) : bl (joinS xs sep) = Lib.join (xs.map bl) (bl sep) := by
  unfold bl joinS; simp
theorem map_bl_inj : ∀ {xs ys : List ByteArray}, xs.map bl = ys.map bl → xs = ys
  | [], [], _ => rfl
  | [], y :: ys, h => by cases h
  | x :: xs, [], h => by cases h
  | x :: xs, y :: ys, h => by
    rw [List.map_cons, List.map_cons] at h
    injection h with h1 h2
    rw [bl_inj h1, map_bl_inj h2]
theorem joinS_inj (p q : List UInt8) (c : UInt8) (hp : c ∉ p) (sep : ByteArray) (hsep : bl sep = p ++ c :: q) (xs ys : List ByteArray) (hx : xs ≠ []) (hy : ys ≠ []) (cx : ∀ z ∈ xs, c ∉ bl z) (cy : ∀ z ∈ ys, c ∉ bl z) (h : joinS xs sep = joinS ys sep) : xs = ys := by
  cases xs with
  | nil => exact absurd rfl hx
  | cons x xs =>
    cases ys with
    | nil => exact absurd rfl hy
    | cons y ys =>
      have h' := congrArg bl h
      rw [bl_join, bl_join, hsep, List.map_cons, List.map_cons, Lib.join_cons, Lib.join_cons] at h'
      have := join_inj p q c hp _ _ _ _ (fun z hz => by
        rcases List.mem_cons.1 hz with rfl | hz
        · exact cx x (List.mem_cons_self ..)
        · obtain ⟨u, hu, rfl⟩ := List.mem_map.1 hz
          exact cx u (List.mem_cons_of_mem _ hu)) (fun z hz => by
        rcases List.mem_cons.1 hz with rfl | hz
        · exact cy y (List.mem_cons_self ..)
        · obtain ⟨u, hu, rfl⟩ := List.mem_map.1 hz
          exact cy u (List.mem_cons_of_mem _ hu)) h'
      rw [bl_inj this.1, map_bl_inj this.2]
theorem dec_rng : ∀ (u : Nat), ∀ b ∈ Lib.decDigits u, 48 ≤ b.toNat ∧ b.toNat ≤ 57 := by
  intro u
  induction u using Nat.strongRecOn with
  | _ u ih =>
    intro b hb
    have hd : ∀ d : Nat, d < 10 → 48 ≤ (UInt8.ofNat (48 + d)).toNat ∧ (UInt8.ofNat (48 + d)).toNat ≤ 57 := by
      intro d hd
      rw [UInt8.toNat_ofNat']
      omega
    rw [Lib.decDigits] at hb
    by_cases h : u < 10
    · rw [dif_pos h] at hb
      rw [List.mem_singleton.1 hb]
      exact hd u h
    · rw [dif_neg h] at hb
      rcases List.mem_append.1 hb with hb | hb
      · exact ih (u / 10) (by omega) b hb
      · rw [List.mem_singleton.1 hb]
        exact hd _ (by omega)
def val (l : List UInt8) : Nat := l.foldl (fun a b => a * 10 + (b.toNat - 48)) 0
theorem dec_val : ∀ (u : Nat), val (Lib.decDigits u) = u := by
  intro u
  induction u using Nat.strongRecOn with
  | _ u ih =>
    have hd : ∀ d : Nat, d < 10 → (UInt8.ofNat (48 + d)).toNat - 48 = d := by
      intro d hd
      rw [UInt8.toNat_ofNat']
      omega
    rw [Lib.decDigits]
    by_cases h : u < 10
    · rw [dif_pos h]
      show 0 * 10 + ((UInt8.ofNat (48 + u)).toNat - 48) = u
      rw [hd u h]; omega
    · rw [dif_neg h]
      unfold val
      rw [List.foldl_append]
      have := ih (u / 10) (by omega)
      unfold val at this
      rw [this]
      show u / 10 * 10 + ((UInt8.ofNat (48 + u % 10)).toNat - 48) = u
      rw [hd _ (by omega)]; omega
theorem bl_itoa (n : Int) (h : 0 ≤ n) : bl (itoaS n) = Lib.decDigits n.toNat := by
  unfold bl itoaS Lib.itoa
  rw [if_neg (by omega)]
theorem itoa_inj {a b : Int} (ha : 0 ≤ a) (hb : 0 ≤ b) (h : Lib.decDigits a.toNat = Lib.decDigits b.toNat) : a = b := by
  have := congrArg val h
  rw [dec_val, dec_val] at this
  omega
theorem dec_no (u : Nat) (c : UInt8) (hc : c.toNat < 48 ∨ 57 < c.toNat) : c ∉ Lib.decDigits u := fun h => by
  have := dec_rng u c h; omega
def nb (x : ByteArray) : Prop := (32 : UInt8) ∉ bl x ∧ (59 : UInt8) ∉ bl x
theorem nb_app {x y : ByteArray} (hx : nb x) (hy : nb y) : nb (x ++ y) := by
  unfold nb; rw [bl_app]
  exact ⟨fun h => (List.mem_append.1 h).elim hx.1 hy.1, fun h => (List.mem_append.1 h).elim hx.2 hy.2⟩
theorem nb_itoa {n : Int} (h : 0 ≤ n) : nb (itoaS n) := by
  unfold nb; rw [bl_itoa n h]
  exact ⟨dec_no _ _ (by decide), dec_no _ _ (by decide)⟩
theorem letS_cases {k : Int} (h1 : 1 ≤ k) (h2 : k ≤ 3) : letS k = ⟨#[105]⟩ ∨ letS k = ⟨#[111]⟩ ∨ letS k = ⟨#[118]⟩ := by
  have : k = 1 ∨ k = 2 ∨ k = 3 := by omega
  rcases this with rfl | rfl | rfl
  · exact .inl rfl
  · exact .inr (.inl rfl)
  · exact .inr (.inr rfl)
theorem nb_let {k : Int} (h1 : 1 ≤ k) (h2 : k ≤ 3) : nb (letS k) := by
  rcases letS_cases h1 h2 with h | h | h <;> rw [h] <;> exact ⟨by decide, by decide⟩
theorem aOk_open {k i : Int} (h : aOk k i = true) : 1 ≤ k ∧ k ≤ 3 ∧ 0 ≤ i ∧ i < 6 := by
  unfold aOk at h; simp only [Bool.and_eq_true, decide_eq_true_eq] at h; exact ⟨h.1, h.2.1, h.2.2.1, h.2.2.2⟩
theorem nb_addr {k i : Int} (h : aOk k i = true) : nb (addrS k i) := by
  obtain ⟨h1, h2, h3, _⟩ := aOk_open h
  exact nb_app (nb_let h1 h2) (nb_itoa h3)
theorem sOk_all {x : S41} {n : Int} (h : sOkS x n = true) : (x.f0 = 1 ∧ x.f1 = 0 ∧ aOk x.f2.f0 x.f2.f1 = true) ∨ (x.f0 = 2 ∧ 0 ≤ x.f1 ∧ x.f2.f0 = 0 ∧ x.f2.f1 = 0) ∨ (x.f0 = 3 ∧ 0 ≤ x.f1 ∧ x.f2.f0 = 0 ∧ x.f2.f1 = 0) := by
  unfold sOkS sOk inB at h
  by_cases h1 : x.f0 = 1
  · rw [if_pos h1] at h; simp only [Bool.and_eq_true, beq_iff_eq] at h; exact .inl ⟨h1, h.1, h.2⟩
  · rw [if_neg h1] at h
    by_cases h2 : x.f0 = 2 ∨ x.f0 = 3
    · rw [if_pos h2] at h
      simp only [Bool.and_eq_true, decide_eq_true_eq, beq_iff_eq] at h
      rcases h2 with h2 | h2
      · exact .inr (.inl ⟨h2, h.2.1, h.1.1, h.1.2⟩)
      · exact .inr (.inr ⟨h2, h.2.1, h.1.1, h.1.2⟩)
    · rw [if_neg h2] at h; cases h
theorem bl_srcM {x : S41} {n : Int} (h : sOkS x n = true) : ∃ (c : UInt8) (d : Nat), bl (srcM x) = c :: Lib.decDigits d ∧
    ((x.f0 = 1 ∧ (d : Int) = x.f2.f1 ∧ x.f1 = 0 ∧ ((x.f2.f0 = 1 ∧ c = 105) ∨ (x.f2.f0 = 2 ∧ c = 111) ∨ (x.f2.f0 = 3 ∧ c = 118))) ∨ (x.f0 = 2 ∧ c = 119 ∧ (d : Int) = x.f1 ∧ x.f2.f0 = 0 ∧ x.f2.f1 = 0) ∨ (x.f0 = 3 ∧ c = 108 ∧ (d : Int) = x.f1 ∧ x.f2.f0 = 0 ∧ x.f2.f1 = 0)) := by
  unfold srcM
  rcases sOk_all h with ⟨h1, h2, h3⟩ | ⟨h1, h2, h3, h4⟩ | ⟨h1, h2, h3, h4⟩
  · obtain ⟨a1, a2, a3, a4⟩ := aOk_open h3
    rw [if_pos h1]
    unfold addrS
    rw [bl_app, bl_itoa _ a3]
    have : x.f2.f0 = 1 ∨ x.f2.f0 = 2 ∨ x.f2.f0 = 3 := by omega
    have ed : ((x.f2.f1.toNat : Nat) : Int) = x.f2.f1 := by omega
    rcases this with e | e | e
    · rw [e]; exact ⟨105, x.f2.f1.toNat, rfl, .inl ⟨h1, ed, h2, .inl ⟨rfl, rfl⟩⟩⟩
    · rw [e]; exact ⟨111, x.f2.f1.toNat, rfl, .inl ⟨h1, ed, h2, .inr (.inl ⟨rfl, rfl⟩)⟩⟩
    · rw [e]; exact ⟨118, x.f2.f1.toNat, rfl, .inl ⟨h1, ed, h2, .inr (.inr ⟨rfl, rfl⟩)⟩⟩
  · rw [if_neg (by omega), if_pos h1, bl_app, bl_itoa _ h2]
    exact ⟨119, x.f1.toNat, rfl, .inr (.inl ⟨h1, rfl, by omega, h3, h4⟩)⟩
  · rw [if_neg (by omega), if_neg (by omega), bl_app, bl_itoa _ h2]
    exact ⟨108, x.f1.toNat, rfl, .inr (.inr ⟨h1, rfl, by omega, h3, h4⟩)⟩
theorem srcM_inj {x y : S41} {n q : Int} (hx : sOkS x n = true) (hy : sOkS y q = true) (hb : x.f3 = y.f3) (h : bl (srcM x) = bl (srcM y)) : x = y := by
  obtain ⟨c, d, e1, h1⟩ := bl_srcM hx
  obtain ⟨c', d', e2, h2⟩ := bl_srcM hy
  rw [e1, e2] at h
  injection h with hc hd
  have hd' := congrArg val hd
  rw [dec_val, dec_val] at hd'
  subst hc hd'
  obtain ⟨a, t, ⟨u, v⟩, b⟩ := x
  obtain ⟨a', t', ⟨u', v'⟩, b'⟩ := y
  simp only at h1 h2 hb
  subst hb
  have k1 : (105 : UInt8) ≠ 111 := by decide
  have k2 : (105 : UInt8) ≠ 118 := by decide
  have k3 : (105 : UInt8) ≠ 119 := by decide
  have k4 : (105 : UInt8) ≠ 108 := by decide
  have k5 : (111 : UInt8) ≠ 118 := by decide
  have k6 : (111 : UInt8) ≠ 119 := by decide
  have k7 : (111 : UInt8) ≠ 108 := by decide
  have k8 : (118 : UInt8) ≠ 119 := by decide
  have k9 : (118 : UInt8) ≠ 108 := by decide
  have k10 : (119 : UInt8) ≠ 108 := by decide
  rcases h1 with ⟨r1, r2, r3, ⟨r4, r5⟩ | ⟨r4, r5⟩ | ⟨r4, r5⟩⟩ | ⟨r1, r5, r2, r3, r4⟩ | ⟨r1, r5, r2, r3, r4⟩ <;>
  rcases h2 with ⟨s1, s2, s3, ⟨s4, s5⟩ | ⟨s4, s5⟩ | ⟨s4, s5⟩⟩ | ⟨s1, s5, s2, s3, s4⟩ | ⟨s1, s5, s2, s3, s4⟩ <;>
  first
  | (rw [r5] at s5; exact absurd s5 (by decide))
  | (subst r1 r3 r4 s1 s3 s4; rw [← r2, ← s2])
theorem srcB_inj {x y : S41} {n q : Int} (hx : sOkS x n = true) (hy : sOkS y q = true) (h : srcB x = srcB y) : x = y := by
  obtain ⟨c, d, e1, h1⟩ := bl_srcM hx
  obtain ⟨c', d', e2, h2⟩ := bl_srcM hy
  have n1 : c ≠ 33 := by
    rcases h1 with ⟨_, _, _, ⟨_, r⟩ | ⟨_, r⟩ | ⟨_, r⟩⟩ | ⟨_, r, _⟩ | ⟨_, r, _⟩ <;> rw [r] <;> decide
  have n2 : c' ≠ 33 := by
    rcases h2 with ⟨_, _, _, ⟨_, r⟩ | ⟨_, r⟩ | ⟨_, r⟩⟩ | ⟨_, r, _⟩ | ⟨_, r, _⟩ <;> rw [r] <;> decide
  have hb := congrArg bl h
  unfold srcB at hb
  cases hx3 : x.f3 <;> cases hy3 : y.f3
  · rw [hx3, hy3, if_neg (by simp), if_neg (by simp)] at hb
    exact srcM_inj hx hy (hx3.trans hy3.symm) hb
  · rw [hx3, hy3, if_neg (by simp), if_pos rfl, bl_app, e1] at hb
    exfalso
    have : c :: Lib.decDigits d = 33 :: bl (srcM y) := hb
    injection this with hh _
    exact n1 hh
  · rw [hx3, hy3, if_pos rfl, if_neg (by simp), bl_app, e2] at hb
    exfalso
    have : 33 :: bl (srcM x) = c' :: Lib.decDigits d' := hb
    injection this with hh _
    exact n2 hh.symm
  · rw [hx3, hy3, if_pos rfl, if_pos rfl, bl_app, bl_app] at hb
    exact srcM_inj hx hy (hx3.trans hy3.symm) (List.append_cancel_left hb)
theorem nb_src {x : S41} {n : Int} (h : sOkS x n = true) : nb (srcB x) := by
  have hm : nb (srcM x) := by
    unfold srcM
    rcases sOk_all h with ⟨h1, h2, h3⟩ | ⟨h1, h2, h3, h4⟩ | ⟨h1, h2, h3, h4⟩
    · rw [if_pos h1]; exact nb_addr h3
    · rw [if_neg (by omega), if_pos h1]; exact nb_app ⟨by decide, by decide⟩ (nb_itoa h2)
    · rw [if_neg (by omega), if_neg (by omega)]; exact nb_app ⟨by decide, by decide⟩ (nb_itoa h2)
  unfold srcB
  split
  · exact nb_app ⟨by decide, by decide⟩ hm
  · exact hm
theorem kw_inj {a b : Int} (ha : (1 ≤ a ∧ a ≤ 5) ∨ (11 ≤ a ∧ a ≤ 13)) (hb : (1 ≤ b ∧ b ≤ 5) ∨ (11 ≤ b ∧ b ≤ 13)) (h : rdOf ByteArray.empty kindL a = rdOf ByteArray.empty kindL b) : a = b := by
  have ha' : a = 1 ∨ a = 2 ∨ a = 3 ∨ a = 4 ∨ a = 5 ∨ a = 11 ∨ a = 12 ∨ a = 13 := by omega
  have hb' : b = 1 ∨ b = 2 ∨ b = 3 ∨ b = 4 ∨ b = 5 ∨ b = 11 ∨ b = 12 ∨ b = 13 := by omega
  clear ha hb
  rcases ha' with rfl | rfl | rfl | rfl | rfl | rfl | rfl | rfl <;> rcases hb' with rfl | rfl | rfl | rfl | rfl | rfl | rfl | rfl <;> first | rfl | exact absurd h (by decide)
theorem kw_head {a : Int} (ha : (1 ≤ a ∧ a ≤ 5) ∨ (11 ≤ a ∧ a ≤ 13)) : nb (rdOf ByteArray.empty kindL a) ∧ ∃ c r, bl (rdOf ByteArray.empty kindL a) = c :: r ∧ c ≠ 116 ∧ c ≠ 45 := by
  have ha' : a = 1 ∨ a = 2 ∨ a = 3 ∨ a = 4 ∨ a = 5 ∨ a = 11 ∨ a = 12 ∨ a = 13 := by omega
  clear ha
  rcases ha' with rfl | rfl | rfl | rfl | rfl | rfl | rfl | rfl
  all_goals exact ⟨⟨by decide, by decide⟩, _, _, rfl, by decide, by decide⟩
theorem wz_facts {x : S43} {n : Int} (h : wOk x n = true) : ((blB x.f0 && decide (x.f0 ≤ 3)) = false → x.f1 = 0) ∧ (twB x.f0 = false → z46B x.f3 = true) := by
  have hw := wk_facts h
  unfold wOk at h
  simp only [Bool.and_eq_true, Bool.not_eq_true', Bool.or_eq_false_iff, Bool.and_eq_false_iff] at h
  obtain ⟨⟨⟨h1, h2⟩, h3⟩, h4, h5⟩ := h
  refine ⟨fun hc => ?_, fun ht => ?_⟩
  · rcases hw.1 with hk | hk
    · have hb : blB x.f0 = true := by unfold blB; simp; omega
      rw [hb, Bool.true_and] at hc
      simp at hc
      rcases h2 with h2 | h2
      · rw [hb] at h2; cases h2
      · unfold sizedB at h2; simp at h2; omega
    · have hg : gB x.f0 = true := by unfold gB; simp; omega
      rcases h1 with h1 | h1
      · rw [hg] at h1; cases h1
      · simpa using h1
  · rcases h4 with h4 | h4
    · rw [ht] at h4; simp at h4
    · simpa using h4
theorem z46_eq {a b : S41} (ha : z46B a = true) (hb : z46B b = true) : a = b := by
  obtain ⟨a0, a1, ⟨a2, a3⟩, a4⟩ := a
  obtain ⟨b0, b1, ⟨b2, b3⟩, b4⟩ := b
  unfold z46B at ha hb
  simp only [Bool.and_eq_true, beq_iff_eq] at ha hb
  obtain ⟨rfl, rfl, ⟨rfl, rfl⟩, rfl⟩ := ha
  obtain ⟨rfl, rfl, ⟨rfl, rfl⟩, rfl⟩ := hb
  rfl
theorem words_inj {x y : S43} {n q : Int} (hx : wOk x n = true) (hy : wOk y q = true) (h : wordsB x = wordsB y) : x = y := by
  have wx := wk_facts hx
  have wy := wk_facts hy
  have zx := wz_facts hx
  have zy := wz_facts hy
  have fx := wf_facts hx
  have fy := wf_facts hy
  unfold wordsB at h
  rw [List.cons_append, List.cons_append] at h
  injection h with h1 h2
  have e0 := kw_inj wx.1 wy.1 h1
  rw [← e0] at h2 zy fy
  have e1 : x.f1 = y.f1 ∧ (insL x).map srcB = (insL y).map srcB := by
    cases hc : (blB x.f0 && decide (x.f0 ≤ 3)) with
    | true =>
      rw [hc, if_pos rfl, if_pos rfl, List.singleton_append, List.singleton_append] at h2
      injection h2 with h3 h4
      have h5 := congrArg bl h3
      rw [bl_itoa _ fx.1, bl_itoa _ fy.1] at h5
      exact ⟨itoa_inj fx.1 fy.1 h5, h4⟩
    | false =>
      rw [hc, if_neg (by simp), if_neg (by simp), List.nil_append, List.nil_append] at h2
      exact ⟨(zx.1 hc).trans (zy.1 hc).symm, h2⟩
  have e2 : x.f2 = y.f2 ∧ x.f3 = y.f3 := by
    have h3 := e1.2
    unfold insL at h3
    rw [← e0] at h3
    cases ht : twB x.f0 with
    | true =>
      rw [ht, if_pos rfl, if_pos rfl] at h3
      simp only [List.map_cons, List.map_nil, List.cons.injEq, and_true] at h3
      exact ⟨srcB_inj fx.2.2.2.1 fy.2.2.2.1 h3.1, srcB_inj (fx.2.2.2.2 ht) (fy.2.2.2.2 ht) h3.2⟩
    | false =>
      rw [ht, if_neg (by simp), if_neg (by simp)] at h3
      simp only [List.map_cons, List.map_nil, List.cons.injEq, and_true] at h3
      exact ⟨srcB_inj fx.2.2.2.1 fy.2.2.2.1 h3, z46_eq (zx.2 ht) (zy.2 ht)⟩
  obtain ⟨a0, a1, a2, a3⟩ := x
  obtain ⟨b0, b1, b2, b3⟩ := y
  simp only at e0 e1 e2
  rw [e0, e1.1, e2.1, e2.2]
theorem words_nb {x : S43} {n : Int} (h : wOk x n = true) : ∀ z ∈ wordsB x, nb z := by
  obtain ⟨h1, h2, h3⟩ := wk_facts h
  intro z hz
  unfold wordsB at hz
  rcases List.mem_append.1 hz with hz | hz
  · rcases List.mem_cons.1 hz with rfl | hz
    · exact (kw_head h1).1
    · by_cases hb : (blB x.f0 && decide (x.f0 ≤ 3)) = true
      · rw [if_pos hb] at hz
        obtain rfl := List.mem_singleton.1 hz
        exact nb_itoa (wf_facts h).1
      · rw [if_neg hb] at hz; cases hz
  · obtain ⟨y, hy, rfl⟩ := List.mem_map.1 hz
    exact nb_src (h3 y hy)
theorem words_ne (x : S43) : wordsB x ≠ [] := by unfold wordsB; simp
theorem wireB_inj {x y : S43} {n q : Int} (hx : wOk x n = true) (hy : wOk y q = true) (h : wireB x = wireB y) : x = y :=
  words_inj hx hy (joinS_inj [] [] 32 (by simp) ⟨#[32]⟩ rfl _ _ (words_ne x) (words_ne y) (fun z hz => (words_nb hx z hz).1) (fun z hz => (words_nb hy z hz).1) h)
theorem join59 (sep : List UInt8) (hs : (59 : UInt8) ∉ sep) : ∀ (xs : List (List UInt8)) (x : List UInt8), (∀ z ∈ x :: xs, (59 : UInt8) ∉ z) → (59 : UInt8) ∉ x ++ Lib.joinTail sep xs
  | [], x, h => by simpa [Lib.joinTail] using h x (List.mem_cons_self ..)
  | y :: xs, x, h => by
    have ih := join59 sep hs xs y (fun z hz => h z (List.mem_cons_of_mem _ hz))
    have e : x ++ Lib.joinTail sep (y :: xs) = x ++ (sep ++ (y ++ Lib.joinTail sep xs)) := by simp [Lib.joinTail]
    rw [e]
    intro hm
    rcases List.mem_append.1 hm with hm | hm
    · exact h x (List.mem_cons_self ..) hm
    · rcases List.mem_append.1 hm with hm | hm
      · exact hs hm
      · exact ih hm
theorem wire_head {x : S43} {n : Int} (h : wOk x n = true) : (59 : UInt8) ∉ bl (wireB x) ∧ ∃ c r, bl (wireB x) = c :: r ∧ c ≠ 116 ∧ c ≠ 45 := by
  obtain ⟨h1, c, r, h2, h3, h4⟩ := kw_head (wk_facts h).1
  have hw := words_nb h
  unfold wireB
  rw [bl_join]
  have e : wordsB x = rdOf ByteArray.empty kindL x.f0 :: ((if (blB x.f0 && decide (x.f0 ≤ 3)) = true then [itoaS x.f1] else []) ++ (insL x).map srcB) := by unfold wordsB; rw [List.cons_append]
  rw [e] at hw ⊢
  rw [List.map_cons, Lib.join_cons]
  refine ⟨join59 _ (by decide) _ _ (fun z hz => ?_), ?_⟩
  · rw [← List.map_cons] at hz
    obtain ⟨u, hu, rfl⟩ := List.mem_map.1 hz
    exact (hw u hu).2
  · rw [h2, List.cons_append]
    exact ⟨c, _, rfl, h3, h4⟩
theorem bl_drive {y : S66} (h0 : 0 ≤ y.f0.f1) (h1 : 0 ≤ y.f1) : bl (driveB y) = 116 :: 111 :: 32 :: (bl (letS y.f0.f0) ++ (Lib.decDigits y.f0.f1.toNat ++ 32 :: 119 :: Lib.decDigits y.f1.toNat)) := by
  unfold driveB addrS
  rw [bl_app, bl_app, bl_app, bl_app, bl_itoa _ h0, bl_itoa _ h1]
  show [116, 111, 32] ++ (bl (letS y.f0.f0) ++ Lib.decDigits y.f0.f1.toNat) ++ [32, 119] ++ Lib.decDigits y.f1.toNat = _
  simp
theorem drive_head {y : S66} (ha : aOk y.f0.f0 y.f0.f1 = true) (h1 : 0 ≤ y.f1) : (59 : UInt8) ∉ bl (driveB y) ∧ ∃ r, bl (driveB y) = 116 :: r := by
  obtain ⟨a1, a2, a3, _⟩ := aOk_open ha
  rw [bl_drive a3 h1]
  refine ⟨?_, _, rfl⟩
  have n1 := (nb_let a1 a2).2
  have n2 := dec_no y.f0.f1.toNat 59 (by decide)
  have n3 := dec_no y.f1.toNat 59 (by decide)
  simp only [List.mem_cons, List.mem_append, not_or]
  exact ⟨by decide, by decide, by decide, n1, n2, by decide, by decide, n3⟩
theorem driveB_inj {x y : S66} (ha : aOk x.f0.f0 x.f0.f1 = true) (h1 : 0 ≤ x.f1) (ha' : aOk y.f0.f0 y.f0.f1 = true) (h1' : 0 ≤ y.f1) (h : driveB x = driveB y) : x = y := by
  obtain ⟨a1, a2, a3, _⟩ := aOk_open ha
  obtain ⟨b1, b2, b3, _⟩ := aOk_open ha'
  have hb := congrArg bl h
  rw [bl_drive a3 h1, bl_drive b3 h1'] at hb
  simp only [List.cons.injEq, true_and] at hb
  have hl : ∀ {k : Int}, 1 ≤ k → k ≤ 3 → ∃ c, bl (letS k) = [c] ∧ ((k = 1 ∧ c = 105) ∨ (k = 2 ∧ c = 111) ∨ (k = 3 ∧ c = 118)) := by
    intro k h1 h2
    have : k = 1 ∨ k = 2 ∨ k = 3 := by omega
    rcases this with rfl | rfl | rfl
    · exact ⟨105, rfl, .inl ⟨rfl, rfl⟩⟩
    · exact ⟨111, rfl, .inr (.inl ⟨rfl, rfl⟩)⟩
    · exact ⟨118, rfl, .inr (.inr ⟨rfl, rfl⟩)⟩
  obtain ⟨c, e1, k1⟩ := hl a1 a2
  obtain ⟨c', e2, k2⟩ := hl b1 b2
  rw [e1, e2, List.singleton_append, List.singleton_append] at hb
  injection hb with hc hr
  have hs := split_at 32 _ _ _ _ (dec_no _ _ (by decide)) (dec_no _ _ (by decide)) hr
  have q1 := itoa_inj a3 b3 hs.1
  have hs2 := hs.2
  injection hs2 with _ hs3
  have q2 := itoa_inj h1 h1' hs3
  have q0 : x.f0.f0 = y.f0.f0 := by
    rcases k1 with ⟨r, s⟩ | ⟨r, s⟩ | ⟨r, s⟩ <;> rcases k2 with ⟨r', s'⟩ | ⟨r', s'⟩ | ⟨r', s'⟩ <;> first | exact r.trans r'.symm | (rw [hc, s'] at s; exact absurd s (by decide))
  obtain ⟨⟨p0, p1⟩, p2⟩ := x
  obtain ⟨⟨q0', q1'⟩, q2'⟩ := y
  simp only at q0 q1 q2
  rw [q0, q1, q2]
theorem split_pre {α : Type} (P : α → Prop) : ∀ (a a' b b' : List α), (∀ z ∈ a, P z) → (∀ z ∈ a', P z) → (∀ z ∈ b, ¬ P z) → (∀ z ∈ b', ¬ P z) → a ++ b = a' ++ b' → a = a' ∧ b = b'
  | [], [], b, b', _, _, _, _, h => ⟨rfl, by simpa using h⟩
  | [], y :: a', b, b', _, h2, h3, _, h => absurd (h2 y (List.mem_cons_self ..)) (h3 y (by have h' : b = y :: (a' ++ b') := h; rw [h']; exact List.mem_cons_self ..))
  | x :: a, [], b, b', h1, _, _, h4, h => absurd (h1 x (List.mem_cons_self ..)) (h4 x (by have h' : x :: (a ++ b) = b' := h; rw [← h']; exact List.mem_cons_self ..))
  | x :: a, y :: a', b, b', h1, h2, h3, h4, h => by
    rw [List.cons_append, List.cons_append] at h
    injection h with e1 e2
    have := split_pre P a a' b b' (fun z hz => h1 z (List.mem_cons_of_mem _ hz)) (fun z hz => h2 z (List.mem_cons_of_mem _ hz)) h3 h4 e2
    exact ⟨by rw [e1, this.1], this.2⟩
theorem map_inj_on {α β : Type} (f : α → β) : ∀ (xs ys : List α), (∀ a ∈ xs, ∀ b ∈ ys, f a = f b → a = b) → xs.map f = ys.map f → xs = ys
  | [], [], _, _ => rfl
  | [], y :: ys, _, h => by cases h
  | x :: xs, [], _, h => by cases h
  | x :: xs, y :: ys, hi, h => by
    rw [List.map_cons, List.map_cons] at h
    injection h with h1 h2
    rw [hi x (List.mem_cons_self ..) y (List.mem_cons_self ..) h1, map_inj_on f xs ys (fun a ha b hb => hi a (List.mem_cons_of_mem _ ha) b (List.mem_cons_of_mem _ hb)) h2]
theorem items_inj {l l' : List S43} {m m' : List S66} (h : nOk l m = true) (h' : nOk l' m' = true) (e : itemsB l m = itemsB l' m') : l = l' ∧ m = m' := by
  obtain ⟨_, _, hW, hD⟩ := nOk_facts h
  obtain ⟨_, _, hW', hD'⟩ := nOk_facts h'
  have hs := split_pre (fun z : ByteArray => ∃ c r, bl z = c :: r ∧ c ≠ 116) (l.map wireB) (l'.map wireB) (m.map driveB) (m'.map driveB) (fun z hz => by
      obtain ⟨x, hx, rfl⟩ := List.mem_map.1 hz
      obtain ⟨c, r, h1, h2, _⟩ := (wire_head (hW x hx)).2
      exact ⟨c, r, h1, h2⟩) (fun z hz => by
      obtain ⟨x, hx, rfl⟩ := List.mem_map.1 hz
      obtain ⟨c, r, h1, h2, _⟩ := (wire_head (hW' x hx)).2
      exact ⟨c, r, h1, h2⟩) (fun z hz => by
      obtain ⟨y, hy, rfl⟩ := List.mem_map.1 hz
      obtain ⟨r, hr⟩ := (drive_head (hD y hy).1 (hD y hy).2.1).2
      rintro ⟨c, r', h1, h2⟩
      rw [hr] at h1
      injection h1 with h3 _
      exact h2 h3.symm) (fun z hz => by
      obtain ⟨y, hy, rfl⟩ := List.mem_map.1 hz
      obtain ⟨r, hr⟩ := (drive_head (hD' y hy).1 (hD' y hy).2.1).2
      rintro ⟨c, r', h1, h2⟩
      rw [hr] at h1
      injection h1 with h3 _
      exact h2 h3.symm) e
  exact ⟨map_inj_on wireB l l' (fun a ha b hb he => wireB_inj (hW a ha) (hW' b hb) he) hs.1, map_inj_on driveB m m' (fun a ha b hb he => driveB_inj (hD a ha).1 (hD a ha).2.1 (hD' b hb).1 (hD' b hb).2.1 he) hs.2⟩
theorem items_head {l : List S43} {m : List S66} (h : nOk l m = true) : ∀ z ∈ itemsB l m, (59 : UInt8) ∉ bl z ∧ ∃ c r, bl z = c :: r ∧ c ≠ 45 := by
  obtain ⟨_, _, hW, hD⟩ := nOk_facts h
  intro z hz
  unfold itemsB at hz
  rcases List.mem_append.1 hz with hz | hz
  · obtain ⟨x, hx, rfl⟩ := List.mem_map.1 hz
    obtain ⟨h1, c, r, h2, _, h3⟩ := wire_head (hW x hx)
    exact ⟨h1, c, r, h2, h3⟩
  · obtain ⟨y, hy, rfl⟩ := List.mem_map.1 hz
    obtain ⟨h1, r, h2⟩ := drive_head (hD y hy).1 (hD y hy).2.1
    exact ⟨h1, 116, r, h2, by decide⟩
theorem netB_inj {l l' : List S43} {m m' : List S66} (h : nOk l m = true) (h' : nOk l' m' = true) (e : netB l m = netB l' m') : l = l' ∧ m = m' := by
  have hd : ∀ {l : List S43} {m : List S66}, nOk l m = true → (itemsB l m).length ≠ 0 → netB l m = joinS (itemsB l m) ⟨#[32, 59, 32]⟩ ∧ ∃ c r, bl (netB l m) = c :: r ∧ c ≠ 45 := by
    intro l m h hn
    have e1 : netB l m = joinS (itemsB l m) ⟨#[32, 59, 32]⟩ := by unfold netB; rw [if_neg hn]
    refine ⟨e1, ?_⟩
    rw [e1, bl_join]
    have hh := items_head h
    cases hq : itemsB l m with
    | nil => rw [hq] at hn; exact absurd rfl hn
    | cons z zs =>
      obtain ⟨_, c, r, h1, h2⟩ := hh z (by rw [hq]; exact List.mem_cons_self ..)
      rw [List.map_cons, Lib.join_cons, h1, List.cons_append]
      exact ⟨c, _, rfl, h2⟩
  by_cases hn : (itemsB l m).length = 0
  · by_cases hn' : (itemsB l' m').length = 0
    · exact items_inj h h' ((List.length_eq_zero_iff.1 hn).trans (List.length_eq_zero_iff.1 hn').symm)
    · exfalso
      obtain ⟨_, c, r, h1, h2⟩ := hd h' hn'
      have e1 : netB l m = ⟨#[45]⟩ := by unfold netB; rw [if_pos hn]
      rw [← e, e1] at h1
      have : [(45 : UInt8)] = c :: r := h1
      injection this with h3 _
      exact h2 h3.symm
  · by_cases hn' : (itemsB l' m').length = 0
    · exfalso
      obtain ⟨_, c, r, h1, h2⟩ := hd h hn
      have e1 : netB l' m' = ⟨#[45]⟩ := by unfold netB; rw [if_pos hn']
      rw [e, e1] at h1
      have : [(45 : UInt8)] = c :: r := h1
      injection this with h3 _
      exact h2 h3.symm
    · rw [(hd h hn).1, (hd h' hn').1] at e
      exact items_inj h h' (joinS_inj [32] [32] 59 (by decide) ⟨#[32, 59, 32]⟩ rfl _ _ (fun e => hn (by rw [e]; rfl)) (fun e => hn' (by rw [e]; rfl)) (fun z hz => (items_head h z hz).1) (fun z hz => (items_head h' z hz).1) e)
end Go.Proofs.YtphblfmjdiigkaaGreatDoor.Hv8
