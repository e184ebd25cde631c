/- The two texts of a net are one. No condition. -/
import Derived.Test.YtphblfmjdiigkaaGreatDoorTFnExactNetTextHl4
import Derived.Test.YtphblfmjdiigkaaGreatDoorTFnExactNetTextHl3
import Derived.Test.YtphblfmjdiigkaaGreatDoorTFnExactNetTextHl2
import Derived.Test.YtphblfmjdiigkaaGreatDoorTFnExactNetTextHl1
import Derived.Test.YtphblfmjdiigkaaGreatDoorTFnExactNetTextHj9
import Derived.Test.YtphblfmjdiigkaaGreatDoorTFnExactNetTextHb
import Derived.Test.YtphblfmjdiigkaaGreatDoorTFnExactNetTextHFnExactNetTextx9
import Derived.WalkSmall
import Derived.WalkLawsBesides
import Derived.WalkSpells
import Derived.Deep.RegionHeld
import Derived.Deep.DeepCutAuto
import Derived.Deep.CutBlock
namespace Go.Proofs.YtphblfmjdiigkaaGreatDoor.Hl5
open Go.RowKit Go.Proofs.YtphblfmjdiigkaaGreatDoor.Hl4 Go.Proofs.YtphblfmjdiigkaaGreatDoor.Hl3 Go.Proofs.YtphblfmjdiigkaaGreatDoor.Hl2 Go.Proofs.YtphblfmjdiigkaaGreatDoor.Hj9 Go.Proofs.YtphblfmjdiigkaaGreatDoor.Hj8 Go.Proofs.YtphblfmjdiigkaaGreatDoor.Hb Go.Proofs.YtphblfmjdiigkaaGreatDoor.Hj1 Go.Proofs.YtphblfmjdiigkaaGreatDoor.Hj2 Go.Proofs.YtphblfmjdiigkaaGreatDoor.Hj3 Go.Proofs.YtphblfmjdiigkaaGreatDoor.Hj4 Go.Proofs.YtphblfmjdiigkaaGreatDoor.Hj5 Go.Proofs.YtphblfmjdiigkaaGreatDoor.Hj6 Go.Proofs.YtphblfmjdiigkaaGreatDoor.Hj7 Go.Proofs.YtphblfmjdiigkaaGreatDoor.HFnExactNetText Go.Proofs.YtphblfmjdiigkaaGreatDoorW.PrintWords Go.Proofs.YtphblfmjdiigkaaGreatDoorW.PrintLast Go.Proofs.YtphblfmjdiigkaaGreatDoorW.PrintMore
set_option linter.unusedVariables false
set_option linter.unusedSimpArgs false
theorem l0_dec : ∀ (n u k : Nat) (acc : ByteArray), u < 10 ^ (n + 1) → n + 1 ≤ k → u ≤ 100000 → acc.size + n ≤ 1000 → spec_l12Dec.l0 k (u : Int) acc = some ((⟨(Lib.decDigits u).toArray⟩ : ByteArray) ++ acc)
  | n, u, 0, _, _, hk, _, _ => absurd hk (by omega)
  | n, u, k + 1, acc, hu, hk, hb, ha => by
    have eb : ∀ d : Nat, d < 10 → strOfNums [(wrap64 (48 + (d : Int))) % 256] = (⟨#[UInt8.ofNat (48 + d)]⟩ : ByteArray) := by
      intro d hd
      unfold strOfNums
      rw [wrap_id (by omega) (by omega), Int.emod_eq_of_lt (by omega) (by omega)]
      have e : ((48 : Int) + (d : Int)).toNat = 48 + d := by omega
      rw [List.map_singleton, e]
    have s1 : ∀ d : Nat, (⟨#[UInt8.ofNat (48 + d)]⟩ : ByteArray).size = 1 := fun _ => rfl
    rw [spec_l12Dec.l0, Lib.decDigits]
    by_cases h : u < 10
    · rw [if_neg (by omega), dif_pos h]
      simp only [Option.bind_some]
      rw [eb u h, if_pos (by rw [s1]; omega)]
    · have et : Int.tmod (u : Int) 10 = ((u % 10 : Nat) : Int) := by rw [Int.tmod_eq_emod_of_nonneg (by omega)]; omega
      have ed : Int.tdiv (u : Int) 10 = ((u / 10 : Nat) : Int) := by rw [Int.tdiv_eq_ediv_of_nonneg (by omega)]; omega
      cases n with
      | zero => omega
      | succ n =>
        rw [if_pos (by omega), dif_neg h, et, ed]
        simp only [Option.bind_some]
        rw [eb _ (by omega), if_pos (by rw [s1]; omega), wrap_id (by omega) (by omega), l0_dec n (u / 10) k _ (by rw [Nat.pow_succ] at hu; omega) (by omega) (by omega) (by rw [ByteArray.size_append, s1]; omega)]
        congr 1
        apply ByteArray.ext
        simp only [ByteArray.data_append]
        apply Array.ext'
        simp
theorem decT (u : Int) (k : Nat) (h0 : 0 ≤ u) (h1 : u ≤ 100000) (hk : 10 ≤ k) : spec_l12Dec.f k u = some (itoaS u) := by
  obtain ⟨k, rfl⟩ : ∃ q, k = q + 1 := ⟨k - 1, by omega⟩
  obtain ⟨v, rfl⟩ : ∃ v : Nat, u = v := ⟨u.toNat, by omega⟩
  rw [spec_l12Dec.f, if_neg (by omega), if_neg (by omega), l0_dec 5 v k _ (by omega) (by omega) (by omega) (by decide)]
  unfold itoaS Lib.itoa
  rw [if_neg (by omega), Int.toNat_natCast]
  congr 1
  exact ByteArray.append_empty
theorem addrT (c i : Int) (k : Nat) (h : aOk c i = true) (hk : 10 ≤ k) : spec_AddrText.f k c i = some (addrS c i) := by
  have hr : 1 ≤ c ∧ c ≤ 3 ∧ 0 ≤ i ∧ i < 6 := by
    unfold aOk at h; simp only [Bool.and_eq_true, decide_eq_true_eq] at h; omega
  unfold spec_AddrText.f
  rw [aOkT, h]
  simp only [Option.bind_some]
  rw [if_pos trivial, if_pos (by omega), if_pos (by simp; omega), decT i k (by omega) (by omega) hk]
  simp only [Option.bind_some]
  have e : rdOf ByteArray.empty [(⟨#[]⟩ : ByteArray), (⟨#[105]⟩ : ByteArray), (⟨#[111]⟩ : ByteArray), (⟨#[118]⟩ : ByteArray)] c = letS c := rfl
  rw [e, if_pos (by have := let_size c; have := itoa_size i (by omega) (by omega); omega)]
  rfl
theorem srcT' (x : S41) (n : Int) (k : Nat) (h : sOkS x n = true) (hn : n ≤ 1000) (hk : 20 ≤ k) : spec_l7SrcText.f k x.f0 x.f1 x.f2.f0 x.f2.f1 x.f3 = some (srcB x) := by
  have hj : ∀ (p : ByteArray) (b : Bool), p.size ≤ 10 → spec_l7SrcText.j0 k p x.f0 x.f1 x.f2.f0 x.f2.f1 b = some (p ++ srcM x) := by
    intro p b hp
    obtain ⟨k, rfl⟩ : ∃ q, k = q + 1 := ⟨k - 1, by omega⟩
    rw [spec_l7SrcText.j0]
    unfold srcM
    have o1 : (⟨#[119]⟩ : ByteArray).size = 1 := rfl
    have o2 : (⟨#[108]⟩ : ByteArray).size = 1 := rfl
    rcases sOk_in h with ⟨h1, h2⟩ | ⟨h1, h2, h3⟩ | ⟨h1, h2, h3⟩
    · have hA := aOk_rng h2
      rw [if_pos h1, if_pos h1, addrT _ _ _ h2 (by omega)]
      simp only [Option.bind_some]
      rw [if_pos (by have := addr_size x.f2.f0 x.f2.f1 hA.1 hA.2; omega)]
    · have hI := itoa_size x.f1 h2 (by omega)
      have n1 : ¬ x.f0 = 1 := by omega
      simp only [if_neg n1, if_pos h1]
      rw [if_pos (by omega), decT _ _ h2 (by omega) (by omega)]
      simp only [Option.bind_some]
      rw [if_pos (by rw [ByteArray.size_append]; omega), ByteArray.append_assoc]
    · have hI := itoa_size x.f1 h2 (by omega)
      have n1 : ¬ x.f0 = 1 := by omega
      have n2 : ¬ x.f0 = 2 := by omega
      simp only [if_neg n1, if_neg n2]
      rw [if_pos (by omega), decT _ _ h2 (by omega) (by omega)]
      simp only [Option.bind_some]
      rw [if_pos (by rw [ByteArray.size_append]; omega), ByteArray.append_assoc]
  unfold spec_l7SrcText.f srcB
  cases x.f3 with
  | true => rw [if_pos rfl, if_pos rfl, hj _ _ (by decide)]
  | false => rw [if_neg (by simp), if_neg (by simp), hj _ _ (by decide)]; exact congrArg some ByteArray.empty_append
theorem joinS_nil (sep : ByteArray) : joinS [] sep = ByteArray.empty := rfl
theorem joinS_one (x sep : ByteArray) : joinS [x] sep = x := by
  unfold joinS
  rw [List.map_singleton, Lib.join_one]
theorem joinS_snoc (xs : List ByteArray) (x sep : ByteArray) (h : xs ≠ []) : joinS (xs ++ [x]) sep = joinS xs sep ++ sep ++ x := by
  cases xs with
  | nil => exact absurd rfl h
  | cons y ys =>
    unfold joinS
    rw [List.cons_append, List.map_cons, List.map_append, Lib.join_cons, List.map_cons (l := ys), Lib.join_cons]
    unfold Lib.joinTail
    apply ByteArray.ext
    simp only [ByteArray.data_append]
    apply Array.ext'
    simp
theorem joinS_2 (a b s : ByteArray) : joinS [a, b] s = a ++ s ++ b := by
  rw [show [a, b] = [a] ++ [b] from rfl, joinS_snoc _ _ _ (by simp), joinS_one]
theorem joinS_3 (a b c s : ByteArray) : joinS [a, b, c] s = a ++ s ++ b ++ s ++ c := by
  rw [show [a, b, c] = [a, b] ++ [c] from rfl, joinS_snoc _ _ _ (by simp), joinS_2]
theorem joinS_4 (a b c d s : ByteArray) : joinS [a, b, c, d] s = a ++ s ++ b ++ s ++ c ++ s ++ d := by
  rw [show [a, b, c, d] = [a, b, c] ++ [d] from rfl, joinS_snoc _ _ _ (by simp), joinS_3]
theorem wf_facts {x : S43} {n : Int} (h : wOk x n = true) : 0 ≤ x.f1 ∧ x.f1 ≤ 1000 ∧ (!(gB x.f0) && decide (x.f0 ≤ 3)) = (blB x.f0 && decide (x.f0 ≤ 3)) ∧ sOkS x.f2 n = true ∧ (twB x.f0 = true → sOkS x.f3 n = true) := by
  have hw := wk_facts h
  have h' := h
  unfold wOk at h'
  simp only [Bool.and_eq_true, Bool.not_eq_true', Bool.or_eq_false_iff, Bool.and_eq_false_iff] at h'
  obtain ⟨⟨⟨h1, h2⟩, h3⟩, -⟩ := h'
  have hin := hw.2.2
  refine ⟨?_, ?_, ?_, hin _ (by unfold insL; split <;> simp), fun ht => hin _ (by unfold insL; rw [if_pos ht]; simp)⟩
  · rcases hw.1 with hk | hk
    · have hb : blB x.f0 = true := by unfold blB; simp; omega
      rcases h2 with h2 | h2
      · rw [hb] at h2; cases h2
      · unfold sizedB at h2; simp at h2; omega
    · have hg : gB x.f0 = true := by unfold gB; simp; omega
      rcases h1 with h1 | h1
      · rw [hg] at h1; cases h1
      · simp at h1; omega
  · rcases hw.1 with hk | hk
    · have hb : blB x.f0 = true := by unfold blB; simp; omega
      rcases h2 with h2 | h2
      · rw [hb] at h2; cases h2
      · unfold sizedB at h2; simp at h2; omega
    · have hg : gB x.f0 = true := by unfold gB; simp; omega
      rcases h1 with h1 | h1
      · rw [hg] at h1; cases h1
      · simp at h1; omega
  · unfold gB blB
    rcases hw.1 with hk | hk
    · rw [decide_eq_false (by omega : ¬ 11 ≤ x.f0), decide_eq_true (by omega : 1 ≤ x.f0), decide_eq_true (by omega : x.f0 ≤ 5)]; rfl
    · rw [decide_eq_false (by omega : ¬ x.f0 ≤ 3)]; simp
theorem wireT' (x : S43) (n : Int) (k : Nat) (h : wOk x n = true) (hn : n ≤ 1000) (hk : 30 ≤ k) : spec_l7WireText.f k x.f0 x.f1 x.f2.f0 x.f2.f1 x.f2.f2.f0 x.f2.f2.f1 x.f2.f3 x.f3.f0 x.f3.f1 x.f3.f2.f0 x.f3.f2.f1 x.f3.f3 = some (wireB x) := by
  obtain ⟨h0, h1, hc, hA, hB⟩ := wf_facts h
  have hr := (wk_facts h).1
  have zA := srcB_size hA hn
  have zd := itoa_size x.f1 h0 (by omega)
  unfold spec_l7WireText.f
  rw [if_pos (by omega), gateT, twoT, decT x.f1 k h0 (by omega) (by omega), srcT' x.f2 n k hA hn (by omega)]
  simp only [Option.bind_some]
  have e2 : (if twB x.f0 = true then spec_l7SrcText.f k x.f3.f0 x.f3.f1 x.f3.f2.f0 x.f3.f2.f1 x.f3.f3 else some ByteArray.empty) = some (if twB x.f0 = true then srcB x.f3 else ByteArray.empty) := by
    by_cases ht : twB x.f0 = true
    · rw [if_pos ht, if_pos ht, srcT' x.f3 n k (hB ht) hn (by omega)]
    · rw [if_neg ht, if_neg ht]
  have zB : (if twB x.f0 = true then srcB x.f3 else ByteArray.empty).size ≤ 1000 := by
    by_cases ht : twB x.f0 = true
    · rw [if_pos ht]; have := srcB_size (hB ht) hn; omega
    · rw [if_neg ht]; decide
  rw [e2]
  simp only [Option.bind_some]
  rw [if_pos ⟨by omega, by omega, zB⟩, hc]
  congr 1
  unfold wtF wireB wordsB insL
  cases (blB x.f0 && decide (x.f0 ≤ 3)) <;> cases twB x.f0
  all_goals simp only [Bool.false_eq_true, ↓reduceIte, List.map_cons, List.map_nil, List.cons_append, List.nil_append, joinS_2, joinS_3, joinS_4]
theorem kw_pos (k : Int) (h : (1 ≤ k ∧ k ≤ 5) ∨ (11 ≤ k ∧ k ≤ 13)) : 1 ≤ (rdOf ByteArray.empty kindL k).size := by
  have h' : k = 1 ∨ k = 2 ∨ k = 3 ∨ k = 4 ∨ k = 5 ∨ k = 11 ∨ k = 12 ∨ k = 13 := by omega
  rcases h' with rfl | rfl | rfl | rfl | rfl | rfl | rfl | rfl <;> decide
theorem joinS_first (x : ByteArray) (xs : List ByteArray) (sep : ByteArray) : x.size ≤ (joinS (x :: xs) sep).size := by
  show x.size ≤ (Lib.join ((x :: xs).map (·.data.toList)) sep.data.toList).toArray.size
  rw [List.size_toArray, List.map_cons, Lib.join_cons, List.length_append]
  have e : x.data.toList.length = x.size := rfl
  omega
theorem wireB_pos {x : S43} {n : Int} (h : wOk x n = true) : 1 ≤ (wireB x).size := by
  unfold wireB wordsB
  have := kw_pos x.f0 (wk_facts h).1
  rw [List.cons_append]
  exact Nat.le_trans this (joinS_first _ _ _)
theorem driveB_pos (y : S66) : 1 ≤ (driveB y).size := by
  unfold driveB
  simp only [ByteArray.size_append]
  have e1 : (⟨#[116, 111, 32]⟩ : ByteArray).size = 3 := rfl
  omega
theorem items_facts {l : List S43} {m : List S66} (h : nOk l m = true) : (∀ z ∈ itemsB l m, 1 ≤ z.size ∧ z.size ≤ 1000) ∧ (itemsB l m).length ≤ 12 := by
  obtain ⟨h8, h4, hW, hD⟩ := nOk_facts h
  refine ⟨fun z hz => ?_, by unfold itemsB; rw [List.length_append, List.length_map, List.length_map]; omega⟩
  unfold itemsB at hz
  rcases List.mem_append.1 hz with hz | hz
  · obtain ⟨x, hx, rfl⟩ := List.mem_map.1 hz
    exact ⟨wireB_pos (hW x hx), wireB_size (hW x hx) (by omega)⟩
  · obtain ⟨y, hy, rfl⟩ := List.mem_map.1 hz
    have hY := hD y hy
    have hA := aOk_rng hY.1
    exact ⟨driveB_pos y, driveB_size hA.1 hA.2 hY.2.1 (by omega)⟩
abbrev SEP : ByteArray := ⟨#[32, 59, 32]⟩
theorem l0_text (l : List S43) (m : List S66) (h : nOk l m = true) : ∀ (d i k : Nat), i + d = l.length → d + 40 ≤ k →
    spec_l7Text.l0 k (joinS ((l.take i).map wireB) SEP) (i : Int) l m = spec_l7Text.l1 (k - d - 1) (joinS (l.map wireB) SEP) 0 l m
  | 0, i, k, hi, hk => by
    obtain ⟨k, rfl⟩ : ∃ q, k = q + 1 := ⟨k - 1, by omega⟩
    rw [spec_l7Text.l0, if_neg (by omega), List.take_of_length_le (by omega)]
    rfl
  | d + 1, i, k, hi, hk => by
    obtain ⟨h8, h4, hW, hD⟩ := nOk_facts h
    have hil : i < l.length := by omega
    have hw : wrap64 ((i : Int) + 1) = ((i + 1 : Nat) : Int) := wrap_id (by omega) (by omega)
    obtain ⟨k, rfl⟩ : ∃ q, k = q + 1 := ⟨k - 1, by omega⟩
    have hwx := hW _ (List.getElem_mem hil)
    have hwt := wireT' l[i] l.length k hwx (by omega) (by omega)
    have hz := wireB_size hwx (by omega)
    have hs := joinS_size 1000 ((l.take i).map wireB) SEP (fun z hz => by
      obtain ⟨x, hx, rfl⟩ := List.mem_map.1 hz
      exact wireB_size (hW x (List.mem_of_mem_take hx)) (by omega))
    rw [List.length_map, List.length_take, show SEP.size = 3 from rfl] at hs
    have hs' : min i l.length * (1000 + 3) ≤ 8 * 1003 := Nat.mul_le_mul_right _ (by omega)
    have ih := l0_text l m h d (i + 1) k (by omega) (by omega)
    have et : (l.take (i + 1)).map wireB = (l.take i).map wireB ++ [wireB l[i]] := by rw [List.take_succ_eq_append_getElem hil, List.map_append, List.map_singleton]
    rw [spec_l7Text.l0, if_pos (by omega), rd48 l i hil]
    have ek : k + 1 - (d + 1) - 1 = k - d - 1 := by omega
    rw [ek, ← ih, et]
    by_cases h0 : i = 0
    · subst h0
      rw [if_neg (by omega), if_pos (by omega), hwt]
      simp only [Option.bind_some]
      rw [if_pos (by omega), hw]
      congr 1
      rw [List.take_zero, List.map_nil, List.nil_append, joinS_nil, joinS_one]
      exact ByteArray.empty_append
    · rw [if_pos (by omega), if_pos (by omega), if_pos (by omega), hwt]
      simp only [Option.bind_some]
      rw [if_pos (by rw [ByteArray.size_append]; show _ + 3 + _ ≤ _; omega), hw, joinS_snoc _ _ _ (by
        intro e
        have := congrArg List.length e
        rw [List.length_map, List.length_take] at this
        have h2 : min i l.length = 0 := this
        omega)]
theorem l1_text (l : List S43) (m : List S66) (h : nOk l m = true) : ∀ (d i k : Nat), i + d = m.length → d + 40 ≤ k →
    spec_l7Text.l1 k (joinS (l.map wireB ++ (m.take i).map driveB) SEP) (i : Int) l m = some (netB l m)
  | 0, i, k, hi, hk => by
    obtain ⟨k, rfl⟩ : ∃ q, k = q + 1 := ⟨k - 1, by omega⟩
    rw [spec_l7Text.l1, if_neg (by omega), List.take_of_length_le (by omega)]
    change (if (joinS (itemsB l m) SEP).toList = [] then _ else _) = _
    unfold netB
    have hf := (items_facts h).1
    cases hq : itemsB l m with
    | nil => rw [if_pos (by rw [joinS_nil, ByteArray.toList_eq]; rfl)]; rfl
    | cons z zs =>
      have h1 := (hf z (by rw [hq]; exact List.mem_cons_self ..)).1
      have h2 := joinS_first z zs SEP
      rw [if_neg (by
        intro e
        rw [ByteArray.toList_eq] at e
        have e2 : (joinS (z :: zs) SEP).data.toList.length = (joinS (z :: zs) SEP).size := rfl
        rw [e, List.length_nil] at e2
        omega), if_neg (by simp), ← hq]
      rfl
  | d + 1, i, k, hi, hk => by
    obtain ⟨h8, h4, hW, hD⟩ := nOk_facts h
    have hil : i < m.length := by omega
    have hw : wrap64 ((i : Int) + 1) = ((i + 1 : Nat) : Int) := wrap_id (by omega) (by omega)
    obtain ⟨k, rfl⟩ : ∃ q, k = q + 1 := ⟨k - 1, by omega⟩
    have hY := hD _ (List.getElem_mem hil)
    have hA := aOk_rng hY.1
    have hza := addr_size m[i].f0.f0 m[i].f0.f1 hA.1 hA.2
    have hzi := itoa_size m[i].f1 hY.2.1 (by omega)
    have hs := joinS_size 1000 (l.map wireB ++ (m.take i).map driveB) SEP (fun z hz => by
      rcases List.mem_append.1 hz with hz | hz
      · obtain ⟨x, hx, rfl⟩ := List.mem_map.1 hz
        exact wireB_size (hW x hx) (by omega)
      · obtain ⟨y, hy, rfl⟩ := List.mem_map.1 hz
        have hY := hD y (List.mem_of_mem_take hy)
        have hA := aOk_rng hY.1
        exact driveB_size hA.1 hA.2 hY.2.1 (by omega))
    rw [List.length_append, List.length_map, List.length_map, List.length_take, show SEP.size = 3 from rfl] at hs
    have hs' : (l.length + min i m.length) * (1000 + 3) ≤ 12 * 1003 := Nat.mul_le_mul_right _ (by omega)
    have ih := l1_text l m h d (i + 1) k (by omega) (by omega)
    have et : l.map wireB ++ (m.take (i + 1)).map driveB = (l.map wireB ++ (m.take i).map driveB) ++ [driveB m[i]] := by rw [List.take_succ_eq_append_getElem hil, List.map_append, List.map_singleton, List.append_assoc]
    have o1 : (⟨#[32, 59, 32, 116, 111, 32]⟩ : ByteArray).size = 6 := rfl
    have o2 : (⟨#[32, 119]⟩ : ByteArray).size = 2 := rfl
    rw [spec_l7Text.l1, if_pos (by omega), if_pos (by omega), if_pos (by omega), rd62 m i hil, addrT _ _ k hY.1 (by omega)]
    simp only [Option.bind_some]
    rw [if_pos (by rw [ByteArray.size_append, o1]; omega), if_pos (by rw [ByteArray.size_append, ByteArray.size_append, o1]; omega), decT _ k hY.2.1 (by omega) (by omega)]
    simp only [Option.bind_some]
    rw [if_pos (by rw [ByteArray.size_append, ByteArray.size_append, ByteArray.size_append, o1, o2]; omega), hw, ← ih, et]
    congr 1
    rw [joinS_snoc _ _ _ (by
      intro e
      have := congrArg List.length e
      rw [List.length_append, List.length_map, List.length_map] at this
      have h2 : l.length + (m.take i).length = 0 := this
      omega)]
    unfold driveB
    rw [show (⟨#[32, 59, 32, 116, 111, 32]⟩ : ByteArray) = SEP ++ ⟨#[116, 111, 32]⟩ from by decide]
    simp only [ByteArray.append_assoc]
/-- spec.NetText answers the same. -/
theorem netTextT (l : List S43) (m : List S66) (k : Nat) (hk : 2000 ≤ k) : spec_NetText.f k l m = some (netT l m) := by
  unfold spec_NetText.f netT
  rw [netOkT l m k hk]
  simp only [Option.bind_some]
  cases h : nOk l m with
  | false => rw [if_neg (by simp), if_neg (by simp)]
  | true =>
    obtain ⟨h8, h4, hW, hD⟩ := nOk_facts h
    rw [if_pos rfl, if_pos rfl]
    unfold spec_l7Text.f
    have e0 := l0_text l m h l.length 0 k (by omega) (by omega)
    rw [List.take_zero, List.map_nil, joinS_nil] at e0
    have e1 := l1_text l m h m.length 0 (k - l.length - 1) (by omega) (by omega)
    rw [List.take_zero, List.map_nil, List.append_nil] at e1
    rw [show (⟨#[]⟩ : ByteArray) = ByteArray.empty from rfl]
    have e2 : ((0 : Nat) : Int) = 0 := rfl
    rw [e2] at e0 e1
    rw [e0, e1]
    rfl
end Go.Proofs.YtphblfmjdiigkaaGreatDoor.Hl5
