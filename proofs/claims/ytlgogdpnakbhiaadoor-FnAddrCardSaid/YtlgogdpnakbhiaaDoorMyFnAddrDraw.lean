/- What spec.DrawMemSame draws for the law FnAddr. No condition. -/
import Derived.Test.YtlgogdpnakbhiaaDoorHFnAddrx0
import Derived.Test.YtlgogdpnakbhiaaDoorHFnAddrx1
import Derived.Test.YtlgogdpnakbhiaaDoorHFnAddrx2
import Derived.Test.YtlgogdpnakbhiaaDoorHFnAddrx3
import Derived.Test.YtlgogdpnakbhiaaDoorHFnAddrx5
import Derived.WalkKit
import Derived.KernelRfl
import Derived.WalkLawsBesides
import Derived.WalkSpells
import Derived.Below
import Derived.Deep.RegionHeld
namespace Go.Proofs.YtlgogdpnakbhiaaDoor.MyFnAddrDraw
open Go.RowKit Go.Proofs.YtlgogdpnakbhiaaDoor.HFnAddr Go.Proofs.YtlgogdpnakbhiaaDoorW.PrintWords Go.Proofs.YtlgogdpnakbhiaaDoorW.PrintLast Go.Proofs.YtlgogdpnakbhiaaDoorW.PrintMore
set_option linter.unusedVariables false
set_option linter.unusedSimpArgs false
theorem wrap_id {x : Int} (h1 : -9223372036854775808 ≤ x) (h2 : x ≤ 9223372036854775807) : wrap64 x = x := by
  unfold wrap64; omega
theorem xor_i64_nat (a b : Nat) (ha : a < 9223372036854775808) (hb : b < 9223372036854775808) :
    Go.bits .xor .i64 (a : Int) (b : Int) = ((a ^^^ b : Nat) : Int) := by
  have hx : a ^^^ b < 2 ^ 63 := Nat.xor_lt_two_pow (by omega) (by omega)
  have h1 : (BitVec.ofInt 64 (a : Int)).toNat = a := by
    rw [BitVec.ofInt_natCast, BitVec.toNat_ofNat]; exact Nat.mod_eq_of_lt (by omega)
  have h2 : (BitVec.ofInt 64 (b : Int)).toNat = b := by
    rw [BitVec.ofInt_natCast, BitVec.toNat_ofNat]; exact Nat.mod_eq_of_lt (by omega)
  show IntKind.i64.wrap ((BitVec.ofInt 64 (a : Int) ^^^ BitVec.ofInt 64 (b : Int)).toNat : Int) = _
  rw [BitVec.toNat_xor, h1, h2, IntKind.wrap_i64]
  omega
theorem xor_i64_nonneg (x y : Int) (hx : 0 ≤ x) (hx' : x < 9223372036854775808) (hy : 0 ≤ y) (hy' : y < 9223372036854775808) :
    0 ≤ Go.bits .xor .i64 x y := by
  obtain ⟨a, rfl⟩ := Int.eq_ofNat_of_zero_le hx
  obtain ⟨b, rfl⟩ := Int.eq_ofNat_of_zero_le hy
  rw [xor_i64_nat a b (by omega) (by omega)]
  exact Int.natCast_nonneg _
def Byt (l : List Int) : Prop := ∀ x ∈ l, 0 ≤ x ∧ x ≤ 255
theorem rd_byt {l : List Int} (h : Byt l) (i : Int) : 0 ≤ rd l i ∧ rd l i ≤ 255 := by
  unfold rd
  by_cases hi : i.toNat < l.length
  · rw [List.getD_eq_getElem?_getD, List.getElem?_eq_getElem hi]; exact h _ (List.getElem_mem hi)
  · rw [List.getD_eq_getElem?_getD, List.getElem?_eq_none (by omega)]; simp
theorem tmod_bd {a b : Int} (ha : 0 ≤ a) (hb : 0 < b) : 0 ≤ Int.tmod a b ∧ Int.tmod a b < b := by
  rw [Int.tmod_eq_emod_of_nonneg ha]
  exact ⟨Int.emod_nonneg _ (by omega), Int.emod_lt_of_pos _ hb⟩
theorem tdiv_bd {a b : Int} (ha : 0 ≤ a) (hb : 0 < b) : 0 ≤ Int.tdiv a b ∧ Int.tdiv a b ≤ a := by
  rw [Int.tdiv_eq_ediv_of_nonneg ha]
  exact ⟨Int.ediv_nonneg ha (by omega), Int.ediv_le_self _ ha⟩
/-- What one pick gives: a number from 0 on, below n where n is at least 1; the place goes one on. -/
theorem pick_some {l : List Int} (h : Byt l) (k : Nat) (p n : Int) (hp : 0 ≤ p) (hp' : p ≤ 1000000000000) :
    ∃ r, spec_l12Rd_pick.f (k + 1) l p n = some (r, p + 1) ∧ 0 ≤ r ∧ (r < n ∨ (n < 1 ∧ r = 0)) := by
  have hw : wrap64 (p + 1) = p + 1 := wrap_id (by omega) (by omega)
  have hw2 : wrap64 (p + 1 - 1) = p := by rw [wrap_id (by omega) (by omega)]; omega
  unfold spec_l12Rd_pick.f
  by_cases hn : n < 1
  · refine ⟨0, ?_, by omega, .inr ⟨hn, rfl⟩⟩
    rw [if_pos hn]; simp only [spec_l12Rd_pick.j0, if_true]; rw [hw]
  · rw [if_neg hn]
    by_cases hl : (l.length : Int) = 0
    · refine ⟨0, ?_, by omega, .inl (by omega)⟩
      have e : ((l.length : Int) == 0) = true := by simpa using hl
      rw [e]; simp only [spec_l12Rd_pick.j0, if_true]; rw [hw]
    · have e : ((l.length : Int) == 0) = false := by simpa using hl
      have hn0 : ¬ n = 0 := by omega
      rw [e]; simp only [spec_l12Rd_pick.j0]
      rw [if_neg (by simp), hw, hw2]
      by_cases hlt : p < (l.length : Int)
      · rw [if_pos hlt, if_pos hp, if_neg hn0]
        have hb := rd_byt h p
        rw [wrap_id (x := rd l p) (by omega) (by omega)]
        have ht := tmod_bd (a := rd l p) (b := n) hb.1 (by omega)
        exact ⟨_, rfl, ht.1, .inl ht.2⟩
      · have hL : 0 < (l.length : Int) := by omega
        have ht1 := tmod_bd (a := p) (b := (l.length : Int)) hp hL
        have e7 : wrap64 (p * 7) = p * 7 := wrap_id (by omega) (by omega)
        have e73 : wrap64 (p * 7 + 3) = p * 7 + 3 := wrap_id (by omega) (by omega)
        have ht2 := tmod_bd (a := p * 7 + 3) (b := (l.length : Int)) (by omega) hL
        rw [if_neg hlt, if_neg hl, if_pos ht1.1, if_pos ht1.2, e7, e73, if_pos ht2.1, if_pos ht2.2, if_neg hn0]
        have hb1 := rd_byt h (Int.tmod p (l.length : Int))
        have hb2 := rd_byt h (Int.tmod (p * 7 + 3) (l.length : Int))
        have hd := tdiv_bd (a := p) (b := (l.length : Int)) hp hL
        generalize rd l (Int.tmod p (l.length : Int)) = A at hb1 ⊢
        generalize rd l (Int.tmod (p * 7 + 3) (l.length : Int)) = B at hb2 ⊢
        generalize Int.tdiv p (l.length : Int) = D at hd ⊢
        rw [wrap_id (x := A) (by omega) (by omega), wrap_id (x := B) (by omega) (by omega), wrap_id (x := D) (by omega) (by omega), wrap_id (x := A * 131) (by omega) (by omega), wrap_id (x := B * 1117) (by omega) (by omega), wrap_id (x := p * 29) (by omega) (by omega), wrap_id (x := D * 53) (by omega) (by omega), wrap_id (x := A * 131 + B * 1117) (by omega) (by omega), wrap_id (x := A * 131 + B * 1117 + p * 29) (by omega) (by omega), wrap_id (x := A * 131 + B * 1117 + p * 29 + D * 53) (by omega) (by omega)]
        have hx0 : 0 ≤ A * 131 + B * 1117 + p * 29 + D * 53 := by omega
        have hx1 : A * 131 + B * 1117 + p * 29 + D * 53 < 9223372036854775807 := by omega
        generalize A * 131 + B * 1117 + p * 29 + D * 53 = X at hx0 hx1 ⊢
        have hd2 := tdiv_bd (a := X) (b := 64) hx0 (by omega)
        rw [wrap_id (x := Int.tdiv X 64) (by omega) (by omega)]
        have hnn := xor_i64_nonneg X (Int.tdiv X 64) hx0 (by omega) hd2.1 (by omega)
        have ht := tmod_bd (a := Go.bits .xor .i64 X (Int.tdiv X 64)) (b := n) hnn (by omega)
        exact ⟨_, rfl, ht.1, .inl ht.2⟩
theorem rd_mem {l : List Int} {i : Int} (h0 : 0 ≤ i) (h1 : i < (l.length : Int)) : rd l i ∈ l := by
  unfold rd
  rw [List.getD_eq_getElem?_getD, List.getElem?_eq_getElem (by omega)]; exact List.getElem_mem _
theorem num_some {l : List Int} (h : Byt l) (k : Nat) (p : Int) (xs : List Int) (hx : 0 < xs.length) (hp : 0 ≤ p) (hp' : p ≤ 1000000000000) :
    ∃ r, spec_l12Rd_num.f (k + 1) l p xs = some (r, p + 1) ∧ r ∈ xs := by
  obtain ⟨i, hi, h0, h1⟩ := pick_some h k p (xs.length : Int) hp hp'
  have h1' : i < (xs.length : Int) := by omega
  refine ⟨rd xs i, ?_, rd_mem h0 h1'⟩
  unfold spec_l12Rd_num.f
  rw [hi]; simp only [Option.bind_some]
  rw [if_pos h0, if_pos h1']
theorem byt_of {l : List Int} (h : ∀ x ∈ l, (Lit.int .u8 x).wf = true) : Byt l := by
  intro x hx
  have := h x hx
  simp [Lit.wf, IntKind.min, IntKind.max, IntKind.bits, IntKind.signed] at this
  omega
theorem open_some {l : List Int} (h : Byt l) : ∃ l', spec_l12Open.f l = some (l', 0) ∧ Byt l' := by
  unfold spec_l12Open.f
  by_cases hl : (l.length : Int) > 2000
  · rw [if_pos hl, if_pos (by omega)]
    exact ⟨_, rfl, fun x hx => h x (List.mem_of_mem_take hx)⟩
  · rw [if_neg hl]; exact ⟨l, rfl, h⟩
theorem memLoop_some {l : List Int} (h : Byt l) (d : Nat) : ∀ (k : Nat) (i p : Int) (a b c : List Int), i = 4 - (d : Int) → d ≤ 4 → 0 ≤ p → p + 3 * d ≤ 1000000000000 → d + 1 < k → a.length = 6 → b.length = 6 → c.length = 6 →
    ∃ a' b' c', spec_l2Mem.l0 k i l p a b c = some (a', b', c', p + 3 * d) ∧ a'.length = 6 ∧ b'.length = 6 ∧ c'.length = 6 := by
  induction d with
  | zero =>
    intro k i p a b c hi hd hp hp' hk ha hb hc
    obtain ⟨k, rfl⟩ : ∃ m, k = m + 1 := ⟨k - 1, by omega⟩
    simp only [spec_l2Mem.l0]
    rw [if_neg (by omega)]
    exact ⟨a, b, c, by simp, ha, hb, hc⟩
  | succ d ih =>
    intro k i p a b c hi hd hp hp' hk ha hb hc
    obtain ⟨k, rfl⟩ : ∃ m, k = m + 1 := ⟨k - 1, by omega⟩
    simp only [spec_l2Mem.l0]
    obtain ⟨k, rfl⟩ : ∃ m, k = m + 1 := ⟨k - 1, by omega⟩
    obtain ⟨r0, h0, _⟩ := num_some h k p [0, 0, 1, 1, 2, 5, (-1)] (by simp) hp (by omega)
    obtain ⟨r1, h1, _⟩ := num_some h k (p + 1) [0, 0, 1, 3] (by simp) (by omega) (by omega)
    obtain ⟨r2, h2, _⟩ := num_some h k (p + 1 + 1) [0, 0, 1, 2, 7, 1000000] (by simp) (by omega) (by omega)
    rw [if_pos (by omega), h0]; simp only [Option.bind_some]
    rw [if_pos (by omega), if_pos (by omega), h1]; simp only [Option.bind_some]
    rw [if_pos (by omega), h2]; simp only [Option.bind_some]
    rw [if_pos (by omega), wrap_id (by omega) (by omega)]
    obtain ⟨a', b', c', hr, q⟩ := ih (k + 1) (i + 1) (p + 1 + 1 + 1) (a.set i.toNat r0) (b.set i.toNat r1) (c.set i.toNat r2) (by omega) (by omega) (by omega) (by omega) (by omega) (by simpa using ha) (by simpa using hb) (by simpa using hc)
    refine ⟨a', b', c', ?_, q⟩
    rw [hr]
    have e : p + 1 + 1 + 1 + 3 * (d : Int) = p + 3 * ((d + 1 : Nat) : Int) := by omega
    rw [e]
theorem memDraw_some {l : List Int} (h : Byt l) (k : Nat) (p : Int) (hp : 0 ≤ p) (hp' : p ≤ 1000000) : ∃ a b c, spec_l2Mem.f (k + 6) l p = some (a, b, c, p + 12) ∧ a.length = 6 ∧ b.length = 6 ∧ c.length = 6 := by
  unfold spec_l2Mem.f spec_MemOpen.f
  rw [if_pos (by omega)]; simp only [Option.bind_some]
  exact memLoop_some h 4 (k + 6) 0 p _ _ _ (by omega) (by omega) hp (by omega) (by omega) (by simp) (by simp) (by simp)
theorem memBent_some {l : List Int} (h : Byt l) (k : Nat) (p : Int) (hp : 0 ≤ p) (hp' : p ≤ 1000000) : ∃ a b c, spec_l2MemBent.f (k + 6) l p = some (a, b, c, p + 12 + 1) ∧ a.length ≤ 7 ∧ b.length ≤ 7 ∧ c.length ≤ 7 := by
  unfold spec_l2MemBent.f
  obtain ⟨a, b, c, hm, ha, hb, hc⟩ := memDraw_some h k p hp hp'
  rw [hm]; simp only [Option.bind_some]
  obtain ⟨r, hr, _⟩ := pick_some h (k + 5) (p + 12) 30 (by omega) (by omega)
  rw [hr]; simp only [Option.bind_some]
  by_cases h0 : r = 0
  · rw [if_pos h0, if_pos (by omega)]
    refine ⟨_, _, _, rfl, ?_, ?_, ?_⟩ <;> (try simp only [List.length_take, List.length_set, List.length_append, List.length_singleton]) <;> omega
  rw [if_neg h0]
  by_cases h1 : r = 1
  · rw [if_pos h1, if_pos (by omega)]
    refine ⟨_, _, _, rfl, ?_, ?_, ?_⟩ <;> (try simp only [List.length_take, List.length_set, List.length_append, List.length_singleton]) <;> omega
  rw [if_neg h1]
  by_cases h2 : r = 2
  · rw [if_pos h2, if_pos (by omega)]
    refine ⟨_, _, _, rfl, ?_, ?_, ?_⟩ <;> (try simp only [List.length_take, List.length_set, List.length_append, List.length_singleton]) <;> omega
  rw [if_neg h2]
  refine ⟨_, _, _, rfl, ?_, ?_, ?_⟩ <;> omega
theorem R_int_ok {k : IntKind} {e : Nat} {w : World} {base : Nat} {ok ok' : Nat → Prop} {v : Value} {xs : List Int} (h : (Kd.int k).R e w base ok v xs) (h2 : ∀ b, v.ownBlock = some b → ok' b) : (Kd.int k).R e w base ok' v xs := ⟨h2, h.2.imp_ (fun _ _ hp => hp)⟩
def R3 (B : Nat) (W : World) (v0 v1 v2 : Value) (a b c : List Int) : Prop := Kd.R (Kd.int .i64) 3 W B (fun _ => True) v0 a ∧ Kd.R (Kd.int .i64) 3 W B (fun _ => True) v1 b ∧ Kd.R (Kd.int .i64) 3 W B (fun _ => True) v2 c
section
variable {B : Nat} {W W' : World} {v0 v1 v2 : Value} {a b c : List Int}
theorem R3.below (h : R3 B W v0 v1 v2 a b c) (hb : Below W.heap.size W W') : R3 B W' v0 v1 v2 a b c := ⟨Kd.R_below h.1 hb, Kd.R_below h.2.1 hb, Kd.R_below h.2.2 hb⟩
theorem R3.drew (h : R3 B W v0 v1 v2 a b c) : R3 B W.drew v0 v1 v2 a b c := h.below (below_drew1 (Below.refl _ _))
theorem R3.alloc (h : R3 B W v0 v1 v2 a b c) (o : Obj) : R3 B (W.alloc o) v0 v1 v2 a b c := h.below ((Below.refl _ _).alloc (Nat.le_refl _) _)
theorem R3.lower {B' : Nat} (h : R3 B W v0 v1 v2 a b c) (hb : B' ≤ B) : R3 B' W v0 v1 v2 a b c := ⟨Kd.R_lower h.1 hb, Kd.R_lower h.2.1 hb, Kd.R_lower h.2.2 hb⟩
theorem R3.set {z j t : Nat} {cells : Array Value} (h : R3 B W v0 v1 v2 a b c) (hz : W.heap[z]? = some (.cells cells t (0, 0))) (ht : t ≠ 3) (u : Value) : R3 B (W.setCell ⟨z, j, none⟩ u) v0 v1 v2 a b c := by
  have h3 : ∀ q, q ∈ 3 :: (Kd.int .i64).E → q ≠ t := by
    intro q hq
    rcases List.mem_cons.1 hq with rfl | h
    · exact fun e => ht e.symm
    · exact absurd (show q ∈ ([] : List Nat) from h) (by simp)
  exact ⟨Kd.R_set h.1 hz h3 j u, Kd.R_set h.2.1 hz h3 j u, Kd.R_set h.2.2 hz h3 j u⟩
end
theorem R3.slices {B : Nat} {W : World} {v0 v1 v2 : Value} {a b c : List Int} (h : R3 B W v0 v1 v2 a b c) : ∃ A0 A1 A2 c0 c1 c2, v0 = .slice A0 a.length c0 ∧ v1 = .slice A1 b.length c1 ∧ v2 = .slice A2 c.length c2 := by
  obtain ⟨A0, c0, rfl, _⟩ := Kd.R_reads h.1
  obtain ⟨A1, c1, rfl, _⟩ := Kd.R_reads h.2.1
  obtain ⟨A2, c2, rfl, _⟩ := Kd.R_reads h.2.2
  exact ⟨A0, A1, A2, c0, c1, c2, rfl, rfl, rfl⟩
abbrev S3 (A0 A1 A2 : Option Addr) (c0 c1 c2 : Nat) (a b c : List Int) (B : Nat) (W : World) : Prop := R3 B W (.slice A0 a.length c0) (.slice A1 b.length c1) (.slice A2 c.length c2) a b c
theorem R_farlt {B n : Nat} {W : World} {v : Value} {l : List Int} (h : Kd.R (Kd.int .i64) 3 W B (fun _ => True) v l) (hn : ∀ k, v.ownBlock = some k → k < n) {p : Addr} (hp : n ≤ p.block) (u : Value) : Kd.R (Kd.int .i64) 3 (W.setCell p u) B (fun _ => True) v l :=
  R_int_ok (Kd.R_far (R_int_ok (ok' := fun k => k < n) h hn) (fun k hk e => by omega) u) (fun _ _ => trivial)
theorem htN (t : Nat) (hn : t ≠ 3) : ∀ q, q ∈ 3 :: (Kd.int .i64).E → q ≠ t := by
  intro q hq
  rcases List.mem_cons.1 hq with rfl | h
  · exact fun e => hn e.symm
  · exact absurd (show q ∈ ([] : List Nat) from h) (by simp)
theorem R3.keep {B g t : Nat} {W W' : World} {v0 v1 v2 : Value} {a b c : List Int} {cs : Array Value} (h : R3 B W v0 v1 v2 a b c) (hk : KeepBut W W' g none) (hg : W.heap[g]? = some (.cells cs t (0, 0))) (ht : t ≠ 3) : R3 B W' v0 v1 v2 a b c := by
  have k := Kept.of_keep (Kept.refl W (fun k => k = g)) hk (.inl rfl)
  exact ⟨R_int_ok (Kd.R_kept (Kd.R_types h.1 hg (htN t ht)) k (fun x hx e => hx.2 e)) (fun _ _ => trivial), R_int_ok (Kd.R_kept (Kd.R_types h.2.1 hg (htN t ht)) k (fun x hx e => hx.2 e)) (fun _ _ => trivial), R_int_ok (Kd.R_kept (Kd.R_types h.2.2 hg (htN t ht)) k (fun x hx e => hx.2 e)) (fun _ _ => trivial)⟩
theorem add0 (ad : Addr) : ad.add 0 = ad := by
  unfold Addr.add; split
  · subst_vars; rfl
  · rename_i h; exact absurd rfl h
def ch (W : World) (z : Nat) (v0 v1 v2 : Value) : World := ((W.setCell ⟨z, 0, none⟩ v0).setCell ⟨z, 1, none⟩ v1).setCell ⟨z, 2, none⟩ v2
theorem ch_put {W : World} {z : Nat} {u0 u1 u2 : Value} (hz : W.heap[z]? = some (.cells #[u0, u1, u2] 25 (0, 0))) (v0 v1 v2 : Value) : (ch W z v0 v1 v2).heap[z]? = some (.cells #[v0, v1, v2] 25 (0, 0)) := blk_put (blk_put (blk_put hz 0 v0 rfl) 1 v1 rfl) 2 v2 rfl
theorem ch_far {W : World} {z g t : Nat} {cs : Array Value} (h : W.heap[g]? = some (.cells cs t (0, 0))) (ne : g ≠ z) (v0 v1 v2 : Value) : (ch W z v0 v1 v2).heap[g]? = some (.cells cs t (0, 0)) := blk_far (blk_far (blk_far h (by exact ne) v0) (by exact ne) v1) (by exact ne) v2
theorem ch_R3 {B : Nat} {W : World} {x0 x1 x2 : Value} {a b c : List Int} (h : R3 B W x0 x1 x2 a b c) {z : Nat} {u0 u1 u2 : Value} (hz : W.heap[z]? = some (.cells #[u0, u1, u2] 25 (0, 0))) (v0 v1 v2 : Value) : R3 B (ch W z v0 v1 v2) x0 x1 x2 a b c := ((h.set (j := 0) hz (by decide) v0).set (j := 1) (blk_put hz 0 v0 rfl) (by decide) v1).set (j := 2) (blk_put (blk_put hz 0 v0 rfl) 1 v1 rfl) (by decide) v2
theorem ch_below {w W : World} (h : Below w.heap.size w W) {z : Nat} (hz : w.heap.size ≤ z) (v0 v1 v2 : Value) : Below w.heap.size w (ch W z v0 v1 v2) := below_set (below_set (below_set h hz) hz) hz
structure Q (w : World) (L : List (Nat × Array Value)) (W : World) : Prop where
  hL : ∀ x ∈ L, W.heap[x.1]? = some (.cells x.2 25 (0, 0))
  bel : Below w.heap.size w W
section
variable {w W W' : World} {L : List (Nat × Array Value)}
theorem Q.below (h : Q w L W) (hb : Below W.heap.size W W') : Q w L W' := ⟨fun x hx => blk_below (h.hL x hx) hb, h.bel.trans (hb.mono h.bel.size)⟩
theorem Q.drew (h : Q w L W) : Q w L W.drew := h.below (below_drew1 (Below.refl _ _))
theorem Q.box (h : Q w L W) (cs : Array Value) : Q w ((W.heap.size, cs) :: L) (W.alloc (.cells cs 25 (0, 0))) := by
  have h2 := h.below ((Below.refl W.heap.size W).alloc (Nat.le_refl _) (.cells cs 25 (0, 0)))
  refine ⟨fun x hx => ?_, h2.bel⟩
  rcases List.mem_cons.1 hx with rfl | hx
  · exact heap_alloc_new _ _
  · exact h2.hL x hx
theorem Q.keep (h : Q w L W) {g t : Nat} {cs : Array Value} (hk : KeepBut W W' g none) (hg : W.heap[g]? = some (.cells cs t (0, 0))) (ht : t ≠ 25) (hb : Below w.heap.size w W') : Q w L W' := by
  refine ⟨fun x hx => KeepBut.blk hk (h.hL x hx) (fun e => ?_) (fun e => by cases e), hb⟩
  have h1 := h.hL x hx
  rw [e, hg] at h1
  simp only [Option.some.injEq, Obj.cells.injEq] at h1
  exact ht h1.2.1
theorem Q.far (h : Q w L W) {g : Nat} (ng : ∀ x ∈ L, x.1 ≠ g) (gw : w.heap.size ≤ g) (j : Nat) (u : Value) : Q w L (W.setCell ⟨g, j, none⟩ u) :=
  ⟨fun x hx => blk_far (h.hL x hx) (ng x hx) u, below_set h.bel gw⟩
end
set_option maxRecDepth 100000 in
set_option maxHeartbeats 25600000 in
theorem draw18 (A : Option Addr) (cc : Nat) (l : List Int) (w : World) (hr : Kd.C (Kd.int .u8) w A l.length l) (hc : l.length ≤ cc) (hb : Byt l) :
    Calls Tryd.prog 18 #[.slice A l.length cc] w fun e w' => ∃ a b c a' b' c' M0 M1 M2 m0 m1 m2 N0 N1 N2 n0 n1 n2, e = .returned (.tuple #[.agg #[.slice M0 a.length m0, .slice M1 b.length m1, .slice M2 c.length m2], .agg #[.slice N0 a'.length n0, .slice N1 b'.length n1, .slice N2 c'.length n2]]) ∧ R3 w.heap.size w' (.slice M0 a.length m0) (.slice M1 b.length m1) (.slice M2 c.length m2) a b c ∧ R3 w.heap.size w' (.slice N0 a'.length n0) (.slice N1 b'.length n1) (.slice N2 c'.length n2) a' b' c' ∧ (a.length ≤ 7 ∧ b.length ≤ 7 ∧ c.length ≤ 7) ∧ (a'.length ≤ 7 ∧ b'.length ≤ 7 ∧ c'.length ≤ 7) ∧ Below w.heap.size w w' := by
  obtain ⟨l', ho, hb'⟩ := open_some hb
  obtain ⟨a, b, c, hm, la, lb, lc⟩ := memBent_some hb' 0 0 (by omega) (by omega)
  have hu25 := Tryd.underlying25
  have gO := fun W hW => spec_l12Open.calls A cc l l' 0 w W hW hr hc ho
  have gB := fun g W hI hW => spec_l2MemBent.calls 6 g l' 0 a b c _ w W hI hW hm
  clear ho hm
  go_enter Tryd.func18, Tryd.ntmps18
  go_wp2_with fail
  have hQ : Q w [(w.heap.size + 1, #[.slice none 0 0, .slice none 0 0, .slice none 0 0]), (w.heap.size, #[.slice none 0 0, .slice none 0 0, .slice none 0 0])] ((w.alloc (Obj.cells #[.slice none 0 0, .slice none 0 0, .slice none 0 0] 25)).alloc (Obj.cells #[.slice none 0 0, .slice none 0 0, .slice none 0 0] 25)) := by
    have h0 : Q w [] w := ⟨fun x hx => by simp at hx, Below.refl _ _⟩
    have h2 := (h0.box #[.slice none 0 0, .slice none 0 0, .slice none 0 0]).box #[.slice none 0 0, .slice none 0 0, .slice none 0 0]
    rw [Hm.alloc_size] at h2
    exact h2
  generalize (w.alloc (Obj.cells _ 25)).alloc (Obj.cells _ 25) = w0 at hQ ⊢
  obtain ⟨b2, hb2⟩ : ∃ g, w.heap.size = g := ⟨_, rfl⟩
  have hQ' : Q w [(b2 + 1, #[.slice none 0 0, .slice none 0 0, .slice none 0 0]), (b2, #[.slice none 0 0, .slice none 0 0, .slice none 0 0])] w0 := by rw [← hb2]; exact hQ
  have hb2a := Aside0.mk hb2
  rw [hb2]
  clear hQ hb2
  refine (gO _ hQ'.bel).mono ?_
  rintro e w1 ⟨g, rfl, hI, hB1, hb1⟩
  replace hQ' := hQ'.below hb1
  go_wp2_with fail
  obtain ⟨_, _, hg, _⟩ := id hI
  refine (gB g _ hI hB1).mono ?_
  rintro e w2 ⟨v0, v1, v2, rfl, h0, h1, h2, _, hB2, hk⟩
  have hM : R3 w.heap.size w2 v0 v1 v2 a b c := R3.lower ⟨R_int_ok h0 (fun _ _ => trivial), R_int_ok h1 (fun _ _ => trivial), R_int_ok h2 (fun _ _ => trivial)⟩ hB1.size
  obtain ⟨M0, M1, M2, m0, m1, m2, rfl, rfl, rfl⟩ := hM.slices
  replace hQ' := hQ'.keep hk hg (by decide) hB2
  clear hI hg hk h0 h1 h2 hb1 hB1 hB2
  have hZ3_ := hQ'.hL _ List.mem_cons_self
  go_wp2_with fail
  replace hQ' := hQ'.box #[.slice M0 a.length m0, .slice M1 b.length m1, .slice M2 c.length m2]
  replace hM := hM.alloc (Obj.cells #[.slice M0 a.length m0, .slice M1 b.length m1, .slice M2 c.length m2] 25)
  have lt4 : b2 + 1 < w2.heap.size := blk_lt hZ3_
  clear hZ3_
  generalize w2.alloc (Obj.cells _ 25) = w3 at hQ' hM ⊢
  generalize w2.heap.size = b4 at hQ' lt4 ⊢
  refine (gO _ hQ'.bel).mono ?_
  rintro e w4 ⟨g, rfl, hI, hB1, hb1⟩
  replace hQ' := hQ'.below hb1
  replace hM := hM.below hb1
  have oM0 := Kd.R_lt hM.1
  have oM1 := Kd.R_lt hM.2.1
  have oM2 := Kd.R_lt hM.2.2
  go_wp2_with fail
  obtain ⟨_, _, hg, _⟩ := id hI
  refine (gB g _ hI hB1).mono ?_
  rintro e w5 ⟨v0, v1, v2, rfl, h0, h1, h2, _, hB2, hk⟩
  have hN : R3 w.heap.size w5 v0 v1 v2 a b c := R3.lower ⟨R_int_ok h0 (fun _ _ => trivial), R_int_ok h1 (fun _ _ => trivial), R_int_ok h2 (fun _ _ => trivial)⟩ hB1.size
  have gN2 := Kd.R_base h2
  have dN0 : ∀ k, v0.ownBlock = some k → v2.ownBlock ≠ some k := fun k hk e => (h0.1 k hk).2 e.symm
  have dN1 : ∀ k, v1.ownBlock = some k → v2.ownBlock ≠ some k := fun k hk e => (h1.1 k hk).2 e.symm
  obtain ⟨N0, N1, N2, n0, n1, n2, rfl, rfl, rfl⟩ := hN.slices
  replace hM := hM.keep hk hg (by decide)
  replace hQ' := hQ'.keep hk hg (by decide) hB2
  clear hI hg hk h0 h1 h2 hb1 hB1 hB2 gO gB
  generalize w4.heap.size = s4 at oM0 oM1 oM2 gN2
  have hZ4_ := hQ'.hL _ List.mem_cons_self
  go_upto_region 3 with (fail)
  have lt5 : b4 < w5.heap.size := blk_lt hZ4_
  clear hZ4_
  replace hQ' := hQ'.box #[.slice N0 a.length n0, .slice N1 b.length n1, .slice N2 c.length n2]
  replace hM := hM.alloc (Obj.cells #[.slice N0 a.length n0, .slice N1 b.length n1, .slice N2 c.length n2] 25)
  replace hN := hN.alloc (Obj.cells #[.slice N0 a.length n0, .slice N1 b.length n1, .slice N2 c.length n2] 25)
  generalize w5.alloc (Obj.cells _ 25) = w6 at hQ' hM hN ⊢
  generalize w5.heap.size = b5 at hQ' lt5 ⊢
  have z5 := hQ'.hL _ List.mem_cons_self
  have z4 := hQ'.hL _ (List.mem_cons_of_mem _ List.mem_cons_self)
  have z3 := hQ'.hL _ (List.mem_cons_of_mem _ (List.mem_cons_of_mem _ List.mem_cons_self))
  have z2 := hQ'.hL _ (List.mem_cons_of_mem _ (List.mem_cons_of_mem _ (List.mem_cons_of_mem _ List.mem_cons_self)))
  have hbw := hQ'.bel
  clear hQ'
  have i52 : w6.cell? ⟨b5, 2, none⟩ = some (.slice N2 c.length n2) := (blk_cell z5 2).trans rfl
  have nw2 : w.heap.size ≤ b2 := Nat.le_of_eq hb2a.out
  clear hb2a
  have hr6 := Kd.C_below hr hbw
  clear hr
  by_cases hl0 : 0 < l.length
  · have d1 : decide (0 < l.length) = true := decide_eq_true hl0
    obtain ⟨ad, hA, hcell⟩ := Kd.at_int hr6 0 (by omega) (by omega)
    subst hA
    clear hr6
    have hbx := rd_byt hb 0
    generalize rd l 0 = x0 at hcell hbx
    have hc0 : w6.cell? ad = some (.int .u8 x0) := by rw [show (0 : Int).toNat = 0 from rfl, add0] at hcell; exact hcell
    clear hcell
    obtain ⟨q, hq⟩ : ∃ q, (x0 % 2 == 1) = q := ⟨_, rfl⟩
    obtain ⟨t, ht⟩ : ∃ t, decide (0 < c.length) = t := ⟨_, rfl⟩
    cases q with
    | false =>
      go_upto_region 5 with (fail)
      have z20 : w6.drew.heap[b2]? = some (.cells #[.slice none 0 0, .slice none 0 0, .slice none 0 0] 25 (0, 0)) := z2
      have z30 : w6.drew.heap[b2 + 1]? = some (.cells #[.slice none 0 0, .slice none 0 0, .slice none 0 0] 25 (0, 0)) := z3
      have z40 : w6.drew.heap[b4]? = some (.cells #[.slice M0 a.length m0, .slice M1 b.length m1, .slice M2 c.length m2] 25 (0, 0)) := z4
      have z50 : w6.drew.heap[b5]? = some (.cells #[.slice N0 a.length n0, .slice N1 b.length n1, .slice N2 c.length n2] 25 (0, 0)) := z5
      have hM0 := hM.drew
      have hN0 := hN.drew
      have hbw0 := below_drew1 hbw
      refine start_ (n := 4) (S := fun w' => w'.cell? ⟨b4, 0, none⟩ = some (.slice M0 a.length m0) ∧ w'.cell? ⟨b4, 1, none⟩ = some (.slice M1 b.length m1) ∧ w'.cell? ⟨b4, 2, none⟩ = some (.slice M2 c.length m2) ∧ w'.cell? ⟨b5, 0, none⟩ = some (.slice N0 a.length n0) ∧ w'.cell? ⟨b5, 1, none⟩ = some (.slice N1 b.length n1) ∧ w'.cell? ⟨b5, 2, none⟩ = some (.slice N2 c.length n2) ∧ w'.heap[b4]? = some (.cells #[.slice M0 a.length m0, .slice M1 b.length m1, .slice M2 c.length m2] 25 (0, 0)) ∧ w'.heap[b5]? = some (.cells #[.slice N0 a.length n0, .slice N1 b.length n1, .slice N2 c.length n2] 25 (0, 0)) ∧ w'.heap[b2 + 1]? = some (.cells #[.slice none 0 0, .slice none 0 0, .slice none 0 0] 25 (0, 0)) ∧ R3 w.heap.size w' (.slice M0 a.length m0) (.slice M1 b.length m1) (.slice M2 c.length m2) a b c ∧ R3 w.heap.size w' (.slice N0 a.length n0) (.slice N1 b.length n1) (.slice N2 c.length n2) a b (c) ∧ Below w.heap.size w w') (ds := [3]) #[false, false, false, false] (by kernel_rfl) rfl rfl ⟨(blk_cell z40 0).trans rfl, (blk_cell z40 1).trans rfl, (blk_cell z40 2).trans rfl, (blk_cell z50 0).trans rfl, (blk_cell z50 1).trans rfl, (blk_cell z50 2).trans rfl, z40, z50, z30, hM0, hN0, hbw0⟩ (fun hHeld => ?_)
      refine take_ (i := 0) (N := some 36) (v := ?_) (a' := ?_) #[true, false, false, false] rfl rfl (by kernel_rfl) (fun _ _ _ h => h) (Or.inl ⟨by rfl, ?_⟩) hHeld ?_ ?_
      rotate_left
      · rintro w' ⟨s0, s1, s2, s3, s4, s5, s6, s7, s8, s9, s10, s11⟩
        go_simp
        with_reducible rfl
      rotate_left
      · simp only [Act.put, List.setIfInBounds_toArray, List.set_cons_zero, List.set_cons_succ, i64_w, i32_w]
        rfl
      refine take_ (i := 1) (N := some 37) (v := ?_) (a' := ?_) #[true, true, false, false] rfl rfl (by kernel_rfl) (fun _ _ _ h => h) (Or.inl ⟨by rfl, ?_⟩) hHeld ?_ ?_
      rotate_left
      · rintro w' ⟨s0, s1, s2, s3, s4, s5, s6, s7, s8, s9, s10, s11⟩
        go_simp
        with_reducible rfl
      rotate_left
      · simp only [Act.put, List.setIfInBounds_toArray, List.set_cons_zero, List.set_cons_succ, i64_w, i32_w]
        rfl
      refine one_ (i := 2) (N := none) #[true, true, true, false] rfl rfl (by kernel_rfl) (by decide) (fun K hK => ?_)
      generalize w6.drew = w7 at z20 hHeld ⊢
      refine skip_ (w1 := ?_) (by rfl) rfl ?_ ?_
      rotate_left
      · skip
        have i0 : w7.cell? ⟨b2, 0, none⟩ = some (.slice none 0 0) := (blk_cell z20 0).trans rfl
        have i1 : w7.cell? ⟨b2, 1, none⟩ = some (.slice none 0 0) := (blk_cell z20 1).trans rfl
        have i2 : w7.cell? ⟨b2, 2, none⟩ = some (.slice none 0 0) := (blk_cell z20 2).trans rfl
        have j0 := blk_frozen z20 0
        have j1 := blk_frozen z20 1
        have j2 := blk_frozen z20 2
        go_simp
        rfl
      have y4 := ch_far hHeld.2.2.2.2.2.2.1 (by omega : b4 ≠ b2) (.slice M0 a.length m0) (.slice M1 b.length m1) (.slice M2 c.length m2)
      have y5 := ch_far hHeld.2.2.2.2.2.2.2.1 (by omega : b5 ≠ b2) (.slice M0 a.length m0) (.slice M1 b.length m1) (.slice M2 c.length m2)
      have y3 := ch_far hHeld.2.2.2.2.2.2.2.2.1 (by omega : b2 + 1 ≠ b2) (.slice M0 a.length m0) (.slice M1 b.length m1) (.slice M2 c.length m2)
      have yM := ch_R3 hHeld.2.2.2.2.2.2.2.2.2.1 z20 (.slice M0 a.length m0) (.slice M1 b.length m1) (.slice M2 c.length m2)
      have yN := ch_R3 hHeld.2.2.2.2.2.2.2.2.2.2.1 z20 (.slice M0 a.length m0) (.slice M1 b.length m1) (.slice M2 c.length m2)
      have yb := ch_below hHeld.2.2.2.2.2.2.2.2.2.2.2 nw2 (.slice M0 a.length m0) (.slice M1 b.length m1) (.slice M2 c.length m2)
      have y2 := ch_put z20 (.slice M0 a.length m0) (.slice M1 b.length m1) (.slice M2 c.length m2)
      skip
      unfold ch at y4 y5 y3 yM yN yb y2
      generalize (((w7.setCell ⟨b2, 0, none⟩ (.slice M0 a.length m0)).setCell ⟨b2, 1, none⟩ (.slice M1 b.length m1)).setCell ⟨b2, 2, none⟩ (.slice M2 c.length m2)) = w8 at y4 y5 y3 yM yN yb y2 ⊢
      refine hK.out _ _ ⟨(blk_cell y4 0).trans rfl, (blk_cell y4 1).trans rfl, (blk_cell y4 2).trans rfl, (blk_cell y5 0).trans rfl, (blk_cell y5 1).trans rfl, (blk_cell y5 2).trans rfl, y4, y5, y3, yM, yN, yb⟩ (fun hHeld => ?_)
      clear hK K
      refine last_ (i := 3) (N := none) #[true, true, true, true] rfl rfl (by kernel_rfl) (by decide) (fun K hK => ?_)
      refine skip_ (w1 := ?_) (by rfl) rfl ?_ ?_
      rotate_left
      · skip
        have i0 : w8.cell? ⟨b2 + 1, 0, none⟩ = some (.slice none 0 0) := (blk_cell y3 0).trans rfl
        have i1 : w8.cell? ⟨b2 + 1, 1, none⟩ = some (.slice none 0 0) := (blk_cell y3 1).trans rfl
        have i2 : w8.cell? ⟨b2 + 1, 2, none⟩ = some (.slice none 0 0) := (blk_cell y3 2).trans rfl
        have j0 := blk_frozen y3 0
        have j1 := blk_frozen y3 1
        have j2 := blk_frozen y3 2
        go_simp
        rfl
      have x2 := ch_far y2 (by omega : b2 ≠ b2 + 1) (.slice N0 a.length n0) (.slice N1 b.length n1) (.slice N2 c.length n2)
      have xM := ch_R3 yM y3 (.slice N0 a.length n0) (.slice N1 b.length n1) (.slice N2 c.length n2)
      have xN := ch_R3 yN y3 (.slice N0 a.length n0) (.slice N1 b.length n1) (.slice N2 c.length n2)
      have xb := ch_below yb (by omega : w.heap.size ≤ b2 + 1) (.slice N0 a.length n0) (.slice N1 b.length n1) (.slice N2 c.length n2)
      have x3 := ch_put y3 (.slice N0 a.length n0) (.slice N1 b.length n1) (.slice N2 c.length n2)
      unfold ch at x2 xM xN xb x3
      generalize (((w8.setCell ⟨b2 + 1, 0, none⟩ (.slice N0 a.length n0)).setCell ⟨b2 + 1, 1, none⟩ (.slice N1 b.length n1)).setCell ⟨b2 + 1, 2, none⟩ (.slice N2 c.length n2)) = w9 at x2 xM xN xb x3 ⊢
      refine hK.out _ _ ?_
      clear hK K
      refine done_ (by kernel_rfl) ?_
      clear hHeld
      go_wp2
      refine bodyPost_ret (results_cc rfl _ _ b2 (b2 + 1) 25 25 #[.slice M0 a.length m0, .slice M1 b.length m1, .slice M2 c.length m2] #[.slice N0 a.length n0, .slice N1 b.length n1, .slice N2 c.length n2] (0, 0) (0, 0) _ _ rfl x2 Tryd.underlying25 rfl (by kernel_rfl) rfl x3 Tryd.underlying25 rfl (by kernel_rfl)) rfl ?_
      refine ⟨a, b, c, a, b, c, M0, M1, M2, m0, m1, m2, N0, N1, N2, n0, n1, n2, ?_, xM, ?_, ⟨la, lb, lc⟩, ⟨la, lb, lc⟩, xb⟩
      · rfl
      · exact xN
    | true =>
      cases t with
      | false =>
        go_upto_region 5 with (fail)
        have z20 : w6.drew.heap[b2]? = some (.cells #[.slice none 0 0, .slice none 0 0, .slice none 0 0] 25 (0, 0)) := z2
        have z30 : w6.drew.heap[b2 + 1]? = some (.cells #[.slice none 0 0, .slice none 0 0, .slice none 0 0] 25 (0, 0)) := z3
        have z40 : w6.drew.heap[b4]? = some (.cells #[.slice M0 a.length m0, .slice M1 b.length m1, .slice M2 c.length m2] 25 (0, 0)) := z4
        have z50 : w6.drew.heap[b5]? = some (.cells #[.slice N0 a.length n0, .slice N1 b.length n1, .slice N2 c.length n2] 25 (0, 0)) := z5
        have hM0 := hM.drew
        have hN0 := hN.drew
        have hbw0 := below_drew1 hbw
        refine start_ (n := 4) (S := fun w' => w'.cell? ⟨b4, 0, none⟩ = some (.slice M0 a.length m0) ∧ w'.cell? ⟨b4, 1, none⟩ = some (.slice M1 b.length m1) ∧ w'.cell? ⟨b4, 2, none⟩ = some (.slice M2 c.length m2) ∧ w'.cell? ⟨b5, 0, none⟩ = some (.slice N0 a.length n0) ∧ w'.cell? ⟨b5, 1, none⟩ = some (.slice N1 b.length n1) ∧ w'.cell? ⟨b5, 2, none⟩ = some (.slice N2 c.length n2) ∧ w'.heap[b4]? = some (.cells #[.slice M0 a.length m0, .slice M1 b.length m1, .slice M2 c.length m2] 25 (0, 0)) ∧ w'.heap[b5]? = some (.cells #[.slice N0 a.length n0, .slice N1 b.length n1, .slice N2 c.length n2] 25 (0, 0)) ∧ w'.heap[b2 + 1]? = some (.cells #[.slice none 0 0, .slice none 0 0, .slice none 0 0] 25 (0, 0)) ∧ R3 w.heap.size w' (.slice M0 a.length m0) (.slice M1 b.length m1) (.slice M2 c.length m2) a b c ∧ R3 w.heap.size w' (.slice N0 a.length n0) (.slice N1 b.length n1) (.slice N2 c.length n2) a b (c) ∧ Below w.heap.size w w') (ds := [3]) #[false, false, false, false] (by kernel_rfl) rfl rfl ⟨(blk_cell z40 0).trans rfl, (blk_cell z40 1).trans rfl, (blk_cell z40 2).trans rfl, (blk_cell z50 0).trans rfl, (blk_cell z50 1).trans rfl, (blk_cell z50 2).trans rfl, z40, z50, z30, hM0, hN0, hbw0⟩ (fun hHeld => ?_)
        refine take_ (i := 0) (N := some 36) (v := ?_) (a' := ?_) #[true, false, false, false] rfl rfl (by kernel_rfl) (fun _ _ _ h => h) (Or.inl ⟨by rfl, ?_⟩) hHeld ?_ ?_
        rotate_left
        · rintro w' ⟨s0, s1, s2, s3, s4, s5, s6, s7, s8, s9, s10, s11⟩
          go_simp
          with_reducible rfl
        rotate_left
        · simp only [Act.put, List.setIfInBounds_toArray, List.set_cons_zero, List.set_cons_succ, i64_w, i32_w]
          rfl
        refine take_ (i := 1) (N := some 37) (v := ?_) (a' := ?_) #[true, true, false, false] rfl rfl (by kernel_rfl) (fun _ _ _ h => h) (Or.inl ⟨by rfl, ?_⟩) hHeld ?_ ?_
        rotate_left
        · rintro w' ⟨s0, s1, s2, s3, s4, s5, s6, s7, s8, s9, s10, s11⟩
          go_simp
          with_reducible rfl
        rotate_left
        · simp only [Act.put, List.setIfInBounds_toArray, List.set_cons_zero, List.set_cons_succ, i64_w, i32_w]
          rfl
        refine one_ (i := 2) (N := none) #[true, true, true, false] rfl rfl (by kernel_rfl) (by decide) (fun K hK => ?_)
        generalize w6.drew = w7 at z20 hHeld ⊢
        refine skip_ (w1 := ?_) (by rfl) rfl ?_ ?_
        rotate_left
        · skip
          have i0 : w7.cell? ⟨b2, 0, none⟩ = some (.slice none 0 0) := (blk_cell z20 0).trans rfl
          have i1 : w7.cell? ⟨b2, 1, none⟩ = some (.slice none 0 0) := (blk_cell z20 1).trans rfl
          have i2 : w7.cell? ⟨b2, 2, none⟩ = some (.slice none 0 0) := (blk_cell z20 2).trans rfl
          have j0 := blk_frozen z20 0
          have j1 := blk_frozen z20 1
          have j2 := blk_frozen z20 2
          go_simp
          rfl
        have y4 := ch_far hHeld.2.2.2.2.2.2.1 (by omega : b4 ≠ b2) (.slice M0 a.length m0) (.slice M1 b.length m1) (.slice M2 c.length m2)
        have y5 := ch_far hHeld.2.2.2.2.2.2.2.1 (by omega : b5 ≠ b2) (.slice M0 a.length m0) (.slice M1 b.length m1) (.slice M2 c.length m2)
        have y3 := ch_far hHeld.2.2.2.2.2.2.2.2.1 (by omega : b2 + 1 ≠ b2) (.slice M0 a.length m0) (.slice M1 b.length m1) (.slice M2 c.length m2)
        have yM := ch_R3 hHeld.2.2.2.2.2.2.2.2.2.1 z20 (.slice M0 a.length m0) (.slice M1 b.length m1) (.slice M2 c.length m2)
        have yN := ch_R3 hHeld.2.2.2.2.2.2.2.2.2.2.1 z20 (.slice M0 a.length m0) (.slice M1 b.length m1) (.slice M2 c.length m2)
        have yb := ch_below hHeld.2.2.2.2.2.2.2.2.2.2.2 nw2 (.slice M0 a.length m0) (.slice M1 b.length m1) (.slice M2 c.length m2)
        have y2 := ch_put z20 (.slice M0 a.length m0) (.slice M1 b.length m1) (.slice M2 c.length m2)
        skip
        unfold ch at y4 y5 y3 yM yN yb y2
        generalize (((w7.setCell ⟨b2, 0, none⟩ (.slice M0 a.length m0)).setCell ⟨b2, 1, none⟩ (.slice M1 b.length m1)).setCell ⟨b2, 2, none⟩ (.slice M2 c.length m2)) = w8 at y4 y5 y3 yM yN yb y2 ⊢
        refine hK.out _ _ ⟨(blk_cell y4 0).trans rfl, (blk_cell y4 1).trans rfl, (blk_cell y4 2).trans rfl, (blk_cell y5 0).trans rfl, (blk_cell y5 1).trans rfl, (blk_cell y5 2).trans rfl, y4, y5, y3, yM, yN, yb⟩ (fun hHeld => ?_)
        clear hK K
        refine last_ (i := 3) (N := none) #[true, true, true, true] rfl rfl (by kernel_rfl) (by decide) (fun K hK => ?_)
        refine skip_ (w1 := ?_) (by rfl) rfl ?_ ?_
        rotate_left
        · skip
          have i0 : w8.cell? ⟨b2 + 1, 0, none⟩ = some (.slice none 0 0) := (blk_cell y3 0).trans rfl
          have i1 : w8.cell? ⟨b2 + 1, 1, none⟩ = some (.slice none 0 0) := (blk_cell y3 1).trans rfl
          have i2 : w8.cell? ⟨b2 + 1, 2, none⟩ = some (.slice none 0 0) := (blk_cell y3 2).trans rfl
          have j0 := blk_frozen y3 0
          have j1 := blk_frozen y3 1
          have j2 := blk_frozen y3 2
          go_simp
          rfl
        have x2 := ch_far y2 (by omega : b2 ≠ b2 + 1) (.slice N0 a.length n0) (.slice N1 b.length n1) (.slice N2 c.length n2)
        have xM := ch_R3 yM y3 (.slice N0 a.length n0) (.slice N1 b.length n1) (.slice N2 c.length n2)
        have xN := ch_R3 yN y3 (.slice N0 a.length n0) (.slice N1 b.length n1) (.slice N2 c.length n2)
        have xb := ch_below yb (by omega : w.heap.size ≤ b2 + 1) (.slice N0 a.length n0) (.slice N1 b.length n1) (.slice N2 c.length n2)
        have x3 := ch_put y3 (.slice N0 a.length n0) (.slice N1 b.length n1) (.slice N2 c.length n2)
        unfold ch at x2 xM xN xb x3
        generalize (((w8.setCell ⟨b2 + 1, 0, none⟩ (.slice N0 a.length n0)).setCell ⟨b2 + 1, 1, none⟩ (.slice N1 b.length n1)).setCell ⟨b2 + 1, 2, none⟩ (.slice N2 c.length n2)) = w9 at x2 xM xN xb x3 ⊢
        refine hK.out _ _ ?_
        clear hK K
        refine done_ (by kernel_rfl) ?_
        clear hHeld
        go_wp2
        refine bodyPost_ret (results_cc rfl _ _ b2 (b2 + 1) 25 25 #[.slice M0 a.length m0, .slice M1 b.length m1, .slice M2 c.length m2] #[.slice N0 a.length n0, .slice N1 b.length n1, .slice N2 c.length n2] (0, 0) (0, 0) _ _ rfl x2 Tryd.underlying25 rfl (by kernel_rfl) rfl x3 Tryd.underlying25 rfl (by kernel_rfl)) rfl ?_
        refine ⟨a, b, c, a, b, c, M0, M1, M2, m0, m1, m2, N0, N1, N2, n0, n1, n2, ?_, xM, ?_, ⟨la, lb, lc⟩, ⟨la, lb, lc⟩, xb⟩
        · rfl
        · exact xN
      | true =>
        go_upto_region 4 with (fail)
        have hc0 : 0 < c.length := of_decide_eq_true ht
        obtain ⟨gv, cv, ev, gB_, gL_, _, hcv⟩ := Kd.R_form hN.2.2 hc0
        injection ev with e1 e2 e3
        subst e1 e3
        have hgs : s4 ≤ gv := gN2 gv (by simp [Value.ownBlock])
        have q0 : ∀ k, (Value.slice N0 a.length n0).ownBlock = some k → k ≠ gv := fun k hk e => dN0 k hk (by rw [e]; simp [Value.ownBlock])
        have q1 : ∀ k, (Value.slice N1 b.length n1).ownBlock = some k → k ≠ gv := fun k hk e => dN1 k hk (by rw [e]; simp [Value.ownBlock])
        have nb2 : b2 ≠ gv := fun e => by rw [e, hcv] at z2; simp at z2
        have nb3 : b2 + 1 ≠ gv := fun e => by rw [e, hcv] at z3; simp at z3
        have nb4 : b4 ≠ gv := fun e => by rw [e, hcv] at z4; simp at z4
        have nb5 : b5 ≠ gv := fun e => by rw [e, hcv] at z5; simp at z5
        have k5 : w6.drew.heap[b5]? = some (.cells #[.slice N0 a.length n0, .slice N1 b.length n1, .slice (some ⟨gv, 0, none⟩) c.length n2] 25 (0, 0)) := z5
        have k4 : w6.drew.heap[b4]? = some (.cells #[.slice M0 a.length m0, .slice M1 b.length m1, .slice M2 c.length m2] 25 (0, 0)) := z4
        have k3 : w6.drew.heap[b2 + 1]? = some (.cells #[.slice none 0 0, .slice none 0 0, .slice none 0 0] 25 (0, 0)) := z3
        have k2 : w6.drew.heap[b2]? = some (.cells #[.slice none 0 0, .slice none 0 0, .slice none 0 0] 25 (0, 0)) := z2
        have hM0 := hM.drew
        have hN0 := hN.drew
        have hbw0 := below_drew1 hbw
        obtain ⟨kel, kfz⟩ := Kd.R_celln 0 hN0.2.2 (0 : Int) (by decide) (by omega)
        replace kel : w6.drew.cell? ⟨gv, 0, none⟩ = some (.int .i64 (rdOf 0 c 0)) := kel
        replace kfz : w6.drew.frozen? ⟨gv, 0, none⟩ = false := kfz
        have k52 : w6.drew.cell? ⟨b5, 2, none⟩ = some (.slice (some ⟨gv, 0, none⟩) c.length n2) := (blk_cell k5 2).trans rfl
        generalize rdOf 0 c 0 = x at kel
        refine start_ (n := 9) (S := fun w' => w'.cell? ⟨b5, 2, none⟩ = some (.slice (some ⟨gv, 0, none⟩) c.length n2) ∧ w'.cell? ⟨gv, 0, none⟩ = some (.int .i64 x)) (ds := [8]) #[false, false, false, false, false, false, false, false, false] (by kernel_rfl) rfl rfl ⟨k52, kel⟩ (fun hHeld => ?_)
        refine pure_ (i := 0) (N := some 28) (v := ?_) (a' := ?_) #[true, false, false, false, false, false, false, false, false] rfl rfl (by kernel_rfl) (fun _ _ _ h => h) (Or.inl ⟨by rfl, ?_⟩) ?_ ?_
        rotate_left
        · intro w'
          go_simp
          with_reducible rfl
        rotate_left
        · simp only [Act.put, List.setIfInBounds_toArray, List.set_cons_zero, List.set_cons_succ, i64_w, i32_w]
          rfl
        refine pure_ (i := 2) (N := some 30) (v := ?_) (a' := ?_) #[true, false, true, false, false, false, false, false, false] rfl rfl (by kernel_rfl) (fun _ _ _ h => h) (Or.inl ⟨by rfl, ?_⟩) ?_ ?_
        rotate_left
        · intro w'
          go_simp
          with_reducible rfl
        rotate_left
        · simp only [Act.put, List.setIfInBounds_toArray, List.set_cons_zero, List.set_cons_succ, i64_w, i32_w]
          rfl
        refine take_ (i := 1) (N := some 29) (v := ?_) (a' := ?_) #[true, true, true, false, false, false, false, false, false] rfl rfl (by kernel_rfl) (fun _ _ _ h => h) (Or.inl ⟨by rfl, ?_⟩) hHeld ?_ ?_
        rotate_left
        · rintro w' ⟨s0, s1⟩
          go_simp
          with_reducible rfl
        rotate_left
        · simp only [Act.put, List.setIfInBounds_toArray, List.set_cons_zero, List.set_cons_succ, i64_w, i32_w]
          rfl
        refine take_ (i := 3) (N := some 31) (v := ?_) (a' := ?_) #[true, true, true, true, false, false, false, false, false] rfl rfl (by kernel_rfl) (fun _ _ _ h => h) (Or.inl ⟨by rfl, ?_⟩) hHeld ?_ ?_
        rotate_left
        · rintro w' ⟨s0, s1⟩
          go_simp
          with_reducible rfl
        rotate_left
        · simp only [Act.put, List.setIfInBounds_toArray, List.set_cons_zero, List.set_cons_succ, i64_w, i32_w]
          rfl
        refine pure_ (i := 4) (N := some 32) (v := ?_) (a' := ?_) #[true, true, true, true, true, false, false, false, false] rfl rfl (by kernel_rfl) (fun _ _ _ h => h) (Or.inl ⟨by rfl, ?_⟩) ?_ ?_
        rotate_left
        · intro w'
          go_simp
          with_reducible rfl
        rotate_left
        · simp only [Act.put, List.setIfInBounds_toArray, List.set_cons_zero, List.set_cons_succ, i64_w, i32_w]
          rfl
        refine take_ (i := 5) (N := some 33) (v := ?_) (a' := ?_) #[true, true, true, true, true, true, false, false, false] rfl rfl (by kernel_rfl) (fun _ _ _ h => h) (Or.inl ⟨by rfl, ?_⟩) hHeld ?_ ?_
        rotate_left
        · rintro w' ⟨s0, s1⟩
          go_simp
          with_reducible rfl
        rotate_left
        · simp only [Act.put, List.setIfInBounds_toArray, List.set_cons_zero, List.set_cons_succ, i64_w, i32_w]
          rfl
        refine pure_ (i := 6) (N := some 34) (v := ?_) (a' := ?_) #[true, true, true, true, true, true, true, false, false] rfl rfl (by kernel_rfl) (fun _ _ _ h => h) (Or.inl ⟨by rfl, ?_⟩) ?_ ?_
        rotate_left
        · intro w'
          go_simp
          with_reducible rfl
        rotate_left
        · simp only [Act.put, List.setIfInBounds_toArray, List.set_cons_zero, List.set_cons_succ, i64_w, i32_w]
          rfl
        refine pure_ (i := 7) (N := some 35) (v := ?_) (a' := ?_) #[true, true, true, true, true, true, true, true, false] rfl rfl (by kernel_rfl) (fun _ _ _ h => h) (Or.inl ⟨by rfl, ?_⟩) ?_ ?_
        rotate_left
        · intro w'
          go_simp
          with_reducible rfl
        rotate_left
        · simp only [Act.put, List.setIfInBounds_toArray, List.set_cons_zero, List.set_cons_succ, i64_w, i32_w]
          rfl
        refine last_ (i := 8) (N := none) #[true, true, true, true, true, true, true, true, true] rfl rfl (by kernel_rfl) (by decide) (fun K hK => ?_)
        generalize w6.drew = w7 at kel kfz k52 k2 k3 k4 k5 hM0 hN0 hbw0 hHeld ⊢
        refine skip_ (w1 := ?_) (by rfl) rfl ?_ ?_
        rotate_left
        · go_simp
          rfl
        refine hK.out _ _ ?_
        clear hK K
        refine done_ (by kernel_rfl) ?_
        have hN2 : Kd.R (Kd.int .i64) 3 (w7.setCell ⟨gv, 0, none⟩ (.int .i64 (wrap64 (x - 1)))) w.heap.size (fun _ => True) (.slice (some ⟨gv, 0, none⟩) c.length n2) (c.set 0 (wrap64 (x - 1))) := Kd.R_putn hN0.2.2 0 (wrap64 (x - 1))
        have hNN : R3 w.heap.size (w7.setCell ⟨gv, 0, none⟩ (.int .i64 (wrap64 (x - 1)))) (.slice N0 a.length n0) (.slice N1 b.length n1) (.slice (some ⟨gv, 0, none⟩) c.length n2) a b (c.set 0 (wrap64 (x - 1))) := ⟨R_int_ok (Kd.R_far (R_int_ok hN0.1 q0) (p := ⟨gv, 0, none⟩) (fun k hk => hk) _) (fun _ _ => trivial), R_int_ok (Kd.R_far (R_int_ok hN0.2.1 q1) (p := ⟨gv, 0, none⟩) (fun k hk => hk) _) (fun _ _ => trivial), hN2⟩
        have hMM : R3 w.heap.size (w7.setCell ⟨gv, 0, none⟩ (.int .i64 (wrap64 (x - 1)))) (.slice M0 a.length m0) (.slice M1 b.length m1) (.slice M2 c.length m2) a b c := ⟨R_farlt hM0.1 oM0 hgs _, R_farlt hM0.2.1 oM1 hgs _, R_farlt hM0.2.2 oM2 hgs _⟩
        have y2 := blk_far k2 (p := ⟨gv, 0, none⟩) nb2 (.int .i64 (wrap64 (x - 1)))
        have y3 := blk_far k3 (p := ⟨gv, 0, none⟩) nb3 (.int .i64 (wrap64 (x - 1)))
        have y4 := blk_far k4 (p := ⟨gv, 0, none⟩) nb4 (.int .i64 (wrap64 (x - 1)))
        have y5 := blk_far k5 (p := ⟨gv, 0, none⟩) nb5 (.int .i64 (wrap64 (x - 1)))
        have ybw : Below w.heap.size w (w7.setCell ⟨gv, 0, none⟩ (.int .i64 (wrap64 (x - 1)))) := below_set hbw0 gB_
        clear hN2 hM0 hN0 hM hN z2 z3 z4 z5 k2 k3 k4 k5 hbw hbw0 kel kfz k52 hc0 ht d1 hcv i52 dN0 dN1 gN2 oM0 oM1 oM2 q0 q1 nb2 nb3 nb4 nb5
        generalize w7.setCell _ _ = wk at hNN hMM y2 y3 y4 y5 ybw ⊢
        generalize (some (⟨gv, 0, none⟩ : Addr)) = N2 at hNN y5 ⊢
        have hN := hNN
        have hM := hMM
        have z2 := y2
        have z3 := y3
        have z4 := y4
        have z5 := y5
        have hbw := ybw
        clear hNN hMM y2 y3 y4 y5 ybw
        go_upto_region 5 with (fail)
        have z20 : wk.drew.heap[b2]? = some (.cells #[.slice none 0 0, .slice none 0 0, .slice none 0 0] 25 (0, 0)) := z2
        have z30 : wk.drew.heap[b2 + 1]? = some (.cells #[.slice none 0 0, .slice none 0 0, .slice none 0 0] 25 (0, 0)) := z3
        have z40 : wk.drew.heap[b4]? = some (.cells #[.slice M0 a.length m0, .slice M1 b.length m1, .slice M2 c.length m2] 25 (0, 0)) := z4
        have z50 : wk.drew.heap[b5]? = some (.cells #[.slice N0 a.length n0, .slice N1 b.length n1, .slice N2 c.length n2] 25 (0, 0)) := z5
        have hM0 := hM.drew
        have hN0 := hN.drew
        have hbw0 := below_drew1 hbw
        refine start_ (n := 4) (S := fun w' => w'.cell? ⟨b4, 0, none⟩ = some (.slice M0 a.length m0) ∧ w'.cell? ⟨b4, 1, none⟩ = some (.slice M1 b.length m1) ∧ w'.cell? ⟨b4, 2, none⟩ = some (.slice M2 c.length m2) ∧ w'.cell? ⟨b5, 0, none⟩ = some (.slice N0 a.length n0) ∧ w'.cell? ⟨b5, 1, none⟩ = some (.slice N1 b.length n1) ∧ w'.cell? ⟨b5, 2, none⟩ = some (.slice N2 c.length n2) ∧ w'.heap[b4]? = some (.cells #[.slice M0 a.length m0, .slice M1 b.length m1, .slice M2 c.length m2] 25 (0, 0)) ∧ w'.heap[b5]? = some (.cells #[.slice N0 a.length n0, .slice N1 b.length n1, .slice N2 c.length n2] 25 (0, 0)) ∧ w'.heap[b2 + 1]? = some (.cells #[.slice none 0 0, .slice none 0 0, .slice none 0 0] 25 (0, 0)) ∧ R3 w.heap.size w' (.slice M0 a.length m0) (.slice M1 b.length m1) (.slice M2 c.length m2) a b c ∧ R3 w.heap.size w' (.slice N0 a.length n0) (.slice N1 b.length n1) (.slice N2 c.length n2) a b (c.set 0 (wrap64 (x - 1))) ∧ Below w.heap.size w w') (ds := [3]) #[false, false, false, false] (by kernel_rfl) rfl rfl ⟨(blk_cell z40 0).trans rfl, (blk_cell z40 1).trans rfl, (blk_cell z40 2).trans rfl, (blk_cell z50 0).trans rfl, (blk_cell z50 1).trans rfl, (blk_cell z50 2).trans rfl, z40, z50, z30, hM0, hN0, hbw0⟩ (fun hHeld => ?_)
        refine take_ (i := 0) (N := some 36) (v := ?_) (a' := ?_) #[true, false, false, false] rfl rfl (by kernel_rfl) (fun _ _ _ h => h) (Or.inl ⟨by rfl, ?_⟩) hHeld ?_ ?_
        rotate_left
        · rintro w' ⟨s0, s1, s2, s3, s4, s5, s6, s7, s8, s9, s10, s11⟩
          go_simp
          with_reducible rfl
        rotate_left
        · simp only [Act.put, List.setIfInBounds_toArray, List.set_cons_zero, List.set_cons_succ, i64_w, i32_w]
          rfl
        refine take_ (i := 1) (N := some 37) (v := ?_) (a' := ?_) #[true, true, false, false] rfl rfl (by kernel_rfl) (fun _ _ _ h => h) (Or.inl ⟨by rfl, ?_⟩) hHeld ?_ ?_
        rotate_left
        · rintro w' ⟨s0, s1, s2, s3, s4, s5, s6, s7, s8, s9, s10, s11⟩
          go_simp
          with_reducible rfl
        rotate_left
        · simp only [Act.put, List.setIfInBounds_toArray, List.set_cons_zero, List.set_cons_succ, i64_w, i32_w]
          rfl
        refine one_ (i := 2) (N := none) #[true, true, true, false] rfl rfl (by kernel_rfl) (by decide) (fun K hK => ?_)
        generalize wk.drew = w7 at z20 hHeld ⊢
        refine skip_ (w1 := ?_) (by rfl) rfl ?_ ?_
        rotate_left
        · skip
          have i0 : w7.cell? ⟨b2, 0, none⟩ = some (.slice none 0 0) := (blk_cell z20 0).trans rfl
          have i1 : w7.cell? ⟨b2, 1, none⟩ = some (.slice none 0 0) := (blk_cell z20 1).trans rfl
          have i2 : w7.cell? ⟨b2, 2, none⟩ = some (.slice none 0 0) := (blk_cell z20 2).trans rfl
          have j0 := blk_frozen z20 0
          have j1 := blk_frozen z20 1
          have j2 := blk_frozen z20 2
          go_simp
          rfl
        have y4 := ch_far hHeld.2.2.2.2.2.2.1 (by omega : b4 ≠ b2) (.slice M0 a.length m0) (.slice M1 b.length m1) (.slice M2 c.length m2)
        have y5 := ch_far hHeld.2.2.2.2.2.2.2.1 (by omega : b5 ≠ b2) (.slice M0 a.length m0) (.slice M1 b.length m1) (.slice M2 c.length m2)
        have y3 := ch_far hHeld.2.2.2.2.2.2.2.2.1 (by omega : b2 + 1 ≠ b2) (.slice M0 a.length m0) (.slice M1 b.length m1) (.slice M2 c.length m2)
        have yM := ch_R3 hHeld.2.2.2.2.2.2.2.2.2.1 z20 (.slice M0 a.length m0) (.slice M1 b.length m1) (.slice M2 c.length m2)
        have yN := ch_R3 hHeld.2.2.2.2.2.2.2.2.2.2.1 z20 (.slice M0 a.length m0) (.slice M1 b.length m1) (.slice M2 c.length m2)
        have yb := ch_below hHeld.2.2.2.2.2.2.2.2.2.2.2 nw2 (.slice M0 a.length m0) (.slice M1 b.length m1) (.slice M2 c.length m2)
        have y2 := ch_put z20 (.slice M0 a.length m0) (.slice M1 b.length m1) (.slice M2 c.length m2)
        skip
        unfold ch at y4 y5 y3 yM yN yb y2
        generalize (((w7.setCell ⟨b2, 0, none⟩ (.slice M0 a.length m0)).setCell ⟨b2, 1, none⟩ (.slice M1 b.length m1)).setCell ⟨b2, 2, none⟩ (.slice M2 c.length m2)) = w8 at y4 y5 y3 yM yN yb y2 ⊢
        refine hK.out _ _ ⟨(blk_cell y4 0).trans rfl, (blk_cell y4 1).trans rfl, (blk_cell y4 2).trans rfl, (blk_cell y5 0).trans rfl, (blk_cell y5 1).trans rfl, (blk_cell y5 2).trans rfl, y4, y5, y3, yM, yN, yb⟩ (fun hHeld => ?_)
        clear hK K
        refine last_ (i := 3) (N := none) #[true, true, true, true] rfl rfl (by kernel_rfl) (by decide) (fun K hK => ?_)
        refine skip_ (w1 := ?_) (by rfl) rfl ?_ ?_
        rotate_left
        · skip
          have i0 : w8.cell? ⟨b2 + 1, 0, none⟩ = some (.slice none 0 0) := (blk_cell y3 0).trans rfl
          have i1 : w8.cell? ⟨b2 + 1, 1, none⟩ = some (.slice none 0 0) := (blk_cell y3 1).trans rfl
          have i2 : w8.cell? ⟨b2 + 1, 2, none⟩ = some (.slice none 0 0) := (blk_cell y3 2).trans rfl
          have j0 := blk_frozen y3 0
          have j1 := blk_frozen y3 1
          have j2 := blk_frozen y3 2
          go_simp
          rfl
        have x2 := ch_far y2 (by omega : b2 ≠ b2 + 1) (.slice N0 a.length n0) (.slice N1 b.length n1) (.slice N2 c.length n2)
        have xM := ch_R3 yM y3 (.slice N0 a.length n0) (.slice N1 b.length n1) (.slice N2 c.length n2)
        have xN := ch_R3 yN y3 (.slice N0 a.length n0) (.slice N1 b.length n1) (.slice N2 c.length n2)
        have xb := ch_below yb (by omega : w.heap.size ≤ b2 + 1) (.slice N0 a.length n0) (.slice N1 b.length n1) (.slice N2 c.length n2)
        have x3 := ch_put y3 (.slice N0 a.length n0) (.slice N1 b.length n1) (.slice N2 c.length n2)
        unfold ch at x2 xM xN xb x3
        generalize (((w8.setCell ⟨b2 + 1, 0, none⟩ (.slice N0 a.length n0)).setCell ⟨b2 + 1, 1, none⟩ (.slice N1 b.length n1)).setCell ⟨b2 + 1, 2, none⟩ (.slice N2 c.length n2)) = w9 at x2 xM xN xb x3 ⊢
        refine hK.out _ _ ?_
        clear hK K
        refine done_ (by kernel_rfl) ?_
        clear hHeld
        go_wp2
        refine bodyPost_ret (results_cc rfl _ _ b2 (b2 + 1) 25 25 #[.slice M0 a.length m0, .slice M1 b.length m1, .slice M2 c.length m2] #[.slice N0 a.length n0, .slice N1 b.length n1, .slice N2 c.length n2] (0, 0) (0, 0) _ _ rfl x2 Tryd.underlying25 rfl (by kernel_rfl) rfl x3 Tryd.underlying25 rfl (by kernel_rfl)) rfl ?_
        refine ⟨a, b, c, a, b, c.set 0 (wrap64 (x - 1)), M0, M1, M2, m0, m1, m2, N0, N1, N2, n0, n1, n2, ?_, xM, ?_, ⟨la, lb, lc⟩, ⟨la, lb, by rw [List.length_set]; exact lc⟩, xb⟩
        · rw [List.length_set]
        · rw [List.length_set]; exact xN
  · have d1 : decide (0 < l.length) = false := decide_eq_false hl0
    clear hr6
    go_wp2_with fail
    have z20 : w6.drew.heap[b2]? = some (.cells #[.slice none 0 0, .slice none 0 0, .slice none 0 0] 25 (0, 0)) := z2
    have z30 : w6.drew.heap[b2 + 1]? = some (.cells #[.slice none 0 0, .slice none 0 0, .slice none 0 0] 25 (0, 0)) := z3
    have z40 : w6.drew.heap[b4]? = some (.cells #[.slice M0 a.length m0, .slice M1 b.length m1, .slice M2 c.length m2] 25 (0, 0)) := z4
    have z50 : w6.drew.heap[b5]? = some (.cells #[.slice N0 a.length n0, .slice N1 b.length n1, .slice N2 c.length n2] 25 (0, 0)) := z5
    have hM0 := hM.drew
    have hN0 := hN.drew
    have hbw0 := below_drew1 hbw
    refine start_ (n := 4) (S := fun w' => w'.cell? ⟨b4, 0, none⟩ = some (.slice M0 a.length m0) ∧ w'.cell? ⟨b4, 1, none⟩ = some (.slice M1 b.length m1) ∧ w'.cell? ⟨b4, 2, none⟩ = some (.slice M2 c.length m2) ∧ w'.cell? ⟨b5, 0, none⟩ = some (.slice N0 a.length n0) ∧ w'.cell? ⟨b5, 1, none⟩ = some (.slice N1 b.length n1) ∧ w'.cell? ⟨b5, 2, none⟩ = some (.slice N2 c.length n2) ∧ w'.heap[b4]? = some (.cells #[.slice M0 a.length m0, .slice M1 b.length m1, .slice M2 c.length m2] 25 (0, 0)) ∧ w'.heap[b5]? = some (.cells #[.slice N0 a.length n0, .slice N1 b.length n1, .slice N2 c.length n2] 25 (0, 0)) ∧ w'.heap[b2 + 1]? = some (.cells #[.slice none 0 0, .slice none 0 0, .slice none 0 0] 25 (0, 0)) ∧ R3 w.heap.size w' (.slice M0 a.length m0) (.slice M1 b.length m1) (.slice M2 c.length m2) a b c ∧ R3 w.heap.size w' (.slice N0 a.length n0) (.slice N1 b.length n1) (.slice N2 c.length n2) a b (c) ∧ Below w.heap.size w w') (ds := [3]) #[false, false, false, false] (by kernel_rfl) rfl rfl ⟨(blk_cell z40 0).trans rfl, (blk_cell z40 1).trans rfl, (blk_cell z40 2).trans rfl, (blk_cell z50 0).trans rfl, (blk_cell z50 1).trans rfl, (blk_cell z50 2).trans rfl, z40, z50, z30, hM0, hN0, hbw0⟩ (fun hHeld => ?_)
    refine take_ (i := 0) (N := some 36) (v := ?_) (a' := ?_) #[true, false, false, false] rfl rfl (by kernel_rfl) (fun _ _ _ h => h) (Or.inl ⟨by rfl, ?_⟩) hHeld ?_ ?_
    rotate_left
    · rintro w' ⟨s0, s1, s2, s3, s4, s5, s6, s7, s8, s9, s10, s11⟩
      go_simp
      with_reducible rfl
    rotate_left
    · simp only [Act.put, List.setIfInBounds_toArray, List.set_cons_zero, List.set_cons_succ, i64_w, i32_w]
      rfl
    refine take_ (i := 1) (N := some 37) (v := ?_) (a' := ?_) #[true, true, false, false] rfl rfl (by kernel_rfl) (fun _ _ _ h => h) (Or.inl ⟨by rfl, ?_⟩) hHeld ?_ ?_
    rotate_left
    · rintro w' ⟨s0, s1, s2, s3, s4, s5, s6, s7, s8, s9, s10, s11⟩
      go_simp
      with_reducible rfl
    rotate_left
    · simp only [Act.put, List.setIfInBounds_toArray, List.set_cons_zero, List.set_cons_succ, i64_w, i32_w]
      rfl
    refine one_ (i := 2) (N := none) #[true, true, true, false] rfl rfl (by kernel_rfl) (by decide) (fun K hK => ?_)
    generalize w6.drew = w7 at z20 hHeld ⊢
    refine skip_ (w1 := ?_) (by rfl) rfl ?_ ?_
    rotate_left
    · skip
      have i0 : w7.cell? ⟨b2, 0, none⟩ = some (.slice none 0 0) := (blk_cell z20 0).trans rfl
      have i1 : w7.cell? ⟨b2, 1, none⟩ = some (.slice none 0 0) := (blk_cell z20 1).trans rfl
      have i2 : w7.cell? ⟨b2, 2, none⟩ = some (.slice none 0 0) := (blk_cell z20 2).trans rfl
      have j0 := blk_frozen z20 0
      have j1 := blk_frozen z20 1
      have j2 := blk_frozen z20 2
      go_simp
      rfl
    have y4 := ch_far hHeld.2.2.2.2.2.2.1 (by omega : b4 ≠ b2) (.slice M0 a.length m0) (.slice M1 b.length m1) (.slice M2 c.length m2)
    have y5 := ch_far hHeld.2.2.2.2.2.2.2.1 (by omega : b5 ≠ b2) (.slice M0 a.length m0) (.slice M1 b.length m1) (.slice M2 c.length m2)
    have y3 := ch_far hHeld.2.2.2.2.2.2.2.2.1 (by omega : b2 + 1 ≠ b2) (.slice M0 a.length m0) (.slice M1 b.length m1) (.slice M2 c.length m2)
    have yM := ch_R3 hHeld.2.2.2.2.2.2.2.2.2.1 z20 (.slice M0 a.length m0) (.slice M1 b.length m1) (.slice M2 c.length m2)
    have yN := ch_R3 hHeld.2.2.2.2.2.2.2.2.2.2.1 z20 (.slice M0 a.length m0) (.slice M1 b.length m1) (.slice M2 c.length m2)
    have yb := ch_below hHeld.2.2.2.2.2.2.2.2.2.2.2 nw2 (.slice M0 a.length m0) (.slice M1 b.length m1) (.slice M2 c.length m2)
    have y2 := ch_put z20 (.slice M0 a.length m0) (.slice M1 b.length m1) (.slice M2 c.length m2)
    skip
    unfold ch at y4 y5 y3 yM yN yb y2
    generalize (((w7.setCell ⟨b2, 0, none⟩ (.slice M0 a.length m0)).setCell ⟨b2, 1, none⟩ (.slice M1 b.length m1)).setCell ⟨b2, 2, none⟩ (.slice M2 c.length m2)) = w8 at y4 y5 y3 yM yN yb y2 ⊢
    refine hK.out _ _ ⟨(blk_cell y4 0).trans rfl, (blk_cell y4 1).trans rfl, (blk_cell y4 2).trans rfl, (blk_cell y5 0).trans rfl, (blk_cell y5 1).trans rfl, (blk_cell y5 2).trans rfl, y4, y5, y3, yM, yN, yb⟩ (fun hHeld => ?_)
    clear hK K
    refine last_ (i := 3) (N := none) #[true, true, true, true] rfl rfl (by kernel_rfl) (by decide) (fun K hK => ?_)
    refine skip_ (w1 := ?_) (by rfl) rfl ?_ ?_
    rotate_left
    · skip
      have i0 : w8.cell? ⟨b2 + 1, 0, none⟩ = some (.slice none 0 0) := (blk_cell y3 0).trans rfl
      have i1 : w8.cell? ⟨b2 + 1, 1, none⟩ = some (.slice none 0 0) := (blk_cell y3 1).trans rfl
      have i2 : w8.cell? ⟨b2 + 1, 2, none⟩ = some (.slice none 0 0) := (blk_cell y3 2).trans rfl
      have j0 := blk_frozen y3 0
      have j1 := blk_frozen y3 1
      have j2 := blk_frozen y3 2
      go_simp
      rfl
    have x2 := ch_far y2 (by omega : b2 ≠ b2 + 1) (.slice N0 a.length n0) (.slice N1 b.length n1) (.slice N2 c.length n2)
    have xM := ch_R3 yM y3 (.slice N0 a.length n0) (.slice N1 b.length n1) (.slice N2 c.length n2)
    have xN := ch_R3 yN y3 (.slice N0 a.length n0) (.slice N1 b.length n1) (.slice N2 c.length n2)
    have xb := ch_below yb (by omega : w.heap.size ≤ b2 + 1) (.slice N0 a.length n0) (.slice N1 b.length n1) (.slice N2 c.length n2)
    have x3 := ch_put y3 (.slice N0 a.length n0) (.slice N1 b.length n1) (.slice N2 c.length n2)
    unfold ch at x2 xM xN xb x3
    generalize (((w8.setCell ⟨b2 + 1, 0, none⟩ (.slice N0 a.length n0)).setCell ⟨b2 + 1, 1, none⟩ (.slice N1 b.length n1)).setCell ⟨b2 + 1, 2, none⟩ (.slice N2 c.length n2)) = w9 at x2 xM xN xb x3 ⊢
    refine hK.out _ _ ?_
    clear hK K
    refine done_ (by kernel_rfl) ?_
    clear hHeld
    go_wp2
    refine bodyPost_ret (results_cc rfl _ _ b2 (b2 + 1) 25 25 #[.slice M0 a.length m0, .slice M1 b.length m1, .slice M2 c.length m2] #[.slice N0 a.length n0, .slice N1 b.length n1, .slice N2 c.length n2] (0, 0) (0, 0) _ _ rfl x2 Tryd.underlying25 rfl (by kernel_rfl) rfl x3 Tryd.underlying25 rfl (by kernel_rfl)) rfl ?_
    refine ⟨a, b, c, a, b, c, M0, M1, M2, m0, m1, m2, N0, N1, N2, n0, n1, n2, ?_, xM, ?_, ⟨la, lb, lc⟩, ⟨la, lb, lc⟩, xb⟩
    · rfl
    · exact xN
end Go.Proofs.YtlgogdpnakbhiaaDoor.MyFnAddrDraw
