/- Copies, equality and marks of memories and code: what they answer and keep. No condition. -/
import Derived.Test.YtjamfddhcigchaaGreatDoorTFnExactCodeRunHo
import Derived.Test.YtjamfddhcigchaaGreatDoorTFnExactCodeRunRb
import Derived.Stop.LaidErr
import Derived.Test.YtjamfddhcigchaaGreatDoorRows
import Derived.Test.YtjamfddhcigchaaGreatDoorTie
import Derived.Test.YtjamfddhcigchaaGreatDoorCards
import Derived.LaidMore
import Derived.Stop.Joined
import Derived.SevenTiedAt
import Derived.ChangeVars
import Derived.ProofKit
import Derived.OpenShut
import Derived.ShutString
import Derived.ChangeOld
import Derived.SizedLaws
import Derived.Lib.SmallJoins
import Derived.ChangeSame
import Derived.Deep.Strs
import Derived.Deep.Slices
namespace Go.Proofs.YtjamfddhcigchaaGreatDoor.Ea
open Go.RowKit  Go.Proofs.YtjamfddhcigchaaGreatDoor.Gm Go.Proofs.YtjamfddhcigchaaGreatDoor.Gn Go.Proofs.YtjamfddhcigchaaGreatDoor.Gz Go.Proofs.YtjamfddhcigchaaGreatDoor.Gq Go.Proofs.YtjamfddhcigchaaGreatDoor.Ht Go.Proofs.YtjamfddhcigchaaGreatDoor.Hp Go.Proofs.YtjamfddhcigchaaGreatDoor.Hs Go.Proofs.YtjamfddhcigchaaGreatDoor.HFnExactCodeRun Go.Proofs.YtjamfddhcigchaaGreatDoorW.PrintWords Go.Proofs.YtjamfddhcigchaaGreatDoorW.PrintLast Go.Proofs.YtjamfddhcigchaaGreatDoorW.PrintMore
set_option linter.unusedVariables false
set_option linter.unusedSimpArgs false
def cvIns (x : S89) : S30 := ⟨x.f0, x.f1, ⟨x.f2.f0, x.f2.f1⟩⟩
theorem rd89 (l : List S89) (i : Nat) (h : i < l.length) : rd_T89 l (i : Int) = l[i] := by
 unfold rd_T89; rw [Int.toNat_natCast, List.getD_eq_getElem?_getD, List.getElem?_eq_getElem h]; rfl
theorem toInsS_loop (l : List S89) (hl : l.length ≤ 1048576) (d : Nat) : ∀ (k i : Nat) (x : List S30), i + d = l.length → x.length = l.length → x.take i = (l.take i).map cvIns → d < k →
  laws_toInsS.l0 k l x (i : Int) = some (l.map cvIns) := by
 induction d with
 | zero =>
  intro k i x hi hx ht hk
  obtain ⟨k, rfl⟩ : ∃ m, k = m + 1 := ⟨k - 1, by omega⟩
  simp only [laws_toInsS.l0]
  rw [if_neg (by omega)]
  have e1 : x.take i = x := List.take_of_length_le (by omega)
  have e2 : l.take i = l := List.take_of_length_le (by omega)
  rw [e1, e2] at ht; rw [ht]
 | succ d ih =>
  intro k i x hi hx ht hk
  obtain ⟨k, rfl⟩ : ∃ m, k = m + 1 := ⟨k - 1, by omega⟩
  simp only [laws_toInsS.l0]
  have hil : i < l.length := by omega
  rw [if_pos (by omega), if_pos (by omega), rd89 l i hil]
  simp only [laws_toIns.f, laws_toAddr.f, Option.bind_some]
  rw [if_pos (by omega), wrap_id (by omega) (by omega), Int.toNat_natCast]
  have := ih k (i + 1) (x.set i (cvIns l[i])) (by omega) (by simpa using hx) (by
   rw [List.take_succ_eq_append_getElem (by simpa using (by omega : i < x.length)), List.take_succ_eq_append_getElem hil, List.map_append, List.map_singleton, ← ht, List.take_set, List.set_eq_of_length_le (by simp; omega)]
   simp) (by omega)
  exact this
theorem toInsS_some (l : List S89) (hl : l.length ≤ 1048576) (k : Nat) (hk : l.length < k) : laws_toInsS.f k l = some (l.map cvIns) := by
 unfold laws_toInsS.f
 rw [if_pos (by omega), if_pos (by omega)]
 have := toInsS_loop l hl l.length k 0 (List.replicate ((l.length : Int)).toNat z30) (by omega) (by simp) (by simp) hk
 exact this
theorem eqInsS_loop (x : List S30) (hl : x.length ≤ 1048576) (d : Nat) : ∀ (k i : Nat), i + d = x.length → d < k → laws_eqInsS.l0 k x x (i : Int) = some true := by
 induction d with
 | zero =>
  intro k i hi hk
  obtain ⟨k, rfl⟩ : ∃ m, k = m + 1 := ⟨k - 1, by omega⟩
  simp only [laws_eqInsS.l0]
  rw [if_neg (by omega)]
 | succ d ih =>
  intro k i hi hk
  obtain ⟨k, rfl⟩ : ∃ m, k = m + 1 := ⟨k - 1, by omega⟩
  simp only [laws_eqInsS.l0]
  rw [if_pos (by omega), if_pos (by omega), if_pos (by omega)]
  simp only [laws_eqIns.f, laws_eqAddr.f, if_true, Option.bind_some]
  rw [wrap_id (by omega) (by omega)]
  exact ih k (i + 1) (by omega) (by omega)
theorem eqInsS_self (x : List S30) (hl : x.length ≤ 1048576) (k : Nat) (hk : x.length < k) : laws_eqInsS.f k x x = some true := by
 unfold laws_eqInsS.f
 rw [if_pos rfl]; exact eqInsS_loop x hl x.length k 0 (by omega) hk
theorem szInsS_le (l : List S89) (a r : Int) (ha : 0 ≤ a) (ha2 : a ≤ 1048576) (hl : l.length ≤ 9223372036854775807) (h : laws_szInsS.f l a = some r) : r < 0 ∨ (r = a - (l.length : Int) ∧ (l.length : Int) ≤ a) := by
 unfold laws_szInsS.f at h
 rw [wrap_id (by omega) (by omega)] at h
 split at h <;> simp only [Option.some.injEq] at h <;> omega
theorem szInsS_some (l : List S89) (a : Int) : ∃ r, laws_szInsS.f l a = some r := by
 unfold laws_szInsS.f; split <;> exact ⟨_, rfl⟩
theorem toIntS_loop (l : List Int) (hl : l.length ≤ 1048576) (d : Nat) : ∀ (k i : Nat) (x : List Int), i + d = l.length → x.length = l.length → x.take i = l.take i → d < k →
  laws_toIntS.l0 k l x (i : Int) = some l := by
 induction d with
 | zero =>
  intro k i x hi hx ht hk
  obtain ⟨k, rfl⟩ : ∃ m, k = m + 1 := ⟨k - 1, by omega⟩
  simp only [laws_toIntS.l0]
  rw [if_neg (by omega)]
  have e1 : x.take i = x := List.take_of_length_le (by omega)
  have e2 : l.take i = l := List.take_of_length_le (by omega)
  rw [e1, e2] at ht; rw [ht]
 | succ d ih =>
  intro k i x hi hx ht hk
  obtain ⟨k, rfl⟩ : ∃ m, k = m + 1 := ⟨k - 1, by omega⟩
  simp only [laws_toIntS.l0]
  have hil : i < l.length := by omega
  rw [if_pos (by omega), if_pos (by omega), rdI l i hil]
  rw [if_pos (by omega), wrap_id (by omega) (by omega), Int.toNat_natCast]
  have := ih k (i + 1) (x.set i l[i]) (by omega) (by simpa using hx) (by
   rw [List.take_succ_eq_append_getElem (by simpa using (by omega : i < x.length)), List.take_succ_eq_append_getElem hil, ← ht, List.take_set, List.set_eq_of_length_le (by simp; omega)]
   simp) (by omega)
  exact this
theorem toIntS_some (l : List Int) (hl : l.length ≤ 1048576) (k : Nat) (hk : l.length < k) : laws_toIntS.f k l = some l := by
 unfold laws_toIntS.f
 rw [if_pos (by omega), if_pos (by omega)]
 have := toIntS_loop l hl l.length k 0 (List.replicate ((l.length : Int)).toNat 0) (by omega) (by simp) (by simp) hk
 exact this
theorem eqIntS_loop (x : List Int) (hl : x.length ≤ 1048576) (d : Nat) : ∀ (k i : Nat), i + d = x.length → d < k → laws_eqIntS.l0 k x x (i : Int) = some true := by
 induction d with
 | zero =>
  intro k i hi hk
  obtain ⟨k, rfl⟩ : ∃ m, k = m + 1 := ⟨k - 1, by omega⟩
  simp only [laws_eqIntS.l0]
  rw [if_neg (by omega)]
 | succ d ih =>
  intro k i hi hk
  obtain ⟨k, rfl⟩ : ∃ m, k = m + 1 := ⟨k - 1, by omega⟩
  simp only [laws_eqIntS.l0]
  rw [if_pos (by omega), if_pos (by omega), if_pos (by omega)]
  simp only [if_true]
  rw [wrap_id (by omega) (by omega)]
  exact ih k (i + 1) (by omega) (by omega)
theorem eqIntS_self (x : List Int) (hl : x.length ≤ 1048576) (k : Nat) (hk : x.length < k) : laws_eqIntS.f k x x = some true := by
 unfold laws_eqIntS.f
 rw [if_pos rfl]; exact eqIntS_loop x hl x.length k 0 (by omega) hk
theorem szIntS_le (l : List Int) (a r : Int) (ha : 0 ≤ a) (ha2 : a ≤ 1048576) (hl : l.length ≤ 9223372036854775807) (h : laws_szIntS.f l a = some r) : r < 0 ∨ (r = a - (l.length : Int) ∧ (l.length : Int) ≤ a) := by
 unfold laws_szIntS.f at h
 rw [wrap_id (by omega) (by omega)] at h
 split at h <;> simp only [Option.some.injEq] at h <;> omega
theorem szIntS_some (l : List Int) (a : Int) : ∃ r, laws_szIntS.f l a = some r := by
 unfold laws_szIntS.f; split <;> exact ⟨_, rfl⟩
theorem szMem_le (l m o : List Int) (a : Int) (ha : 0 ≤ a) (ha2 : a ≤ 1048576) (hl : l.length ≤ 9223372036854775807) (hm : m.length ≤ 9223372036854775807) (ho : o.length ≤ 9223372036854775807) : ∃ r, laws_szMem.f l m o a = some r ∧ (r < 0 ∨ ((l.length : Int) ≤ a ∧ (m.length : Int) ≤ a ∧ (o.length : Int) ≤ a ∧ r ≤ a)) := by
 unfold laws_szMem.f
 obtain ⟨r0, e0⟩ := szIntS_some l a
 rw [e0]; simp only [Option.bind_some]
 by_cases c0 : r0 < 0
 ·rw [if_pos c0]; exact ⟨-1, rfl, Or.inl (by omega)⟩
 rw [if_neg c0]
 have b0 := szIntS_le l a r0 ha ha2 hl e0
 obtain ⟨r1, e1⟩ := szIntS_some m r0
 rw [e1]; simp only [Option.bind_some]
 by_cases c1 : r1 < 0
 ·rw [if_pos c1]; exact ⟨-1, rfl, Or.inl (by omega)⟩
 rw [if_neg c1]
 have b1 := szIntS_le m r0 r1 (by omega) (by omega) hm e1
 obtain ⟨r2, e2⟩ := szIntS_some o r1
 rw [e2]; simp only [Option.bind_some]
 by_cases c2 : r2 < 0
 ·rw [if_pos c2]; exact ⟨-1, rfl, Or.inl (by omega)⟩
 rw [if_neg c2]
 have b2 := szIntS_le o r1 r2 (by omega) (by omega) ho e2
 exact ⟨r2, rfl, Or.inr (by omega)⟩
theorem toMem_some (l m o : List Int) (hl : l.length ≤ 1048576) (hm : m.length ≤ 1048576) (ho : o.length ≤ 1048576) : laws_toMem.f 5000000 l m o = some (l, m, o) := by
 unfold laws_toMem.f
 rw [toIntS_some l hl _ (by omega), Option.bind_some, toIntS_some m hm _ (by omega), Option.bind_some, toIntS_some o ho _ (by omega), Option.bind_some]
theorem eqMem_self (l m o : List Int) (hl : l.length ≤ 1048576) (hm : m.length ≤ 1048576) (ho : o.length ≤ 1048576) : laws_eqMem.f 5000000 l m o l m o = some true := by
 unfold laws_eqMem.f
 rw [eqIntS_self l hl _ (by omega), Option.bind_some, if_pos rfl, eqIntS_self m hm _ (by omega), Option.bind_some, if_pos rfl, eqIntS_self o ho _ (by omega), Option.bind_some, if_pos rfl]
def up (a : Int) (n : Nat) : List Int := (List.range n).map (fun t : Nat => a + (t : Int))
theorem up_len (a : Int) (n : Nat) : (up a n).length = n := by simp [up]
theorem up_get (a : Int) (n i : Nat) (h : i < n) : rd (up a n) (i : Int) = a + i := by
 rw [rdI _ _ (by rw [up_len]; exact h)]; simp [up]
theorem mark_loop (a : Int) (n : Nat) (ha : 0 ≤ a) (ha2 : a ≤ 100000000) (hn : n ≤ 1048576) (d : Nat) : ∀ (k i : Nat) (x : List Int) (b : Int), i + d = n → x.length = n → x.take i = up a i → b = a + i → d < k → laws_markIntS.l0 k x b (i : Int) = some (a + n, up a n) := by
 induction d with
 | zero =>
  intro k i x b hi hx ht hb hk
  obtain ⟨k, rfl⟩ : ∃ m, k = m + 1 := ⟨k - 1, by omega⟩
  simp only [laws_markIntS.l0]
  rw [if_neg (by omega)]
  have e1 : x.take i = x := List.take_of_length_le (by omega)
  have e2 : i = n := by omega
  rw [e1] at ht
  rw [hb, ht, e2]
 | succ d ih =>
  intro k i x b hi hx ht hb hk
  obtain ⟨k, rfl⟩ : ∃ m, k = m + 1 := ⟨k - 1, by omega⟩
  simp only [laws_markIntS.l0]
  rw [if_pos (by omega), if_pos (by omega), wrap_id (by omega) (by omega), wrap_id (by omega) (by omega), Int.toNat_natCast]
  have hil : i < x.length := by omega
  have := ih k (i + 1) (x.set i b) (b + 1) (by omega) (by simpa using hx) (by
   rw [List.take_succ_eq_append_getElem (by simpa using hil), List.take_set, List.set_eq_of_length_le (by simp; omega), ht]
   simp [up, List.range_succ, hb]) (by omega) (by omega)
  exact this
theorem mark_some (l : List Int) (a : Int) (ha : 0 ≤ a) (ha2 : a ≤ 100000000) (hl : l.length ≤ 1048576) (k : Nat) (hk : l.length < k) : laws_markIntS.f k l a = some (a + l.length, up a l.length) := by
 unfold laws_markIntS.f
 exact mark_loop a l.length ha ha2 hl l.length k 0 l a (by omega) rfl (by simp [up]) (by simp) hk
theorem held_loop (a : Int) (n : Nat) (ha : 0 ≤ a) (ha2 : a ≤ 100000000) (hn : n ≤ 1048576) (d : Nat) : ∀ (k i : Nat) (b : Int), i + d = n → b = a + i → d < k → laws_heldIntS.l0 k (up a n) b (i : Int) = some (a + n) := by
 induction d with
 | zero =>
  intro k i b hi hb hk
  obtain ⟨k, rfl⟩ : ∃ m, k = m + 1 := ⟨k - 1, by omega⟩
  simp only [laws_heldIntS.l0]
  rw [up_len, if_neg (by omega), hb]
  have e2 : i = n := by omega
  rw [e2]
 | succ d ih =>
  intro k i b hi hb hk
  obtain ⟨k, rfl⟩ : ∃ m, k = m + 1 := ⟨k - 1, by omega⟩
  simp only [laws_heldIntS.l0]
  rw [up_len, if_pos (by omega), if_pos (by omega), up_get a n i (by omega), if_pos hb.symm, wrap_id (by omega) (by omega), wrap_id (by omega) (by omega)]
  exact ih k (i + 1) (b + 1) (by omega) (by omega) (by omega)
theorem held_some (a : Int) (n : Nat) (ha : 0 ≤ a) (ha2 : a ≤ 100000000) (hn : n ≤ 1048576) (k : Nat) (hk : n < k) : laws_heldIntS.f k (up a n) a = some (a + n) := by
 unfold laws_heldIntS.f
 exact held_loop a n ha ha2 hn n k 0 a (by omega) (by simp) hk
theorem markMem_some (l m o : List Int) (hl : l.length ≤ 1048576) (hm : m.length ≤ 1048576) (ho : o.length ≤ 1048576) : laws_markMem.f 5000000 l m o 1 = some (1 + (l.length : Int) + m.length + o.length, up 1 l.length, up (1 + l.length) m.length, up (1 + (l.length : Int) + m.length) o.length) := by
 unfold laws_markMem.f
 rw [mark_some l 1 (by omega) (by omega) hl _ (by omega)]; simp only [Option.bind_some]
 rw [mark_some m _ (by omega) (by omega) hm _ (by omega)]; simp only [Option.bind_some]
 rw [mark_some o _ (by omega) (by omega) ho _ (by omega)]; simp only [Option.bind_some]
theorem heldMem_some (a b c : Nat) (ha : a ≤ 1048576) (hb : b ≤ 1048576) (hc : c ≤ 1048576) : laws_heldMem.f 5000000 (up 1 a) (up (1 + a) b) (up (1 + (a : Int) + b) c) 1 = some (1 + (a : Int) + b + c) := by
 unfold laws_heldMem.f
 rw [held_some 1 a (by omega) (by omega) ha _ (by omega)]; simp only [Option.bind_some]
 rw [if_neg (by omega), held_some _ b (by omega) (by omega) hb _ (by omega)]; simp only [Option.bind_some]
 rw [if_neg (by omega), held_some _ c (by omega) (by omega) hc _ (by omega)]; simp only [Option.bind_some]
 rw [if_neg (by omega)]
def R3 (B : Nat) (W : World) (v0 v1 v2 : Value) (a b c : List Int) : Prop := Kd.R (Kd.int .i64) 3 W B (fun _ => True) v0 a ∧ Kd.R (Kd.int .i64) 3 W B (fun _ => True) v1 b ∧ Kd.R (Kd.int .i64) 3 W B (fun _ => True) v2 c
section
variable {B : Nat} {W W' : World} {v0 v1 v2 : Value} {a b c : List Int}
theorem R3.below (h : R3 B W v0 v1 v2 a b c) (hb : Below W.heap.size W W') : R3 B W' v0 v1 v2 a b c := ⟨Kd.R_below h.1 hb, Kd.R_below h.2.1 hb, Kd.R_below h.2.2 hb⟩
theorem R3.lower {B' : Nat} (h : R3 B W v0 v1 v2 a b c) (hb : B' ≤ B) : R3 B' W v0 v1 v2 a b c := ⟨Kd.R_lower h.1 hb, Kd.R_lower h.2.1 hb, Kd.R_lower h.2.2 hb⟩
theorem R3.set {z j t : Nat} {cells : Array Value} (h : R3 B W v0 v1 v2 a b c) (hz : W.heap[z]? = some (.cells cells t (0, 0))) (ht : t ≠ 3) (u : Value) : R3 B (W.setCell ⟨z, j, none⟩ u) v0 v1 v2 a b c := by
 have h3 : ∀ q, q ∈ 3 :: (Kd.int .i64).E → q ≠ t := by
  intro q hq
  rcases List.mem_cons.1 hq with rfl | h
  ·exact fun e => ht e.symm
  ·exact absurd (show q ∈ ([] : List Nat) from h) (by simp)
 exact ⟨Kd.R_set h.1 hz h3 j u, Kd.R_set h.2.1 hz h3 j u, Kd.R_set h.2.2 hz h3 j u⟩
end
theorem R3.slices {B : Nat} {W : World} {v0 v1 v2 : Value} {a b c : List Int} (h : R3 B W v0 v1 v2 a b c) : ∃ A0 A1 A2 c0 c1 c2, v0 = .slice A0 a.length c0 ∧ v1 = .slice A1 b.length c1 ∧ v2 = .slice A2 c.length c2 := by
 obtain ⟨A0, c0, rfl, _⟩ := Kd.R_reads h.1
 obtain ⟨A1, c1, rfl, _⟩ := Kd.R_reads h.2.1
 obtain ⟨A2, c2, rfl, _⟩ := Kd.R_reads h.2.2
 exact ⟨A0, A1, A2, c0, c1, c2, rfl, rfl, rfl⟩
def D3 (v0 v1 v2 : Value) : Prop := (∀ k, v0.ownBlock = some k → v1.ownBlock ≠ some k) ∧ (∀ k, v0.ownBlock = some k → v2.ownBlock ≠ some k) ∧ (∀ k, v1.ownBlock = some k → v2.ownBlock ≠ some k)
abbrev M3 (lo : Nat) (W : World) (v0 v1 v2 : Value) (a b c : List Int) : Prop := R3 lo W v0 v1 v2 a b c ∧ D3 v0 v1 v2
theorem M3.mk' {W w' : World} {v0 v1 v2 : Value} {a b c : List Int} (h0 : Kd.R (Kd.int .i64) 3 w' W.heap.size (fun k_ => some k_ ≠ (v1 : Value).ownBlock ∧ some k_ ≠ (v2 : Value).ownBlock) v0 a) (h1 : Kd.R (Kd.int .i64) 3 w' W.heap.size (fun k_ => some k_ ≠ (v0 : Value).ownBlock ∧ some k_ ≠ (v2 : Value).ownBlock) v1 b) (h2 : Kd.R (Kd.int .i64) 3 w' W.heap.size (fun k_ => some k_ ≠ (v0 : Value).ownBlock ∧ some k_ ≠ (v1 : Value).ownBlock) v2 c) : M3 W.heap.size w' v0 v1 v2 a b c :=
 ⟨⟨R_int_ok h0 (fun _ _ => trivial), R_int_ok h1 (fun _ _ => trivial), R_int_ok h2 (fun _ _ => trivial)⟩, fun k hk e => (h0.1 k hk).1 e.symm, fun k hk e => (h0.1 k hk).2 e.symm, fun k hk e => (h1.1 k hk).2 e.symm⟩
theorem to18 (K : Nat) (A0 A1 A2 : Option Addr) (c0 c1 c2 : Nat) (a b c : List Int) (W : World) (hr0 : Kd.C (Kd.int .i64) W A0 a.length a) (hc0 : a.length ≤ c0) (hr1 : Kd.C (Kd.int .i64) W A1 b.length b) (hc1 : b.length ≤ c1) (hr2 : Kd.C (Kd.int .i64) W A2 c.length c) (hc2 : c.length ≤ c2) (h : laws_toMem.f K a b c = some (a, b, c)) :
  Calls Tryz.prog 22 #[.agg #[.slice A0 a.length c0, .slice A1 b.length c1, .slice A2 c.length c2]] W fun e w' => ∃ A0 A1 A2 c0 c1 c2, e = .returned (.agg #[.slice A0 a.length c0, .slice A1 b.length c1, .slice A2 c.length c2]) ∧ M3 W.heap.size w' (.slice A0 a.length c0) (.slice A1 b.length c1) (.slice A2 c.length c2) a b c ∧ Below W.heap.size W w' := by
 refine (laws_toMem.calls K A0 c0 a A1 c1 b A2 c2 c a b c W hr0 hc0 hr1 hc1 hr2 hc2 h).mono ?_
 rintro e w' ⟨v0, v1, v2, rfl, h0, h1, h2, hb⟩
 have hm := M3.mk' h0 h1 h2
 obtain ⟨A0, A1, A2, c0, c1, c2, rfl, rfl, rfl⟩ := hm.1.slices
 exact ⟨A0, A1, A2, c0, c1, c2, rfl, hm, hb⟩
theorem eq13 (K : Nat) (u0 u1 u2 v0 v1 v2 : Value) (a b c : List Int) (he : laws_eqMem.f K a b c a b c = some true) (B B' : Nat) (W : World) (h : R3 B W u0 u1 u2 a b c) (h' : R3 B' W v0 v1 v2 a b c) :
  Calls Tryz.prog 24 #[.agg #[u0, u1, u2], .agg #[v0, v1, v2]] W fun e w' => e = .returned (.bool true) ∧ Below W.heap.size W w' := by
 obtain ⟨A0, A1, A2, c0, c1, c2, rfl, rfl, rfl⟩ := h.slices
 obtain ⟨B0, B1, B2, d0, d1, d2, rfl, rfl, rfl⟩ := h'.slices
 exact laws_eqMem.calls K A0 c0 a A1 c1 b A2 c2 c B0 d0 a B1 d1 b B2 d2 c true W (Kd.R_reads' h.1).2.2 (Kd.R_reads' h.1).2.1 (Kd.R_reads' h.2.1).2.2 (Kd.R_reads' h.2.1).2.1 (Kd.R_reads' h.2.2).2.2 (Kd.R_reads' h.2.2).2.1 (Kd.R_reads' h'.1).2.2 (Kd.R_reads' h'.1).2.1 (Kd.R_reads' h'.2.1).2.2 (Kd.R_reads' h'.2.1).2.1 (Kd.R_reads' h'.2.2).2.2 (Kd.R_reads' h'.2.2).2.1 he
def Own3 (v0 v1 v2 : Value) : Nat → Prop := fun k => v0.ownBlock = some k ∨ v1.ownBlock = some k ∨ v2.ownBlock = some k
theorem mark14 (K : Nat) (v0 v1 v2 : Value) (a b c a' b' c' : List Int) (m : Int) (he : laws_markMem.f K a b c 1 = some (m, a', b', c')) (w W : World) (hB : Below w.heap.size w W) (h : R3 w.heap.size W v0 v1 v2 a b c) (hd : D3 v0 v1 v2) :
  Calls Tryz.prog 26 #[.agg #[v0, v1, v2], .int .i64 1] W fun e w' => e = .returned (.int .i64 m) ∧ R3 w.heap.size w' v0 v1 v2 a' b' c' ∧ Below w.heap.size w w' ∧ Kept W w' (Own3 v0 v1 v2) := by
 refine (laws_markMem.calls K (fun k => v0.ownBlock = some k) v0 a (fun k => v1.ownBlock = some k) v1 b (fun k => v2.ownBlock = some k) v2 c 1 m a' b' c' w W hB (R_int_ok h.1 (fun _ hk => hk)) hd.1 hd.2.1 (R_int_ok h.2.1 (fun _ hk => hk)) (fun k hk e => hd.1 k e hk) hd.2.2 (R_int_ok h.2.2 (fun _ hk => hk)) (fun k hk e => hd.2.1 k e hk) (fun k hk e => hd.2.2 k e hk) he).mono ?_
 rintro e w' ⟨rfl, h0, h1, h2, hb, hk⟩
 exact ⟨rfl, ⟨R_int_ok h0 (fun _ _ => trivial), R_int_ok h1 (fun _ _ => trivial), R_int_ok h2 (fun _ _ => trivial)⟩, hb, hk⟩
theorem held15 (K : Nat) (v0 v1 v2 : Value) (a b c : List Int) (m : Int) (he : laws_heldMem.f K a b c 1 = some m) (B : Nat) (W : World) (h : R3 B W v0 v1 v2 a b c) :
  Calls Tryz.prog 28 #[.agg #[v0, v1, v2], .int .i64 1] W fun e w' => e = .returned (.int .i64 m) ∧ Below W.heap.size W w' := by
 obtain ⟨A0, A1, A2, c0, c1, c2, rfl, rfl, rfl⟩ := h.slices
 exact laws_heldMem.calls K A0 c0 a A1 c1 b A2 c2 c 1 m W (Kd.R_reads' h.1).2.2 (Kd.R_reads' h.1).2.1 (Kd.R_reads' h.2.1).2.2 (Kd.R_reads' h.2.1).2.1 (Kd.R_reads' h.2.2).2.2 (Kd.R_reads' h.2.2).2.1 he
theorem R30_ok {W : World} {base : Nat} {ok ok' : Nat → Prop} {v : Value} {xs : List S30} (h : Kd.R k30 30 W base ok v xs) (h2 : ∀ b, v.ownBlock = some b → ok' b) : Kd.R k30 30 W base ok' v xs :=
 ⟨h2, h.2.imp_ (fun x cs hp => by obtain rfl := k30_openM hp; exact k30_mkM _ _ _ x)⟩
theorem RI.kept {B : Nat} {W W' : World} {v : Value} {l : List Int} {S : Nat → Prop} (h : Kd.R (Kd.int .i64) 3 W B (fun _ => True) v l) (hk : Kept W W' S) (hn : ∀ k, v.ownBlock = some k → ¬ S k) : Kd.R (Kd.int .i64) 3 W' B (fun _ => True) v l :=
 R_int_ok (Kd.R_kept (R_int_ok (ok' := fun k => v.ownBlock = some k) h (fun _ e => e)) hk hn) (fun _ _ => trivial)
theorem R3.kept {B : Nat} {W W' : World} {v0 v1 v2 : Value} {a b c : List Int} {S : Nat → Prop} (h : R3 B W v0 v1 v2 a b c) (hk : Kept W W' S) (hn : ∀ k, Own3 v0 v1 v2 k → ¬ S k) : R3 B W' v0 v1 v2 a b c :=
 ⟨RI.kept h.1 hk (fun k e => hn k (.inl e)), RI.kept h.2.1 hk (fun k e => hn k (.inr (.inl e))), RI.kept h.2.2 hk (fun k e => hn k (.inr (.inr e)))⟩
theorem R3.lt {B : Nat} {W : World} {v0 v1 v2 : Value} {a b c : List Int} (h : R3 B W v0 v1 v2 a b c) : ∀ k, Own3 v0 v1 v2 k → k < W.heap.size := by
 rintro k (h1 | h1 | h1)
 ·exact Kd.R_lt h.1 k h1
 ·exact Kd.R_lt h.2.1 k h1
 ·exact Kd.R_lt h.2.2 k h1
theorem R3.ge {B : Nat} {W : World} {v0 v1 v2 : Value} {a b c : List Int} (h : R3 B W v0 v1 v2 a b c) : ∀ k, Own3 v0 v1 v2 k → B ≤ k := by
 rintro k (h1 | h1 | h1)
 ·exact Kd.R_base h.1 k h1
 ·exact Kd.R_base h.2.1 k h1
 ·exact Kd.R_base h.2.2 k h1
theorem R3.ne {B g t : Nat} {W : World} {v0 v1 v2 : Value} {a b c : List Int} {cs : Array Value} (h : R3 B W v0 v1 v2 a b c) (hg : W.heap[g]? = some (.cells cs t (0, 0))) (ht : t ≠ 3) : ¬ Own3 v0 v1 v2 g := by
 have ty : ∀ {v : Value} {l : List Int}, Kd.R (Kd.int .i64) 3 W B (fun _ => True) v l → v.ownBlock = some g → False := fun r e => by
  obtain ⟨cells, hc⟩ := Kd.R_typed r g e
  rw [hg] at hc
  injection hc with hc
  injection hc with _ hc
  exact ht hc
 rintro (h1 | h1 | h1)
 ·exact ty h.1 h1
 ·exact ty h.2.1 h1
 ·exact ty h.2.2 h1
theorem toI23 (K : Nat) (A : Option Addr) (c : Nat) (l : List S89) (m : List S30) (W : World) (hr : Kd.C k89 W A l.length l) (hc : l.length ≤ c) (h : laws_toInsS.f K l = some m) :
  Calls Tryz.prog 23 #[.slice A l.length c] W fun e w' => ∃ A' c', e = .returned (.slice A' m.length c') ∧ Kd.R k30 30 w' W.heap.size (fun _ => True) (.slice A' m.length c') m ∧ Below W.heap.size W w' := by
 refine (laws_toInsS.calls K A c l m W hr hc h).mono ?_
 rintro e w' ⟨v, rfl, hR, hb⟩
 obtain ⟨A', c', rfl⟩ := Kd.R_slice hR
 exact ⟨A', c', rfl, hR, hb⟩
structure MS (w0 w : World) (v : Value) (n : Nat) (W : World) : Prop where
 r : ∃ l, Kd.R k30 30 W w0.heap.size (fun _ => True) v l ∧ l.length = n
 b : Below w0.heap.size w0 W
 k : Kept w W (fun k => v.ownBlock = some k)
theorem MS.el {w0 w W : World} {A : Option Addr} {n c : Nat} (h : MS w0 w (.slice A n c) n W) (i : Nat) (hi : i < n) : ∃ G, A = some ⟨G, 0, none⟩ ∧ (∀ j, W.frozen? ⟨G, i * 4 + j, none⟩ = false) ∧ ∀ j : Nat, j < 4 → (∃ u : Int, W.cell? ⟨G, i * 4 + j, none⟩ = some (.int .i64 u)) ∧ ∀ x : Int, MS w0 w (.slice A n c) n (W.setCell ⟨G, i * 4 + j, none⟩ (.int .i64 x)) := by
 obtain ⟨⟨l, r, hl⟩, hb, hk⟩ := h
 have hn := (Kd.R_reads' r).1
 subst hl
 obtain ⟨G, cap, e, _, _, _⟩ := Kd.R_form r (by omega)
 injection e with e1 _ e3
 subst e1; subst e3
 obtain ⟨cs, hcl, hM, hc, hf⟩ := Kd.R_elem r (⟨0, 0, ⟨0, 0⟩⟩ : S30) (i : Int) (by omega) (by omega)
 obtain rfl := k30_openM hM
 generalize l.getD (i : Int).toNat (⟨0, 0, ⟨0, 0⟩⟩ : S30) = z at *
 have fin : ∀ {W' : World} {l' : List S30}, Kd.R k30 30 W' w0.heap.size (fun _ => True) (.slice (some ⟨G, 0, none⟩) l.length c) l' → l'.length = l.length → W.grownBy W' (some G) → MS w0 w (.slice (some ⟨G, 0, none⟩) l.length c) l.length W' := fun h1 h2 hg =>
  ⟨⟨_, h1, h2⟩, pw_below_grown hb _ hb.size hg (fun k e => Kd.R_base r k e), Kept.of_grown hg hk (fun k e => .inl e)⟩
 refine ⟨G, rfl, hf, fun j hj => ?_⟩
 match j, hj with
 | 0, _ =>
  refine ⟨⟨_, hc 0 _ rfl⟩, fun x => ?_⟩
  have k := Kd.R_seg r (i : Int) (by omega) (by omega) (seg := [.int .i64 x]) (j := 0) hcl hc (show 1 ≤ 4 by decide) (k30_mkM _ _ _ (⟨x, z.f1, ⟨z.f2.f0, z.f2.f1⟩⟩ : S30)) (fun _ e => e)
  exact fin k.1 (by simp) k.2
 | 1, _ =>
  refine ⟨⟨_, hc 1 _ rfl⟩, fun x => ?_⟩
  have k := Kd.R_seg r (i : Int) (by omega) (by omega) (seg := [.int .i64 x]) (j := 1) hcl hc (show 2 ≤ 4 by decide) (k30_mkM _ _ _ (⟨z.f0, x, ⟨z.f2.f0, z.f2.f1⟩⟩ : S30)) (fun _ e => e)
  exact fin k.1 (by simp) k.2
 | 2, _ =>
  refine ⟨⟨_, hc 2 _ rfl⟩, fun x => ?_⟩
  have k := Kd.R_seg r (i : Int) (by omega) (by omega) (seg := [.int .i64 x]) (j := 2) hcl hc (show 3 ≤ 4 by decide) (k30_mkM _ _ _ (⟨z.f0, z.f1, ⟨x, z.f2.f1⟩⟩ : S30)) (fun _ e => e)
  exact fin k.1 (by simp) k.2
 | 3, _ =>
  refine ⟨⟨_, hc 3 _ rfl⟩, fun x => ?_⟩
  have k := Kd.R_seg r (i : Int) (by omega) (by omega) (seg := [.int .i64 x]) (j := 3) hcl hc (show 4 ≤ 4 by decide) (k30_mkM _ _ _ (⟨z.f0, z.f1, ⟨z.f2.f0, x⟩⟩ : S30)) (fun _ e => e)
  exact fin k.1 (by simp) k.2
theorem ws {a : Int} {i n : Nat} (ha : 0 ≤ a) (ha2 : a ≤ 100000000) (hn : n ≤ 1048576) (hi : i < n) : decide ((i : Int) < (n : Int)) = true ∧ ((0 : Int) ≤ (i : Int) ∧ (i : Int) < (n : Int)) ∧ wrap64 (a + 4 * (i : Int) + 1) = a + 4 * (i : Int) + 1 ∧ wrap64 (a + 4 * (i : Int) + 1 + 1) = a + 4 * (i : Int) + 1 + 1 ∧ wrap64 (a + 4 * (i : Int) + 1 + 1 + 1) = a + 4 * (i : Int) + 1 + 1 + 1 ∧ wrap64 (a + 4 * (i : Int) + 1 + 1 + 1 + 1) = a + 4 * ((i + 1 : Nat) : Int) ∧ wrap64 ((i : Int) + 1) = ((i + 1 : Nat) : Int) :=
 ⟨by simp; omega, ⟨by omega, by omega⟩, by unfold wrap64; omega, by unfold wrap64; omega, by unfold wrap64; omega, by unfold wrap64; omega, by unfold wrap64; omega⟩
theorem wa (a : Int) (i : Nat) : a + 4 * (i : Int) + 1 + 1 + 1 + 1 = a + 4 * ((i + 1 : Nat) : Int) := by omega
theorem wm {i n : Nat} (h : i < n) : n - (intOf (.int .i64 ((i + 1 : Nat) : Int))).toNat < n - (intOf (.int .i64 (i : Int))).toNat := by
 simp [intOf]; omega
set_option maxRecDepth 100000 in
set_option maxHeartbeats 6400000 in
theorem markS27 (v : Value) (m : List S30) (a : Int) (w0 W : World) (hB : Below w0.heap.size w0 W) (hR : Kd.R k30 30 W w0.heap.size (fun _ => True) v m) (ha : 0 ≤ a) (ha2 : a ≤ 100000000) (hl : m.length ≤ 1048576) :
  Calls Tryz.prog 27 #[v, .int .i64 a] W fun e w' => e = .returned (.int .i64 (a + 4 * (m.length : Int))) ∧ Below w0.heap.size w0 w' ∧ Kept W w' (fun k => v.ownBlock = some k) := by
 have hu30 := Tryz.underlying30
 have hu28 := Tryz.underlying28
 obtain ⟨A, c, rfl⟩ := Kd.R_slice hR
 have hT : MS w0 W (.slice A m.length c) m.length W := ⟨⟨m, hR, rfl⟩, hB, Kept.refl _ _⟩
 clear hB hR
 generalize m.length = n at *
 have ha := Aside0.mk ha
 have ha2 := Aside0.mk ha2
 have hl := Aside0.mk hl
 go_enter Tryz.func27, Tryz.ntmps27
 go_wp2_with fail
 go_loopw [1, 5] (fun vk vi wr => ∃ i : Nat, i ≤ n ∧ vi = .int .i64 (i : Int) ∧ vk = .int .i64 (a + 4 * (i : Int)) ∧ Aside0 (MS w0 W (.slice A n c) n wr)) (fun _ vi _ => n - (intOf vi).toNat)
 case atStart => exact ⟨0, by omega, rfl, by simp, ⟨hT⟩⟩
 case round =>
  clear hT
  obtain ⟨i, hi, rfl, rfl, hT0⟩ := hrel
  have hT := hT0.out
  clear hT0
  by_cases hin : i < n
  ·obtain ⟨d, q, w1_, w2_, w3_, w4_, w5_⟩ := ws ha.out ha2.out hl.out hin
   obtain ⟨G, rfl, hf, hs⟩ := hT.el i hin
   have q0 := eq_true q.1
   have q1 := eq_true q.2
   have f0 : wr.frozen? ⟨G, i * 4, none⟩ = false := hf 0
   have f1 : wr.frozen? ⟨G, i * 4 + 1, none⟩ = false := hf 1
   have f2 : wr.frozen? ⟨G, i * 4 + 2, none⟩ = false := hf 2
   have f3 : wr.frozen? ⟨G, i * 4 + 3, none⟩ = false := hf 3
   obtain ⟨⟨u0, c0⟩, -⟩ := hs 0 (by omega)
   obtain ⟨⟨u1, c1⟩, -⟩ := hs 1 (by omega)
   obtain ⟨⟨u2, c2⟩, -⟩ := hs 2 (by omega)
   obtain ⟨⟨u3, c3⟩, -⟩ := hs 3 (by omega)
   replace c0 : wr.cell? ⟨G, i * 4, none⟩ = some (.int .i64 u0) := c0
   have e0 : ∀ x : Int, MS w0 W (.slice (some ⟨G, 0, none⟩) n c) n (wr.setCell ⟨G, i * 4, none⟩ (.int .i64 x)) := (hs 0 (by omega)).2
   have e1 : ∀ x y : Int, MS w0 W (.slice (some ⟨G, 0, none⟩) n c) n ((wr.setCell ⟨G, i * 4, none⟩ (.int .i64 x)).setCell ⟨G, i * 4 + 1, none⟩ (.int .i64 y)) := fun x y => by
    obtain ⟨G', eG, _, k⟩ := (e0 x).el i hin
    obtain rfl : G = G' := by injection eG with e; injection e
    exact (k 1 (by omega)).2 y
   have e2 : ∀ x y z : Int, MS w0 W (.slice (some ⟨G, 0, none⟩) n c) n (((wr.setCell ⟨G, i * 4, none⟩ (.int .i64 x)).setCell ⟨G, i * 4 + 1, none⟩ (.int .i64 y)).setCell ⟨G, i * 4 + 2, none⟩ (.int .i64 z)) := fun x y z => by
    obtain ⟨G', eG, _, k⟩ := (e1 x y).el i hin
    obtain rfl : G = G' := by injection eG with e; injection e
    exact (k 2 (by omega)).2 z
   have e3 : ∀ x y z t : Int, Aside0 (MS w0 W (.slice (some ⟨G, 0, none⟩) n c) n ((((wr.setCell ⟨G, i * 4, none⟩ (.int .i64 x)).setCell ⟨G, i * 4 + 1, none⟩ (.int .i64 y)).setCell ⟨G, i * 4 + 2, none⟩ (.int .i64 z)).setCell ⟨G, i * 4 + 3, none⟩ (.int .i64 t))) := fun x y z t => by
    obtain ⟨G', eG, _, k⟩ := (e2 x y z).el i hin
    obtain rfl : G = G' := by injection eG with e; injection e
    exact ⟨(k 3 (by omega)).2 t⟩
   have hin := Aside0.mk hin
   have hi := Aside0.mk hi
   clear hT hf hs e0 e1 e2 q
   go_wp2
   go_roundw
   case rel => exact ⟨i + 1, hin.out, rfl, congrArg (Value.int .i64) (wa a i), e3 _ _ _ _⟩
   case measure => exact wm hin.out
  ·obtain rfl : i = n := by omega
   have d : decide ((i : Int) < (i : Int)) = false := by simp
   clear hin hi
   go_wp2
   go_ret
   exact ⟨rfl, hT.b, hT.k⟩
end Go.Proofs.YtjamfddhcigchaaGreatDoor.Ea
namespace Go.Proofs.YtjamfddhcigchaaGreatDoor.Eb
open Go.RowKit  Go.Proofs.YtjamfddhcigchaaGreatDoor.Gm Go.Proofs.YtjamfddhcigchaaGreatDoor.Gn Go.Proofs.YtjamfddhcigchaaGreatDoor.Gz Go.Proofs.YtjamfddhcigchaaGreatDoor.Gq Go.Proofs.YtjamfddhcigchaaGreatDoor.Hj Go.Proofs.YtjamfddhcigchaaGreatDoor.Hm Go.Proofs.YtjamfddhcigchaaGreatDoor.Hn Go.Proofs.YtjamfddhcigchaaGreatDoor.Hq Go.Proofs.YtjamfddhcigchaaGreatDoor.Hu Go.Proofs.YtjamfddhcigchaaGreatDoor.Hv Go.Proofs.YtjamfddhcigchaaGreatDoor.Ho Go.Proofs.YtjamfddhcigchaaGreatDoor.Hc Go.Proofs.YtjamfddhcigchaaGreatDoor.Hp Go.Proofs.YtjamfddhcigchaaGreatDoor.Sr Go.Proofs.YtjamfddhcigchaaGreatDoor.Rb Go.Proofs.YtjamfddhcigchaaGreatDoor.Ea Go.Proofs.YtjamfddhcigchaaGreatDoor.HFnExactCodeRun Go.Proofs.YtjamfddhcigchaaGreatDoorW.PrintWords Go.Proofs.YtjamfddhcigchaaGreatDoorW.PrintLast Go.Proofs.YtjamfddhcigchaaGreatDoorW.PrintMore
set_option linter.unusedVariables false
set_option linter.unusedSimpArgs false
set_option maxRecDepth 100000 in
set_option maxHeartbeats 25600000 in
theorem main (A0 A1 A2 : Option Addr) (c0 c1 c2 : Nat) (l0 l1 l2 : List Int) (B : Option Addr) (cc : Nat) (l : List S89) (f : Int) (m : List S30) (q : M3 × Int × Nat) (r0 r1 mx mg : Int) (x0 x1 x2 y0 y1 y2 : List Int) (KN : Nat) (w : World)
  (hr0 : Aside0 (Kd.C (Kd.int .i64) w A0 l0.length l0)) (hc0 : Aside0 (l0.length ≤ c0)) (hr1 : Aside0 (Kd.C (Kd.int .i64) w A1 l1.length l1)) (hc1 : Aside0 (l1.length ≤ c1)) (hr2 : Aside0 (Kd.C (Kd.int .i64) w A2 l2.length l2)) (hc2 : Aside0 (l2.length ≤ c2)) (hrB : Aside0 (Kd.C k89 w B l.length l)) (hcB : Aside0 (l.length ≤ cc)) (hE : Aside0 (LE w))
  (sz0 : Aside0 (laws_szMem.f l0 l1 l2 1048576 = some r0)) (d0 : decide (r0 < 0) = false) (sz1 : Aside0 (laws_szInsS.f l r0 = some r1)) (d1 : decide (r1 < 0) = false) (hto : Aside0 (laws_toMem.f KN l0 l1 l2 = some (l0, l1, l2))) (hti : Aside0 (laws_toInsS.f KN l = some m)) (hml : Aside0 (m.length ≤ 1048576)) (hq : Aside0 (runC ⟨l0, l1, l2⟩ m f = some q))
  (heq : Aside0 (laws_eqMem.f KN q.1.a q.1.b q.1.c q.1.a q.1.b q.1.c = some true)) (heqx : Aside0 (laws_eqMem.f KN l0 l1 l2 l0 l1 l2 = some true)) (heqi : Aside0 (laws_eqInsS.f KN m m = some true))
  (hmx : Aside0 (laws_markMem.f KN l0 l1 l2 1 = some (mx, x0, x1, x2))) (mx0 : Aside0 (0 ≤ mx ∧ mx ≤ 100000000)) (dk : decide (mx + 4 * (m.length : Int) < 0) = false) (hmg : Aside0 (laws_markMem.f KN q.1.a q.1.b q.1.c 1 = some (mg, y0, y1, y2))) (dg : decide (mg < 0) = false) (hhe : Aside0 (laws_heldMem.f KN y0 y1 y2 1 = some mg)) :
  Calls Tryz.prog 5 #[.agg #[.slice A0 l0.length c0, .slice A1 l1.length c1, .slice A2 l2.length c2], .slice B l.length cc, .int .i64 f] w fun e w' => e = .returned (.bool true) ∧ Below w.heap.size w w' := by
 have hu33 := Tryz.underlying33
 have hu44 := Tryz.underlying44
 have kq : (mg != mg) = false := by simp
 go_enter Tryz.func5, Tryz.ntmps5
 go_wp2_with fail
 have kk : Below w.heap.size w (w.alloc (.cells #[.slice A0 l0.length c0, .slice A1 l1.length c1, .slice A2 l2.length c2] 44)) := below_alloc (Below.refl _ _) _
 have bA := heap_alloc_new w (.cells #[.slice A0 l0.length c0, .slice A1 l1.length c1, .slice A2 l2.length c2] 44)
 generalize w.alloc (Obj.cells _ 44) = w1 at kk bA ⊢
 obtain ⟨gA, hgA⟩ : ∃ g, w.heap.size = g := ⟨_, rfl⟩
 rw [hgA] at bA ⊢
 clear hgA
 refine (laws_szMem.calls A0 c0 l0 A1 c1 l1 A2 c2 l2 1048576 r0 w1 (Kd.C_below hr0.out kk) hc0.out (Kd.C_below hr1.out kk) hc1.out (Kd.C_below hr2.out kk) hc2.out sz0.out).mono ?_
 rintro e w2 ⟨rfl, hb5⟩
 replace bA := blk_below bA hb5
 replace kk := kk.trans (hb5.mono kk.size)
 clear hb5
 go_wp2_with fail
 refine (laws_szInsS.calls B cc l r0 r1 w2 (Kd.C_below hrB.out kk) hcB.out sz1.out).mono ?_
 rintro e w3 ⟨rfl, hd⟩
 have hb5 := hd.below
 clear hd
 replace bA := blk_below bA hb5
 replace kk := kk.trans (hb5.mono kk.size)
 clear hb5
 have cA0 : w3.cell? ⟨gA, 0, none⟩ = some (.slice A0 l0.length c0) := (blk_cell bA 0).trans rfl
 have cA1 : w3.cell? ⟨gA, 1, none⟩ = some (.slice A1 l1.length c1) := (blk_cell bA 1).trans rfl
 have cA2 : w3.cell? ⟨gA, 2, none⟩ = some (.slice A2 l2.length c2) := (blk_cell bA 2).trans rfl
 go_wp2_with fail
 clear cA0 cA1 cA2
 have tm := to18 KN A0 A1 A2 c0 c1 c2 l0 l1 l2 w3 (Kd.C_below hr0.out kk) hc0.out (Kd.C_below hr1.out kk) hc1.out (Kd.C_below hr2.out kk) hc2.out hto.out
 refine tm.mono ?_
 clear tm
 rintro e w4 ⟨U0, U1, U2, u0_, u1_, u2_, rfl, hM, hb5⟩
 have dU := Aside0.mk hM.2
 have tU := hM.1.lower kk.size
 clear hM
 replace bA := blk_below bA hb5
 replace kk := kk.trans (hb5.mono kk.size)
 clear hb5
 go_wp2_with fail
 refine (toI23 KN B cc l m w4 (Kd.C_below hrB.out kk) hcB.out hti.out).mono ?_
 rintro e w5 ⟨P, p_, rfl, hR, hb5⟩
 have rP := Kd.R_lower hR kk.size
 clear hR
 replace bA := blk_below bA hb5
 replace tU := tU.below hb5
 replace kk := kk.trans (hb5.mono kk.size)
 clear hb5
 go_wp2_with fail
 refine (specRun_any U0 U1 U2 u0_ u1_ u2_ l0 l1 l2 P p_ m f w5 (Kd.R_reads' tU.1).2.2 (Kd.R_reads' tU.2.1).2.2 (Kd.R_reads' tU.2.2).2.2 (Kd.R_reads' tU.1).2.1 (Kd.R_reads' tU.2.1).2.1 (Kd.R_reads' tU.2.2).2.1 (Kd.R_reads' rP).2.2 (Kd.R_reads' rP).2.1 hml.out q hq.out).mono ?_
 rintro e w6 ⟨z0, z1, z2, rfl, q0, q1, q2, -, -, -, hb5, -⟩
 have hM : R3 w5.heap.size w6 z0 z1 z2 q.1.a q.1.b q.1.c := ⟨q0, q1, q2⟩
 clear q0 q1 q2
 obtain ⟨V0, V1, V2, v0_, v1_, v2_, rfl, rfl, rfl⟩ := hM.slices
 have tV := hM.lower kk.size
 clear hM
 clear tU
 clear rP
 replace bA := blk_below bA hb5
 replace kk := kk.trans (hb5.mono kk.size)
 clear hb5
 go_upto_region 9 with (fail)
 have hb5 : Below w6.heap.size w6 (w6.alloc (.cells #[.slice V0 q.1.a.length v0_, .slice V1 q.1.b.length v1_, .slice V2 q.1.c.length v2_] 33)) := below_alloc (Below.refl _ _) _
 have n5 := heap_alloc_new w6 (.cells #[.slice V0 q.1.a.length v0_, .slice V1 q.1.b.length v1_, .slice V2 q.1.c.length v2_] 33)
 replace bA := blk_below bA hb5
 replace tV := tV.below hb5
 replace kk := kk.trans (hb5.mono kk.size)
 clear hb5
 have bV := n5
 clear n5
 generalize w6.alloc (Obj.cells _ 33) = w7 at kk bV bA tV  ⊢
 obtain ⟨gV, hgV⟩ : ∃ g, w6.heap.size = g := ⟨_, rfl⟩
 rw [hgV] at bV ⊢
 clear hgV
 have cA0 : w7.cell? ⟨gA, 0, none⟩ = some (.slice A0 l0.length c0) := (blk_cell bA 0).trans rfl
 have cA1 : w7.cell? ⟨gA, 1, none⟩ = some (.slice A1 l1.length c1) := (blk_cell bA 1).trans rfl
 have cA2 : w7.cell? ⟨gA, 2, none⟩ = some (.slice A2 l2.length c2) := (blk_cell bA 2).trans rfl
 go_wp2_with fail
 clear cA0 cA1 cA2
 have tm := to18 KN A0 A1 A2 c0 c1 c2 l0 l1 l2 w7 (Kd.C_below hr0.out kk) hc0.out (Kd.C_below hr1.out kk) hc1.out (Kd.C_below hr2.out kk) hc2.out hto.out
 refine tm.mono ?_
 clear tm
 rintro e w8 ⟨X0, X1, X2, x0_, x1_, x2_, rfl, hM, hb5⟩
 have dX := Aside0.mk hM.2
 have dVX : Aside0 (∀ k, Own3 (.slice V0 q.1.a.length v0_) (.slice V1 q.1.b.length v1_) (.slice V2 q.1.c.length v2_) k → ¬ Own3 (.slice X0 l0.length x0_) (.slice X1 l1.length x1_) (.slice X2 l2.length x2_) k) := ⟨fun k a b => by have := tV.lt k a; have := hM.1.ge k b; omega⟩
 have tX := hM.1.lower kk.size
 clear hM
 replace bA := blk_below bA hb5
 replace bV := blk_below bV hb5
 replace tV := tV.below hb5
 replace kk := kk.trans (hb5.mono kk.size)
 clear hb5
 go_upto_region 10 with (fail)
 have hb5 : Below w8.heap.size w8 (w8.alloc (.cells #[.slice X0 l0.length x0_, .slice X1 l1.length x1_, .slice X2 l2.length x2_] 33)) := below_alloc (Below.refl _ _) _
 have n5 := heap_alloc_new w8 (.cells #[.slice X0 l0.length x0_, .slice X1 l1.length x1_, .slice X2 l2.length x2_] 33)
 replace bA := blk_below bA hb5
 replace bV := blk_below bV hb5
 replace tV := tV.below hb5
 replace tX := tX.below hb5
 replace kk := kk.trans (hb5.mono kk.size)
 clear hb5
 have bX := n5
 clear n5
 generalize w8.alloc (Obj.cells _ 33) = w9 at kk bX bA bV tV tX  ⊢
 obtain ⟨gX, hgX⟩ : ∃ g, w8.heap.size = g := ⟨_, rfl⟩
 rw [hgX] at bX ⊢
 clear hgX
 go_wp2_with fail
 refine (toI23 KN B cc l m w9 (Kd.C_below hrB.out kk) hcB.out hti.out).mono ?_
 rintro e w10 ⟨O, o_, rfl, hR, hb5⟩
 have rO := Kd.R_lower hR kk.size
 clear hR
 replace bA := blk_below bA hb5
 replace bV := blk_below bV hb5
 replace bX := blk_below bX hb5
 replace tV := tV.below hb5
 replace tX := tX.below hb5
 replace kk := kk.trans (hb5.mono kk.size)
 clear hb5
 have cX0 : w10.cell? ⟨gX, 0, none⟩ = some (.slice X0 l0.length x0_) := (blk_cell bX 0).trans rfl
 have cX1 : w10.cell? ⟨gX, 1, none⟩ = some (.slice X1 l1.length x1_) := (blk_cell bX 1).trans rfl
 have cX2 : w10.cell? ⟨gX, 2, none⟩ = some (.slice X2 l2.length x2_) := (blk_cell bX 2).trans rfl
 go_wp2_with fail
 clear cX0 cX1 cX2
 refine (codeRun_any X0 X1 X2 x0_ x1_ x2_ l0 l1 l2 O o_ m f w10 q (hE.out.below kk) (Kd.R_reads' tX.1).2.2 (Kd.R_reads' tX.2.1).2.2 (Kd.R_reads' tX.2.2).2.2 (Kd.R_reads' rO).2.2 (Kd.R_reads' rO).2.1 hq.out).mono ?_
 rintro e w11 ⟨z0, z1, z2, rfl, hY, hb5⟩
 have hM := M3.mk' hY.1 hY.2.1 hY.2.2
 clear hY
 obtain ⟨G0, G1, G2, g0_, g1_, g2_, rfl, rfl, rfl⟩ := hM.1.slices
 have dG := Aside0.mk hM.2
 have dVG : Aside0 (∀ k, Own3 (.slice V0 q.1.a.length v0_) (.slice V1 q.1.b.length v1_) (.slice V2 q.1.c.length v2_) k → ¬ Own3 (.slice G0 q.1.a.length g0_) (.slice G1 q.1.b.length g1_) (.slice G2 q.1.c.length g2_) k) := ⟨fun k a b => by have := tV.lt k a; have := hM.1.ge k b; omega⟩
 have dXG : Aside0 (∀ k, Own3 (.slice X0 l0.length x0_) (.slice X1 l1.length x1_) (.slice X2 l2.length x2_) k → ¬ Own3 (.slice G0 q.1.a.length g0_) (.slice G1 q.1.b.length g1_) (.slice G2 q.1.c.length g2_) k) := ⟨fun k a b => by have := tX.lt k a; have := hM.1.ge k b; omega⟩
 have tG := hM.1.lower kk.size
 clear hM
 replace bA := blk_below bA hb5
 replace bV := blk_below bV hb5
 replace bX := blk_below bX hb5
 replace tV := tV.below hb5
 replace tX := tX.below hb5
 replace rO := Kd.R_below rO hb5
 replace kk := kk.trans (hb5.mono kk.size)
 clear hb5
 go_upto_region 12 with (fail)
 have hb5 : Below w11.heap.size w11 (w11.alloc (.cells #[.slice G0 q.1.a.length g0_, .slice G1 q.1.b.length g1_, .slice G2 q.1.c.length g2_] 33)) := below_alloc (Below.refl _ _) _
 have n5 := heap_alloc_new w11 (.cells #[.slice G0 q.1.a.length g0_, .slice G1 q.1.b.length g1_, .slice G2 q.1.c.length g2_] 33)
 replace bA := blk_below bA hb5
 replace bV := blk_below bV hb5
 replace bX := blk_below bX hb5
 replace tV := tV.below hb5
 replace tX := tX.below hb5
 replace tG := tG.below hb5
 replace rO := Kd.R_below rO hb5
 replace kk := kk.trans (hb5.mono kk.size)
 clear hb5
 have bG := n5
 clear n5
 generalize w11.alloc (Obj.cells _ 33) = w12 at kk bG bA bV bX tV tX tG rO ⊢
 obtain ⟨gG, hgG⟩ : ∃ g, w11.heap.size = g := ⟨_, rfl⟩
 rw [hgG] at bG ⊢
 clear hgG
 have cG0 : w12.cell? ⟨gG, 0, none⟩ = some (.slice G0 q.1.a.length g0_) := (blk_cell bG 0).trans rfl
 have cG1 : w12.cell? ⟨gG, 1, none⟩ = some (.slice G1 q.1.b.length g1_) := (blk_cell bG 1).trans rfl
 have cG2 : w12.cell? ⟨gG, 2, none⟩ = some (.slice G2 q.1.c.length g2_) := (blk_cell bG 2).trans rfl
 have cV0 : w12.cell? ⟨gV, 0, none⟩ = some (.slice V0 q.1.a.length v0_) := (blk_cell bV 0).trans rfl
 have cV1 : w12.cell? ⟨gV, 1, none⟩ = some (.slice V1 q.1.b.length v1_) := (blk_cell bV 1).trans rfl
 have cV2 : w12.cell? ⟨gV, 2, none⟩ = some (.slice V2 q.1.c.length v2_) := (blk_cell bV 2).trans rfl
 go_wp2_with fail
 clear cG0 cG1 cG2
 clear cV0 cV1 cV2
 refine (eq13 KN _ _ _ _ _ _ q.1.a q.1.b q.1.c heq.out _ _ w12 tG tV).mono ?_
 rintro e w13 ⟨rfl, hb5⟩
 replace bA := blk_below bA hb5
 replace bV := blk_below bV hb5
 replace bX := blk_below bX hb5
 replace bG := blk_below bG hb5
 replace tV := tV.below hb5
 replace tX := tX.below hb5
 replace tG := tG.below hb5
 replace rO := Kd.R_below rO hb5
 replace kk := kk.trans (hb5.mono kk.size)
 clear hb5
 have cX0 : w13.cell? ⟨gX, 0, none⟩ = some (.slice X0 l0.length x0_) := (blk_cell bX 0).trans rfl
 have cX1 : w13.cell? ⟨gX, 1, none⟩ = some (.slice X1 l1.length x1_) := (blk_cell bX 1).trans rfl
 have cX2 : w13.cell? ⟨gX, 2, none⟩ = some (.slice X2 l2.length x2_) := (blk_cell bX 2).trans rfl
 have cA0 : w13.cell? ⟨gA, 0, none⟩ = some (.slice A0 l0.length c0) := (blk_cell bA 0).trans rfl
 have cA1 : w13.cell? ⟨gA, 1, none⟩ = some (.slice A1 l1.length c1) := (blk_cell bA 1).trans rfl
 have cA2 : w13.cell? ⟨gA, 2, none⟩ = some (.slice A2 l2.length c2) := (blk_cell bA 2).trans rfl
 go_wp2_with fail
 clear cX0 cX1 cX2
 clear cA0 cA1 cA2
 have kd := below_drew1 (Below.refl w13.heap.size w13)
 have hb5 := kd
 clear kd
 replace bA := blk_below bA hb5
 replace bV := blk_below bV hb5
 replace bX := blk_below bX hb5
 replace bG := blk_below bG hb5
 replace tV := tV.below hb5
 replace tX := tX.below hb5
 replace tG := tG.below hb5
 replace rO := Kd.R_below rO hb5
 replace kk := kk.trans (hb5.mono kk.size)
 clear hb5
 refine start_ (n := 5) (S := fun w' => w'.cell? ⟨gX, 0, none⟩ = some (.slice X0 l0.length x0_) ∧ w'.cell? ⟨gX, 1, none⟩ = some (.slice X1 l1.length x1_) ∧ w'.cell? ⟨gX, 2, none⟩ = some (.slice X2 l2.length x2_) ∧ w'.cell? ⟨gA, 0, none⟩ = some (.slice A0 l0.length c0) ∧ w'.cell? ⟨gA, 1, none⟩ = some (.slice A1 l1.length c1) ∧ w'.cell? ⟨gA, 2, none⟩ = some (.slice A2 l2.length c2)) (ds := []) #[false, false, false, false, false] (by kernel_rfl) rfl rfl ⟨(blk_cell bX 0).trans rfl, (blk_cell bX 1).trans rfl, (blk_cell bX 2).trans rfl, (blk_cell bA 0).trans rfl, (blk_cell bA 1).trans rfl, (blk_cell bA 2).trans rfl⟩ (fun hHeld => ?_)
 refine take_ (i := 0) (N := some 68) (v := ?_) (a' := ?_) #[true, false, false, false, false] rfl rfl (by kernel_rfl) (fun _ _ _ h => h) (Or.inl ⟨by rfl, ?_⟩) hHeld ?_ ?_
 rotate_left
 ·rintro w' ⟨s0, s1, s2, s3, s4, s5⟩
  go_simp
  with_reducible rfl
 rotate_left
 ·simp only [Act.put, List.setIfInBounds_toArray, List.set_cons_zero, List.set_cons_succ, i64_w, i32_w]
  rfl
 refine take_ (i := 1) (N := some 69) (v := ?_) (a' := ?_) #[true, true, false, false, false] rfl rfl (by kernel_rfl) (fun _ _ _ h => h) (Or.inl ⟨by rfl, ?_⟩) hHeld ?_ ?_
 rotate_left
 ·rintro w' ⟨s0, s1, s2, s3, s4, s5⟩
  go_simp
  with_reducible rfl
 rotate_left
 ·simp only [Act.put, List.setIfInBounds_toArray, List.set_cons_zero, List.set_cons_succ, i64_w, i32_w]
  rfl
 refine one_ (i := 2) (N := some 70) #[true, true, true, false, false] rfl rfl (by kernel_rfl) (by decide) (fun K hK => ?_)
 refine goes_ Tryz.func22 (by kernel_rfl) rfl #[.agg #[.slice A0 l0.length c0, .slice A1 l1.length c1, .slice A2 l2.length c2]] (by rfl) rfl rfl (by simp only [List.map_toArray, List.map_cons, List.map_nil]; rfl) ?_
 with_reducible refine (to18 KN A0 A1 A2 c0 c1 c2 l0 l1 l2 _ (Kd.C_below hr0.out kk) hc0.out (Kd.C_below hr1.out kk) hc1.out (Kd.C_below hr2.out kk) hc2.out hto.out).mono ?_
 rintro e wc2 ⟨S0, S1, S2, s0_, s1_, s2_, rfl, hM, hb2⟩
 refine ⟨_, rfl, ?_⟩
 have hb2 := Aside0.mk hb2
 have hM := Aside0.mk hM
 refine hK.out _ _ ⟨(blk_cell (blk_below bX hb2.out) 0).trans rfl, (blk_cell (blk_below bX hb2.out) 1).trans rfl, (blk_cell (blk_below bX hb2.out) 2).trans rfl, (blk_cell (blk_below bA hb2.out) 0).trans rfl, (blk_cell (blk_below bA hb2.out) 1).trans rfl, (blk_cell (blk_below bA hb2.out) 2).trans rfl⟩ (fun hHeld => ?_)
 clear hK K
 refine norm_ (a' := ?_) ?_ ?_
 rotate_left
 ·show Act.put _ (some 70) _ = _
  simp only [Act.put, List.setIfInBounds_toArray, List.set_cons_zero, List.set_cons_succ, i64_w, i32_w]
  rfl
 refine one_ (i := 3) (N := some 71) #[true, true, true, true, false] rfl rfl (by kernel_rfl) (by decide) (fun K hK => ?_)
 refine goes_ Tryz.func24 (by kernel_rfl) rfl #[.agg #[.slice X0 l0.length x0_, .slice X1 l1.length x1_, .slice X2 l2.length x2_], .agg #[.slice S0 l0.length s0_, .slice S1 l1.length s1_, .slice S2 l2.length s2_]] (by rfl) rfl rfl (by simp only [List.map_toArray, List.map_cons, List.map_nil]; rfl) ?_
 with_reducible refine (eq13 KN _ _ _ _ _ _ l0 l1 l2 heqx.out _ _ wc2 (tX.below hb2.out) hM.out.1).mono ?_
 rintro e wc3 ⟨rfl, hb3⟩
 refine ⟨_, rfl, ?_⟩
 have hb3 := Aside0.mk (hb2.out.trans (hb3.mono hb2.out.size))
 refine hK.out _ _ ⟨(blk_cell (blk_below bX hb3.out) 0).trans rfl, (blk_cell (blk_below bX hb3.out) 1).trans rfl, (blk_cell (blk_below bX hb3.out) 2).trans rfl, (blk_cell (blk_below bA hb3.out) 0).trans rfl, (blk_cell (blk_below bA hb3.out) 1).trans rfl, (blk_cell (blk_below bA hb3.out) 2).trans rfl⟩ (fun hHeld => ?_)
 clear hK K
 refine norm_ (a' := ?_) ?_ ?_
 rotate_left
 ·show Act.put _ (some 71) _ = _
  simp only [Act.put, List.setIfInBounds_toArray, List.set_cons_zero, List.set_cons_succ, i64_w, i32_w]
  rfl
 refine pure_ (i := 4) (N := some 72) (v := ?_) (a' := ?_) #[true, true, true, true, true] rfl rfl (by kernel_rfl) (fun _ _ _ h => h) (Or.inl ⟨by rfl, ?_⟩) ?_ ?_
 rotate_left
 ·intro w'
  go_simp
  with_reducible rfl
 rotate_left
 ·simp only [Act.put, List.setIfInBounds_toArray, List.set_cons_zero, List.set_cons_succ, i64_w, i32_w]
  rfl
 refine done_ (by kernel_rfl) ?_
 clear hHeld hM hb2
 have hb5 := hb3.out
 clear hb3
 replace bA := blk_below bA hb5
 replace bV := blk_below bV hb5
 replace bX := blk_below bX hb5
 replace bG := blk_below bG hb5
 replace tV := tV.below hb5
 replace tX := tX.below hb5
 replace tG := tG.below hb5
 replace rO := Kd.R_below rO hb5
 replace kk := kk.trans (hb5.mono kk.size)
 clear hb5
 go_wp2_with fail
 refine (toI23 KN B cc l m wc3 (Kd.C_below hrB.out kk) hcB.out hti.out).mono ?_
 rintro e w14 ⟨N, n_, rfl, hR, hb5⟩
 have rN := Kd.R_lower hR kk.size
 clear hR
 replace bA := blk_below bA hb5
 replace bV := blk_below bV hb5
 replace bX := blk_below bX hb5
 replace bG := blk_below bG hb5
 replace tV := tV.below hb5
 replace tX := tX.below hb5
 replace tG := tG.below hb5
 replace rO := Kd.R_below rO hb5
 replace kk := kk.trans (hb5.mono kk.size)
 clear hb5
 go_wp2_with fail
 refine (laws_eqInsS.calls KN O o_ m N n_ m true w14 (Kd.R_reads' rO).2.2 (Kd.R_reads' rO).2.1 (Kd.R_reads' rN).2.2 (Kd.R_reads' rN).2.1 heqi.out).mono ?_
 rintro e w15 ⟨rfl, hb5⟩
 replace bA := blk_below bA hb5
 replace bV := blk_below bV hb5
 replace bX := blk_below bX hb5
 replace bG := blk_below bG hb5
 replace tV := tV.below hb5
 replace tX := tX.below hb5
 replace tG := tG.below hb5
 replace rO := Kd.R_below rO hb5
 replace rN := Kd.R_below rN hb5
 replace kk := kk.trans (hb5.mono kk.size)
 clear hb5
 clear rN
 have cX0 : w15.cell? ⟨gX, 0, none⟩ = some (.slice X0 l0.length x0_) := (blk_cell bX 0).trans rfl
 have cX1 : w15.cell? ⟨gX, 1, none⟩ = some (.slice X1 l1.length x1_) := (blk_cell bX 1).trans rfl
 have cX2 : w15.cell? ⟨gX, 2, none⟩ = some (.slice X2 l2.length x2_) := (blk_cell bX 2).trans rfl
 go_wp2_with fail
 clear cX0 cX1 cX2
 refine (mark14 KN _ _ _ l0 l1 l2 x0 x1 x2 mx hmx.out w w15 kk tX dX.out).mono ?_
 rintro e w16 ⟨rfl, -, hb6, hk⟩
 replace bA := blk_kept bA hk (tX.ne bA (by decide))
 replace bV := blk_kept bV hk (tX.ne bV (by decide))
 replace bX := blk_kept bX hk (tX.ne bX (by decide))
 replace bG := blk_kept bG hk (tX.ne bG (by decide))
 replace tV := tV.kept hk dVX.out
 replace tG := tG.kept hk (fun k a b => dXG.out k b a)
 have rO' := R30_ok (ok' := fun _ => True) (Kd.R_kept (R30_ok (ok' := fun k => Value.ownBlock (.slice O m.length o_) = some k) rO (fun _ e => e)) hk (fun k e h => by
  obtain ⟨cells, hc⟩ := Kd.R_typed rO k e
  exact tX.ne hc (by decide) h)) (fun _ _ => trivial)
 clear rO
 have rO := rO'
 clear rO'
 replace kk := hb6
 clear hb6 hk
 clear tX
 go_wp2_with fail
 refine (markS27 _ m mx w w16 kk rO mx0.out.1 mx0.out.2 hml.out).mono ?_
 rintro e w17 ⟨rfl, hb6, hk⟩
 have hne : ∀ {g t : Nat} {cs : Array Value}, w16.heap[g]? = some (.cells cs t (0, 0)) → t ≠ 30 → ¬ (Value.ownBlock (.slice O m.length o_) = some g) := fun hg ht e => by
  obtain ⟨cells, hc⟩ := Kd.R_typed rO _ e
  rw [hg] at hc
  injection hc with hc
  injection hc with _ hc
  exact ht hc
 have hn3 : ∀ {v0 v1 v2 : Value} {a b c : List Int}, R3 w.heap.size w16 v0 v1 v2 a b c → ∀ k, Own3 v0 v1 v2 k → ¬ (Value.ownBlock (.slice O m.length o_) = some k) := fun h k a e => by
  obtain ⟨cells, hc⟩ := Kd.R_typed rO _ e
  exact h.ne hc (by decide) a
 replace bA := blk_kept bA hk (hne bA (by decide))
 replace bV := blk_kept bV hk (hne bV (by decide))
 replace bX := blk_kept bX hk (hne bX (by decide))
 replace bG := blk_kept bG hk (hne bG (by decide))
 replace tV := tV.kept hk (hn3 tV)
 replace tG := tG.kept hk (hn3 tG)
 replace kk := hb6
 clear hb6 hk
 clear hne hn3
 clear rO
 have cG0 : w17.cell? ⟨gG, 0, none⟩ = some (.slice G0 q.1.a.length g0_) := (blk_cell bG 0).trans rfl
 have cG1 : w17.cell? ⟨gG, 1, none⟩ = some (.slice G1 q.1.b.length g1_) := (blk_cell bG 1).trans rfl
 have cG2 : w17.cell? ⟨gG, 2, none⟩ = some (.slice G2 q.1.c.length g2_) := (blk_cell bG 2).trans rfl
 have cV0 : w17.cell? ⟨gV, 0, none⟩ = some (.slice V0 q.1.a.length v0_) := (blk_cell bV 0).trans rfl
 have cV1 : w17.cell? ⟨gV, 1, none⟩ = some (.slice V1 q.1.b.length v1_) := (blk_cell bV 1).trans rfl
 have cV2 : w17.cell? ⟨gV, 2, none⟩ = some (.slice V2 q.1.c.length v2_) := (blk_cell bV 2).trans rfl
 go_wp2_with fail
 clear cG0 cG1 cG2
 clear cV0 cV1 cV2
 refine (eq13 KN _ _ _ _ _ _ q.1.a q.1.b q.1.c heq.out _ _ w17 tG tV).mono ?_
 rintro e w18 ⟨rfl, hb5⟩
 replace bA := blk_below bA hb5
 replace bV := blk_below bV hb5
 replace bX := blk_below bX hb5
 replace bG := blk_below bG hb5
 replace tV := tV.below hb5
 replace tG := tG.below hb5
 replace kk := kk.trans (hb5.mono kk.size)
 clear hb5
 have cG0 : w18.cell? ⟨gG, 0, none⟩ = some (.slice G0 q.1.a.length g0_) := (blk_cell bG 0).trans rfl
 have cG1 : w18.cell? ⟨gG, 1, none⟩ = some (.slice G1 q.1.b.length g1_) := (blk_cell bG 1).trans rfl
 have cG2 : w18.cell? ⟨gG, 2, none⟩ = some (.slice G2 q.1.c.length g2_) := (blk_cell bG 2).trans rfl
 go_wp2_with fail
 clear cG0 cG1 cG2
 refine (mark14 KN _ _ _ q.1.a q.1.b q.1.c y0 y1 y2 mg hmg.out w w18 kk tG dG.out).mono ?_
 rintro e w19 ⟨rfl, tG', hb6, hk⟩
 replace bA := blk_kept bA hk (tG.ne bA (by decide))
 replace bV := blk_kept bV hk (tG.ne bV (by decide))
 replace bX := blk_kept bX hk (tG.ne bX (by decide))
 replace bG := blk_kept bG hk (tG.ne bG (by decide))
 replace tV := tV.kept hk dVG.out
 replace kk := hb6
 clear hb6 hk
 clear tG
 have tG := tG'
 clear tG'
 have cG0 : w19.cell? ⟨gG, 0, none⟩ = some (.slice G0 q.1.a.length g0_) := (blk_cell bG 0).trans rfl
 have cG1 : w19.cell? ⟨gG, 1, none⟩ = some (.slice G1 q.1.b.length g1_) := (blk_cell bG 1).trans rfl
 have cG2 : w19.cell? ⟨gG, 2, none⟩ = some (.slice G2 q.1.c.length g2_) := (blk_cell bG 2).trans rfl
 go_wp2_with fail
 clear cG0 cG1 cG2
 refine (held15 KN _ _ _ y0 y1 y2 mg hhe.out _ w19 tG).mono ?_
 rintro e w20 ⟨rfl, hb5⟩
 replace bA := blk_below bA hb5
 replace bV := blk_below bV hb5
 replace bX := blk_below bX hb5
 replace bG := blk_below bG hb5
 replace tV := tV.below hb5
 replace tG := tG.below hb5
 replace kk := kk.trans (hb5.mono kk.size)
 clear hb5
 have cA0 : w20.cell? ⟨gA, 0, none⟩ = some (.slice A0 l0.length c0) := (blk_cell bA 0).trans rfl
 have cA1 : w20.cell? ⟨gA, 1, none⟩ = some (.slice A1 l1.length c1) := (blk_cell bA 1).trans rfl
 have cA2 : w20.cell? ⟨gA, 2, none⟩ = some (.slice A2 l2.length c2) := (blk_cell bA 2).trans rfl
 go_wp2_with fail
 clear cA0 cA1 cA2
 have tm := to18 KN A0 A1 A2 c0 c1 c2 l0 l1 l2 w20 (Kd.C_below hr0.out kk) hc0.out (Kd.C_below hr1.out kk) hc1.out (Kd.C_below hr2.out kk) hc2.out hto.out
 refine tm.mono ?_
 clear tm
 rintro e w21 ⟨T0, T1, T2, t0_, t1_, t2_, rfl, hM, hb5⟩
 have dT := Aside0.mk hM.2
 have tT := hM.1.lower kk.size
 clear hM
 replace bA := blk_below bA hb5
 replace bV := blk_below bV hb5
 replace bX := blk_below bX hb5
 replace bG := blk_below bG hb5
 replace tV := tV.below hb5
 replace tG := tG.below hb5
 replace kk := kk.trans (hb5.mono kk.size)
 clear hb5
 go_wp2_with fail
 refine (toI23 KN B cc l m w21 (Kd.C_below hrB.out kk) hcB.out hti.out).mono ?_
 rintro e w22 ⟨M, m_, rfl, hR, hb5⟩
 have rM := Kd.R_lower hR kk.size
 clear hR
 replace bA := blk_below bA hb5
 replace bV := blk_below bV hb5
 replace bX := blk_below bX hb5
 replace bG := blk_below bG hb5
 replace tV := tV.below hb5
 replace tG := tG.below hb5
 replace tT := tT.below hb5
 replace kk := kk.trans (hb5.mono kk.size)
 clear hb5
 go_wp2_with fail
 refine (codeRun_any T0 T1 T2 t0_ t1_ t2_ l0 l1 l2 M m_ m f w22 q (hE.out.below kk) (Kd.R_reads' tT.1).2.2 (Kd.R_reads' tT.2.1).2.2 (Kd.R_reads' tT.2.2).2.2 (Kd.R_reads' rM).2.2 (Kd.R_reads' rM).2.1 hq.out).mono ?_
 rintro e w23 ⟨z0, z1, z2, rfl, hY, hb5⟩
 have hM := M3.mk' hY.1 hY.2.1 hY.2.2
 clear hY
 obtain ⟨H0, H1, H2, h0_, h1_, h2_, rfl, rfl, rfl⟩ := hM.1.slices
 have dH := Aside0.mk hM.2
 have tH := hM.1.lower kk.size
 clear hM
 replace bA := blk_below bA hb5
 replace bV := blk_below bV hb5
 replace bX := blk_below bX hb5
 replace bG := blk_below bG hb5
 replace tV := tV.below hb5
 replace tG := tG.below hb5
 replace tT := tT.below hb5
 replace rM := Kd.R_below rM hb5
 replace kk := kk.trans (hb5.mono kk.size)
 clear hb5
 clear tT
 clear rM
 go_upto_region 32 with (fail)
 have hb5 : Below w23.heap.size w23 (w23.alloc (.cells #[.slice H0 q.1.a.length h0_, .slice H1 q.1.b.length h1_, .slice H2 q.1.c.length h2_] 33)) := below_alloc (Below.refl _ _) _
 have n5 := heap_alloc_new w23 (.cells #[.slice H0 q.1.a.length h0_, .slice H1 q.1.b.length h1_, .slice H2 q.1.c.length h2_] 33)
 replace bA := blk_below bA hb5
 replace bV := blk_below bV hb5
 replace bX := blk_below bX hb5
 replace bG := blk_below bG hb5
 replace tV := tV.below hb5
 replace tG := tG.below hb5
 replace tH := tH.below hb5
 replace kk := kk.trans (hb5.mono kk.size)
 clear hb5
 have bH := n5
 clear n5
 generalize w23.alloc (Obj.cells _ 33) = w24 at kk bH bA bV bX bG tV tG tH  ⊢
 obtain ⟨gH, hgH⟩ : ∃ g, w23.heap.size = g := ⟨_, rfl⟩
 rw [hgH] at bH ⊢
 clear hgH
 have cH0 : w24.cell? ⟨gH, 0, none⟩ = some (.slice H0 q.1.a.length h0_) := (blk_cell bH 0).trans rfl
 have cH1 : w24.cell? ⟨gH, 1, none⟩ = some (.slice H1 q.1.b.length h1_) := (blk_cell bH 1).trans rfl
 have cH2 : w24.cell? ⟨gH, 2, none⟩ = some (.slice H2 q.1.c.length h2_) := (blk_cell bH 2).trans rfl
 have cV0 : w24.cell? ⟨gV, 0, none⟩ = some (.slice V0 q.1.a.length v0_) := (blk_cell bV 0).trans rfl
 have cV1 : w24.cell? ⟨gV, 1, none⟩ = some (.slice V1 q.1.b.length v1_) := (blk_cell bV 1).trans rfl
 have cV2 : w24.cell? ⟨gV, 2, none⟩ = some (.slice V2 q.1.c.length v2_) := (blk_cell bV 2).trans rfl
 go_wp2_with fail
 clear cH0 cH1 cH2
 clear cV0 cV1 cV2
 refine (eq13 KN _ _ _ _ _ _ q.1.a q.1.b q.1.c heq.out _ _ w24 tH tV).mono ?_
 rintro e w25 ⟨rfl, hb5⟩
 replace bA := blk_below bA hb5
 replace bV := blk_below bV hb5
 replace bX := blk_below bX hb5
 replace bG := blk_below bG hb5
 replace bH := blk_below bH hb5
 replace tV := tV.below hb5
 replace tG := tG.below hb5
 replace tH := tH.below hb5
 replace kk := kk.trans (hb5.mono kk.size)
 clear hb5
 have cG0 : w25.cell? ⟨gG, 0, none⟩ = some (.slice G0 q.1.a.length g0_) := (blk_cell bG 0).trans rfl
 have cG1 : w25.cell? ⟨gG, 1, none⟩ = some (.slice G1 q.1.b.length g1_) := (blk_cell bG 1).trans rfl
 have cG2 : w25.cell? ⟨gG, 2, none⟩ = some (.slice G2 q.1.c.length g2_) := (blk_cell bG 2).trans rfl
 go_wp2_with fail
 clear cG0 cG1 cG2
 refine (held15 KN _ _ _ y0 y1 y2 mg hhe.out _ w25 tG).mono ?_
 rintro e w26 ⟨rfl, hb5⟩
 replace bA := blk_below bA hb5
 replace bV := blk_below bV hb5
 replace bX := blk_below bX hb5
 replace bG := blk_below bG hb5
 replace bH := blk_below bH hb5
 replace tV := tV.below hb5
 replace tG := tG.below hb5
 replace tH := tH.below hb5
 replace kk := kk.trans (hb5.mono kk.size)
 clear hb5
 go_wp2
 go_ret
 exact ⟨rfl, kk⟩
end Go.Proofs.YtjamfddhcigchaaGreatDoor.Eb
namespace Go.Proofs.YtjamfddhcigchaaGreatDoor.Ec
open Go.RowKit Go.ChangeShapes Go.Stop Go.Proofs.YtjamfddhcigchaaGreatDoor.Gm Go.Proofs.YtjamfddhcigchaaGreatDoor.Gn Go.Proofs.YtjamfddhcigchaaGreatDoor.Gz Go.Proofs.YtjamfddhcigchaaGreatDoor.Gq Go.Proofs.YtjamfddhcigchaaGreatDoor.Hj Go.Proofs.YtjamfddhcigchaaGreatDoor.Hm Go.Proofs.YtjamfddhcigchaaGreatDoor.Hn Go.Proofs.YtjamfddhcigchaaGreatDoor.Hq Go.Proofs.YtjamfddhcigchaaGreatDoor.Hu Go.Proofs.YtjamfddhcigchaaGreatDoor.Hv Go.Proofs.YtjamfddhcigchaaGreatDoor.Ho Go.Proofs.YtjamfddhcigchaaGreatDoor.Hc Go.Proofs.YtjamfddhcigchaaGreatDoor.Hp Go.Proofs.YtjamfddhcigchaaGreatDoor.Ea Go.Proofs.YtjamfddhcigchaaGreatDoor.Eb Go.Proofs.YtjamfddhcigchaaGreatDoor.HFnExactCodeRun Go.Proofs.YtjamfddhcigchaaGreatDoorW.PrintWords Go.Proofs.YtjamfddhcigchaaGreatDoorW.PrintLast Go.Proofs.YtjamfddhcigchaaGreatDoorW.PrintMore
set_option linter.unusedVariables false
set_option linter.unusedSimpArgs false
theorem runC_len {m : M3} {ps : List S30} {fuel : Int} {q : M3 × Int × Nat} (h : runC m ps fuel = some q) : q.1.a.length ≤ 6 ∧ q.1.b.length ≤ 6 ∧ q.1.c.length ≤ 6 := by
 unfold runC at h
 by_cases c : okM m.a m.b m.c = true ∧ okB ps = true ∧ 0 ≤ fuel ∧ fuel ≤ 100
 ·rw [if_pos c] at h
  have k := runI_keeps (P := fun m => m.a.length ≤ 6 ∧ m.b.length ≤ 6 ∧ m.c.length ≤ 6) (fun m k i n hm => ⟨by rw [show (m.put k i n).a = pT 1 m.a k i n from rfl, pT_len]; exact hm.1, by rw [show (m.put k i n).b = pT 2 m.b k i n from rfl, pT_len]; exact hm.2.1, by rw [show (m.put k i n).c = pT 3 m.c k i n from rfl, pT_len]; exact hm.2.2⟩) ps _ _ _ _ _ q (by obtain ⟨x, y, z⟩ := okM_len c.1; exact ⟨by show m.a.length ≤ 6; omega, by show m.b.length ≤ 6; omega, by show m.c.length ≤ 6; omega⟩) h
  exact k
 ·rw [if_neg c] at h
  obtain rfl := Option.some.inj h
  exact ⟨Nat.zero_le _, Nat.zero_le _, Nat.zero_le _⟩
theorem row170 (u : TypeId) (h : Tryz.prog.typeName? 3 u = some "*errors.errorString") : u = 170 :=
 typeName_ptr_named (nm := "errors.errorString") (by rw [show "*" ++ "errors.errorString" = "*errors.errorString" by decide]; kernel_rfl) (by kernel_rfl) (by decide) u (by rw [show "*" ++ "errors.errorString" = "*errors.errorString" by decide]; exact h)
theorem le_of {r : List (String × DataW Unit)} (W : World) (h : laidMet Tryz.prog (("loop.example/stopgate/impl.errLong", .iface "*errors.errorString" (.ptr (.agg [.lit (.string [116, 97, 107, 101, 115, 32, 116, 111, 111, 32, 108, 111, 110, 103])]))) :: r) W) : LE W := by
 have hg : Tryz.prog.globalNamed "loop.example/stopgate/impl.errLong" = some 0 := by kernel_rfl
 obtain ⟨a, s, hv, -⟩ := laid_sentinel h hg (show (Tryz.prog.globals[0]?).map (·.type) = some 72 by kernel_rfl) Tryz.underlying72 row170 Tryz.underlying170 Tryz.underlying195 rfl rfl Tryz.underlying9 (by kernel_rfl) (by kernel_rfl)
 exact ⟨a, by simpa using World.var?_cell hg hv 0⟩
set_option maxRecDepth 100000 in
theorem shortA (A0 A1 A2 : Option Addr) (c0 c1 c2 : Nat) (l0 l1 l2 : List Int) (B : Option Addr) (cc : Nat) (l : List S89) (f : Int) (r0 : Int) (w : World) (hr0 : Kd.C (Kd.int .i64) w A0 l0.length l0) (hc0 : l0.length ≤ c0) (hr1 : Kd.C (Kd.int .i64) w A1 l1.length l1) (hc1 : l1.length ≤ c1) (hr2 : Kd.C (Kd.int .i64) w A2 l2.length l2) (hc2 : l2.length ≤ c2) (hrB : Kd.C k89 w B l.length l) (hcB : l.length ≤ cc) (sz0 : laws_szMem.f l0 l1 l2 1048576 = some r0) (d0 : decide (r0 < 0) = true) :
  Calls Tryz.prog 5 #[.agg #[.slice A0 l0.length c0, .slice A1 l1.length c1, .slice A2 l2.length c2], .slice B l.length cc, .int .i64 f] w fun e w' => e = .returned (.bool true) ∧ Below w.heap.size w w' := by
 have hu44 := Tryz.underlying44
 have kk : Below w.heap.size w (w.alloc (.cells #[.slice A0 l0.length c0, .slice A1 l1.length c1, .slice A2 l2.length c2] 44)) := below_alloc (Below.refl _ _) _
 have sz := laws_szMem.calls A0 c0 l0 A1 c1 l1 A2 c2 l2 1048576 r0 _ (Kd.C_below hr0 kk) hc0 (Kd.C_below hr1 kk) hc1 (Kd.C_below hr2 kk) hc2 sz0
 clear hr0 hc0 hr1 hc1 hr2 hc2 hrB hcB sz0
 go_enter Tryz.func5, Tryz.ntmps5
 go_wp2_with fail
 refine sz.mono ?_
 rintro e w2 ⟨rfl, hb⟩
 replace kk := kk.trans (hb.mono kk.size)
 clear sz hb
 go_wp2
 go_ret
 exact ⟨rfl, kk⟩
set_option maxRecDepth 100000 in
theorem shortB (A0 A1 A2 : Option Addr) (c0 c1 c2 : Nat) (l0 l1 l2 : List Int) (B : Option Addr) (cc : Nat) (l : List S89) (f : Int) (r0 r1 : Int) (w : World) (hr0 : Kd.C (Kd.int .i64) w A0 l0.length l0) (hc0 : l0.length ≤ c0) (hr1 : Kd.C (Kd.int .i64) w A1 l1.length l1) (hc1 : l1.length ≤ c1) (hr2 : Kd.C (Kd.int .i64) w A2 l2.length l2) (hc2 : l2.length ≤ c2) (hrB : Kd.C k89 w B l.length l) (hcB : l.length ≤ cc) (sz0 : laws_szMem.f l0 l1 l2 1048576 = some r0) (d0 : decide (r0 < 0) = false) (sz1 : laws_szInsS.f l r0 = some r1) (d1 : decide (r1 < 0) = true) :
  Calls Tryz.prog 5 #[.agg #[.slice A0 l0.length c0, .slice A1 l1.length c1, .slice A2 l2.length c2], .slice B l.length cc, .int .i64 f] w fun e w' => e = .returned (.bool true) ∧ Below w.heap.size w w' := by
 have hu44 := Tryz.underlying44
 have kk : Below w.heap.size w (w.alloc (.cells #[.slice A0 l0.length c0, .slice A1 l1.length c1, .slice A2 l2.length c2] 44)) := below_alloc (Below.refl _ _) _
 have sz := laws_szMem.calls A0 c0 l0 A1 c1 l1 A2 c2 l2 1048576 r0 _ (Kd.C_below hr0 kk) hc0 (Kd.C_below hr1 kk) hc1 (Kd.C_below hr2 kk) hc2 sz0
 have sy := fun W (k : Below w.heap.size w W) => laws_szInsS.calls B cc l r0 r1 W (Kd.C_below hrB k) hcB sz1
 clear hr0 hc0 hr1 hc1 hr2 hc2 hrB hcB sz0 sz1
 go_enter Tryz.func5, Tryz.ntmps5
 go_wp2_with fail
 refine sz.mono ?_
 rintro e w2 ⟨rfl, hb⟩
 replace kk := kk.trans (hb.mono kk.size)
 clear sz hb
 go_wp2_with fail
 refine (sy _ kk).mono ?_
 rintro e w3 ⟨rfl, hd⟩
 have hb := hd.below
 replace kk := kk.trans (hb.mono kk.size)
 clear sy hb hd
 go_wp2
 go_ret
 exact ⟨rfl, kk⟩
theorem all (A0 A1 A2 : Option Addr) (c0 c1 c2 : Nat) (l0 l1 l2 : List Int) (B : Option Addr) (cc : Nat) (l : List S89) (f : Int) (w : World) (hr0 : Kd.C (Kd.int .i64) w A0 l0.length l0) (hc0 : l0.length ≤ c0) (hr1 : Kd.C (Kd.int .i64) w A1 l1.length l1) (hc1 : l1.length ≤ c1) (hr2 : Kd.C (Kd.int .i64) w A2 l2.length l2) (hc2 : l2.length ≤ c2) (hrB : Kd.C k89 w B l.length l) (hcB : l.length ≤ cc) (hE : LE w) :
  Calls Tryz.prog 5 #[.agg #[.slice A0 l0.length c0, .slice A1 l1.length c1, .slice A2 l2.length c2], .slice B l.length cc, .int .i64 f] w fun e w' => e = .returned (.bool true) ∧ Below w.heap.size w w' := by
 obtain ⟨r0, e0, b0⟩ := szMem_le l0 l1 l2 1048576 (by omega) (by omega) hr0.2.1 hr1.2.1 hr2.2.1
 by_cases c : r0 < 0
 ·exact shortA A0 A1 A2 c0 c1 c2 l0 l1 l2 B cc l f r0 w hr0 hc0 hr1 hc1 hr2 hc2 hrB hcB e0 (decide_eq_true c)
 obtain ⟨r1, e1⟩ := szInsS_some l r0
 by_cases d : r1 < 0
 ·exact shortB A0 A1 A2 c0 c1 c2 l0 l1 l2 B cc l f r0 r1 w hr0 hc0 hr1 hc1 hr2 hc2 hrB hcB e0 (decide_eq_false c) e1 (decide_eq_true d)
 have b1 := szInsS_le l r0 r1 (by omega) (by omega) hrB.2.1 e1
 have k0 : l0.length ≤ 1048576 := by omega
 have k1 : l1.length ≤ 1048576 := by omega
 have k2 : l2.length ≤ 1048576 := by omega
 have kl : l.length ≤ 1048576 := by omega
 have ki := toInsS_some l kl 5000000 (by omega)
 have km : (l.map cvIns).length ≤ 1048576 := by simpa using kl
 generalize l.map cvIns = m at ki km
 obtain ⟨q, hq⟩ := runC_total ⟨l0, l1, l2⟩ m f
 obtain ⟨n0, n1, n2⟩ := runC_len hq
 exact main A0 A1 A2 c0 c1 c2 l0 l1 l2 B cc l f m q r0 r1 _ _ _ _ _ _ _ _ 5000000 w ⟨hr0⟩ ⟨hc0⟩ ⟨hr1⟩ ⟨hc1⟩ ⟨hr2⟩ ⟨hc2⟩ ⟨hrB⟩ ⟨hcB⟩ ⟨hE⟩ ⟨e0⟩ (decide_eq_false c) ⟨e1⟩ (decide_eq_false d) ⟨toMem_some l0 l1 l2 k0 k1 k2⟩ ⟨ki⟩ ⟨km⟩ ⟨hq⟩
  ⟨eqMem_self _ _ _ (by omega) (by omega) (by omega)⟩ ⟨eqMem_self l0 l1 l2 k0 k1 k2⟩ ⟨eqInsS_self m km 5000000 (by omega)⟩ ⟨markMem_some l0 l1 l2 k0 k1 k2⟩ ⟨by omega, by omega⟩ (decide_eq_false (by omega))
  ⟨markMem_some _ _ _ (by omega) (by omega) (by omega)⟩ (decide_eq_false (by omega)) ⟨heldMem_some _ _ _ (by omega) (by omega) (by omega)⟩
end Go.Proofs.YtjamfddhcigchaaGreatDoor.Ec
namespace Go.Proofs.YtjamfddhcigchaaGreatDoor.fnExactCodeRun
open Go.ChangeShapes Go.WideShapes Go.ChangeAt Go.RowKit Go.Joins
open Go.ChangeMaps (open_string shut_string)
set_option linter.unusedVariables false
set_option linter.unusedSimpArgs false
theorem blk_same {w w' : World} {g : Nat} {o : Obj} (h : w.heap[g]? = some o) (k : Below w.heap.size w w') : w'.heap[g]? = some o := Go.Proofs.YtjamfddhcigchaaGreatDoorW.PrintWords.blk_below h k
theorem own : ownKnob Tryz.prog.godebug = none := by kernel_rfl
theorem laidOut : laidOutB Tryz.prog = true := by kernel_rfl
open HFnExactCodeRun Go.Proofs.YtjamfddhcigchaaGreatDoorW.PrintWords Go.Proofs.YtjamfddhcigchaaGreatDoorW.PrintLast
theorem slice_kd {H : Type} {enc : TypeId × Value → H} {P : Program} {w : World} {base : Nat} {spare : Nat → Bool} {held : Bool} {t e : TypeId} {α : Type} (d : Kd α) (ok : α → Prop) (d0 : α) (ht : P.underlying t = some (.slice e)) (hc : P.cellsOf e = d.sz)
    (hop : ∀ {n : Nat} {cs : List Value} {x : DataW H × List MemPlace}, DataW.trod enc P w base spare held n e cs = some x → ∃ a, d.K w a cs ∧ ok a)
    {fuel : Nat} {A : Option Addr} {len cap : Nat} {x : DataW H × List MemPlace} (h : DataW.trod enc P w base spare held fuel t [.slice A len cap] = some x) :
    ∃ l : List α, l.length = len ∧ len ≤ cap ∧ d.C w A len l ∧ ∀ a ∈ l, ok a := by
  rcases Go.Deep.open_slice ht h with ⟨hcs, _⟩ | ⟨a, len', cap', m, n, D, Pl, hcs, hb, hl, hcap, hm, hx, hel⟩
  · simp only [List.cons.injEq, Value.slice.injEq, and_true] at hcs
    obtain ⟨rfl, rfl, rfl⟩ := hcs
    exact ⟨[], rfl, Nat.le_refl _, ⟨rfl, by omega, fun h => absurd h (by omega)⟩, by simp⟩
  · simp only [List.cons.injEq, Value.slice.injEq, and_true] at hcs
    obtain ⟨rfl, rfl, rfl⟩ := hcs
    have hlm : len ≤ m := by rw [hm]; split <;> omega
    haveI : Inhabited α := ⟨d0⟩
    obtain ⟨f, hf⟩ := Go.Deep.choose_lt (n := len) (p := fun i (z : α) => ∃ cs', w.cells? base (a.add (i * P.cellsOf e)) (P.cellsOf e) = some cs' ∧ d.K w z cs' ∧ ok z) (fun i hi => by
      obtain ⟨cs', h1, h2⟩ := hel i (by omega)
      obtain ⟨z, hz, hz2⟩ := hop h2
      exact ⟨z, cs', h1, hz, hz2⟩)
    refine ⟨(List.range len).map f, by simp, hl, ⟨by simp, by unfold maxLen at hcap; omega, fun _ => ⟨a, rfl, fun j p hj => ?_⟩⟩, ?_⟩
    · have hjl : j < len := by
        have := (List.getElem?_eq_some_iff.1 hj).1; simpa using this
      have hp : p = f j := by
        rw [List.getElem?_map, List.getElem?_range hjl] at hj; simpa using hj.symm
      subst hp
      obtain ⟨cs', h1, h2, _⟩ := hf j hjl
      refine ⟨cs', d.K_len h2, h2, fun i u hu => ?_⟩
      have hs := World.cells?_some h1
      have hi : i < d.sz := by rw [← d.K_len h2]; exact (List.getElem?_eq_some_iff.1 hu).1
      have := hs.2.2 i (by rw [hc]; exact hi)
      rw [Go.Deep.add_add, hc] at this
      rw [this]; exact hu
    · intro z hz
      obtain ⟨i, hi, rfl⟩ := List.mem_map.1 hz
      exact (hf i (List.mem_range.1 hi)).choose_spec.2.2
theorem slice_any {H : Type} {enc : TypeId × Value → H} {P : Program} {w : World} {base : Nat} {spare : Nat → Bool} {held : Bool} {t e : TypeId} {α : Type} (d : Kd α) (ok : α → Prop) (d0 : α) (ht : P.underlying t = some (.slice e)) (hc : P.cellsOf e = d.sz)
    (hop : ∀ {n : Nat} {cs : List Value} {x : DataW H × List MemPlace}, DataW.trod enc P w base spare held n e cs = some x → ∃ a, d.K w a cs ∧ ok a)
    {fuel : Nat} {cs : List Value} {x : DataW H × List MemPlace} (h : DataW.trod enc P w base spare held fuel t cs = some x) :
    ∃ (A : Option Addr) (cap : Nat) (l : List α), cs = [.slice A l.length cap] ∧ l.length ≤ cap ∧ d.C w A l.length l ∧ ∀ a ∈ l, ok a := by
  have hs : ∃ A len cap, cs = [.slice A len cap] := by
    rcases Go.Deep.open_slice ht h with ⟨hcs, _⟩ | ⟨a, len', cap', m, n, D, Pl, hcs, _⟩
    · exact ⟨_, _, _, hcs⟩
    · exact ⟨_, _, _, hcs⟩
  obtain ⟨A, len, cap, rfl⟩ := hs
  obtain ⟨l, rfl, h1, h2, h3⟩ := slice_kd d ok d0 ht hc hop h
  exact ⟨A, cap, l, rfl, h1, h2, h3⟩
theorem len_2 {l : List Value} (h : l.length = 2) : ∃ c0 c1, l = [c0, c1] := by
  match l, h with
  | [c0, c1], _ => exact ⟨c0, c1, rfl⟩
theorem open_87 {H : Type} {enc : TypeId × Value → H} {w : World} {base : Nat} {spare : Nat → Bool} {held : Bool} {fuel : Nat} {cs : List Value} {x : DataW H × List MemPlace} (h : DataW.trod enc Tryz.prog w base spare held fuel 87 cs = some x) :
    ∃ (x0 : Int) (x1 : Int), cs = [.int .i64 x0, .int .i64 x1] ∧ True ∧ (Lit.int .i64 x0).wf = true ∧ (Lit.int .i64 x1).wf = true := by
  obtain ⟨xs, n, _, _, hl, hx, hf⟩ := DataW.trod_struct Tryz.underlying87 h
  have hl2 : cs.length = 2 := hl.trans (by kernel_rfl)
  replace hx : xs.length = 2 := hx.trans (by rfl)
  have s3 : Tryz.prog.cellsOf 3 = 1 := by kernel_rfl
  have g0 := hf 0 _ rfl
  have g1 := hf 1 _ rfl
  obtain ⟨c0, c1, rfl⟩ := len_2 hl2
  have e0 : ∃ y, xs[0]? = some y := ⟨xs[0]'(by omega), List.getElem?_eq_getElem _⟩
  obtain ⟨y0, e0⟩ := e0
  rw [e0] at g0
  have e1 : ∃ y, xs[1]? = some y := ⟨xs[1]'(by omega), List.getElem?_eq_getElem _⟩
  obtain ⟨y1, e1⟩ := e1
  rw [e1] at g1
  replace g0 : DataW.trod enc Tryz.prog w base spare held n 3 [c0] = some y0 := by
    have g := g0
    simp only [List.getElem_toArray, List.getElem_cons_zero, List.getElem_cons_succ, s3] at g
    exact g
  obtain ⟨z0, q0, _, hw0⟩ := DataW.trod_int Tryz.underlying3 g0
  simp only [List.cons.injEq, and_true] at q0
  obtain rfl := q0
  replace g1 : DataW.trod enc Tryz.prog w base spare held n 3 [c1] = some y1 := by
    have g := g1
    simp only [List.getElem_toArray, List.getElem_cons_zero, List.getElem_cons_succ, s3] at g
    exact g
  obtain ⟨z1, q1, _, hw1⟩ := DataW.trod_int Tryz.underlying3 g1
  simp only [List.cons.injEq, and_true] at q1
  obtain rfl := q1
  exact ⟨z0, z1, rfl, trivial, hw0, hw1⟩
theorem len_4 {l : List Value} (h : l.length = 4) : ∃ c0 c1 c2 c3, l = [c0, c1, c2, c3] := by
  match l, h with
  | [c0, c1, c2, c3], _ => exact ⟨c0, c1, c2, c3, rfl⟩
theorem open_89 {H : Type} {enc : TypeId × Value → H} {w : World} {base : Nat} {spare : Nat → Bool} {held : Bool} {fuel : Nat} {cs : List Value} {x : DataW H × List MemPlace} (h : DataW.trod enc Tryz.prog w base spare held fuel 89 cs = some x) :
    ∃ (x0 : Int) (x1 : Int) (x2 : Int) (x3 : Int), cs = [.int .i64 x0, .int .i64 x1, .int .i64 x2, .int .i64 x3] ∧ True ∧ (Lit.int .i64 x0).wf = true ∧ (Lit.int .i64 x1).wf = true ∧ (Lit.int .i64 x2).wf = true ∧ (Lit.int .i64 x3).wf = true := by
  obtain ⟨xs, n, _, _, hl, hx, hf⟩ := DataW.trod_struct Tryz.underlying89 h
  have hl2 : cs.length = 4 := hl.trans (by kernel_rfl)
  replace hx : xs.length = 3 := hx.trans (by rfl)
  have s3 : Tryz.prog.cellsOf 3 = 1 := by kernel_rfl
  have s87 : Tryz.prog.cellsOf 87 = 2 := by kernel_rfl
  have g0 := hf 0 _ rfl
  have g1 := hf 1 _ rfl
  have g2 := hf 2 _ rfl
  obtain ⟨c0, c1, c2, c3, rfl⟩ := len_4 hl2
  have e0 : ∃ y, xs[0]? = some y := ⟨xs[0]'(by omega), List.getElem?_eq_getElem _⟩
  obtain ⟨y0, e0⟩ := e0
  rw [e0] at g0
  have e1 : ∃ y, xs[1]? = some y := ⟨xs[1]'(by omega), List.getElem?_eq_getElem _⟩
  obtain ⟨y1, e1⟩ := e1
  rw [e1] at g1
  have e2 : ∃ y, xs[2]? = some y := ⟨xs[2]'(by omega), List.getElem?_eq_getElem _⟩
  obtain ⟨y2, e2⟩ := e2
  rw [e2] at g2
  replace g0 : DataW.trod enc Tryz.prog w base spare held n 3 [c0] = some y0 := by
    have g := g0
    simp only [List.getElem_toArray, List.getElem_cons_zero, List.getElem_cons_succ, s3] at g
    exact g
  obtain ⟨z0, q0, _, hw0⟩ := DataW.trod_int Tryz.underlying3 g0
  simp only [List.cons.injEq, and_true] at q0
  obtain rfl := q0
  replace g1 : DataW.trod enc Tryz.prog w base spare held n 3 [c1] = some y1 := by
    have g := g1
    simp only [List.getElem_toArray, List.getElem_cons_zero, List.getElem_cons_succ, s3] at g
    exact g
  obtain ⟨z1, q1, _, hw1⟩ := DataW.trod_int Tryz.underlying3 g1
  simp only [List.cons.injEq, and_true] at q1
  obtain rfl := q1
  replace g2 : DataW.trod enc Tryz.prog w base spare held n 87 [c2, c3] = some y2 := by
    have g := g2
    simp only [List.getElem_toArray, List.getElem_cons_zero, List.getElem_cons_succ, s87] at g
    exact g
  obtain ⟨z2_0, z2_1, q2, hw2⟩ := open_87 g2
  simp only [List.cons.injEq, and_true] at q2
  obtain ⟨rfl, rfl⟩ := q2
  exact ⟨z0, z1, z2_0, z2_1, rfl, trivial, hw0, hw1, hw2.2.1, hw2.2.2⟩
theorem lenOf_44 {l : List Value} (h : l.length = 3) : ∃ cc0 cc1 cc2, l = [cc0, cc1, cc2] := by
  match l, h with
  | [cc0, cc1, cc2], _ => exact ⟨cc0, cc1, cc2, rfl⟩
theorem open_44 {H : Type} {enc : TypeId × Value → H} {w : World} {base : Nat} {spare : Nat → Bool} {held : Bool} {fuel : Nat} {cs : List Value} {x : DataW H × List MemPlace} (h : DataW.trod enc Tryz.prog w base spare held fuel 44 cs = some x) :
    ∃ (A0 : Option Addr) (c0 : Nat) (l0 : List Int) (A1 : Option Addr) (c1 : Nat) (l1 : List Int) (A2 : Option Addr) (c2 : Nat) (l2 : List Int), cs = [.slice A0 l0.length c0, .slice A1 l1.length c1, .slice A2 l2.length c2] ∧ l0.length ≤ c0 ∧ (Kd.int .i64).C w A0 l0.length l0 ∧ (∀ z ∈ l0, (Lit.int .i64 z).wf = true) ∧ l1.length ≤ c1 ∧ (Kd.int .i64).C w A1 l1.length l1 ∧ (∀ z ∈ l1, (Lit.int .i64 z).wf = true) ∧ l2.length ≤ c2 ∧ (Kd.int .i64).C w A2 l2.length l2 ∧ (∀ z ∈ l2, (Lit.int .i64 z).wf = true) := by
  obtain ⟨xs, n, _, _, hl, hx, hf⟩ := DataW.trod_struct Tryz.underlying44 h
  have hl2 : cs.length = 3 := hl.trans (by kernel_rfl)
  replace hx : xs.length = 3 := hx.trans (by rfl)
  have s31 : Tryz.prog.cellsOf 31 = 1 := by kernel_rfl
  have g0 := hf 0 _ rfl
  have g1 := hf 1 _ rfl
  have g2 := hf 2 _ rfl
  obtain ⟨cc0, cc1, cc2, rfl⟩ := lenOf_44 hl2
  have e0 : ∃ y, xs[0]? = some y := ⟨xs[0]'(by omega), List.getElem?_eq_getElem _⟩
  obtain ⟨y0, e0⟩ := e0
  rw [e0] at g0
  have e1 : ∃ y, xs[1]? = some y := ⟨xs[1]'(by omega), List.getElem?_eq_getElem _⟩
  obtain ⟨y1, e1⟩ := e1
  rw [e1] at g1
  have e2 : ∃ y, xs[2]? = some y := ⟨xs[2]'(by omega), List.getElem?_eq_getElem _⟩
  obtain ⟨y2, e2⟩ := e2
  rw [e2] at g2
  replace g0 : DataW.trod enc Tryz.prog w base spare held n 31 [cc0] = some y0 := by
    have g := g0
    simp only [List.getElem_toArray, List.getElem_cons_zero, List.getElem_cons_succ, s31] at g
    exact g
  obtain ⟨B0, b0, m0, q0, hc0, hr0, hw0⟩ := slice_any (Kd.int .i64) (fun z => (Lit.int .i64 z).wf = true) (0 : Int) Tryz.underlying31 (by kernel_rfl) (fun h => by obtain ⟨z, rfl, _, hz⟩ := DataW.trod_int Tryz.underlying3 h; exact ⟨z, rfl, hz⟩) g0
  simp only [List.cons.injEq, and_true] at q0
  obtain rfl := q0
  replace g1 : DataW.trod enc Tryz.prog w base spare held n 31 [cc1] = some y1 := by
    have g := g1
    simp only [List.getElem_toArray, List.getElem_cons_zero, List.getElem_cons_succ, s31] at g
    exact g
  obtain ⟨B1, b1, m1, q1, hc1, hr1, hw1⟩ := slice_any (Kd.int .i64) (fun z => (Lit.int .i64 z).wf = true) (0 : Int) Tryz.underlying31 (by kernel_rfl) (fun h => by obtain ⟨z, rfl, _, hz⟩ := DataW.trod_int Tryz.underlying3 h; exact ⟨z, rfl, hz⟩) g1
  simp only [List.cons.injEq, and_true] at q1
  obtain rfl := q1
  replace g2 : DataW.trod enc Tryz.prog w base spare held n 31 [cc2] = some y2 := by
    have g := g2
    simp only [List.getElem_toArray, List.getElem_cons_zero, List.getElem_cons_succ, s31] at g
    exact g
  obtain ⟨B2, b2, m2, q2, hc2, hr2, hw2⟩ := slice_any (Kd.int .i64) (fun z => (Lit.int .i64 z).wf = true) (0 : Int) Tryz.underlying31 (by kernel_rfl) (fun h => by obtain ⟨z, rfl, _, hz⟩ := DataW.trod_int Tryz.underlying3 h; exact ⟨z, rfl, hz⟩) g2
  simp only [List.cons.injEq, and_true] at q2
  obtain rfl := q2
  exact ⟨B0, b0, m0, B1, b1, m1, B2, b2, m2, rfl, hc0, hr0, hw0, hc1, hr1, hw1, hc2, hr2, hw2⟩
set_option maxRecDepth 100000 in
theorem door_met (os : Os) (args : Array Value) : laidMetH Tryz.prog Rows.fnExactCodeRunRow.laid ((World.doorLaid Tryz.prog 400 os).forCall (fun _ _ => 0) ⟨#[], args, []⟩).memory :=
  laidMetH_of_parts3 (fuel := 8) (laidMet_of_run' 8 (by kernel_rfl) (by kernel_rfl)) (by kernel_rfl) (by kernel_rfl)
set_option maxRecDepth 100000 in
theorem lifted (os : Os) (started : os.Started) (H : Type) (enc : TypeId × Value → H) :
    ReturnsInHanded {} Tryz.checked os 5 .any (fun w args => (Rows.fnExactCodeRunSpec.pre enc Tryz.prog Tryz.f5 [] false w args ∧ laidMetH Tryz.prog Rows.fnExactCodeRunRow.laid w) ∧ sizedMet enc Tryz.prog Tryz.f5 (OpenSpec.ofChange Rows.fnExactCodeRunSpec) false w args) (Rows.fnExactCodeRunSpec.post enc Tryz.prog Tryz.f5 false true false false) := by
  refine returnsInHanded_of_change_and (C := Tryz.checked) (X := fun w _ => laidMetH Tryz.prog Rows.fnExactCodeRunRow.laid w) (fun _ _ _ hh h => h.of_heap hh) own started (by kernel_rfl) Tryz.func5
    (ChangeSpec.witness_shaped (enc := enc) (C := Tryz.checked) (os := os) (X := fun w _ => laidMetH Tryz.prog Rows.fnExactCodeRunRow.laid w) false (World.doorLaid Tryz.prog 400 os) #[.agg #[.slice none 0 0, .slice none 0 0, .slice none 0 0], .slice none 0 0, .int .i64 0] 8 rfl (World.shaped_of_RefB (by kernel_rfl) (by kernel_rfl)) (by kernel_rfl) (by kernel_rfl) (by kernel_rfl) (door_met os _)) ?_
  intro W base args ds gs before hval0 hW hcnd hsz0 hL _
  have hsz : (DataW.weightsEach Tryz.prog (Tryz.f5.params.toList ++ Rows.fnExactCodeRunSpec.plain.varTypes Tryz.prog) (ds ++ gs)).all (· ≤ reachBytes) = true := hsz0
  have hval : ∀ (j : Nat) t v, Tryz.f5.params[j]? = some t → args[j]? = some v → Value.okWide Tryz.prog W .any base t v := hval0
  have hW' := hW
  obtain ⟨p, q, hA0, hV, rfl, hfz, hnd⟩ := hW
  have hA : DataW.TrodAll enc Tryz.prog W 0 (fun _ => true) true Tryz.f5.params.toList args.toList ds p := hA0
  rw [Tryz.params5] at hA hval hsz
  obtain ⟨v0, vs0, d0, ds0, p0, q0, hargs, rfl, rfl, h0, r0⟩ := trodAll_cons hA
  obtain ⟨v1, vs1, d1, ds1, p1, q1, rfl, rfl, rfl, h1, r1⟩ := trodAll_cons r0
  obtain ⟨v2, vs2, d2, ds2, p2, q2, rfl, rfl, rfl, h2, r2⟩ := trodAll_cons r1
  obtain ⟨rfl, rfl, rfl⟩ := trodAll_nil r2
  obtain rfl : args = #[v0, v1, v2] := by cases args; simp_all
  have hV1 : DataW.TrodVars enc Tryz.prog W (fun _ => true) ["loop.example/stopgate/impl.errLong"] gs q := hV
  obtain ⟨gV, tV, csV, fuV, dV, pV, rfl, hgV, htV, hvarV, hdV, rfl⟩ := trodVars_one hV1
  obtain rfl : 0 = gV := Option.some.inj ((show Tryz.prog.globalNamed "loop.example/stopgate/impl.errLong" = some 0 by kernel_rfl).symm.trans hgV)
  obtain rfl : 72 = tV := Option.some.inj ((show (Tryz.prog.globals[0]?).map (·.type) = some 72 by kernel_rfl).symm.trans htV)
  obtain ⟨oldV, hcsV, hoV, hxV⟩ := held_of_trod_list Tryz.underlying72 hdV
  simp only [Prod.mk.injEq] at hxV
  obtain ⟨rfl, rfl⟩ := hxV
  obtain rfl : csV = #[oldV] := by cases csV; simp_all
  have hvars : ∀ (W' : World), Below W.heap.size W W' → ∀ sp : Nat → Bool, DataW.TrodVars enc Tryz.prog W' sp ["loop.example/stopgate/impl.errLong"] [tok enc oldV] (MemPlace.row ⟨0, 0, none⟩ (#[oldV] : Array Value).size ++ []) := fun W' bel sp => by
    refine trodVars_mk1 (enc := enc) (spare := sp) (fuel := 1) (d := tok enc oldV) (p := []) hgV htV ?_ (trod_held Tryz.underlying72 hoV 0)
    have hv := hvarV
    unfold World.var? at hv ⊢
    rw [hgV] at hv ⊢
    simp only [Option.bind_some] at hv ⊢
    cases hh : W.heap[0]? with
    | none => rw [hh] at hv; cases hv
    | some o => rw [blk_same hh bel, ← hh]; exact hv
  have k0 := h0
  have lt0 : ∀ x ∈ p0, x.block < W.heap.size := by obtain ⟨m, hm⟩ := k0; exact DataW.trod_lt m _ _ _ hm
  have k1 := h1
  have lt1 : ∀ x ∈ p1, x.block < W.heap.size := by obtain ⟨m, hm⟩ := k1; exact DataW.trod_lt m _ _ _ hm
  have k2 := h2
  have lt2 : ∀ x ∈ p2, x.block < W.heap.size := by obtain ⟨m, hm⟩ := k2; exact DataW.trod_lt m _ _ _ hm
  clear hA0 hval0 hsz0
  suffices hfin : Calls Tryz.prog 5 #[v0, v1, v2] W fun e w' => e = .returned (.bool true) ∧ Below W.heap.size W w' by
    refine hfin.mono fun e W' ⟨he, bel⟩ => ?_
    subst he
    exact ⟨_, rfl, _, _, _, [], _, _, hW', trodAll_mk1 (shut_bool Tryz.underlying4 _), (trodAll_cons_mk (Below.trod laidOut (by kernel_rfl) (of_decide_eq_true (by kernel_rfl)) k0 bel lt0) (trodAll_cons_mk (Below.trod laidOut (by kernel_rfl) (of_decide_eq_true (by kernel_rfl)) k1 bel lt1) (trodAll_cons_mk (Below.trod laidOut (by kernel_rfl) (of_decide_eq_true (by kernel_rfl)) k2 bel lt2) trodAll_mk0))), hvars _ bel _, bel.frame _, fun h => by cases h⟩
  obtain ⟨cs0, rfl, hz0⟩ := okWide_struct Tryz.underlying44 (hval 0 44 v0 rfl rfl)
  obtain ⟨fuel0, hf0⟩ := h0
  obtain ⟨A0_0, c0_0, l0_0, A0_1, c0_1, l0_1, A0_2, c0_2, l0_2, hcs0, hc0_0, hr0_0, hw0_0, hc0_1, hr0_1, hw0_1, hc0_2, hr0_2, hw0_2⟩ := open_44 hf0
  obtain rfl : cs0 = #[.slice A0_0 l0_0.length c0_0, .slice A0_1 l0_1.length c0_1, .slice A0_2 l0_2.length c0_2] := by cases cs0; exact congrArg Array.mk hcs0
  obtain ⟨A1, len1, cap1, rfl⟩ := okWide_slice Tryz.underlying45 (hval 1 45 v1 rfl rfl)
  obtain ⟨fuel1, hf1⟩ := h1
  obtain ⟨l1, rfl, hc1, hr1, _⟩ := slice_kd k89 (fun _ => True) z89 Tryz.underlying45 (by kernel_rfl) (fun h => by obtain ⟨x0, x1, x2, x3, rfl, _⟩ := open_89 h; exact ⟨⟨x0, x1, ⟨x2, x3⟩⟩, k89_mk W _, trivial⟩) (by simpa [Value.cells] using hf1)
  obtain ⟨a2, rfl, _, _, _⟩ := open_int Tryz.underlying3 (hval 2 3 v2 rfl rfl) h2
  have hL1 : laidMet Tryz.prog Rows.fnExactCodeRunRow.laid W := hL
  exact Ec.all _ _ _ _ _ _ l0_0 l0_1 l0_2 _ _ l1 a2 W hr0_0 hc0_0 hr0_1 hc0_1 hr0_2 hc0_2 hr1 hc1 (Ec.le_of (r := []) W hL1)
theorem over : Rows.fnExactCodeRunRow.holds Tryz.pinned (OpenSpec.ofChange Rows.fnExactCodeRunSpec) :=
  OpenClaim.holds_of_wide 5 Tryz.f5 rfl rfl rfl rfl rfl rfl rfl ⟨rfl, rfl, rfl, rfl, rfl⟩ rfl rfl rfl rfl rfl (by kernel_rfl) Tryz.func5 (by kernel_rfl)
    (of_decide_eq_true (by kernel_rfl)) (by unfold Func.isWrapper; first | (rw [if_pos (by decide +kernel)]; kernel_rfl) | (rw [if_neg (by decide +kernel)]; exact ⟨rfl, rfl⟩))
    (fun os started H enc _ => lifted os started H enc)
theorem card_holds : Rows.FnExactCodeRunCardSaid :=
  Claim7.holds_tied_plain_at .later [] [.sentinel] true (true, "8e2eed3da5832f03801593413d0d97074931c9fe972dc2260191ac3ee88f37b4") true
    over (fun _ h => by cases h) (by kernel_rfl) (fun _ h => by cases h) fnExactCodeRun_row_tie rfl ⟨rfl, rfl⟩ (by kernel_rfl) rfl
    (fun f fn hf hfn => by
      obtain rfl : f = 5 := Option.some.inj ((show Tryz.prog.funcNamed "loop.example/stopgate/laws.FnExactCodeRun" = some 5 by kernel_rfl).symm.trans hf) |>.symm
      obtain rfl : fn = Tryz.f5 := (Option.some.inj (Tryz.func5.symm.trans hfn)).symm
      exact ⟨by kernel_rfl, fun j t ht => by
        rw [Tryz.params5] at ht
        have hm : t ∈ [44, 45, 3] := by simpa using Array.mem_of_getElem? ht
        have hall : ([44, 45, 3].all fun u => !Tryz.prog.wantsStandIn u) = true := by kernel_rfl
        exact (show Tryz.prog.wantsStandIn t = false by simpa using List.all_eq_true.1 hall t hm)⟩)
    (by kernel_rfl)
end Go.Proofs.YtjamfddhcigchaaGreatDoor.fnExactCodeRun
namespace Go.Proofs.YtjamfddhcigchaaGreatDoor
theorem fnExactCodeRunCard_holds : Rows.FnExactCodeRunCardSaid := fnExactCodeRun.card_holds
#print axioms fnExactCodeRunCard_holds
end Go.Proofs.YtjamfddhcigchaaGreatDoor
