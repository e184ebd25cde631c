/- impl.NetOk, and the walk of the law FnExactNetOk: it returns true for every net. No condition. -/
import Derived.Test.YtphblfmjdiigkaaTFnExactNetOrderPFnExactNetOrderx3
import Derived.Test.YtphblfmjdiigkaaTFnExactNetOrderPFnExactNetOrderx6
import Derived.Test.YtphblfmjdiigkaaTFnExactNetOrderPFnExactNetOrderx10
import Derived.Test.YtphblfmjdiigkaaTFnExactNetOrderHn8
import Derived.Test.YtphblfmjdiigkaaTFnExactNetOrderHn7
import Derived.Test.YtphblfmjdiigkaaTFnExactNetOrderHn6
import Derived.Test.YtphblfmjdiigkaaTFnExactNetOrderHn5
import Derived.Test.YtphblfmjdiigkaaTFnExactNetOrderHn4
import Derived.Test.YtphblfmjdiigkaaTFnExactNetOrderHn3
import Derived.Test.YtphblfmjdiigkaaTFnExactNetOrderHn2
import Derived.Test.YtphblfmjdiigkaaTFnExactNetOrderHn1
import Derived.WalkLawsBesides
import Derived.WalkSpells
import Derived.Deep.RegionHeld
import Derived.Deep.DeepCutAuto
import Derived.Deep.CutBlock
namespace Go.Proofs.Ytphblfmjdiigkaa.Hn9
open Go.RowKit Go.Proofs.Ytphblfmjdiigkaa.Hn8 Go.Proofs.Ytphblfmjdiigkaa.Hn7 Go.Proofs.Ytphblfmjdiigkaa.Hn6 Go.Proofs.Ytphblfmjdiigkaa.Hn5 Go.Proofs.Ytphblfmjdiigkaa.Hn4 Go.Proofs.Ytphblfmjdiigkaa.Hn3 Go.Proofs.Ytphblfmjdiigkaa.Hn2 Go.Proofs.Ytphblfmjdiigkaa.Hn1 Go.Proofs.Ytphblfmjdiigkaa.PFnExactNetOrder Go.Proofs.YtphblfmjdiigkaaW.PrintWords Go.Proofs.YtphblfmjdiigkaaW.PrintLast Go.Proofs.YtphblfmjdiigkaaW.PrintMore
set_option linter.unusedVariables false
set_option linter.unusedSimpArgs false
attribute [local go_sem] max2_int min2_int max_two min_two
attribute [local go_sem high] eqA44
attribute [local go_sem high] eqA46
def cvWire (x : S74) : S48 := ⟨x.f0, x.f1, ⟨x.f2.f0, x.f2.f1, ⟨x.f2.f2.f0, x.f2.f2.f1⟩, x.f2.f3⟩, ⟨x.f3.f0, x.f3.f1, ⟨x.f3.f2.f0, x.f3.f2.f1⟩, x.f3.f3⟩⟩
theorem rd74 (l : List S74) (i : Nat) (h : i < l.length) : rd_T74 l (i : Int) = l[i] := by
  unfold rd_T74; rw [Int.toNat_natCast, List.getD_eq_getElem?_getD, List.getElem?_eq_getElem h]; rfl
theorem toWireS_loop (l : List S74) (hl : l.length ≤ 1048576) (d : Nat) : ∀ (k i : Nat) (x : List S48), i + d = l.length → x.length = l.length → x.take i = (l.take i).map cvWire → d < k →
    laws_toWireS.l0 k l x (i : Int) = some (l.map cvWire) := by
  induction d with
  | zero =>
    intro k i x hi hx ht hk
    obtain ⟨k, rfl⟩ : ∃ m, k = m + 1 := ⟨k - 1, by omega⟩
    simp only [laws_toWireS.l0]
    rw [if_neg (by omega)]
    have e1 : x.take i = x := List.take_of_length_le (by omega)
    have e2 : l.take i = l := List.take_of_length_le (by omega)
    rw [e1, e2] at ht; rw [ht]
  | succ d ih =>
    intro k i x hi hx ht hk
    obtain ⟨k, rfl⟩ : ∃ m, k = m + 1 := ⟨k - 1, by omega⟩
    simp only [laws_toWireS.l0]
    have hil : i < l.length := by omega
    rw [if_pos (by omega), if_pos (by omega), rd74 l i hil]
    simp only [laws_toWire.f, laws_toSrc.f, laws_toAddr.f, Option.bind_some]
    rw [if_pos (by omega), wrap_id (by omega) (by omega), Int.toNat_natCast]
    have := ih k (i + 1) (x.set i (cvWire l[i])) (by omega) (by simpa using hx) (by
      rw [List.take_succ_eq_append_getElem (by simpa using (by omega : i < x.length)), List.take_succ_eq_append_getElem hil, List.map_append, List.map_singleton, ← ht, List.take_set, List.set_eq_of_length_le (by simp; omega)]
      simp) (by omega)
    exact this
theorem toWireS_some (l : List S74) (hl : l.length ≤ 1048576) (k : Nat) (hk : l.length < k) : laws_toWireS.f k l = some (l.map cvWire) := by
  unfold laws_toWireS.f
  rw [if_pos (by omega), if_pos (by omega)]
  have := toWireS_loop l hl l.length k 0 (List.replicate ((l.length : Int)).toNat z48) (by omega) (by simp) (by simp) hk
  exact this
theorem eqWireS_loop (x : List S48) (hl : x.length ≤ 1048576) (d : Nat) : ∀ (k i : Nat), i + d = x.length → d < k → laws_eqWireS.l0 k x x (i : Int) = some true := by
  induction d with
  | zero =>
    intro k i hi hk
    obtain ⟨k, rfl⟩ : ∃ m, k = m + 1 := ⟨k - 1, by omega⟩
    simp only [laws_eqWireS.l0]
    rw [if_neg (by omega)]
  | succ d ih =>
    intro k i hi hk
    obtain ⟨k, rfl⟩ : ∃ m, k = m + 1 := ⟨k - 1, by omega⟩
    simp only [laws_eqWireS.l0]
    rw [if_pos (by omega), if_pos (by omega), if_pos (by omega)]
    simp only [laws_eqWire.f, laws_eqSrc.f, laws_eqAddr.f, if_true, bne_self_eq_false, Bool.false_eq_true, if_false, Option.bind_some]
    rw [wrap_id (by omega) (by omega)]
    exact ih k (i + 1) (by omega) (by omega)
theorem eqWireS_self (x : List S48) (hl : x.length ≤ 1048576) (k : Nat) (hk : x.length < k) : laws_eqWireS.f k x x = some true := by
  unfold laws_eqWireS.f
  rw [if_pos rfl]; exact eqWireS_loop x hl x.length k 0 (by omega) hk
theorem szWireS_le (l : List S74) (a r : Int) (ha : 0 ≤ a) (ha2 : a ≤ 1048576) (hl : l.length ≤ 9223372036854775807) (h : laws_szWireS.f l a = some r) : r < 0 ∨ (r = a - (l.length : Int) ∧ (l.length : Int) ≤ a) := by
  unfold laws_szWireS.f at h
  rw [wrap_id (by omega) (by omega)] at h
  split at h <;> simp only [Option.some.injEq] at h <;> omega
theorem szWireS_some (l : List S74) (a : Int) : ∃ r, laws_szWireS.f l a = some r := by
  unfold laws_szWireS.f; split <;> exact ⟨_, rfl⟩
def cvDrive (x : S77) : S62 := ⟨⟨x.f0.f0, x.f0.f1⟩, x.f1⟩
theorem rd77 (l : List S77) (i : Nat) (h : i < l.length) : rd_T77 l (i : Int) = l[i] := by
  unfold rd_T77; rw [Int.toNat_natCast, List.getD_eq_getElem?_getD, List.getElem?_eq_getElem h]; rfl
theorem toDriveS_loop (l : List S77) (hl : l.length ≤ 1048576) (d : Nat) : ∀ (k i : Nat) (x : List S62), i + d = l.length → x.length = l.length → x.take i = (l.take i).map cvDrive → d < k →
    laws_toDriveS.l0 k l x (i : Int) = some (l.map cvDrive) := by
  induction d with
  | zero =>
    intro k i x hi hx ht hk
    obtain ⟨k, rfl⟩ : ∃ m, k = m + 1 := ⟨k - 1, by omega⟩
    simp only [laws_toDriveS.l0]
    rw [if_neg (by omega)]
    have e1 : x.take i = x := List.take_of_length_le (by omega)
    have e2 : l.take i = l := List.take_of_length_le (by omega)
    rw [e1, e2] at ht; rw [ht]
  | succ d ih =>
    intro k i x hi hx ht hk
    obtain ⟨k, rfl⟩ : ∃ m, k = m + 1 := ⟨k - 1, by omega⟩
    simp only [laws_toDriveS.l0]
    have hil : i < l.length := by omega
    rw [if_pos (by omega), if_pos (by omega), rd77 l i hil]
    simp only [laws_toDrive.f, laws_toAddr.f, Option.bind_some]
    rw [if_pos (by omega), wrap_id (by omega) (by omega), Int.toNat_natCast]
    have := ih k (i + 1) (x.set i (cvDrive l[i])) (by omega) (by simpa using hx) (by
      rw [List.take_succ_eq_append_getElem (by simpa using (by omega : i < x.length)), List.take_succ_eq_append_getElem hil, List.map_append, List.map_singleton, ← ht, List.take_set, List.set_eq_of_length_le (by simp; omega)]
      simp) (by omega)
    exact this
theorem toDriveS_some (l : List S77) (hl : l.length ≤ 1048576) (k : Nat) (hk : l.length < k) : laws_toDriveS.f k l = some (l.map cvDrive) := by
  unfold laws_toDriveS.f
  rw [if_pos (by omega), if_pos (by omega)]
  have := toDriveS_loop l hl l.length k 0 (List.replicate ((l.length : Int)).toNat z62) (by omega) (by simp) (by simp) hk
  exact this
theorem eqDriveS_loop (x : List S62) (hl : x.length ≤ 1048576) (d : Nat) : ∀ (k i : Nat), i + d = x.length → d < k → laws_eqDriveS.l0 k x x (i : Int) = some true := by
  induction d with
  | zero =>
    intro k i hi hk
    obtain ⟨k, rfl⟩ : ∃ m, k = m + 1 := ⟨k - 1, by omega⟩
    simp only [laws_eqDriveS.l0]
    rw [if_neg (by omega)]
  | succ d ih =>
    intro k i hi hk
    obtain ⟨k, rfl⟩ : ∃ m, k = m + 1 := ⟨k - 1, by omega⟩
    simp only [laws_eqDriveS.l0]
    rw [if_pos (by omega), if_pos (by omega), if_pos (by omega)]
    simp only [laws_eqDrive.f, laws_eqAddr.f, if_true, bne_self_eq_false, Bool.false_eq_true, if_false, Option.bind_some]
    rw [wrap_id (by omega) (by omega)]
    exact ih k (i + 1) (by omega) (by omega)
theorem eqDriveS_self (x : List S62) (hl : x.length ≤ 1048576) (k : Nat) (hk : x.length < k) : laws_eqDriveS.f k x x = some true := by
  unfold laws_eqDriveS.f
  rw [if_pos rfl]; exact eqDriveS_loop x hl x.length k 0 (by omega) hk
theorem szDriveS_le (l : List S77) (a r : Int) (ha : 0 ≤ a) (ha2 : a ≤ 1048576) (hl : l.length ≤ 9223372036854775807) (h : laws_szDriveS.f l a = some r) : r < 0 ∨ (r = a - (l.length : Int) ∧ (l.length : Int) ≤ a) := by
  unfold laws_szDriveS.f at h
  rw [wrap_id (by omega) (by omega)] at h
  split at h <;> simp only [Option.some.injEq] at h <;> omega
theorem szDriveS_some (l : List S77) (a : Int) : ∃ r, laws_szDriveS.f l a = some r := by
  unfold laws_szDriveS.f; split <;> exact ⟨_, rfl⟩
theorem sz_le (l : List S74) (m : List S77) (a : Int) (ha : 0 ≤ a) (ha2 : a ≤ 1048576) (hl : l.length ≤ 9223372036854775807) (hm : m.length ≤ 9223372036854775807) : ∃ r, laws_szNet.f l m a = some r ∧ (r < 0 ∨ ((l.length : Int) ≤ a ∧ (m.length : Int) ≤ a ∧ r ≤ a)) := by
  unfold laws_szNet.f
  obtain ⟨r0, e0⟩ := szWireS_some l a
  rw [e0]; simp only [Option.bind_some]
  by_cases c0 : r0 < 0
  · rw [if_pos c0]; exact ⟨-1, rfl, Or.inl (by omega)⟩
  rw [if_neg c0]
  have b0 := szWireS_le l a r0 ha ha2 hl e0
  obtain ⟨r1, e1⟩ := szDriveS_some m r0
  rw [e1]; simp only [Option.bind_some]
  by_cases c1 : r1 < 0
  · rw [if_pos c1]; exact ⟨-1, rfl, Or.inl (by omega)⟩
  rw [if_neg c1]
  have b1 := szDriveS_le m r0 r1 (by omega) (by omega) hm e1
  exact ⟨r1, rfl, Or.inr (by omega)⟩
theorem toNet_some (l : List S74) (m : List S77) (hl : l.length ≤ 1048576) (hm : m.length ≤ 1048576) : laws_toNet.f 5000000 l m = some (l.map cvWire, m.map cvDrive) := by
  unfold laws_toNet.f
  rw [toWireS_some l hl _ (by omega), Option.bind_some, toDriveS_some m hm _ (by omega), Option.bind_some]
theorem eqNet_self (l : List S48) (m : List S62) (hl : l.length ≤ 1048576) (hm : m.length ≤ 1048576) : laws_eqNet.f 5000000 l m l m = some true := by
  unfold laws_eqNet.f
  rw [eqWireS_self l hl _ (by omega), Option.bind_some, if_pos rfl, eqDriveS_self m hm _ (by omega), Option.bind_some, if_pos rfl]
structure T25 (w : World) (g1 : Nat) (X : Array Value) (W : World) : Prop where
  h1 : W.heap[g1]? = some (.cells X 25 (0, 0))
  bel : Below w.heap.size w W
theorem T25.below {w W W' : World} {g1 : Nat} {X : Array Value} (h : T25 w g1 X W) (k : Below W.heap.size W W') : T25 w g1 X W' := ⟨blk_below h.h1 k, h.bel.trans (k.mono h.bel.size)⟩
structure E5 (w : World) (g1 g3 : Nat) (X : Array Value) (u : List S48) (v : List S62) (P3 P4 : Option Addr) (p3 p4 : Nat) (W : World) : Prop where
  e : T25 w g1 X W
  q3 : W.heap[g3]? = some (.cells #[.slice P3 u.length p3, .slice P4 v.length p4] 32 (0, 0))
  l3 : u.length ≤ p3
  l4 : v.length ≤ p4
  c3 : Kd.C k48 W P3 u.length u
  c4 : Kd.C k62 W P4 v.length v
end Go.Proofs.Ytphblfmjdiigkaa.Hn9
