/- The walk of the law FnExactNetText. Condition: the table of the powers of ten is laid (Tb). -/
import Derived.Test.YtphblfmjdiigkaaGreatDoorTFnExactNetTextHFnExactNetTextx13
import Derived.Test.YtphblfmjdiigkaaGreatDoorTFnExactNetTextHFnExactNetTextx12
import Derived.Test.YtphblfmjdiigkaaGreatDoorTFnExactNetTextHFnExactNetTextx10
import Derived.Test.YtphblfmjdiigkaaGreatDoorTFnExactNetTextHFnExactNetTextx3
import Derived.Test.YtphblfmjdiigkaaGreatDoorTFnExactNetTextHl5
import Derived.Test.YtphblfmjdiigkaaGreatDoorTFnExactNetTextHl4
import Derived.Test.YtphblfmjdiigkaaGreatDoorTFnExactNetTextHl3
import Derived.Test.YtphblfmjdiigkaaGreatDoorTFnExactNetTextHl2
import Derived.Test.YtphblfmjdiigkaaGreatDoorTFnExactNetTextHl1
import Derived.Test.YtphblfmjdiigkaaGreatDoorTFnExactNetTextHj9
import Derived.Test.YtphblfmjdiigkaaGreatDoorTFnExactNetTextHb
import Derived.Test.YtphblfmjdiigkaaGreatDoorTFnExactNetTextHFnExactNetTextx9
import Derived.WalkSmall
import Derived.WalkLawsBesides
import Derived.WalkSpells
import Derived.Deep.RegionHeld
import Derived.Deep.DeepCutAuto
import Derived.Deep.CutBlock
namespace Go.Proofs.YtphblfmjdiigkaaGreatDoor.Hl6
open Go.RowKit Go.Proofs.YtphblfmjdiigkaaGreatDoor.Hl5 Go.Proofs.YtphblfmjdiigkaaGreatDoor.Hl4 Go.Proofs.YtphblfmjdiigkaaGreatDoor.Hl3 Go.Proofs.YtphblfmjdiigkaaGreatDoor.Hl2 Go.Proofs.YtphblfmjdiigkaaGreatDoor.Hj9 Go.Proofs.YtphblfmjdiigkaaGreatDoor.Hj8 Go.Proofs.YtphblfmjdiigkaaGreatDoor.Hb Go.Proofs.YtphblfmjdiigkaaGreatDoor.Hj1 Go.Proofs.YtphblfmjdiigkaaGreatDoor.Hj2 Go.Proofs.YtphblfmjdiigkaaGreatDoor.Hj3 Go.Proofs.YtphblfmjdiigkaaGreatDoor.Hj4 Go.Proofs.YtphblfmjdiigkaaGreatDoor.Hj5 Go.Proofs.YtphblfmjdiigkaaGreatDoor.Hj6 Go.Proofs.YtphblfmjdiigkaaGreatDoor.Hj7 Go.Proofs.YtphblfmjdiigkaaGreatDoor.HFnExactNetText Go.Proofs.YtphblfmjdiigkaaGreatDoorW.PrintWords Go.Proofs.YtphblfmjdiigkaaGreatDoorW.PrintLast Go.Proofs.YtphblfmjdiigkaaGreatDoorW.PrintMore
set_option linter.unusedVariables false
set_option linter.unusedSimpArgs false
def cvWire (x : S83) : S43 := ⟨x.f0, x.f1, ⟨x.f2.f0, x.f2.f1, ⟨x.f2.f2.f0, x.f2.f2.f1⟩, x.f2.f3⟩, ⟨x.f3.f0, x.f3.f1, ⟨x.f3.f2.f0, x.f3.f2.f1⟩, x.f3.f3⟩⟩
theorem rd83 (l : List S83) (i : Nat) (h : i < l.length) : rd_T83 l (i : Int) = l[i] := by
  unfold rd_T83; rw [Int.toNat_natCast, List.getD_eq_getElem?_getD, List.getElem?_eq_getElem h]; rfl
theorem toWireS_loop (l : List S83) (hl : l.length ≤ 1048576) (d : Nat) : ∀ (k i : Nat) (x : List S43), i + d = l.length → x.length = l.length → x.take i = (l.take i).map cvWire → d < k →
    laws_toWireS.l0 k l x (i : Int) = some (l.map cvWire) := by
  induction d with
  | zero =>
    intro k i x hi hx ht hk
    obtain ⟨k, rfl⟩ : ∃ m, k = m + 1 := ⟨k - 1, by omega⟩
    simp only [laws_toWireS.l0]
    rw [if_neg (by omega)]
    have e1 : x.take i = x := List.take_of_length_le (by omega)
    have e2 : l.take i = l := List.take_of_length_le (by omega)
    rw [e1, e2] at ht; rw [ht]
  | succ d ih =>
    intro k i x hi hx ht hk
    obtain ⟨k, rfl⟩ : ∃ m, k = m + 1 := ⟨k - 1, by omega⟩
    simp only [laws_toWireS.l0]
    have hil : i < l.length := by omega
    rw [if_pos (by omega), if_pos (by omega), rd83 l i hil]
    simp only [laws_toWire.f, laws_toSrc.f, laws_toAddr.f, Option.bind_some]
    rw [if_pos (by omega), wrap_id (by omega) (by omega), Int.toNat_natCast]
    have := ih k (i + 1) (x.set i (cvWire l[i])) (by omega) (by simpa using hx) (by
      rw [List.take_succ_eq_append_getElem (by simpa using (by omega : i < x.length)), List.take_succ_eq_append_getElem hil, List.map_append, List.map_singleton, ← ht, List.take_set, List.set_eq_of_length_le (by simp; omega)]
      simp) (by omega)
    exact this
theorem toWireS_some (l : List S83) (hl : l.length ≤ 1048576) (k : Nat) (hk : l.length < k) : laws_toWireS.f k l = some (l.map cvWire) := by
  unfold laws_toWireS.f
  rw [if_pos (by omega), if_pos (by omega)]
  have := toWireS_loop l hl l.length k 0 (List.replicate ((l.length : Int)).toNat z43) (by omega) (by simp) (by simp) hk
  exact this
theorem eqWireS_loop (x : List S43) (hl : x.length ≤ 1048576) (d : Nat) : ∀ (k i : Nat), i + d = x.length → d < k → laws_eqWireS.l0 k x x (i : Int) = some true := by
  induction d with
  | zero =>
    intro k i hi hk
    obtain ⟨k, rfl⟩ : ∃ m, k = m + 1 := ⟨k - 1, by omega⟩
    simp only [laws_eqWireS.l0]
    rw [if_neg (by omega)]
  | succ d ih =>
    intro k i hi hk
    obtain ⟨k, rfl⟩ : ∃ m, k = m + 1 := ⟨k - 1, by omega⟩
    simp only [laws_eqWireS.l0]
    rw [if_pos (by omega), if_pos (by omega), if_pos (by omega)]
    simp only [laws_eqWire.f, laws_eqSrc.f, laws_eqAddr.f, if_true, bne_self_eq_false, Bool.false_eq_true, if_false, Option.bind_some]
    rw [wrap_id (by omega) (by omega)]
    exact ih k (i + 1) (by omega) (by omega)
theorem eqWireS_self (x : List S43) (hl : x.length ≤ 1048576) (k : Nat) (hk : x.length < k) : laws_eqWireS.f k x x = some true := by
  unfold laws_eqWireS.f
  rw [if_pos rfl]; exact eqWireS_loop x hl x.length k 0 (by omega) hk
theorem szWireS_le (l : List S83) (a r : Int) (ha : 0 ≤ a) (ha2 : a ≤ 1048576) (hl : l.length ≤ 9223372036854775807) (h : laws_szWireS.f l a = some r) : r < 0 ∨ (r = a - (l.length : Int) ∧ (l.length : Int) ≤ a) := by
  unfold laws_szWireS.f at h
  rw [wrap_id (by omega) (by omega)] at h
  split at h <;> simp only [Option.some.injEq] at h <;> omega
theorem szWireS_some (l : List S83) (a : Int) : ∃ r, laws_szWireS.f l a = some r := by
  unfold laws_szWireS.f; split <;> exact ⟨_, rfl⟩
def cvDrive (x : S86) : S66 := ⟨⟨x.f0.f0, x.f0.f1⟩, x.f1⟩
theorem rd86 (l : List S86) (i : Nat) (h : i < l.length) : rd_T86 l (i : Int) = l[i] := by
  unfold rd_T86; rw [Int.toNat_natCast, List.getD_eq_getElem?_getD, List.getElem?_eq_getElem h]; rfl
theorem toDriveS_loop (l : List S86) (hl : l.length ≤ 1048576) (d : Nat) : ∀ (k i : Nat) (x : List S66), i + d = l.length → x.length = l.length → x.take i = (l.take i).map cvDrive → d < k →
    laws_toDriveS.l0 k l x (i : Int) = some (l.map cvDrive) := by
  induction d with
  | zero =>
    intro k i x hi hx ht hk
    obtain ⟨k, rfl⟩ : ∃ m, k = m + 1 := ⟨k - 1, by omega⟩
    simp only [laws_toDriveS.l0]
    rw [if_neg (by omega)]
    have e1 : x.take i = x := List.take_of_length_le (by omega)
    have e2 : l.take i = l := List.take_of_length_le (by omega)
    rw [e1, e2] at ht; rw [ht]
  | succ d ih =>
    intro k i x hi hx ht hk
    obtain ⟨k, rfl⟩ : ∃ m, k = m + 1 := ⟨k - 1, by omega⟩
    simp only [laws_toDriveS.l0]
    have hil : i < l.length := by omega
    rw [if_pos (by omega), if_pos (by omega), rd86 l i hil]
    simp only [laws_toDrive.f, laws_toAddr.f, Option.bind_some]
    rw [if_pos (by omega), wrap_id (by omega) (by omega), Int.toNat_natCast]
    have := ih k (i + 1) (x.set i (cvDrive l[i])) (by omega) (by simpa using hx) (by
      rw [List.take_succ_eq_append_getElem (by simpa using (by omega : i < x.length)), List.take_succ_eq_append_getElem hil, List.map_append, List.map_singleton, ← ht, List.take_set, List.set_eq_of_length_le (by simp; omega)]
      simp) (by omega)
    exact this
theorem toDriveS_some (l : List S86) (hl : l.length ≤ 1048576) (k : Nat) (hk : l.length < k) : laws_toDriveS.f k l = some (l.map cvDrive) := by
  unfold laws_toDriveS.f
  rw [if_pos (by omega), if_pos (by omega)]
  have := toDriveS_loop l hl l.length k 0 (List.replicate ((l.length : Int)).toNat z66) (by omega) (by simp) (by simp) hk
  exact this
theorem eqDriveS_loop (x : List S66) (hl : x.length ≤ 1048576) (d : Nat) : ∀ (k i : Nat), i + d = x.length → d < k → laws_eqDriveS.l0 k x x (i : Int) = some true := by
  induction d with
  | zero =>
    intro k i hi hk
    obtain ⟨k, rfl⟩ : ∃ m, k = m + 1 := ⟨k - 1, by omega⟩
    simp only [laws_eqDriveS.l0]
    rw [if_neg (by omega)]
  | succ d ih =>
    intro k i hi hk
    obtain ⟨k, rfl⟩ : ∃ m, k = m + 1 := ⟨k - 1, by omega⟩
    simp only [laws_eqDriveS.l0]
    rw [if_pos (by omega), if_pos (by omega), if_pos (by omega)]
    simp only [laws_eqDrive.f, laws_eqAddr.f, if_true, bne_self_eq_false, Bool.false_eq_true, if_false, Option.bind_some]
    rw [wrap_id (by omega) (by omega)]
    exact ih k (i + 1) (by omega) (by omega)
theorem eqDriveS_self (x : List S66) (hl : x.length ≤ 1048576) (k : Nat) (hk : x.length < k) : laws_eqDriveS.f k x x = some true := by
  unfold laws_eqDriveS.f
  rw [if_pos rfl]; exact eqDriveS_loop x hl x.length k 0 (by omega) hk
theorem szDriveS_le (l : List S86) (a r : Int) (ha : 0 ≤ a) (ha2 : a ≤ 1048576) (hl : l.length ≤ 9223372036854775807) (h : laws_szDriveS.f l a = some r) : r < 0 ∨ (r = a - (l.length : Int) ∧ (l.length : Int) ≤ a) := by
  unfold laws_szDriveS.f at h
  rw [wrap_id (by omega) (by omega)] at h
  split at h <;> simp only [Option.some.injEq] at h <;> omega
theorem szDriveS_some (l : List S86) (a : Int) : ∃ r, laws_szDriveS.f l a = some r := by
  unfold laws_szDriveS.f; split <;> exact ⟨_, rfl⟩
theorem sz_le (l : List S83) (m : List S86) (a : Int) (ha : 0 ≤ a) (ha2 : a ≤ 1048576) (hl : l.length ≤ 9223372036854775807) (hm : m.length ≤ 9223372036854775807) : ∃ r, laws_szNet.f l m a = some r ∧ (r < 0 ∨ ((l.length : Int) ≤ a ∧ (m.length : Int) ≤ a ∧ r ≤ a)) := by
  unfold laws_szNet.f
  obtain ⟨r0, e0⟩ := szWireS_some l a
  rw [e0]; simp only [Option.bind_some]
  by_cases c0 : r0 < 0
  · rw [if_pos c0]; exact ⟨-1, rfl, Or.inl (by omega)⟩
  rw [if_neg c0]
  have b0 := szWireS_le l a r0 ha ha2 hl e0
  obtain ⟨r1, e1⟩ := szDriveS_some m r0
  rw [e1]; simp only [Option.bind_some]
  by_cases c1 : r1 < 0
  · rw [if_pos c1]; exact ⟨-1, rfl, Or.inl (by omega)⟩
  rw [if_neg c1]
  have b1 := szDriveS_le m r0 r1 (by omega) (by omega) hm e1
  exact ⟨r1, rfl, Or.inr (by omega)⟩
theorem toNet_some (l : List S83) (m : List S86) (hl : l.length ≤ 1048576) (hm : m.length ≤ 1048576) : laws_toNet.f 5000000 l m = some (l.map cvWire, m.map cvDrive) := by
  unfold laws_toNet.f
  rw [toWireS_some l hl _ (by omega), Option.bind_some, toDriveS_some m hm _ (by omega), Option.bind_some]
theorem eqNet_self (l : List S43) (m : List S66) (hl : l.length ≤ 1048576) (hm : m.length ≤ 1048576) : laws_eqNet.f 5000000 l m l m = some true := by
  unfold laws_eqNet.f
  rw [eqWireS_self l hl _ (by omega), Option.bind_some, if_pos rfl, eqDriveS_self m hm _ (by omega), Option.bind_some, if_pos rfl]
structure T25 (w : World) (g1 : Nat) (X : Array Value) (W : World) : Prop where
  h1 : W.heap[g1]? = some (.cells X 25 (0, 0))
  bel : Below w.heap.size w W
theorem T25.below {w W W' : World} {g1 : Nat} {X : Array Value} (h : T25 w g1 X W) (k : Below W.heap.size W W') : T25 w g1 X W' := ⟨blk_below h.h1 k, h.bel.trans (k.mono h.bel.size)⟩
structure E5 (w : World) (g1 g3 : Nat) (X : Array Value) (u : List S43) (v : List S66) (P3 P4 : Option Addr) (p3 p4 : Nat) (W : World) : Prop where
  e : T25 w g1 X W
  q3 : W.heap[g3]? = some (.cells #[.slice P3 u.length p3, .slice P4 v.length p4] 31 (0, 0))
  l3 : u.length ≤ p3
  l4 : v.length ≤ p4
  c3 : Kd.C k43 W P3 u.length u
  c4 : Kd.C k66 W P4 v.length v
theorem E5.below {w W W' : World} {g1 g3 : Nat} {X : Array Value} {u : List S43} {v : List S66} {P3 P4 : Option Addr} {p3 p4 : Nat} (h : E5 w g1 g3 X u v P3 P4 p3 p4 W) (k : Below W.heap.size W W') : E5 w g1 g3 X u v P3 P4 p3 p4 W' := ⟨h.e.below k, blk_below h.q3 k, h.l3, h.l4, Kd.C_below h.c3 k, Kd.C_below h.c4 k⟩
set_option maxRecDepth 100000 in
set_option maxHeartbeats 12800000 in
theorem walkText (l : List S83) (m : List S86) (A B : Option Addr) (c d : Nat) (w : World) (hc : l.length ≤ c) (hd : m.length ≤ d) (hC : Kd.C k83 w A l.length l) (hD : Kd.C k86 w B m.length m) (ht : Tb w) :
    Calls Tryz.prog 3 #[.agg #[.slice A l.length c, .slice B m.length d]] w fun e w' => e = .returned (.bool true) ∧ Below w.heap.size w w' := by
  have hT : T25 w w.heap.size #[.slice A l.length c, .slice B m.length d] (w.alloc (.cells #[.slice A l.length c, .slice B m.length d] 25)) := ⟨heap_alloc_new _ _, al w (.cells #[.slice A l.length c, .slice B m.length d] 25)⟩
  have hu25 := Tryz.underlying25
  have hu31 := Tryz.underlying31
  obtain ⟨r, er, br⟩ := sz_le l m 1048576 (by omega) (by omega) (Kd.C_max hC) (Kd.C_max hD)
  have sz := fun W (h : Below w.heap.size w W) => laws_szNet.calls A c l B d m 1048576 r W (Kd.C_below hC h) hc (Kd.C_below hD h) hd er
  have tx0 : l.length ≤ 1048576 → m.length ≤ 1048576 → ∀ W, Below w.heap.size w W → Calls Tryz.prog 8 #[.agg #[.slice A l.length c, .slice B m.length d]] W fun e w' => ∃ P1 p1 P2 p2, e = .returned (.agg #[.slice P1 (l.map cvWire).length p1, .slice P2 (m.map cvDrive).length p2]) ∧ (l.map cvWire).length ≤ p1 ∧ (m.map cvDrive).length ≤ p2 ∧ Kd.C k43 w' P1 (l.map cvWire).length (l.map cvWire) ∧ Kd.C k66 w' P2 (m.map cvDrive).length (m.map cvDrive) ∧ Below W.heap.size W w' := by
    intro h1 h2 W hb
    refine (laws_toNet.calls 5000000 A c l B d m (l.map cvWire) (m.map cvDrive) W (Kd.C_below hC hb) hc (Kd.C_below hD hb) hd (toNet_some l m h1 h2)).mono ?_
    rintro e w' ⟨v0, v1, rfl, hR0, hR1, hb'⟩
    obtain ⟨P1, p1, rfl, hl1, hC1⟩ := Kd.R_reads hR0
    obtain ⟨P2, p2, rfl, hl2, hC2⟩ := Kd.R_reads hR1
    exact ⟨P1, p1, P2, p2, rfl, hl1, hl2, hC1, hC2, hb'⟩
  clear er
  go_enter Tryz.func3, Tryz.ntmps3
  go_upto_region 2 with (fail)
  generalize (w.alloc (Obj.cells _ 25)) = w2 at hT ⊢
  obtain ⟨g1, hg1⟩ : ∃ g, w.heap.size = g := ⟨_, rfl⟩
  rw [hg1] at hT ⊢
  clear hg1
  have hB := hT.bel
  by_cases n1 : r < 0
  · have t1 : decide (r < 0) = true := decide_eq_true n1
    clear n1 br tx0 hC hD hc hd
    (obtain ⟨i0, i1⟩ := cells2 hT.h1)
    go_wp2_with fail
    refine (sz _ hB).mono ?_
    rintro e w3 ⟨rfl, hb⟩
    clear i0 i1 sz hT
    go_wp2
    go_ret
    exact ⟨rfl, hB.trans (hb.mono hB.size)⟩
  · have t1 : decide (r < 0) = false := decide_eq_false n1
    have hl1 : l.length ≤ 1048576 := by omega
    have hl2 : m.length ≤ 1048576 := by omega
    have tx := tx0 hl1 hl2
    have q1 : (l.map cvWire).length ≤ 1048576 := by simpa using hl1
    have q2 : (m.map cvDrive).length ≤ 1048576 := by simpa using hl2
    clear tx0 br n1 hC hD
    generalize l.map cvWire = u at tx q1
    generalize m.map cvDrive = v at tx q2
    have eqn := fun P1 P2 P3 P4 p1 p2 p3 p4 W h1 h2 h3 h4 h5 h6 h7 h8 => laws_eqNet.calls 5000000 P1 p1 u P2 p2 v P3 p3 u P4 p4 v true W h5 h1 h6 h2 h7 h3 h8 h4 (eqNet_self u v q1 q2)
    have sp := fun P1 P2 p1 p2 W h1 h2 h3 h4 => spec_NetText.calls 5000000 P1 p1 u P2 p2 v (netT u v) W h3 h1 h4 h2 (netTextT u v 5000000 (by omega))
    have ip := fun P1 P2 p1 p2 W h1 h2 h3 h4 h5 => netTextC u v P1 P2 p1 p2 W h1 h2 h3 h4 h5
    generalize netT u v = r2 at sp ip
    skip
    clear hl1 hl2 q1 q2 hc hd
    (obtain ⟨i0, i1⟩ := cells2 hT.h1)
    go_wp2_with fail
    refine (sz _ hB).mono ?_
    rintro e w3 ⟨rfl, hb⟩
    have hE := hT.below hb
    have hB3 := hE.bel
    clear i0 i1 sz hT hb hB
    (obtain ⟨i0, i1⟩ := cells2 hE.h1)
    go_wp2_with fail
    refine (tx _ hB3).mono ?_
    rintro e w4 ⟨P1, p1, P2, p2, rfl, h1, h2, h3, h4, hb⟩
    replace hE := hE.below hb
    clear i0 i1 hb hB3
    go_wp2_with fail
    refine (sp _ _ _ _ _ h1 h2 h3 h4).mono ?_
    rintro e w5 ⟨rfl, hb⟩
    replace hE := hE.below hb
    have hB5 := hE.bel
    clear h1 h2 h3 h4 hb sp
    (obtain ⟨i0, i1⟩ := cells2 hE.h1)
    go_wp2_with fail
    refine (tx _ hB5).mono ?_
    rintro e w6 ⟨P3, p3, P4, p4, rfl, l3, l4, c3, c4, hb⟩
    replace hE := hE.below hb
    clear i0 i1 hB5 hb
    go_upto_region 7 with (fail)
    have q3 := heap_alloc_new w6 (.cells #[.slice P3 u.length p3, .slice P4 v.length p4] 31)
    have hbq := al w6 (.cells #[.slice P3 u.length p3, .slice P4 v.length p4] 31)
    replace hE := hE.below hbq
    replace c3 := Kd.C_below c3 hbq
    replace c4 := Kd.C_below c4 hbq
    clear hbq
    generalize w6.alloc (Obj.cells _ 31) = w7 at hE c3 c4 q3 ⊢
    obtain ⟨g3, hg3⟩ : ∃ g, w6.heap.size = g := ⟨_, rfl⟩
    rw [hg3] at q3 ⊢
    clear hg3
    have hE5 : E5 w g1 g3 #[.slice A l.length c, .slice B m.length d] u v P3 P4 p3 p4 w7 := ⟨hE, q3, l3, l4, c3, c4⟩
    clear hE q3 c3 c4 l3 l4
    have h3 := hE5.c3
    have h4 := hE5.c4
    (obtain ⟨m0, m1⟩ := cells2 hE5.q3)
    go_wp2_with fail
    refine (ip _ _ _ _ _ hE5.l3 hE5.l4 h3 h4 (ht.at_ hE5.e.bel)).mono ?_
    rintro e w8 ⟨rfl, hb⟩
    replace hE5 := hE5.below hb
    clear m0 m1 h3 h4 hb ip
    go_upto_region 10 with (fail)
    have hE5d : E5 w g1 g3 #[.slice A l.length c, .slice B m.length d] u v P3 P4 p3 p4 w8.drew := hE5.below (below_drew1 (Below.refl _ _))
    clear hE5
    refine start_ (n := 5) (S := fun w' => w'.cell? ⟨g3, 0, none⟩ = some (.slice P3 u.length p3) ∧ w'.cell? ⟨g3, 1, none⟩ = some (.slice P4 v.length p4) ∧ w'.cell? ⟨g1, 0, none⟩ = some (.slice A l.length c) ∧ w'.cell? ⟨g1, 1, none⟩ = some (.slice B m.length d) ∧ E5 w g1 g3 #[.slice A l.length c, .slice B m.length d] u v P3 P4 p3 p4 w') (ds := []) #[false, false, false, false, false] (by kernel_rfl) rfl rfl ⟨(blk_cell hE5d.q3 0).trans rfl, (blk_cell hE5d.q3 1).trans rfl, (blk_cell hE5d.e.h1 0).trans rfl, (blk_cell hE5d.e.h1 1).trans rfl, hE5d⟩ (fun hHeld => ?_)
    refine take_ (i := 0) (N := some 22) (v := ?_) (a' := ?_) #[true, false, false, false, false] rfl rfl (by kernel_rfl) (fun _ _ _ h => h) (Or.inl ⟨by rfl, ?_⟩) hHeld ?_ ?_
    rotate_left
    · rintro w' ⟨s0, s1, s2, s3, s4⟩
      go_simp
      with_reducible rfl
    rotate_left
    · simp only [Act.put, List.setIfInBounds_toArray, List.set_cons_zero, List.set_cons_succ, i64_w, i32_w]
      rfl
    refine take_ (i := 1) (N := some 23) (v := ?_) (a' := ?_) #[true, true, false, false, false] rfl rfl (by kernel_rfl) (fun _ _ _ h => h) (Or.inl ⟨by rfl, ?_⟩) hHeld ?_ ?_
    rotate_left
    · rintro w' ⟨s0, s1, s2, s3, s4⟩
      go_simp
      with_reducible rfl
    rotate_left
    · simp only [Act.put, List.setIfInBounds_toArray, List.set_cons_zero, List.set_cons_succ, i64_w, i32_w]
      rfl
    refine one_ (i := 2) (N := some 24) #[true, true, true, false, false] rfl rfl (by kernel_rfl) (by decide) (fun K hK => ?_)
    refine goes_ Tryz.func8 (by kernel_rfl) rfl #[.agg #[.slice A l.length c, .slice B m.length d]] (by rfl) rfl rfl (by simp only [List.map_toArray, List.map_cons, List.map_nil]; rfl) ?_
    with_reducible refine (tx _ hHeld.2.2.2.2.e.bel).mono ?_
    rintro e wa ⟨P1, p1, P2, p2, rfl, hp1, hp2, hP1, hP2, hb1⟩
    refine ⟨_, rfl, ?_⟩
    have hb1E := E5.below hHeld.2.2.2.2 hb1
    refine hK.out _ _ ⟨(blk_cell hb1E.q3 0).trans rfl, (blk_cell hb1E.q3 1).trans rfl, (blk_cell hb1E.e.h1 0).trans rfl, (blk_cell hb1E.e.h1 1).trans rfl, hb1E⟩ (fun hHeld => ?_)
    clear hK K
    refine norm_ (a' := ?_) ?_ ?_
    rotate_left
    · show Act.put _ (some 24) _ = _
      simp only [Act.put, List.setIfInBounds_toArray, List.set_cons_zero, List.set_cons_succ, i64_w, i32_w]
      rfl
    refine one_ (i := 3) (N := some 25) #[true, true, true, true, false] rfl rfl (by kernel_rfl) (by decide) (fun K hK => ?_)
    refine goes_ Tryz.func10 (by kernel_rfl) rfl #[.agg #[.slice P3 u.length p3, .slice P4 v.length p4], .agg #[.slice P1 u.length p1, .slice P2 v.length p2]] (by rfl) rfl rfl (by simp only [List.map_toArray, List.map_cons, List.map_nil]; rfl) ?_
    with_reducible refine (eqn _ _ _ _ _ _ _ _ _ hb1E.l3 hb1E.l4 hp1 hp2 hb1E.c3 hb1E.c4 hP1 hP2).mono ?_
    rintro e wb ⟨rfl, hb3⟩
    refine ⟨_, rfl, ?_⟩
    have hb3E := E5.below hb1E hb3
    refine hK.out _ _ ⟨(blk_cell hb3E.q3 0).trans rfl, (blk_cell hb3E.q3 1).trans rfl, (blk_cell hb3E.e.h1 0).trans rfl, (blk_cell hb3E.e.h1 1).trans rfl, hb3E⟩ (fun hHeld => ?_)
    clear hK K
    refine norm_ (a' := ?_) ?_ ?_
    rotate_left
    · show Act.put _ (some 25) _ = _
      simp only [Act.put, List.setIfInBounds_toArray, List.set_cons_zero, List.set_cons_succ, i64_w, i32_w]
      rfl
    refine pure_ (i := 4) (N := some 26) (v := ?_) (a' := ?_) #[true, true, true, true, true] rfl rfl (by kernel_rfl) (fun _ _ _ h => h) (Or.inl ⟨by rfl, ?_⟩) ?_ ?_
    rotate_left
    · intro w'
      go_simp
      with_reducible rfl
    rotate_left
    · simp only [Act.put, List.setIfInBounds_toArray, List.set_cons_zero, List.set_cons_succ, i64_w, i32_w]
      rfl
    refine done_ (by kernel_rfl) ?_
    clear hE5d
    have hE5 := hHeld.2.2.2.2
    have hB := hE5.e.bel
    clear hHeld
    go_wp2
    go_ret
    exact ⟨rfl, hB⟩
end Go.Proofs.YtphblfmjdiigkaaGreatDoor.Hl6
