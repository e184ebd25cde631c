/- impl.NetOrder and laws.markNet by hand, and what FnExactNetOrder's printed callees answer. No condition. -/
import Derived.Test.YtphblfmjdiigkaaTFnExactNetOrderHn11s
import Derived.Test.YtphblfmjdiigkaaTFnExactNetOrderHn9
import Derived.WalkLawsBesides
import Derived.WalkSpells
import Derived.Deep.RegionHeld
import Derived.Deep.DeepCutAuto
import Derived.Deep.CutBlock
namespace Go.Proofs.Ytphblfmjdiigkaa.Hn12
open Go.RowKit Go.Proofs.Ytphblfmjdiigkaa.Hn10 Go.Proofs.Ytphblfmjdiigkaa.Hn11 Go.Proofs.Ytphblfmjdiigkaa.Hn8 Go.Proofs.Ytphblfmjdiigkaa.Hn7 Go.Proofs.Ytphblfmjdiigkaa.Hn6 Go.Proofs.Ytphblfmjdiigkaa.Hn5 Go.Proofs.Ytphblfmjdiigkaa.Hn4 Go.Proofs.Ytphblfmjdiigkaa.Hn9 Go.Proofs.Ytphblfmjdiigkaa.Hn1 Go.Proofs.Ytphblfmjdiigkaa.Hn2 Go.Proofs.Ytphblfmjdiigkaa.Hn3 Go.Proofs.Ytphblfmjdiigkaa.PFnExactNetOrder Go.Proofs.YtphblfmjdiigkaaW.PrintWords Go.Proofs.YtphblfmjdiigkaaW.PrintLast Go.Proofs.YtphblfmjdiigkaaW.PrintMore
set_option linter.unusedVariables false
set_option linter.unusedSimpArgs false
theorem rdI (l : List Int) (i : Nat) (h : i < l.length) : rd l (i : Int) = l[i] := by
  unfold rd; rw [Int.toNat_natCast, List.getD_eq_getElem?_getD, List.getElem?_eq_getElem h]; rfl
theorem eqIntS_loop (x : List Int) (hl : x.length ≤ 1048576) (d : Nat) : ∀ (k i : Nat), i + d = x.length → d < k → laws_eqIntS.l0 k x x (i : Int) = some true := by
  induction d with
  | zero =>
    intro k i hi hk
    obtain ⟨k, rfl⟩ : ∃ m, k = m + 1 := ⟨k - 1, by omega⟩
    simp only [laws_eqIntS.l0]
    rw [if_neg (by omega)]
  | succ d ih =>
    intro k i hi hk
    obtain ⟨k, rfl⟩ : ∃ m, k = m + 1 := ⟨k - 1, by omega⟩
    simp only [laws_eqIntS.l0]
    rw [if_pos (by omega), if_pos (by omega), if_pos (by omega)]
    simp only [if_true]
    rw [wrap_id (by omega) (by omega)]
    exact ih k (i + 1) (by omega) (by omega)
theorem eqIntS_self (x : List Int) (hl : x.length ≤ 1048576) (k : Nat) (hk : x.length < k) : laws_eqIntS.f k x x = some true := by
  unfold laws_eqIntS.f
  rw [if_pos rfl]; exact eqIntS_loop x hl x.length k 0 (by omega) hk
def up (a : Int) (n : Nat) : List Int := (List.range n).map (fun t : Nat => a + (t : Int))
theorem up_len (a : Int) (n : Nat) : (up a n).length = n := by simp [up]
theorem up_get (a : Int) (n i : Nat) (h : i < n) : rd (up a n) (i : Int) = a + i := by
  rw [rdI _ _ (by rw [up_len]; exact h)]; simp [up]
theorem mark_loop (a : Int) (n : Nat) (ha : 0 ≤ a) (ha2 : a ≤ 100000000) (hn : n ≤ 1048576) (d : Nat) : ∀ (k i : Nat) (x : List Int) (b : Int), i + d = n → x.length = n → x.take i = up a i → b = a + i → d < k → laws_markIntS.l0 k x b (i : Int) = some (a + n, up a n) := by
  induction d with
  | zero =>
    intro k i x b hi hx ht hb hk
    obtain ⟨k, rfl⟩ : ∃ m, k = m + 1 := ⟨k - 1, by omega⟩
    simp only [laws_markIntS.l0]
    rw [if_neg (by omega)]
    have e1 : x.take i = x := List.take_of_length_le (by omega)
    have e2 : i = n := by omega
    rw [e1] at ht
    rw [hb, ht, e2]
  | succ d ih =>
    intro k i x b hi hx ht hb hk
    obtain ⟨k, rfl⟩ : ∃ m, k = m + 1 := ⟨k - 1, by omega⟩
    simp only [laws_markIntS.l0]
    rw [if_pos (by omega), if_pos (by omega), wrap_id (by omega) (by omega), wrap_id (by omega) (by omega), Int.toNat_natCast]
    have hil : i < x.length := by omega
    have := ih k (i + 1) (x.set i b) (b + 1) (by omega) (by simpa using hx) (by
      rw [List.take_succ_eq_append_getElem (by simpa using hil), List.take_set, List.set_eq_of_length_le (by simp; omega), ht]
      simp [up, List.range_succ, hb]) (by omega) (by omega)
    exact this
theorem mark_some (l : List Int) (a : Int) (ha : 0 ≤ a) (ha2 : a ≤ 100000000) (hl : l.length ≤ 1048576) (k : Nat) (hk : l.length < k) : laws_markIntS.f k l a = some (a + l.length, up a l.length) := by
  unfold laws_markIntS.f
  exact mark_loop a l.length ha ha2 hl l.length k 0 l a (by omega) rfl (by simp [up]) (by simp) hk
theorem held_loop (a : Int) (n : Nat) (ha : 0 ≤ a) (ha2 : a ≤ 100000000) (hn : n ≤ 1048576) (d : Nat) : ∀ (k i : Nat) (b : Int), i + d = n → b = a + i → d < k → laws_heldIntS.l0 k (up a n) b (i : Int) = some (a + n) := by
  induction d with
  | zero =>
    intro k i b hi hb hk
    obtain ⟨k, rfl⟩ : ∃ m, k = m + 1 := ⟨k - 1, by omega⟩
    simp only [laws_heldIntS.l0]
    rw [up_len, if_neg (by omega), hb]
    have e2 : i = n := by omega
    rw [e2]
  | succ d ih =>
    intro k i b hi hb hk
    obtain ⟨k, rfl⟩ : ∃ m, k = m + 1 := ⟨k - 1, by omega⟩
    simp only [laws_heldIntS.l0]
    rw [up_len, if_pos (by omega), if_pos (by omega), up_get a n i (by omega), if_pos hb.symm, wrap_id (by omega) (by omega), wrap_id (by omega) (by omega)]
    exact ih k (i + 1) (b + 1) (by omega) (by omega) (by omega)
theorem held_some (a : Int) (n : Nat) (ha : 0 ≤ a) (ha2 : a ≤ 100000000) (hn : n ≤ 1048576) (k : Nat) (hk : n < k) : laws_heldIntS.f k (up a n) a = some (a + n) := by
  unfold laws_heldIntS.f
  exact held_loop a n ha ha2 hn n k 0 a (by omega) (by simp) hk
def ordN (u : List S48) (v : List S62) : List Int := if nOk u v = true then orD u else []
theorem ordR_len (l : List S48) : ∀ (f : Nat) (told : List Bool) (out : List Int), (ordR l f told out).length ≤ out.length + f
  | 0, _, out => Nat.le_refl _
  | f + 1, told, out => by
    rw [ordR]
    cases pk l told l.length 0 with
    | none => simp
    | some i =>
      have := ordR_len l f (told.set i true) (out ++ [(i : Int)])
      simp only [List.length_append, List.length_singleton] at this
      show (ordR l f (told.set i true) (out ++ [(i : Int)])).length ≤ _
      omega
theorem nOk_h8 {u : List S48} {v : List S62} (h : nOk u v = true) : u.length ≤ 8 ∧ okW u := by
  unfold nOk at h
  simp only [Bool.and_eq_true, decide_eq_true_eq] at h
  exact ⟨h.1, okW_of u h.2.2.1⟩
theorem ordN_len (u : List S48) (v : List S62) : (ordN u v).length ≤ 1048576 := by
  unfold ordN
  by_cases h : nOk u v = true
  · rw [if_pos h]
    have := ordR_len u u.length (List.replicate u.length false) []
    have h8 := (nOk_h8 h).1
    unfold orD
    simp only [List.length_nil] at this
    omega
  · rw [if_neg h]; simp
theorem specOrd (u : List S48) (v : List S62) : spec_NetOrder.f 5000000 u v = some (ordN u v) := by
  unfold spec_NetOrder.f ordN
  rw [netOkT u v 5000000 (by omega), Option.bind_some]
  by_cases h : nOk u v = true
  · rw [if_pos h, if_pos h, spec_orderS u (nOk_h8 h).2 (nOk_h8 h).1 5000000 (by omega), Option.bind_some]
  · rw [if_neg h, if_neg h]
set_option maxRecDepth 100000 in
/-- impl.NetOrder answers the same. -/
theorem implOrder (l : List S48) (m : List S62) (A B : Option Addr) (c d : Nat) (w : World) (hc : l.length ≤ c) (hd : m.length ≤ d) (hC : Kd.C k48 w A l.length l) (hD : Kd.C k62 w B m.length m) :
    Calls Try.prog 9 #[.agg #[.slice A l.length c, .slice B m.length d]] w fun e w' => ∃ v0 : Value, e = .returned v0 ∧ Kd.R (Kd.int .i64) 3 w' w.heap.size (fun _ => True) v0 (ordN l m) ∧ Below w.heap.size w w' := by
  have hu32 := Try.underlying32
  have hb1 := al w (.cells #[.slice A l.length c, .slice B m.length d] 32)
  have hg1 : (w.alloc (.cells #[.slice A l.length c, .slice B m.length d] 32)).heap[w.heap.size]? = some (.cells #[.slice A l.length c, .slice B m.length d] 32 (0, 0)) := heap_alloc_new _ _
  have hn := fun W (h : Below w.heap.size w W) => netOkC l m A B c d W hc hd (Kd.C_below hC h) (Kd.C_below hD h)
  have i0 : (w.alloc (.cells #[.slice A l.length c, .slice B m.length d] 32)).cell? ⟨w.heap.size, 0, none⟩ = some (.slice A l.length c) := (blk_cell hg1 0).trans rfl
  have i1 : (w.alloc (.cells #[.slice A l.length c, .slice B m.length d] 32)).cell? ⟨w.heap.size, 1, none⟩ = some (.slice B m.length d) := (blk_cell hg1 1).trans rfl
  cases hr : nOk l m with
  | false =>
    have e : ordN l m = [] := by unfold ordN; rw [hr]; rfl
    rw [e]
    rw [hr] at hn
    clear hg1 hC hD hr e
    go_enter Try.func9, Try.ntmps9
    go_wp2_with fail
    refine (hn _ hb1).mono ?_
    rintro e w2 ⟨rfl, hb⟩
    clear hn i0 i1
    go_wp2
    go_ret
    exact ⟨_, rfl, Kd.R_nil _ _ _ _ _, hb1.trans (hb.mono hb1.size)⟩
  | true =>
    have e : ordN l m = orD l := by unfold ordN; rw [hr]; rfl
    rw [e]
    obtain ⟨h8, hw⟩ := nOk_h8 hr
    have ho := fun W (h : Below w.heap.size w W) => impl_Net_order.calls 900 A c l B d m (orD l) W (Kd.C_below hC h) hc (Kd.C_below hD h) hd (impl_orderS l m hw h8 900 (Nat.le_refl _))
    rw [hr] at hn
    clear hC hD hr e hw h8
    go_enter Try.func9, Try.ntmps9
    go_wp2_with fail
    refine (hn _ hb1).mono ?_
    rintro e w2 ⟨rfl, hb⟩
    have hg2 := blk_below hg1 hb
    have hb2 := hb1.trans (hb.mono hb1.size)
    clear hn i0 i1 hb hg1
    have i0 : w2.cell? ⟨w.heap.size, 0, none⟩ = some (.slice A l.length c) := (blk_cell hg2 0).trans rfl
    have i1 : w2.cell? ⟨w.heap.size, 1, none⟩ = some (.slice B m.length d) := (blk_cell hg2 1).trans rfl
    clear hg2
    go_wp2_with fail
    refine (ho _ hb2).mono ?_
    rintro e w3 ⟨v0, rfl, hR, hb3⟩
    have hs := hb2.size
    clear ho i0 i1
    go_wp2
    go_ret
    exact ⟨_, rfl, Kd.R_lower hR hs, hb2.trans (hb3.mono hb2.size)⟩
set_option maxRecDepth 100000 in
theorem mark27z (A : Option Addr) (c : Nat) (a : Int) (w : World) : Calls Try.prog 27 #[.slice A 0 c, .int .i64 a] w fun e w' => e = .returned (.int .i64 a) ∧ Below w.heap.size w w' := by
  go_enter Try.func27, Try.ntmps27
  go_wp2
  go_loopw [1, 5] (fun v i wr => v = .int .i64 a ∧ i = .int .i64 0 ∧ Below w.heap.size w wr) (fun v i _ => 0)
  case atStart => exact ⟨rfl, rfl, Below.refl _ _⟩
  case round =>
    obtain ⟨rfl, rfl, hb⟩ := hrel
    go_wp2
    go_ret
    exact ⟨rfl, hb⟩
set_option maxRecDepth 100000 in
theorem mark28z (A : Option Addr) (c : Nat) (a : Int) (w : World) : Calls Try.prog 28 #[.slice A 0 c, .int .i64 a] w fun e w' => e = .returned (.int .i64 a) ∧ Below w.heap.size w w' := by
  go_enter Try.func28, Try.ntmps28
  go_wp2
  go_loopw [1, 5] (fun v i wr => v = .int .i64 a ∧ i = .int .i64 0 ∧ Below w.heap.size w wr) (fun v i _ => 0)
  case atStart => exact ⟨rfl, rfl, Below.refl _ _⟩
  case round =>
    obtain ⟨rfl, rfl, hb⟩ := hrel
    go_wp2
    go_ret
    exact ⟨rfl, hb⟩
theorem U27 (l : List S48) (v : Value) (a : Nat) (ok : Nat → Prop) (w0 w : World) (hB : Below w0.heap.size w0 w) (hR : Kd.R k48 48 w w0.heap.size ok v l) (hl : l.length ≤ 1048576) (ha : a ≤ 100000000) :
    Calls Try.prog 27 #[v, .int .i64 (a : Int)] w fun e w' => e = .returned (.int .i64 ((a + 12 * l.length : Nat) : Int)) ∧ Kept w w' (fun k => v.ownBlock = some k) ∧ Below w0.heap.size w0 w' := by
  by_cases h0 : 0 < l.length
  · obtain ⟨g, cp, rfl, hg, hg2, cs, hcs⟩ := Kd.R_form hR h0
    obtain ⟨A', c', hv, hlc, hC⟩ := Kd.R_reads hR
    obtain ⟨ad, hA, e0, e1, e2, e3, e4, e5, e6, e7, e8, e9, e10, e11⟩ := at_T48 hC ((l.length - 1 : Nat) : Int) (by omega) (by omega)
    injection hv with hv1 _ _
    rw [← hv1] at hA
    injection hA with hA
    subst hA
    have hsz : l.length * 12 ≤ cs.size := by
      have h := e11
      rw [show (⟨((⟨g, 0, none⟩ : Addr).add (((l.length - 1 : Nat) : Int).toNat * 12)).block, ((⟨g, 0, none⟩ : Addr).add (((l.length - 1 : Nat) : Int).toNat * 12)).off + 11, none⟩ : Addr) = ⟨g, (l.length - 1) * 12 + 11, none⟩ by simp only [Addr.add, Int.toNat_natCast]; split <;> simp_all, blk_cell hcs] at h
      have := (Array.getElem?_eq_some_iff.1 h).1
      omega
    have hM : Mk w0 w g cs.size 48 w := ⟨⟨cs, hcs, rfl⟩, Kept.refl _ _, hB⟩
    refine (mark27 l.length cp g cs.size _ a w0 w hM hg hsz hl ha (fun _ => rfl)).mono ?_
    rintro e w' ⟨rfl, hM'⟩
    exact ⟨rfl, hM'.kp.mono (fun k hk => by simp [Value.ownBlock, hk]), hM'.bl⟩
  · obtain ⟨A, c, rfl, _, _⟩ := Kd.R_reads hR
    have e : l.length = 0 := by omega
    rw [e]
    refine (mark27z A c a w).mono ?_
    rintro e w' ⟨rfl, hb⟩
    exact ⟨by simp, Kept.of_below hb _, hB.trans (hb.mono hB.size)⟩
theorem U28 (l : List S62) (v : Value) (a : Nat) (ok : Nat → Prop) (w0 w : World) (hB : Below w0.heap.size w0 w) (hR : Kd.R k62 62 w w0.heap.size ok v l) (hl : l.length ≤ 1048576) (ha : a ≤ 100000000) :
    Calls Try.prog 28 #[v, .int .i64 (a : Int)] w fun e w' => e = .returned (.int .i64 ((a + 3 * l.length : Nat) : Int)) ∧ Kept w w' (fun k => v.ownBlock = some k) ∧ Below w0.heap.size w0 w' := by
  by_cases h0 : 0 < l.length
  · obtain ⟨g, cp, rfl, hg, hg2, cs, hcs⟩ := Kd.R_form hR h0
    obtain ⟨A', c', hv, hlc, hC⟩ := Kd.R_reads hR
    obtain ⟨ad, hA, e0, e1, e2⟩ := at_T62 hC ((l.length - 1 : Nat) : Int) (by omega) (by omega)
    injection hv with hv1 _ _
    rw [← hv1] at hA
    injection hA with hA
    subst hA
    have hsz : l.length * 3 ≤ cs.size := by
      have h := e2
      rw [show (⟨((⟨g, 0, none⟩ : Addr).add (((l.length - 1 : Nat) : Int).toNat * 3)).block, ((⟨g, 0, none⟩ : Addr).add (((l.length - 1 : Nat) : Int).toNat * 3)).off + 2, none⟩ : Addr) = ⟨g, (l.length - 1) * 3 + 2, none⟩ by simp only [Addr.add, Int.toNat_natCast]; split <;> simp_all, blk_cell hcs] at h
      have := (Array.getElem?_eq_some_iff.1 h).1
      omega
    have hM : Mk w0 w g cs.size 62 w := ⟨⟨cs, hcs, rfl⟩, Kept.refl _ _, hB⟩
    refine (mark28 l.length cp g cs.size _ a w0 w hM hg hsz hl ha (fun _ => rfl)).mono ?_
    rintro e w' ⟨rfl, hM'⟩
    exact ⟨rfl, hM'.kp.mono (fun k hk => by simp [Value.ownBlock, hk]), hM'.bl⟩
  · obtain ⟨A, c, rfl, _, _⟩ := Kd.R_reads hR
    have e : l.length = 0 := by omega
    rw [e]
    refine (mark28z A c a w).mono ?_
    rintro e w' ⟨rfl, hb⟩
    exact ⟨by simp, Kept.of_below hb _, hB.trans (hb.mono hB.size)⟩
theorem E62 : k62.E = [] := rfl
theorem E48 : k48.E = [] := rfl
theorem own_ty {α : Type} {d : Kd α} {e base : Nat} {ok : Nat → Prop} {w : World} {v : Value} {xs : List α} (hE : d.E = []) (h : d.R e w base ok v xs) {k : Nat} (hk : v.ownBlock = some k) : base ≤ k ∧ k < w.heap.size ∧ ∃ cells, w.heap[k]? = some (.cells cells e (0, 0)) := by
  obtain ⟨_, h1, h2, q, hq, cells, hc⟩ := (Kd.R_bound h).1 k hk
  rw [hE] at hq
  obtain rfl : q = e := by simpa using hq
  exact ⟨h1, h2, cells, hc⟩
set_option maxRecDepth 100000 in
set_option maxHeartbeats 3200000 in
theorem markNet (l : List S48) (m : List S62) (v0 v1 : Value) (ok0 ok1 : Nat → Prop) (w0 w : World) (hB : Below w0.heap.size w0 w) (hR : Kd.R k48 48 w w0.heap.size ok0 v0 l) (hS : Kd.R k62 62 w w0.heap.size ok1 v1 m) (hl : l.length ≤ 1048576) (hm : m.length ≤ 1048576) :
    Calls Try.prog 12 #[.agg #[v0, v1], .int .i64 1] w fun e w' => e = .returned (.int .i64 ((1 + 12 * l.length + 3 * m.length : Nat) : Int)) ∧ Kept w w' (fun k => v0.ownBlock = some k ∨ v1.ownBlock = some k) ∧ Below w0.heap.size w0 w' := by
  have hu32 := Try.underlying32
  obtain ⟨A, c, rfl, _, _⟩ := Kd.R_reads hR
  obtain ⟨B, d, rfl, _, _⟩ := Kd.R_reads hS
  have hsz : w0.heap.size ≤ w.heap.size := hB.size
  have hb1 := al w (.cells #[.slice A l.length c, .slice B m.length d] 32)
  have hg1 : (w.alloc (.cells #[.slice A l.length c, .slice B m.length d] 32)).heap[w.heap.size]? = some (.cells #[.slice A l.length c, .slice B m.length d] 32 (0, 0)) := heap_alloc_new _ _
  have hB1 : Below w0.heap.size w0 (w.alloc (.cells #[.slice A l.length c, .slice B m.length d] 32)) := hB.trans (hb1.mono hsz)
  have hR1 := Kd.R_below hR hb1
  have hS1 := Kd.R_below hS hb1
  have k1 : Kept w (w.alloc (.cells #[.slice A l.length c, .slice B m.length d] 32)) (fun k => (Value.slice A l.length c).ownBlock = some k ∨ (Value.slice B m.length d).ownBlock = some k) := Kept.of_below hb1 _
  have i0 : (w.alloc (.cells #[.slice A l.length c, .slice B m.length d] 32)).cell? ⟨w.heap.size, 0, none⟩ = some (.slice A l.length c) := (blk_cell hg1 0).trans rfl
  go_enter Try.func12, Try.ntmps12
  go_upto_region 1 with (fail)
  obtain ⟨g1, hg⟩ : ∃ g, w.heap.size = g := ⟨_, rfl⟩
  rw [hg] at hg1 i0 ⊢
  generalize w.alloc (Obj.cells _ 32) = w1 at hg1 hB1 hR1 hS1 k1 i0 ⊢
  clear hb1
  have c27 := U27 l _ 1 ok0 w0 w1 hB1 hR1 hl (by omega)
  go_wp2_with fail
  refine c27.mono ?_
  rintro e w2 ⟨rfl, hk, hB2⟩
  have hg2 : w2.heap[g1]? = some (.cells #[.slice A l.length c, .slice B m.length d] 32 (0, 0)) := by
    rw [hk.2 g1 (blk_lt hg1) (fun h => by
      obtain ⟨_, _, cells, hc⟩ := own_ty E48 hR1 h
      rw [hg1] at hc; injection hc with hc; injection hc with _ hc; exact absurd hc (by decide))]
    exact hg1
  have hS2 := Kd.R_kept (Kd.R_tight E62 hS1) hk (fun k h1 h2 => by
    obtain ⟨_, _, cells, hc⟩ := own_ty E48 hR1 h2
    obtain ⟨_, _, cells', hc'⟩ := own_ty E62 hS1 h1.symm
    rw [hc] at hc'; injection hc' with hc'; injection hc' with _ hc'; exact absurd hc' (by decide))
  have k2 := k1.then_ hk (fun k h => .inl (.inl h))
  have i1 : w2.cell? ⟨g1, 1, none⟩ = some (.slice B m.length d) := (blk_cell hg2 1).trans rfl
  have c28 := U28 m _ (1 + 12 * l.length) _ w0 w2 hB2 hS2 hm (by omega)
  clear c27 i0 hk hg1 hR1 hS1 k1 hB1
  go_wp2_with fail
  refine c28.mono ?_
  rintro e w3 ⟨rfl, hk, hB3⟩
  have k3 := k2.then_ hk (fun k h => .inl (.inr h))
  clear c28 i1 hk hg2 hS2 k2 hB2
  go_wp2
  go_ret
  exact ⟨rfl, k3, hB3⟩
end Go.Proofs.Ytphblfmjdiigkaa.Hn12
