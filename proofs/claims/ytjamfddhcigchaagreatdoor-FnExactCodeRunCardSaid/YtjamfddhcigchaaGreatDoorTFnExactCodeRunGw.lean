/- spec.l2Copy and spec.MemOpen, walked: three rows of their own. No other condition. -/
import Derived.Test.YtjamfddhcigchaaGreatDoorProg
import Derived.Test.YtjamfddhcigchaaGreatDoorTFnExactCodeRunWWords
import Derived.Laws.Cover3
import Derived.WalkLawsBesides
import Derived.WalkSpells
import Derived.Deep.RegionHeld
import Derived.WalkSmall
namespace Go.Proofs.YtjamfddhcigchaaGreatDoor.Gm
open Go.RowKit Go.Proofs.YtjamfddhcigchaaGreatDoorW.PrintWords Go.Proofs.YtjamfddhcigchaaGreatDoorW.PrintLast Go.Proofs.YtjamfddhcigchaaGreatDoorW.PrintMore
attribute [local go_sem] max2_int min2_int max_two min_two
set_option linter.unusedVariables false
set_option linter.unusedSimpArgs false
def isN (n : Int) : Bool := decide (-1000000 ≤ n) && decide (n ≤ 1000000)
set_option maxRecDepth 100000 in
theorem isNum_any (n : Int) (w : World) : Calls Tryz.prog 63 #[.int .i64 n] w fun e w' => e = .returned (.bool (isN n)) ∧ Below w.heap.size w w' := by
 by_cases h : -1000000 ≤ n
 ·have e : isN n = decide (n ≤ 1000000) := by simp [isN, h]
  have d : decide (-1000000 ≤ n) = true := by simpa using h
  rw [e]; clear h e
  go_enter Tryz.func63, Tryz.ntmps63
  go_wp2
  go_ret
  exact ⟨rfl, Below.refl _ _⟩
 ·have e : isN n = false := by simp [isN, h]
  have d : decide (-1000000 ≤ n) = false := by simpa using h
  rw [e]; clear h e
  go_enter Tryz.func63, Tryz.ntmps63
  go_wp2
  go_ret
  exact ⟨rfl, Below.refl _ _⟩
set_option maxRecDepth 100000 in
theorem lit_any (n : Int) (w : World) : Calls Tryz.prog 62 #[.int .i64 n] w fun e w' => e = .returned (.bool (!isN n)) ∧ Below w.heap.size w w' := by
 go_enter Tryz.func62, Tryz.ntmps62
 go_wp2_with fail
 refine (isNum_any _ _).mono ?_
 rintro e w' ⟨rfl, hb⟩
 go_wp2
 go_ret
 exact ⟨rfl, hb⟩
theorem rdI (l : List Int) (i : Nat) (h : i < l.length) : rd l (i : Int) = l[i] := by
 unfold rd; rw [Int.toNat_natCast, List.getD_eq_getElem?_getD, List.getElem?_eq_getElem h]; rfl
set_option maxRecDepth 100000 in
set_option maxHeartbeats 1600000 in
theorem idx_any (A : Option Addr) (c : Nat) (l : List Int) (w : World) (hr : Kd.C (Kd.int .i64) w A l.length l) :
  Calls Tryz.prog 89 #[.slice A l.length c, .func (.func 62) #[] #[]] w fun e w' => (∃ r : Int, e = .returned (.int .i64 r) ∧ decide (0 ≤ r) = !(l.all isN)) ∧ Below w.heap.size w w' := by
 have hm : l.length ≤ 9223372036854775807 := hr.2.1
 go_enter Tryz.func89, Tryz.ntmps89
 go_wp2_with fail
 go_loopw [8] (fun i wr => ∃ (j : Nat), j ≤ l.length ∧ i = .int .i64 j ∧ (l.take j).all isN = true ∧ Below w.heap.size w wr) (fun i _ => l.length - (intOf i).toNat)
 case atStart => exact ⟨0, by omega, rfl, by simp, Below.refl _ _⟩
 case round =>
  obtain ⟨j, hj, rfl, hall, hB⟩ := hrel
  by_cases hl : j < l.length
  ·have e1 : decide (j < l.length) = true := by simpa using hl
   obtain ⟨ad, hA, hcell⟩ := Kd.at_int (Kd.C_below hr hB) (j : Int) (by omega) (by omega)
   subst hA
   rw [rdI l j hl, Int.toNat_natCast] at hcell
   have hstep : (l.take (j + 1)).all isN = isN l[j] := by
    rw [List.take_succ_eq_append_getElem hl, List.all_append, hall]; simp
   have hnot : isN l[j] = false → l.all isN = false := fun h => by
    rw [Bool.eq_false_iff]; intro h2
    rw [List.all_eq_true] at h2
    have := h2 l[j] (List.getElem_mem hl)
    rw [h] at this; exact absurd this (by decide)
   generalize l[j] = b at hcell hstep hnot
   go_wp2_with fail
   refine (lit_any _ _).mono ?_
   rintro e w2 ⟨rfl, hb⟩
   cases hn : isN b with
   | false =>
    go_wp2
    go_ret
    exact ⟨⟨_, rfl, by rw [hnot hn]; simp⟩, hB.trans (hb.mono hB.size)⟩
   | true =>
    go_wp2
    go_roundw
    case rel => exact ⟨j + 1, by omega, by go_num, by rw [hstep, hn], hB.trans (hb.mono hB.size)⟩
    case measure => simp [intOf]; omega
  ·have e1 : decide (j < l.length) = false := by simpa using hl
   have hA : l.all isN = true := by rw [List.take_of_length_le (by omega)] at hall; exact hall
   go_wp2
   go_ret
   exact ⟨⟨_, rfl, by rw [hA]; rfl⟩, hB⟩
set_option maxRecDepth 100000 in
theorem contains_any (A : Option Addr) (c : Nat) (l : List Int) (w : World) (hr : Kd.C (Kd.int .i64) w A l.length l) :
  Calls Tryz.prog 61 #[.slice A l.length c, .func (.func 62) #[] #[]] w fun e w' => e = .returned (.bool !(l.all isN)) ∧ Below w.heap.size w w' := by
 go_enter Tryz.func61, Tryz.ntmps61
 go_wp2_with fail
 refine (idx_any A c l w hr).mono ?_
 rintro e w2 ⟨⟨r, rfl, h⟩, hb⟩
 go_wp2
 go_ret
 exact ⟨by rw [← h]; rfl, hb⟩
def okL (l : List Int) : Bool := decide (l.length = 6) && l.all isN
def okM (l0 l1 l2 : List Int) : Bool := okL l0 && okL l1 && okL l2
def mM : Nat → List Int → List Int → List Int → Array Value
 | 0, l0, l1, l2 => #[.int .i64 0, .int .i64 0, .int .i64 0, .int .i64 0, .int .i64 0, .int .i64 0, .int .i64 0, .int .i64 0, .int .i64 0, .int .i64 0, .int .i64 0, .int .i64 0, .int .i64 0, .int .i64 0, .int .i64 0, .int .i64 0, .int .i64 0, .int .i64 0]
 | 1, l0, l1, l2 => #[.int .i64 (rd l0 0), .int .i64 (rd l0 1), .int .i64 (rd l0 2), .int .i64 (rd l0 3), .int .i64 (rd l0 4), .int .i64 (rd l0 5), .int .i64 0, .int .i64 0, .int .i64 0, .int .i64 0, .int .i64 0, .int .i64 0, .int .i64 0, .int .i64 0, .int .i64 0, .int .i64 0, .int .i64 0, .int .i64 0]
 | 2, l0, l1, l2 => #[.int .i64 (rd l0 0), .int .i64 (rd l0 1), .int .i64 (rd l0 2), .int .i64 (rd l0 3), .int .i64 (rd l0 4), .int .i64 (rd l0 5), .int .i64 (rd l1 0), .int .i64 (rd l1 1), .int .i64 (rd l1 2), .int .i64 (rd l1 3), .int .i64 (rd l1 4), .int .i64 (rd l1 5), .int .i64 0, .int .i64 0, .int .i64 0, .int .i64 0, .int .i64 0, .int .i64 0]
 | _, l0, l1, l2 => #[.int .i64 (rd l0 0), .int .i64 (rd l0 1), .int .i64 (rd l0 2), .int .i64 (rd l0 3), .int .i64 (rd l0 4), .int .i64 (rd l0 5), .int .i64 (rd l1 0), .int .i64 (rd l1 1), .int .i64 (rd l1 2), .int .i64 (rd l1 3), .int .i64 (rd l1 4), .int .i64 (rd l1 5), .int .i64 (rd l2 0), .int .i64 (rd l2 1), .int .i64 (rd l2 2), .int .i64 (rd l2 3), .int .i64 (rd l2 4), .int .i64 (rd l2 5)]
theorem cell_drew (W : World) (a : Addr) : W.drew.cell? a = W.cell? a := rfl
theorem res41 (tmps : Array Value) (w : World) : (results Tryz.f36 tmps).run Tryz.prog w = .ok (.tuple #[tmps.getD 2 undef, tmps.getD 3 undef]) w := by
 have hres : Tryz.f36.results = #[.tmp 2, .tmp 3] := by kernel_rfl
 simp only [results, hres]
 go_simp
theorem spot_none {w : World} {bk off : Nat} {fz : Option Nat} {v : Value} (h : w.cell? ⟨bk, off, fz⟩ = some v) : fz = none := by
 cases fz with
 | none => rfl
 | some s => unfold World.cell? at h; split at h <;> simp_all
theorem alloc_size (w : World) (o : Obj) : (w.alloc o).heap.size = w.heap.size + 1 := Array.size_push ..
structure St (w : World) (b g : Nat) (S M : Array Value) (W : World) : Prop where
 hb : W.heap[b]? = some (.cells S 31 (0, 0))
 hg : W.heap[g]? = some (.cells M 82 (0, 0))
 ne : g < b
 gb : w.heap.size ≤ g
 bel : Below w.heap.size w W
theorem St.below {w W W' : World} {b g : Nat} {S M : Array Value} (h : St w b g S M W) (k : Below W.heap.size W W') : St w b g S M W' := ⟨blk_below h.hb k, blk_below h.hg k, h.ne, h.gb, h.bel.trans (k.mono h.bel.size)⟩
theorem St.drew {w W : World} {b g : Nat} {S M : Array Value} (h : St w b g S M W) : St w b g S M W.drew := ⟨h.hb, h.hg, h.ne, h.gb, below_drew1 h.bel⟩
theorem St.put {w W : World} {b g : Nat} {S M M' : Array Value} (h : St w b g S M W) (i : Nat) (u : Value) (e : M.setIfInBounds i u = M') : St w b g S M' (W.setCell ⟨g, i, none⟩ u) := ⟨blk_far h.hb (by have := h.ne; simp; omega) u, blk_put h.hg i u e, h.ne, h.gb, below_set h.bel h.gb⟩
theorem St.put6 {w W : World} {b g : Nat} {S M M2 : Array Value} (h : St w b g S M W) (a0 a1 a2 a3 a4 a5 : Nat) (u0 u1 u2 u3 u4 u5 : Value) (e : ((((((M.setIfInBounds a0 u0).setIfInBounds a1 u1).setIfInBounds a2 u2).setIfInBounds a3 u3).setIfInBounds a4 u4).setIfInBounds a5 u5) = M2) : St w b g S M2 ((((((W.setCell ⟨g, a0, none⟩ u0).setCell ⟨g, a1, none⟩ u1).setCell ⟨g, a2, none⟩ u2).setCell ⟨g, a3, none⟩ u3).setCell ⟨g, a4, none⟩ u4).setCell ⟨g, a5, none⟩ u5) := (St.put (St.put (St.put (St.put (St.put (St.put h a0 u0 rfl) a1 u1 rfl) a2 u2 rfl) a3 u3 rfl) a4 u4 rfl) a5 u5 e)
theorem far6 (W : World) {g bk : Nat} (o : Nat) (h : g ≠ bk) (a0 a1 a2 a3 a4 a5 : Nat) (u0 u1 u2 u3 u4 u5 : Value) {v : Option Value} (e : W.cell? ⟨bk, o, none⟩ = v) : ((((((W.setCell ⟨g, a0, none⟩ u0).setCell ⟨g, a1, none⟩ u1).setCell ⟨g, a2, none⟩ u2).setCell ⟨g, a3, none⟩ u3).setCell ⟨g, a4, none⟩ u4).setCell ⟨g, a5, none⟩ u5).cell? ⟨bk, o, none⟩ = v := by
 have l : ∀ q : Nat, (⟨g, q, none⟩ : Addr).block ≠ (⟨bk, o, none⟩ : Addr).block := fun q => h
 rw [World.cell?_setCell_far _ _ _ _ (l _), World.cell?_setCell_far _ _ _ _ (l _), World.cell?_setCell_far _ _ _ _ (l _), World.cell?_setCell_far _ _ _ _ (l _), World.cell?_setCell_far _ _ _ _ (l _), World.cell?_setCell_far _ _ _ _ (l _)]; exact e
set_option maxRecDepth 100000 in
set_option maxHeartbeats 6400000 in
theorem readMem_any (A0 A1 A2 : Option Addr) (c0 c1 c2 : Nat) (l0 l1 l2 : List Int) (w : World) (hr0 : Kd.C (Kd.int .i64) w A0 l0.length l0) (hr1 : Kd.C (Kd.int .i64) w A1 l1.length l1) (hr2 : Kd.C (Kd.int .i64) w A2 l2.length l2) :
  Calls Tryz.prog 36 #[.agg #[.slice A0 l0.length c0, .slice A1 l1.length c1, .slice A2 l2.length c2]] w fun e w' => (okM l0 l1 l2 = true → ∃ g, e = .returned (.tuple #[.pointer (some ⟨g, 0, none⟩), .bool true]) ∧ w'.heap[g]? = some (.cells (mM 3 l0 l1 l2) 82 (0, 0)) ∧ w.heap.size ≤ g) ∧ (okM l0 l1 l2 = false → e = .returned (.tuple #[.pointer none, .bool false])) ∧ Below w.heap.size w w' := by
 have hu := Tryz.underlying33
 have hu56 := Tryz.underlying82
 go_enter Tryz.func36, Tryz.ntmps36
 go_wp2_with fail
 have hS0 : St w (w.heap.size + 1 + 1) (w.heap.size + 1) #[.slice A0 l0.length c0, .slice A1 l1.length c1, .slice A2 l2.length c2] (mM 0 l0 l1 l2) (((w.alloc (Obj.cells #[.slice A0 l0.length c0, .slice A1 l1.length c1, .slice A2 l2.length c2] 33)).alloc (Obj.cells (mM 0 l0 l1 l2) 82)).alloc (Obj.cells #[.slice A0 l0.length c0, .slice A1 l1.length c1, .slice A2 l2.length c2] 31)) := by
  refine ⟨?_, ?_, by omega, by omega, ?_⟩
  ·have e : ((w.alloc (Obj.cells #[.slice A0 l0.length c0, .slice A1 l1.length c1, .slice A2 l2.length c2] 33)).alloc (Obj.cells (mM 0 l0 l1 l2) 82)).heap.size = w.heap.size + 1 + 1 := (alloc_size _ _).trans (congrArg (· + 1) (alloc_size _ _))
   rw [← e]; exact heap_alloc_new _ _
  ·have e : (w.alloc (Obj.cells #[.slice A0 l0.length c0, .slice A1 l1.length c1, .slice A2 l2.length c2] 33)).heap.size = w.heap.size + 1 := alloc_size _ _
   rw [← e]; exact blk_alloc (heap_alloc_new _ _) _
  ·exact (((Below.refl _ _).alloc (Nat.le_refl _) _).alloc (by rw [alloc_size]; exact Nat.le_succ _) _).alloc (by rw [alloc_size, alloc_size]; exact Nat.le_add_right _ 2) _
 unfold mM at hS0
 generalize ((w.alloc (Obj.cells _ 33)).alloc (Obj.cells _ 82)).alloc (Obj.cells _ 31) = w1 at hS0 ⊢
 obtain ⟨g, hg⟩ : ∃ g, w.heap.size + 1 = g := ⟨_, rfl⟩
 obtain ⟨b, hb⟩ : ∃ b, g + 1 = b := ⟨_, rfl⟩
 rw [hg, hb] at hS0 ⊢
 go_loopw [17] (fun i wr => ∃ j : Nat, j ≤ 3 ∧ i = .int .i64 j ∧ (1 ≤ j → okL l0 = true) ∧ (2 ≤ j → okL l1 = true) ∧ (3 ≤ j → okL l2 = true) ∧ St w b g #[.slice A0 l0.length c0, .slice A1 l1.length c1, .slice A2 l2.length c2] (mM j l0 l1 l2) wr) (fun i _ => 3 - (intOf i).toNat)
 case atStart => exact ⟨0, by omega, rfl, by omega, by omega, by omega, hS0⟩
 case round =>
  clear hS0
  obtain ⟨j, hj, rfl, o0, o1, o2, hS⟩ := hrel
  rcases (by omega : j = 0 ∨ j = 1 ∨ j = 2 ∨ j = 3) with rfl | rfl | rfl | rfl
  ·have s0 : wr.cell? ⟨b, 0, none⟩ = some (.slice A0 l0.length c0) := (blk_cell hS.hb 0).trans rfl
   have hr := Kd.C_below hr0 hS.bel
   by_cases hl : l0.length = 6
   ·have e1 : ((l0.length : Int) != 6) = false := by simp; omega
    have hl6 : 6 ≤ l0.length := by omega
    have hok : l0.all isN = true → okL l0 = true := fun h => by simp [okL, hl, h]
    have hc := contains_any A0 c0 l0 wr hr
    clear hl
    go_wp2_with fail
    refine hc.mono ?_
    rintro e w2 ⟨rfl, hb2⟩
    have hS2 := hS.below hb2
    have hr' := Kd.C_below hr0 hS2.bel
    cases hall : l0.all isN with
    | false =>
     go_wp2
     refine bodyPost_ret (res41 _ _) rfl ⟨fun h => absurd h (by simp [okM, okL, hall]), fun _ => rfl, hS2.bel⟩
    | true =>
     replace hok := hok hall
     obtain ⟨ad, hA, hq0⟩ := Kd.at_int hr' 0 (by omega) (by omega)
     obtain ⟨adw, hAw, hqw⟩ := Kd.at_int hr0 0 (by omega) (by omega)
     obtain rfl : adw = ad := Option.some.inj (hAw.symm.trans hA)
     clear hAw
     subst hA
     obtain ⟨ad1, hA, hq1⟩ := Kd.at_int hr' 1 (by omega) (by omega)
     obtain rfl := Option.some.inj hA
     obtain ⟨ad2, hA, hq2⟩ := Kd.at_int hr' 2 (by omega) (by omega)
     obtain rfl := Option.some.inj hA
     obtain ⟨ad3, hA, hq3⟩ := Kd.at_int hr' 3 (by omega) (by omega)
     obtain rfl := Option.some.inj hA
     obtain ⟨ad4, hA, hq4⟩ := Kd.at_int hr' 4 (by omega) (by omega)
     obtain rfl := Option.some.inj hA
     obtain ⟨ad5, hA, hq5⟩ := Kd.at_int hr' 5 (by omega) (by omega)
     obtain rfl := Option.some.inj hA
     obtain ⟨bk, off, fz⟩ := adw
     obtain rfl := spot_none hq0
     have hbkw : bk < w.heap.size := World.block_lt_of_cell? _ _ hqw
     clear hqw
     replace hq0 : w2.cell? ⟨bk, off, none⟩ = some (.int .i64 (rd l0 0)) := hq0
     replace hq1 : w2.cell? ⟨bk, off + 1, none⟩ = some (.int .i64 (rd l0 1)) := hq1
     replace hq2 : w2.cell? ⟨bk, off + 2, none⟩ = some (.int .i64 (rd l0 2)) := hq2
     replace hq3 : w2.cell? ⟨bk, off + 3, none⟩ = some (.int .i64 (rd l0 3)) := hq3
     replace hq4 : w2.cell? ⟨bk, off + 4, none⟩ = some (.int .i64 (rd l0 4)) := hq4
     replace hq5 : w2.cell? ⟨bk, off + 5, none⟩ = some (.int .i64 (rd l0 5)) := hq5
     have hat : ∀ W, (Instr.arrayAt 79 (.slice (some ⟨bk, off, none⟩) l0.length c0)).run Tryz.prog W = .ok (.pointer (some ⟨bk, off, none⟩)) W := fun W => run_arrayAt W 79 _ 6 _ _ c0 Tryz.underlying79 hl6
     unfold mM at hS2
     clear hc hr hr' hall s0 hS hb2
     go_wp2_with fail
     have hB0 := hS2.drew
     have hne : g ≠ bk := by have := hS2.gb; omega
     refine start_ (n := 9) (S := fun w' => w'.cell? ⟨bk, off, none⟩ = some (.int .i64 (rd l0 0)) ∧ w'.cell? ⟨bk, off + 1, none⟩ = some (.int .i64 (rd l0 1)) ∧ w'.cell? ⟨bk, off + 2, none⟩ = some (.int .i64 (rd l0 2)) ∧ w'.cell? ⟨bk, off + 3, none⟩ = some (.int .i64 (rd l0 3)) ∧ w'.cell? ⟨bk, off + 4, none⟩ = some (.int .i64 (rd l0 4)) ∧ w'.cell? ⟨bk, off + 5, none⟩ = some (.int .i64 (rd l0 5))) (ds := []) #[false, false, false, false, false, false, false, false, false] (by kernel_rfl) rfl rfl ⟨hq0, hq1, hq2, hq3, hq4, hq5⟩ (fun hHeld => ?_)
     refine pure_ (i := 0) (N := some 29) (v := ?_) (a' := ?_) #[true, false, false, false, false, false, false, false, false] rfl rfl (by kernel_rfl) (fun _ _ _ h => h) (Or.inl ⟨by rfl, ?_⟩) ?_ ?_
     rotate_left
     ·intro w'
      go_simp
      with_reducible rfl
     rotate_left
     ·simp only [Act.put, List.setIfInBounds_toArray, List.set_cons_zero, List.set_cons_succ, i64_w, i32_w]
      rfl
     refine pure_ (i := 1) (N := some 30) (v := ?_) (a' := ?_) #[true, true, false, false, false, false, false, false, false] rfl rfl (by kernel_rfl) (fun _ _ _ h => h) (Or.inl ⟨by rfl, ?_⟩) ?_ ?_
     rotate_left
     ·intro w'
      go_simp
      with_reducible rfl
     rotate_left
     ·simp only [Act.put, List.setIfInBounds_toArray, List.set_cons_zero, List.set_cons_succ, i64_w, i32_w]
      rfl
     refine pure_ (i := 2) (N := some 31) (v := ?_) (a' := ?_) #[true, true, true, false, false, false, false, false, false] rfl rfl (by kernel_rfl) (fun _ _ _ h => h) (Or.inl ⟨by rfl, ?_⟩) ?_ ?_
     rotate_left
     ·intro w'
      go_simp
      with_reducible rfl
     rotate_left
     ·simp only [Act.put, List.setIfInBounds_toArray, List.set_cons_zero, List.set_cons_succ, i64_w, i32_w]
      rfl
     refine pure_ (i := 5) (N := some 34) (v := ?_) (a' := ?_) #[true, true, true, false, false, true, false, false, false] rfl rfl (by kernel_rfl) (fun _ _ _ h => h) (Or.inl ⟨by rfl, ?_⟩) ?_ ?_
     rotate_left
     ·intro w'
      go_simp
      with_reducible rfl
     rotate_left
     ·simp only [Act.put, List.setIfInBounds_toArray, List.set_cons_zero, List.set_cons_succ, i64_w, i32_w]
      rfl
     refine pure_ (i := 6) (N := some 35) (v := ?_) (a' := ?_) #[true, true, true, false, false, true, true, false, false] rfl rfl (by kernel_rfl) (fun _ _ _ h => h) (Or.inl ⟨by rfl, ?_⟩) ?_ ?_
     rotate_left
     ·intro w'
      go_simp
      with_reducible rfl
     rotate_left
     ·simp only [Act.put, List.setIfInBounds_toArray, List.set_cons_zero, List.set_cons_succ, i64_w, i32_w]
      rfl
     refine one_ (i := 3) (N := some 32) #[true, true, true, true, false, true, true, false, false] rfl rfl (by kernel_rfl) (by decide) (fun K hK => ?_)
     refine value_ (w1 := ?_) (v := ?_) (by rfl) rfl ?_ ?_
     rotate_left 2
     ·go_simp
      constructor
      ·rfl
      ·rfl
     refine hK.out _ _ ⟨hHeld.1, hHeld.2.1, hHeld.2.2.1, hHeld.2.2.2.1, hHeld.2.2.2.2.1, hHeld.2.2.2.2.2⟩ (fun hHeld => ?_)
     clear hK K
     refine norm_ (a' := ?_) ?_ ?_
     rotate_left
     ·show Act.put _ (some 32) _ = _
      simp only [Act.put, List.setIfInBounds_toArray, List.set_cons_zero, List.set_cons_succ, i64_w, i32_w]
      rfl
     refine take_ (i := 4) (N := some 33) (v := ?_) (a' := ?_) #[true, true, true, true, true, true, true, false, false] rfl rfl (by kernel_rfl) (fun _ _ _ h => h) (Or.inl ⟨by rfl, ?_⟩) hHeld ?_ ?_
     rotate_left
     ·rintro w' ⟨s0, s1, s2, s3, s4, s5⟩
      go_simp
      with_reducible rfl
     rotate_left
     ·simp only [Act.put, List.setIfInBounds_toArray, List.set_cons_zero, List.set_cons_succ, i64_w, i32_w]
      rfl
     refine pure_ (i := 7) (N := some 36) (v := ?_) (a' := ?_) #[true, true, true, true, true, true, true, true, false] rfl rfl (by kernel_rfl) (fun _ _ _ h => h) (Or.inl ⟨by rfl, ?_⟩) ?_ ?_
     rotate_left
     ·intro w'
      go_simp
      with_reducible rfl
     rotate_left
     ·simp only [Act.put, List.setIfInBounds_toArray, List.set_cons_zero, List.set_cons_succ, i64_w, i32_w]
      rfl
     refine one_ (i := 8) (N := none) #[true, true, true, true, true, true, true, true, true] rfl rfl (by kernel_rfl) (by decide) (fun K hK => ?_)
     refine skip_ (w1 := ?_) (by rfl) rfl ?_ ?_
     rotate_left
     ·have hu53 := Tryz.underlying79
      have i0 : w2.cell? ⟨g, 0, none⟩ = some (.int .i64 0) := (blk_cell hS2.hg 0).trans rfl
      have i1 : w2.cell? ⟨g, 1, none⟩ = some (.int .i64 0) := (blk_cell hS2.hg 1).trans rfl
      have i2 : w2.cell? ⟨g, 2, none⟩ = some (.int .i64 0) := (blk_cell hS2.hg 2).trans rfl
      have i3 : w2.cell? ⟨g, 3, none⟩ = some (.int .i64 0) := (blk_cell hS2.hg 3).trans rfl
      have i4 : w2.cell? ⟨g, 4, none⟩ = some (.int .i64 0) := (blk_cell hS2.hg 4).trans rfl
      have i5 : w2.cell? ⟨g, 5, none⟩ = some (.int .i64 0) := (blk_cell hS2.hg 5).trans rfl
      have j0 : w2.frozen? ⟨g, 0, none⟩ = false := blk_frozen hS2.hg 0
      have j1 : w2.frozen? ⟨g, 1, none⟩ = false := blk_frozen hS2.hg 1
      have j2 : w2.frozen? ⟨g, 2, none⟩ = false := blk_frozen hS2.hg 2
      have j3 : w2.frozen? ⟨g, 3, none⟩ = false := blk_frozen hS2.hg 3
      have j4 : w2.frozen? ⟨g, 4, none⟩ = false := blk_frozen hS2.hg 4
      have j5 : w2.frozen? ⟨g, 5, none⟩ = false := blk_frozen hS2.hg 5
      go_simp
      rfl
     have hX : St w b g (#[.slice (some ⟨bk, off, none⟩) l0.length c0, .slice A1 l1.length c1, .slice A2 l2.length c2]) (#[.int .i64 (rd l0 0), .int .i64 (rd l0 1), .int .i64 (rd l0 2), .int .i64 (rd l0 3), .int .i64 (rd l0 4), .int .i64 (rd l0 5), .int .i64 0, .int .i64 0, .int .i64 0, .int .i64 0, .int .i64 0, .int .i64 0, .int .i64 0, .int .i64 0, .int .i64 0, .int .i64 0, .int .i64 0, .int .i64 0]) ((((((w2.setCell ⟨g, 0, none⟩ (.int .i64 (rd l0 0))).setCell ⟨g, 1, none⟩ (.int .i64 (rd l0 1))).setCell ⟨g, 2, none⟩ (.int .i64 (rd l0 2))).setCell ⟨g, 3, none⟩ (.int .i64 (rd l0 3))).setCell ⟨g, 4, none⟩ (.int .i64 (rd l0 4))).setCell ⟨g, 5, none⟩ (.int .i64 (rd l0 5))).drew := (St.put6 hS2 0 1 2 3 4 5 (.int .i64 (rd l0 0)) (.int .i64 (rd l0 1)) (.int .i64 (rd l0 2)) (.int .i64 (rd l0 3)) (.int .i64 (rd l0 4)) (.int .i64 (rd l0 5)) (by rfl)).drew
     have X0 : ((((((w2.setCell ⟨g, 0, none⟩ (.int .i64 (rd l0 0))).setCell ⟨g, 1, none⟩ (.int .i64 (rd l0 1))).setCell ⟨g, 2, none⟩ (.int .i64 (rd l0 2))).setCell ⟨g, 3, none⟩ (.int .i64 (rd l0 3))).setCell ⟨g, 4, none⟩ (.int .i64 (rd l0 4))).setCell ⟨g, 5, none⟩ (.int .i64 (rd l0 5))).drew.cell? ⟨bk, off, none⟩ = some (.int .i64 (rd l0 0)) := (cell_drew _ _).trans (far6 w2 (off) hne 0 1 2 3 4 5 (.int .i64 (rd l0 0)) (.int .i64 (rd l0 1)) (.int .i64 (rd l0 2)) (.int .i64 (rd l0 3)) (.int .i64 (rd l0 4)) (.int .i64 (rd l0 5)) hq0)
     have X1 : ((((((w2.setCell ⟨g, 0, none⟩ (.int .i64 (rd l0 0))).setCell ⟨g, 1, none⟩ (.int .i64 (rd l0 1))).setCell ⟨g, 2, none⟩ (.int .i64 (rd l0 2))).setCell ⟨g, 3, none⟩ (.int .i64 (rd l0 3))).setCell ⟨g, 4, none⟩ (.int .i64 (rd l0 4))).setCell ⟨g, 5, none⟩ (.int .i64 (rd l0 5))).drew.cell? ⟨bk, off + 1, none⟩ = some (.int .i64 (rd l0 1)) := (cell_drew _ _).trans (far6 w2 (off + 1) hne 0 1 2 3 4 5 (.int .i64 (rd l0 0)) (.int .i64 (rd l0 1)) (.int .i64 (rd l0 2)) (.int .i64 (rd l0 3)) (.int .i64 (rd l0 4)) (.int .i64 (rd l0 5)) hq1)
     have X2 : ((((((w2.setCell ⟨g, 0, none⟩ (.int .i64 (rd l0 0))).setCell ⟨g, 1, none⟩ (.int .i64 (rd l0 1))).setCell ⟨g, 2, none⟩ (.int .i64 (rd l0 2))).setCell ⟨g, 3, none⟩ (.int .i64 (rd l0 3))).setCell ⟨g, 4, none⟩ (.int .i64 (rd l0 4))).setCell ⟨g, 5, none⟩ (.int .i64 (rd l0 5))).drew.cell? ⟨bk, off + 2, none⟩ = some (.int .i64 (rd l0 2)) := (cell_drew _ _).trans (far6 w2 (off + 2) hne 0 1 2 3 4 5 (.int .i64 (rd l0 0)) (.int .i64 (rd l0 1)) (.int .i64 (rd l0 2)) (.int .i64 (rd l0 3)) (.int .i64 (rd l0 4)) (.int .i64 (rd l0 5)) hq2)
     have X3 : ((((((w2.setCell ⟨g, 0, none⟩ (.int .i64 (rd l0 0))).setCell ⟨g, 1, none⟩ (.int .i64 (rd l0 1))).setCell ⟨g, 2, none⟩ (.int .i64 (rd l0 2))).setCell ⟨g, 3, none⟩ (.int .i64 (rd l0 3))).setCell ⟨g, 4, none⟩ (.int .i64 (rd l0 4))).setCell ⟨g, 5, none⟩ (.int .i64 (rd l0 5))).drew.cell? ⟨bk, off + 3, none⟩ = some (.int .i64 (rd l0 3)) := (cell_drew _ _).trans (far6 w2 (off + 3) hne 0 1 2 3 4 5 (.int .i64 (rd l0 0)) (.int .i64 (rd l0 1)) (.int .i64 (rd l0 2)) (.int .i64 (rd l0 3)) (.int .i64 (rd l0 4)) (.int .i64 (rd l0 5)) hq3)
     have X4 : ((((((w2.setCell ⟨g, 0, none⟩ (.int .i64 (rd l0 0))).setCell ⟨g, 1, none⟩ (.int .i64 (rd l0 1))).setCell ⟨g, 2, none⟩ (.int .i64 (rd l0 2))).setCell ⟨g, 3, none⟩ (.int .i64 (rd l0 3))).setCell ⟨g, 4, none⟩ (.int .i64 (rd l0 4))).setCell ⟨g, 5, none⟩ (.int .i64 (rd l0 5))).drew.cell? ⟨bk, off + 4, none⟩ = some (.int .i64 (rd l0 4)) := (cell_drew _ _).trans (far6 w2 (off + 4) hne 0 1 2 3 4 5 (.int .i64 (rd l0 0)) (.int .i64 (rd l0 1)) (.int .i64 (rd l0 2)) (.int .i64 (rd l0 3)) (.int .i64 (rd l0 4)) (.int .i64 (rd l0 5)) hq4)
     have X5 : ((((((w2.setCell ⟨g, 0, none⟩ (.int .i64 (rd l0 0))).setCell ⟨g, 1, none⟩ (.int .i64 (rd l0 1))).setCell ⟨g, 2, none⟩ (.int .i64 (rd l0 2))).setCell ⟨g, 3, none⟩ (.int .i64 (rd l0 3))).setCell ⟨g, 4, none⟩ (.int .i64 (rd l0 4))).setCell ⟨g, 5, none⟩ (.int .i64 (rd l0 5))).drew.cell? ⟨bk, off + 5, none⟩ = some (.int .i64 (rd l0 5)) := (cell_drew _ _).trans (far6 w2 (off + 5) hne 0 1 2 3 4 5 (.int .i64 (rd l0 0)) (.int .i64 (rd l0 1)) (.int .i64 (rd l0 2)) (.int .i64 (rd l0 3)) (.int .i64 (rd l0 4)) (.int .i64 (rd l0 5)) hq5)
     refine hK.out _ _ ⟨X0, X1, X2, X3, X4, X5⟩ (fun hHeld => ?_)
     clear hK K
     refine done_ (by kernel_rfl) ?_
     clear hHeld X0 X1 X2 X3 X4 X5
     generalize (World.drew _) = w3 at hX ⊢
     go_wp2
     go_roundw
     case rel => exact ⟨1, by omega, by go_num, by intro _; first | assumption | exact o0 (by omega), by omega, by omega, hX⟩
     case measure => simp [intOf]
   ·have e1 : ((l0.length : Int) != 6) = true := by simp; omega
    go_wp2
    refine bodyPost_ret (res41 _ _) rfl ⟨fun h => absurd h (by simp [okM, okL, hl]), fun _ => rfl, hS.bel⟩
  ·have s0 : wr.cell? ⟨b, 1, none⟩ = some (.slice A1 l1.length c1) := (blk_cell hS.hb 1).trans rfl
   have hr := Kd.C_below hr1 hS.bel
   by_cases hl : l1.length = 6
   ·have e1 : ((l1.length : Int) != 6) = false := by simp; omega
    have hl6 : 6 ≤ l1.length := by omega
    have hok : l1.all isN = true → okL l1 = true := fun h => by simp [okL, hl, h]
    have hc := contains_any A1 c1 l1 wr hr
    clear hl
    go_wp2_with fail
    refine hc.mono ?_
    rintro e w2 ⟨rfl, hb2⟩
    have hS2 := hS.below hb2
    have hr' := Kd.C_below hr1 hS2.bel
    cases hall : l1.all isN with
    | false =>
     go_wp2
     refine bodyPost_ret (res41 _ _) rfl ⟨fun h => absurd h (by simp [okM, okL, hall]), fun _ => rfl, hS2.bel⟩
    | true =>
     replace hok := hok hall
     obtain ⟨ad, hA, hq0⟩ := Kd.at_int hr' 0 (by omega) (by omega)
     obtain ⟨adw, hAw, hqw⟩ := Kd.at_int hr1 0 (by omega) (by omega)
     obtain rfl : adw = ad := Option.some.inj (hAw.symm.trans hA)
     clear hAw
     subst hA
     obtain ⟨ad1, hA, hq1⟩ := Kd.at_int hr' 1 (by omega) (by omega)
     obtain rfl := Option.some.inj hA
     obtain ⟨ad2, hA, hq2⟩ := Kd.at_int hr' 2 (by omega) (by omega)
     obtain rfl := Option.some.inj hA
     obtain ⟨ad3, hA, hq3⟩ := Kd.at_int hr' 3 (by omega) (by omega)
     obtain rfl := Option.some.inj hA
     obtain ⟨ad4, hA, hq4⟩ := Kd.at_int hr' 4 (by omega) (by omega)
     obtain rfl := Option.some.inj hA
     obtain ⟨ad5, hA, hq5⟩ := Kd.at_int hr' 5 (by omega) (by omega)
     obtain rfl := Option.some.inj hA
     obtain ⟨bk, off, fz⟩ := adw
     obtain rfl := spot_none hq0
     have hbkw : bk < w.heap.size := World.block_lt_of_cell? _ _ hqw
     clear hqw
     replace hq0 : w2.cell? ⟨bk, off, none⟩ = some (.int .i64 (rd l1 0)) := hq0
     replace hq1 : w2.cell? ⟨bk, off + 1, none⟩ = some (.int .i64 (rd l1 1)) := hq1
     replace hq2 : w2.cell? ⟨bk, off + 2, none⟩ = some (.int .i64 (rd l1 2)) := hq2
     replace hq3 : w2.cell? ⟨bk, off + 3, none⟩ = some (.int .i64 (rd l1 3)) := hq3
     replace hq4 : w2.cell? ⟨bk, off + 4, none⟩ = some (.int .i64 (rd l1 4)) := hq4
     replace hq5 : w2.cell? ⟨bk, off + 5, none⟩ = some (.int .i64 (rd l1 5)) := hq5
     have hat : ∀ W, (Instr.arrayAt 79 (.slice (some ⟨bk, off, none⟩) l1.length c1)).run Tryz.prog W = .ok (.pointer (some ⟨bk, off, none⟩)) W := fun W => run_arrayAt W 79 _ 6 _ _ c1 Tryz.underlying79 hl6
     unfold mM at hS2
     clear hc hr hr' hall s0 hS hb2
     go_wp2_with fail
     have hB0 := hS2.drew
     have hne : g ≠ bk := by have := hS2.gb; omega
     refine start_ (n := 9) (S := fun w' => w'.cell? ⟨bk, off, none⟩ = some (.int .i64 (rd l1 0)) ∧ w'.cell? ⟨bk, off + 1, none⟩ = some (.int .i64 (rd l1 1)) ∧ w'.cell? ⟨bk, off + 2, none⟩ = some (.int .i64 (rd l1 2)) ∧ w'.cell? ⟨bk, off + 3, none⟩ = some (.int .i64 (rd l1 3)) ∧ w'.cell? ⟨bk, off + 4, none⟩ = some (.int .i64 (rd l1 4)) ∧ w'.cell? ⟨bk, off + 5, none⟩ = some (.int .i64 (rd l1 5))) (ds := []) #[false, false, false, false, false, false, false, false, false] (by kernel_rfl) rfl rfl ⟨hq0, hq1, hq2, hq3, hq4, hq5⟩ (fun hHeld => ?_)
     refine pure_ (i := 0) (N := some 29) (v := ?_) (a' := ?_) #[true, false, false, false, false, false, false, false, false] rfl rfl (by kernel_rfl) (fun _ _ _ h => h) (Or.inl ⟨by rfl, ?_⟩) ?_ ?_
     rotate_left
     ·intro w'
      go_simp
      with_reducible rfl
     rotate_left
     ·simp only [Act.put, List.setIfInBounds_toArray, List.set_cons_zero, List.set_cons_succ, i64_w, i32_w]
      rfl
     refine pure_ (i := 1) (N := some 30) (v := ?_) (a' := ?_) #[true, true, false, false, false, false, false, false, false] rfl rfl (by kernel_rfl) (fun _ _ _ h => h) (Or.inl ⟨by rfl, ?_⟩) ?_ ?_
     rotate_left
     ·intro w'
      go_simp
      with_reducible rfl
     rotate_left
     ·simp only [Act.put, List.setIfInBounds_toArray, List.set_cons_zero, List.set_cons_succ, i64_w, i32_w]
      rfl
     refine pure_ (i := 2) (N := some 31) (v := ?_) (a' := ?_) #[true, true, true, false, false, false, false, false, false] rfl rfl (by kernel_rfl) (fun _ _ _ h => h) (Or.inl ⟨by rfl, ?_⟩) ?_ ?_
     rotate_left
     ·intro w'
      go_simp
      with_reducible rfl
     rotate_left
     ·simp only [Act.put, List.setIfInBounds_toArray, List.set_cons_zero, List.set_cons_succ, i64_w, i32_w]
      rfl
     refine pure_ (i := 5) (N := some 34) (v := ?_) (a' := ?_) #[true, true, true, false, false, true, false, false, false] rfl rfl (by kernel_rfl) (fun _ _ _ h => h) (Or.inl ⟨by rfl, ?_⟩) ?_ ?_
     rotate_left
     ·intro w'
      go_simp
      with_reducible rfl
     rotate_left
     ·simp only [Act.put, List.setIfInBounds_toArray, List.set_cons_zero, List.set_cons_succ, i64_w, i32_w]
      rfl
     refine pure_ (i := 6) (N := some 35) (v := ?_) (a' := ?_) #[true, true, true, false, false, true, true, false, false] rfl rfl (by kernel_rfl) (fun _ _ _ h => h) (Or.inl ⟨by rfl, ?_⟩) ?_ ?_
     rotate_left
     ·intro w'
      go_simp
      with_reducible rfl
     rotate_left
     ·simp only [Act.put, List.setIfInBounds_toArray, List.set_cons_zero, List.set_cons_succ, i64_w, i32_w]
      rfl
     refine one_ (i := 3) (N := some 32) #[true, true, true, true, false, true, true, false, false] rfl rfl (by kernel_rfl) (by decide) (fun K hK => ?_)
     refine value_ (w1 := ?_) (v := ?_) (by rfl) rfl ?_ ?_
     rotate_left 2
     ·go_simp
      constructor
      ·rfl
      ·rfl
     refine hK.out _ _ ⟨hHeld.1, hHeld.2.1, hHeld.2.2.1, hHeld.2.2.2.1, hHeld.2.2.2.2.1, hHeld.2.2.2.2.2⟩ (fun hHeld => ?_)
     clear hK K
     refine norm_ (a' := ?_) ?_ ?_
     rotate_left
     ·show Act.put _ (some 32) _ = _
      simp only [Act.put, List.setIfInBounds_toArray, List.set_cons_zero, List.set_cons_succ, i64_w, i32_w]
      rfl
     refine take_ (i := 4) (N := some 33) (v := ?_) (a' := ?_) #[true, true, true, true, true, true, true, false, false] rfl rfl (by kernel_rfl) (fun _ _ _ h => h) (Or.inl ⟨by rfl, ?_⟩) hHeld ?_ ?_
     rotate_left
     ·rintro w' ⟨s0, s1, s2, s3, s4, s5⟩
      go_simp
      with_reducible rfl
     rotate_left
     ·simp only [Act.put, List.setIfInBounds_toArray, List.set_cons_zero, List.set_cons_succ, i64_w, i32_w]
      rfl
     refine pure_ (i := 7) (N := some 36) (v := ?_) (a' := ?_) #[true, true, true, true, true, true, true, true, false] rfl rfl (by kernel_rfl) (fun _ _ _ h => h) (Or.inl ⟨by rfl, ?_⟩) ?_ ?_
     rotate_left
     ·intro w'
      go_simp
      with_reducible rfl
     rotate_left
     ·simp only [Act.put, List.setIfInBounds_toArray, List.set_cons_zero, List.set_cons_succ, i64_w, i32_w]
      rfl
     refine one_ (i := 8) (N := none) #[true, true, true, true, true, true, true, true, true] rfl rfl (by kernel_rfl) (by decide) (fun K hK => ?_)
     refine skip_ (w1 := ?_) (by rfl) rfl ?_ ?_
     rotate_left
     ·have hu53 := Tryz.underlying79
      have i0 : w2.cell? ⟨g, 6, none⟩ = some (.int .i64 0) := (blk_cell hS2.hg 6).trans rfl
      have i1 : w2.cell? ⟨g, 7, none⟩ = some (.int .i64 0) := (blk_cell hS2.hg 7).trans rfl
      have i2 : w2.cell? ⟨g, 8, none⟩ = some (.int .i64 0) := (blk_cell hS2.hg 8).trans rfl
      have i3 : w2.cell? ⟨g, 9, none⟩ = some (.int .i64 0) := (blk_cell hS2.hg 9).trans rfl
      have i4 : w2.cell? ⟨g, 10, none⟩ = some (.int .i64 0) := (blk_cell hS2.hg 10).trans rfl
      have i5 : w2.cell? ⟨g, 11, none⟩ = some (.int .i64 0) := (blk_cell hS2.hg 11).trans rfl
      have j0 : w2.frozen? ⟨g, 6, none⟩ = false := blk_frozen hS2.hg 6
      have j1 : w2.frozen? ⟨g, 7, none⟩ = false := blk_frozen hS2.hg 7
      have j2 : w2.frozen? ⟨g, 8, none⟩ = false := blk_frozen hS2.hg 8
      have j3 : w2.frozen? ⟨g, 9, none⟩ = false := blk_frozen hS2.hg 9
      have j4 : w2.frozen? ⟨g, 10, none⟩ = false := blk_frozen hS2.hg 10
      have j5 : w2.frozen? ⟨g, 11, none⟩ = false := blk_frozen hS2.hg 11
      go_simp
      rfl
     have hX : St w b g (#[.slice A0 l0.length c0, .slice (some ⟨bk, off, none⟩) l1.length c1, .slice A2 l2.length c2]) (#[.int .i64 (rd l0 0), .int .i64 (rd l0 1), .int .i64 (rd l0 2), .int .i64 (rd l0 3), .int .i64 (rd l0 4), .int .i64 (rd l0 5), .int .i64 (rd l1 0), .int .i64 (rd l1 1), .int .i64 (rd l1 2), .int .i64 (rd l1 3), .int .i64 (rd l1 4), .int .i64 (rd l1 5), .int .i64 0, .int .i64 0, .int .i64 0, .int .i64 0, .int .i64 0, .int .i64 0]) ((((((w2.setCell ⟨g, 6, none⟩ (.int .i64 (rd l1 0))).setCell ⟨g, 7, none⟩ (.int .i64 (rd l1 1))).setCell ⟨g, 8, none⟩ (.int .i64 (rd l1 2))).setCell ⟨g, 9, none⟩ (.int .i64 (rd l1 3))).setCell ⟨g, 10, none⟩ (.int .i64 (rd l1 4))).setCell ⟨g, 11, none⟩ (.int .i64 (rd l1 5))).drew := (St.put6 hS2 6 7 8 9 10 11 (.int .i64 (rd l1 0)) (.int .i64 (rd l1 1)) (.int .i64 (rd l1 2)) (.int .i64 (rd l1 3)) (.int .i64 (rd l1 4)) (.int .i64 (rd l1 5)) (by rfl)).drew
     have X0 : ((((((w2.setCell ⟨g, 6, none⟩ (.int .i64 (rd l1 0))).setCell ⟨g, 7, none⟩ (.int .i64 (rd l1 1))).setCell ⟨g, 8, none⟩ (.int .i64 (rd l1 2))).setCell ⟨g, 9, none⟩ (.int .i64 (rd l1 3))).setCell ⟨g, 10, none⟩ (.int .i64 (rd l1 4))).setCell ⟨g, 11, none⟩ (.int .i64 (rd l1 5))).drew.cell? ⟨bk, off, none⟩ = some (.int .i64 (rd l1 0)) := (cell_drew _ _).trans (far6 w2 (off) hne 6 7 8 9 10 11 (.int .i64 (rd l1 0)) (.int .i64 (rd l1 1)) (.int .i64 (rd l1 2)) (.int .i64 (rd l1 3)) (.int .i64 (rd l1 4)) (.int .i64 (rd l1 5)) hq0)
     have X1 : ((((((w2.setCell ⟨g, 6, none⟩ (.int .i64 (rd l1 0))).setCell ⟨g, 7, none⟩ (.int .i64 (rd l1 1))).setCell ⟨g, 8, none⟩ (.int .i64 (rd l1 2))).setCell ⟨g, 9, none⟩ (.int .i64 (rd l1 3))).setCell ⟨g, 10, none⟩ (.int .i64 (rd l1 4))).setCell ⟨g, 11, none⟩ (.int .i64 (rd l1 5))).drew.cell? ⟨bk, off + 1, none⟩ = some (.int .i64 (rd l1 1)) := (cell_drew _ _).trans (far6 w2 (off + 1) hne 6 7 8 9 10 11 (.int .i64 (rd l1 0)) (.int .i64 (rd l1 1)) (.int .i64 (rd l1 2)) (.int .i64 (rd l1 3)) (.int .i64 (rd l1 4)) (.int .i64 (rd l1 5)) hq1)
     have X2 : ((((((w2.setCell ⟨g, 6, none⟩ (.int .i64 (rd l1 0))).setCell ⟨g, 7, none⟩ (.int .i64 (rd l1 1))).setCell ⟨g, 8, none⟩ (.int .i64 (rd l1 2))).setCell ⟨g, 9, none⟩ (.int .i64 (rd l1 3))).setCell ⟨g, 10, none⟩ (.int .i64 (rd l1 4))).setCell ⟨g, 11, none⟩ (.int .i64 (rd l1 5))).drew.cell? ⟨bk, off + 2, none⟩ = some (.int .i64 (rd l1 2)) := (cell_drew _ _).trans (far6 w2 (off + 2) hne 6 7 8 9 10 11 (.int .i64 (rd l1 0)) (.int .i64 (rd l1 1)) (.int .i64 (rd l1 2)) (.int .i64 (rd l1 3)) (.int .i64 (rd l1 4)) (.int .i64 (rd l1 5)) hq2)
     have X3 : ((((((w2.setCell ⟨g, 6, none⟩ (.int .i64 (rd l1 0))).setCell ⟨g, 7, none⟩ (.int .i64 (rd l1 1))).setCell ⟨g, 8, none⟩ (.int .i64 (rd l1 2))).setCell ⟨g, 9, none⟩ (.int .i64 (rd l1 3))).setCell ⟨g, 10, none⟩ (.int .i64 (rd l1 4))).setCell ⟨g, 11, none⟩ (.int .i64 (rd l1 5))).drew.cell? ⟨bk, off + 3, none⟩ = some (.int .i64 (rd l1 3)) := (cell_drew _ _).trans (far6 w2 (off + 3) hne 6 7 8 9 10 11 (.int .i64 (rd l1 0)) (.int .i64 (rd l1 1)) (.int .i64 (rd l1 2)) (.int .i64 (rd l1 3)) (.int .i64 (rd l1 4)) (.int .i64 (rd l1 5)) hq3)
     have X4 : ((((((w2.setCell ⟨g, 6, none⟩ (.int .i64 (rd l1 0))).setCell ⟨g, 7, none⟩ (.int .i64 (rd l1 1))).setCell ⟨g, 8, none⟩ (.int .i64 (rd l1 2))).setCell ⟨g, 9, none⟩ (.int .i64 (rd l1 3))).setCell ⟨g, 10, none⟩ (.int .i64 (rd l1 4))).setCell ⟨g, 11, none⟩ (.int .i64 (rd l1 5))).drew.cell? ⟨bk, off + 4, none⟩ = some (.int .i64 (rd l1 4)) := (cell_drew _ _).trans (far6 w2 (off + 4) hne 6 7 8 9 10 11 (.int .i64 (rd l1 0)) (.int .i64 (rd l1 1)) (.int .i64 (rd l1 2)) (.int .i64 (rd l1 3)) (.int .i64 (rd l1 4)) (.int .i64 (rd l1 5)) hq4)
     have X5 : ((((((w2.setCell ⟨g, 6, none⟩ (.int .i64 (rd l1 0))).setCell ⟨g, 7, none⟩ (.int .i64 (rd l1 1))).setCell ⟨g, 8, none⟩ (.int .i64 (rd l1 2))).setCell ⟨g, 9, none⟩ (.int .i64 (rd l1 3))).setCell ⟨g, 10, none⟩ (.int .i64 (rd l1 4))).setCell ⟨g, 11, none⟩ (.int .i64 (rd l1 5))).drew.cell? ⟨bk, off + 5, none⟩ = some (.int .i64 (rd l1 5)) := (cell_drew _ _).trans (far6 w2 (off + 5) hne 6 7 8 9 10 11 (.int .i64 (rd l1 0)) (.int .i64 (rd l1 1)) (.int .i64 (rd l1 2)) (.int .i64 (rd l1 3)) (.int .i64 (rd l1 4)) (.int .i64 (rd l1 5)) hq5)
     refine hK.out _ _ ⟨X0, X1, X2, X3, X4, X5⟩ (fun hHeld => ?_)
     clear hK K
     refine done_ (by kernel_rfl) ?_
     clear hHeld X0 X1 X2 X3 X4 X5
     generalize (World.drew _) = w3 at hX ⊢
     go_wp2
     go_roundw
     case rel => exact ⟨2, by omega, by go_num, by intro _; first | assumption | exact o0 (by omega), by intro _; first | assumption | exact o1 (by omega), by omega, hX⟩
     case measure => simp [intOf]
   ·have e1 : ((l1.length : Int) != 6) = true := by simp; omega
    go_wp2
    refine bodyPost_ret (res41 _ _) rfl ⟨fun h => absurd h (by simp [okM, okL, hl]), fun _ => rfl, hS.bel⟩
  ·have s0 : wr.cell? ⟨b, 2, none⟩ = some (.slice A2 l2.length c2) := (blk_cell hS.hb 2).trans rfl
   have hr := Kd.C_below hr2 hS.bel
   by_cases hl : l2.length = 6
   ·have e1 : ((l2.length : Int) != 6) = false := by simp; omega
    have hl6 : 6 ≤ l2.length := by omega
    have hok : l2.all isN = true → okL l2 = true := fun h => by simp [okL, hl, h]
    have hc := contains_any A2 c2 l2 wr hr
    clear hl
    go_wp2_with fail
    refine hc.mono ?_
    rintro e w2 ⟨rfl, hb2⟩
    have hS2 := hS.below hb2
    have hr' := Kd.C_below hr2 hS2.bel
    cases hall : l2.all isN with
    | false =>
     go_wp2
     refine bodyPost_ret (res41 _ _) rfl ⟨fun h => absurd h (by simp [okM, okL, hall]), fun _ => rfl, hS2.bel⟩
    | true =>
     replace hok := hok hall
     obtain ⟨ad, hA, hq0⟩ := Kd.at_int hr' 0 (by omega) (by omega)
     obtain ⟨adw, hAw, hqw⟩ := Kd.at_int hr2 0 (by omega) (by omega)
     obtain rfl : adw = ad := Option.some.inj (hAw.symm.trans hA)
     clear hAw
     subst hA
     obtain ⟨ad1, hA, hq1⟩ := Kd.at_int hr' 1 (by omega) (by omega)
     obtain rfl := Option.some.inj hA
     obtain ⟨ad2, hA, hq2⟩ := Kd.at_int hr' 2 (by omega) (by omega)
     obtain rfl := Option.some.inj hA
     obtain ⟨ad3, hA, hq3⟩ := Kd.at_int hr' 3 (by omega) (by omega)
     obtain rfl := Option.some.inj hA
     obtain ⟨ad4, hA, hq4⟩ := Kd.at_int hr' 4 (by omega) (by omega)
     obtain rfl := Option.some.inj hA
     obtain ⟨ad5, hA, hq5⟩ := Kd.at_int hr' 5 (by omega) (by omega)
     obtain rfl := Option.some.inj hA
     obtain ⟨bk, off, fz⟩ := adw
     obtain rfl := spot_none hq0
     have hbkw : bk < w.heap.size := World.block_lt_of_cell? _ _ hqw
     clear hqw
     replace hq0 : w2.cell? ⟨bk, off, none⟩ = some (.int .i64 (rd l2 0)) := hq0
     replace hq1 : w2.cell? ⟨bk, off + 1, none⟩ = some (.int .i64 (rd l2 1)) := hq1
     replace hq2 : w2.cell? ⟨bk, off + 2, none⟩ = some (.int .i64 (rd l2 2)) := hq2
     replace hq3 : w2.cell? ⟨bk, off + 3, none⟩ = some (.int .i64 (rd l2 3)) := hq3
     replace hq4 : w2.cell? ⟨bk, off + 4, none⟩ = some (.int .i64 (rd l2 4)) := hq4
     replace hq5 : w2.cell? ⟨bk, off + 5, none⟩ = some (.int .i64 (rd l2 5)) := hq5
     have hat : ∀ W, (Instr.arrayAt 79 (.slice (some ⟨bk, off, none⟩) l2.length c2)).run Tryz.prog W = .ok (.pointer (some ⟨bk, off, none⟩)) W := fun W => run_arrayAt W 79 _ 6 _ _ c2 Tryz.underlying79 hl6
     unfold mM at hS2
     clear hc hr hr' hall s0 hS hb2
     go_wp2_with fail
     have hB0 := hS2.drew
     have hne : g ≠ bk := by have := hS2.gb; omega
     refine start_ (n := 9) (S := fun w' => w'.cell? ⟨bk, off, none⟩ = some (.int .i64 (rd l2 0)) ∧ w'.cell? ⟨bk, off + 1, none⟩ = some (.int .i64 (rd l2 1)) ∧ w'.cell? ⟨bk, off + 2, none⟩ = some (.int .i64 (rd l2 2)) ∧ w'.cell? ⟨bk, off + 3, none⟩ = some (.int .i64 (rd l2 3)) ∧ w'.cell? ⟨bk, off + 4, none⟩ = some (.int .i64 (rd l2 4)) ∧ w'.cell? ⟨bk, off + 5, none⟩ = some (.int .i64 (rd l2 5))) (ds := []) #[false, false, false, false, false, false, false, false, false] (by kernel_rfl) rfl rfl ⟨hq0, hq1, hq2, hq3, hq4, hq5⟩ (fun hHeld => ?_)
     refine pure_ (i := 0) (N := some 29) (v := ?_) (a' := ?_) #[true, false, false, false, false, false, false, false, false] rfl rfl (by kernel_rfl) (fun _ _ _ h => h) (Or.inl ⟨by rfl, ?_⟩) ?_ ?_
     rotate_left
     ·intro w'
      go_simp
      with_reducible rfl
     rotate_left
     ·simp only [Act.put, List.setIfInBounds_toArray, List.set_cons_zero, List.set_cons_succ, i64_w, i32_w]
      rfl
     refine pure_ (i := 1) (N := some 30) (v := ?_) (a' := ?_) #[true, true, false, false, false, false, false, false, false] rfl rfl (by kernel_rfl) (fun _ _ _ h => h) (Or.inl ⟨by rfl, ?_⟩) ?_ ?_
     rotate_left
     ·intro w'
      go_simp
      with_reducible rfl
     rotate_left
     ·simp only [Act.put, List.setIfInBounds_toArray, List.set_cons_zero, List.set_cons_succ, i64_w, i32_w]
      rfl
     refine pure_ (i := 2) (N := some 31) (v := ?_) (a' := ?_) #[true, true, true, false, false, false, false, false, false] rfl rfl (by kernel_rfl) (fun _ _ _ h => h) (Or.inl ⟨by rfl, ?_⟩) ?_ ?_
     rotate_left
     ·intro w'
      go_simp
      with_reducible rfl
     rotate_left
     ·simp only [Act.put, List.setIfInBounds_toArray, List.set_cons_zero, List.set_cons_succ, i64_w, i32_w]
      rfl
     refine pure_ (i := 5) (N := some 34) (v := ?_) (a' := ?_) #[true, true, true, false, false, true, false, false, false] rfl rfl (by kernel_rfl) (fun _ _ _ h => h) (Or.inl ⟨by rfl, ?_⟩) ?_ ?_
     rotate_left
     ·intro w'
      go_simp
      with_reducible rfl
     rotate_left
     ·simp only [Act.put, List.setIfInBounds_toArray, List.set_cons_zero, List.set_cons_succ, i64_w, i32_w]
      rfl
     refine pure_ (i := 6) (N := some 35) (v := ?_) (a' := ?_) #[true, true, true, false, false, true, true, false, false] rfl rfl (by kernel_rfl) (fun _ _ _ h => h) (Or.inl ⟨by rfl, ?_⟩) ?_ ?_
     rotate_left
     ·intro w'
      go_simp
      with_reducible rfl
     rotate_left
     ·simp only [Act.put, List.setIfInBounds_toArray, List.set_cons_zero, List.set_cons_succ, i64_w, i32_w]
      rfl
     refine one_ (i := 3) (N := some 32) #[true, true, true, true, false, true, true, false, false] rfl rfl (by kernel_rfl) (by decide) (fun K hK => ?_)
     refine value_ (w1 := ?_) (v := ?_) (by rfl) rfl ?_ ?_
     rotate_left 2
     ·go_simp
      constructor
      ·rfl
      ·rfl
     refine hK.out _ _ ⟨hHeld.1, hHeld.2.1, hHeld.2.2.1, hHeld.2.2.2.1, hHeld.2.2.2.2.1, hHeld.2.2.2.2.2⟩ (fun hHeld => ?_)
     clear hK K
     refine norm_ (a' := ?_) ?_ ?_
     rotate_left
     ·show Act.put _ (some 32) _ = _
      simp only [Act.put, List.setIfInBounds_toArray, List.set_cons_zero, List.set_cons_succ, i64_w, i32_w]
      rfl
     refine take_ (i := 4) (N := some 33) (v := ?_) (a' := ?_) #[true, true, true, true, true, true, true, false, false] rfl rfl (by kernel_rfl) (fun _ _ _ h => h) (Or.inl ⟨by rfl, ?_⟩) hHeld ?_ ?_
     rotate_left
     ·rintro w' ⟨s0, s1, s2, s3, s4, s5⟩
      go_simp
      with_reducible rfl
     rotate_left
     ·simp only [Act.put, List.setIfInBounds_toArray, List.set_cons_zero, List.set_cons_succ, i64_w, i32_w]
      rfl
     refine pure_ (i := 7) (N := some 36) (v := ?_) (a' := ?_) #[true, true, true, true, true, true, true, true, false] rfl rfl (by kernel_rfl) (fun _ _ _ h => h) (Or.inl ⟨by rfl, ?_⟩) ?_ ?_
     rotate_left
     ·intro w'
      go_simp
      with_reducible rfl
     rotate_left
     ·simp only [Act.put, List.setIfInBounds_toArray, List.set_cons_zero, List.set_cons_succ, i64_w, i32_w]
      rfl
     refine one_ (i := 8) (N := none) #[true, true, true, true, true, true, true, true, true] rfl rfl (by kernel_rfl) (by decide) (fun K hK => ?_)
     refine skip_ (w1 := ?_) (by rfl) rfl ?_ ?_
     rotate_left
     ·have hu53 := Tryz.underlying79
      have i0 : w2.cell? ⟨g, 12, none⟩ = some (.int .i64 0) := (blk_cell hS2.hg 12).trans rfl
      have i1 : w2.cell? ⟨g, 13, none⟩ = some (.int .i64 0) := (blk_cell hS2.hg 13).trans rfl
      have i2 : w2.cell? ⟨g, 14, none⟩ = some (.int .i64 0) := (blk_cell hS2.hg 14).trans rfl
      have i3 : w2.cell? ⟨g, 15, none⟩ = some (.int .i64 0) := (blk_cell hS2.hg 15).trans rfl
      have i4 : w2.cell? ⟨g, 16, none⟩ = some (.int .i64 0) := (blk_cell hS2.hg 16).trans rfl
      have i5 : w2.cell? ⟨g, 17, none⟩ = some (.int .i64 0) := (blk_cell hS2.hg 17).trans rfl
      have j0 : w2.frozen? ⟨g, 12, none⟩ = false := blk_frozen hS2.hg 12
      have j1 : w2.frozen? ⟨g, 13, none⟩ = false := blk_frozen hS2.hg 13
      have j2 : w2.frozen? ⟨g, 14, none⟩ = false := blk_frozen hS2.hg 14
      have j3 : w2.frozen? ⟨g, 15, none⟩ = false := blk_frozen hS2.hg 15
      have j4 : w2.frozen? ⟨g, 16, none⟩ = false := blk_frozen hS2.hg 16
      have j5 : w2.frozen? ⟨g, 17, none⟩ = false := blk_frozen hS2.hg 17
      go_simp
      rfl
     have hX : St w b g (#[.slice A0 l0.length c0, .slice A1 l1.length c1, .slice (some ⟨bk, off, none⟩) l2.length c2]) (#[.int .i64 (rd l0 0), .int .i64 (rd l0 1), .int .i64 (rd l0 2), .int .i64 (rd l0 3), .int .i64 (rd l0 4), .int .i64 (rd l0 5), .int .i64 (rd l1 0), .int .i64 (rd l1 1), .int .i64 (rd l1 2), .int .i64 (rd l1 3), .int .i64 (rd l1 4), .int .i64 (rd l1 5), .int .i64 (rd l2 0), .int .i64 (rd l2 1), .int .i64 (rd l2 2), .int .i64 (rd l2 3), .int .i64 (rd l2 4), .int .i64 (rd l2 5)]) ((((((w2.setCell ⟨g, 12, none⟩ (.int .i64 (rd l2 0))).setCell ⟨g, 13, none⟩ (.int .i64 (rd l2 1))).setCell ⟨g, 14, none⟩ (.int .i64 (rd l2 2))).setCell ⟨g, 15, none⟩ (.int .i64 (rd l2 3))).setCell ⟨g, 16, none⟩ (.int .i64 (rd l2 4))).setCell ⟨g, 17, none⟩ (.int .i64 (rd l2 5))).drew := (St.put6 hS2 12 13 14 15 16 17 (.int .i64 (rd l2 0)) (.int .i64 (rd l2 1)) (.int .i64 (rd l2 2)) (.int .i64 (rd l2 3)) (.int .i64 (rd l2 4)) (.int .i64 (rd l2 5)) (by rfl)).drew
     have X0 : ((((((w2.setCell ⟨g, 12, none⟩ (.int .i64 (rd l2 0))).setCell ⟨g, 13, none⟩ (.int .i64 (rd l2 1))).setCell ⟨g, 14, none⟩ (.int .i64 (rd l2 2))).setCell ⟨g, 15, none⟩ (.int .i64 (rd l2 3))).setCell ⟨g, 16, none⟩ (.int .i64 (rd l2 4))).setCell ⟨g, 17, none⟩ (.int .i64 (rd l2 5))).drew.cell? ⟨bk, off, none⟩ = some (.int .i64 (rd l2 0)) := (cell_drew _ _).trans (far6 w2 (off) hne 12 13 14 15 16 17 (.int .i64 (rd l2 0)) (.int .i64 (rd l2 1)) (.int .i64 (rd l2 2)) (.int .i64 (rd l2 3)) (.int .i64 (rd l2 4)) (.int .i64 (rd l2 5)) hq0)
     have X1 : ((((((w2.setCell ⟨g, 12, none⟩ (.int .i64 (rd l2 0))).setCell ⟨g, 13, none⟩ (.int .i64 (rd l2 1))).setCell ⟨g, 14, none⟩ (.int .i64 (rd l2 2))).setCell ⟨g, 15, none⟩ (.int .i64 (rd l2 3))).setCell ⟨g, 16, none⟩ (.int .i64 (rd l2 4))).setCell ⟨g, 17, none⟩ (.int .i64 (rd l2 5))).drew.cell? ⟨bk, off + 1, none⟩ = some (.int .i64 (rd l2 1)) := (cell_drew _ _).trans (far6 w2 (off + 1) hne 12 13 14 15 16 17 (.int .i64 (rd l2 0)) (.int .i64 (rd l2 1)) (.int .i64 (rd l2 2)) (.int .i64 (rd l2 3)) (.int .i64 (rd l2 4)) (.int .i64 (rd l2 5)) hq1)
     have X2 : ((((((w2.setCell ⟨g, 12, none⟩ (.int .i64 (rd l2 0))).setCell ⟨g, 13, none⟩ (.int .i64 (rd l2 1))).setCell ⟨g, 14, none⟩ (.int .i64 (rd l2 2))).setCell ⟨g, 15, none⟩ (.int .i64 (rd l2 3))).setCell ⟨g, 16, none⟩ (.int .i64 (rd l2 4))).setCell ⟨g, 17, none⟩ (.int .i64 (rd l2 5))).drew.cell? ⟨bk, off + 2, none⟩ = some (.int .i64 (rd l2 2)) := (cell_drew _ _).trans (far6 w2 (off + 2) hne 12 13 14 15 16 17 (.int .i64 (rd l2 0)) (.int .i64 (rd l2 1)) (.int .i64 (rd l2 2)) (.int .i64 (rd l2 3)) (.int .i64 (rd l2 4)) (.int .i64 (rd l2 5)) hq2)
     have X3 : ((((((w2.setCell ⟨g, 12, none⟩ (.int .i64 (rd l2 0))).setCell ⟨g, 13, none⟩ (.int .i64 (rd l2 1))).setCell ⟨g, 14, none⟩ (.int .i64 (rd l2 2))).setCell ⟨g, 15, none⟩ (.int .i64 (rd l2 3))).setCell ⟨g, 16, none⟩ (.int .i64 (rd l2 4))).setCell ⟨g, 17, none⟩ (.int .i64 (rd l2 5))).drew.cell? ⟨bk, off + 3, none⟩ = some (.int .i64 (rd l2 3)) := (cell_drew _ _).trans (far6 w2 (off + 3) hne 12 13 14 15 16 17 (.int .i64 (rd l2 0)) (.int .i64 (rd l2 1)) (.int .i64 (rd l2 2)) (.int .i64 (rd l2 3)) (.int .i64 (rd l2 4)) (.int .i64 (rd l2 5)) hq3)
     have X4 : ((((((w2.setCell ⟨g, 12, none⟩ (.int .i64 (rd l2 0))).setCell ⟨g, 13, none⟩ (.int .i64 (rd l2 1))).setCell ⟨g, 14, none⟩ (.int .i64 (rd l2 2))).setCell ⟨g, 15, none⟩ (.int .i64 (rd l2 3))).setCell ⟨g, 16, none⟩ (.int .i64 (rd l2 4))).setCell ⟨g, 17, none⟩ (.int .i64 (rd l2 5))).drew.cell? ⟨bk, off + 4, none⟩ = some (.int .i64 (rd l2 4)) := (cell_drew _ _).trans (far6 w2 (off + 4) hne 12 13 14 15 16 17 (.int .i64 (rd l2 0)) (.int .i64 (rd l2 1)) (.int .i64 (rd l2 2)) (.int .i64 (rd l2 3)) (.int .i64 (rd l2 4)) (.int .i64 (rd l2 5)) hq4)
     have X5 : ((((((w2.setCell ⟨g, 12, none⟩ (.int .i64 (rd l2 0))).setCell ⟨g, 13, none⟩ (.int .i64 (rd l2 1))).setCell ⟨g, 14, none⟩ (.int .i64 (rd l2 2))).setCell ⟨g, 15, none⟩ (.int .i64 (rd l2 3))).setCell ⟨g, 16, none⟩ (.int .i64 (rd l2 4))).setCell ⟨g, 17, none⟩ (.int .i64 (rd l2 5))).drew.cell? ⟨bk, off + 5, none⟩ = some (.int .i64 (rd l2 5)) := (cell_drew _ _).trans (far6 w2 (off + 5) hne 12 13 14 15 16 17 (.int .i64 (rd l2 0)) (.int .i64 (rd l2 1)) (.int .i64 (rd l2 2)) (.int .i64 (rd l2 3)) (.int .i64 (rd l2 4)) (.int .i64 (rd l2 5)) hq5)
     refine hK.out _ _ ⟨X0, X1, X2, X3, X4, X5⟩ (fun hHeld => ?_)
     clear hK K
     refine done_ (by kernel_rfl) ?_
     clear hHeld X0 X1 X2 X3 X4 X5
     generalize (World.drew _) = w3 at hX ⊢
     go_wp2
     go_roundw
     case rel => exact ⟨3, by omega, by go_num, by intro _; first | assumption | exact o0 (by omega), by intro _; first | assumption | exact o1 (by omega), by intro _; first | assumption | exact o2 (by omega), hX⟩
     case measure => simp [intOf]
   ·have e1 : ((l2.length : Int) != 6) = true := by simp; omega
    go_wp2
    refine bodyPost_ret (res41 _ _) rfl ⟨fun h => absurd h (by simp [okM, okL, hl]), fun _ => rfl, hS.bel⟩
  ·go_wp2
   refine bodyPost_ret (res41 _ _) rfl ⟨fun _ => ⟨g, rfl, hS.hg, hS.gb⟩, fun h => absurd h (by simp [okM, o0 (by omega), o1 (by omega), o2 (by omega)]), hS.bel⟩
end Go.Proofs.YtjamfddhcigchaaGreatDoor.Gm
namespace Go.Proofs.YtjamfddhcigchaaGreatDoor.Gn
open Go.RowKit Go.Proofs.YtjamfddhcigchaaGreatDoorW.PrintWords Go.Proofs.YtjamfddhcigchaaGreatDoorW.PrintLast Go.Proofs.YtjamfddhcigchaaGreatDoorW.PrintMore Gm
attribute [local go_sem] max2_int min2_int max_two min_two
set_option linter.unusedVariables false
set_option linter.unusedSimpArgs false
def aOk (k i : Int) : Bool := decide (1 ≤ k) && (decide (k ≤ 3) && (decide (0 ≤ i) && decide (i < 6)))
set_option maxRecDepth 100000 in
theorem addrOk_any (k i : Int) (w : World) : Calls Tryz.prog 110 #[.agg #[.int .i64 k, .int .i64 i]] w fun e w' => e = .returned (.bool (aOk k i)) ∧ Below w.heap.size w w' := by
 have hu := Tryz.underlying28
 have al : ∀ o : Obj, Below w.heap.size w (w.alloc o) := fun o => (Below.refl _ _).alloc (Nat.le_refl _) _
 obtain ⟨p1, h1⟩ : ∃ q, decide (1 ≤ k) = q := ⟨_, rfl⟩
 obtain ⟨p2, h2⟩ : ∃ q, decide (k ≤ 3) = q := ⟨_, rfl⟩
 obtain ⟨p3, h3⟩ : ∃ q, decide (0 ≤ i) = q := ⟨_, rfl⟩
 obtain ⟨p4, h4⟩ : ∃ q, decide (i < 6) = q := ⟨_, rfl⟩
 have e : aOk k i = (p1 && (p2 && (p3 && p4))) := by unfold aOk; rw [h1, h2, h3, h4]
 rw [e]; clear e
 cases p1 <;> cases p2 <;> cases p3 <;> cases p4
 all_goals
  go_enter Tryz.func110, Tryz.ntmps110
  go_wp2
  go_ret
  exact ⟨rfl, al _⟩
set_option maxRecDepth 100000 in
set_option maxHeartbeats 6400000 in
theorem place_1 (g : Nat) (i : Int) (w : World) (hi : 0 ≤ i) (hi2 : i < 6) : Calls Tryz.prog 123 #[.pointer (some ⟨g, 0, none⟩), .agg #[.int .i64 1, .int .i64 i]] w fun e w' => e = .returned (.pointer (some ⟨g, 0 + i.toNat, none⟩)) ∧ Below w.heap.size w w' := by
 have hu := Tryz.underlying28
 have hu56 := Tryz.underlying82
 have hu54 := Tryz.underlying80
 have hu53 := Tryz.underlying79
 have hwj : wrap64 0 = 0 := by unfold wrap64; omega
 have d1 : decide (0 ≤ i) = true := by simpa using hi
 have d2 : decide (i < 6) = true := by simpa using hi2
 go_enter Tryz.func123, Tryz.ntmps123
 go_wp2_with fail
 have n0 : (w.alloc (Obj.cells #[Value.int IntKind.i64 1, Value.int IntKind.i64 i] 28)).heap[w.heap.size]? = some (.cells #[.int .i64 1, .int .i64 i] 28 (0, 0)) := heap_alloc_new _ _
 have n1 : Below w.heap.size w (w.alloc (Obj.cells #[Value.int IntKind.i64 1, Value.int IntKind.i64 i] 28)) := (Below.refl _ _).alloc (Nat.le_refl _) _
 generalize w.alloc (Obj.cells #[Value.int IntKind.i64 1, Value.int IntKind.i64 i] 28) = w1 at n0 n1 ⊢
 generalize hz : w.heap.size = z at n0 ⊢
 have c0 : w1.drew.cell? ⟨z, 0, none⟩ = some (.int .i64 1) := (blk_cell n0 0).trans rfl
 have c1 : w1.drew.cell? ⟨z, 1, none⟩ = some (.int .i64 i) := (blk_cell n0 1).trans rfl
 have c2 := below_drew1 n1
 refine start_ (n := 11) (S := fun w' => w'.cell? ⟨z, 0, none⟩ = some (.int .i64 1) ∧ w'.cell? ⟨z, 1, none⟩ = some (.int .i64 i) ∧ Below w.heap.size w w') (ds := []) #[false, false, false, false, false, false, false, false, false, false, false] (by kernel_rfl) rfl rfl ⟨c0, c1, c2⟩ (fun hHeld => ?_)
 refine pure_ (i := 0) (N := some 5) (v := ?_) (a' := ?_) #[true, false, false, false, false, false, false, false, false, false, false] rfl rfl (by kernel_rfl) (fun _ _ _ h => h) (Or.inl ⟨by rfl, ?_⟩) ?_ ?_
 rotate_left
 ·intro w'
  go_simp
  with_reducible rfl
 rotate_left
 ·simp only [Act.put, List.setIfInBounds_toArray, List.set_cons_zero, List.set_cons_succ, i64_w, i32_w]
  rfl
 refine pure_ (i := 1) (N := some 6) (v := ?_) (a' := ?_) #[true, true, false, false, false, false, false, false, false, false, false] rfl rfl (by kernel_rfl) (fun _ _ _ h => h) (Or.inl ⟨by rfl, ?_⟩) ?_ ?_
 rotate_left
 ·intro w'
  go_simp
  with_reducible rfl
 rotate_left
 ·simp only [Act.put, List.setIfInBounds_toArray, List.set_cons_zero, List.set_cons_succ, i64_w, i32_w]
  rfl
 refine pure_ (i := 4) (N := some 9) (v := ?_) (a' := ?_) #[true, true, false, false, true, false, false, false, false, false, false] rfl rfl (by kernel_rfl) (fun _ _ _ h => h) (Or.inl ⟨by rfl, ?_⟩) ?_ ?_
 rotate_left
 ·intro w'
  go_simp
  with_reducible rfl
 rotate_left
 ·simp only [Act.put, List.setIfInBounds_toArray, List.set_cons_zero, List.set_cons_succ, i64_w, i32_w]
  rfl
 refine pure_ (i := 6) (N := some 11) (v := ?_) (a' := ?_) #[true, true, false, false, true, false, true, false, false, false, false] rfl rfl (by kernel_rfl) (fun _ _ _ h => h) (Or.inl ⟨by rfl, ?_⟩) ?_ ?_
 rotate_left
 ·intro w'
  go_simp
  with_reducible rfl
 rotate_left
 ·simp only [Act.put, List.setIfInBounds_toArray, List.set_cons_zero, List.set_cons_succ, i64_w, i32_w]
  rfl
 refine pure_ (i := 7) (N := some 12) (v := ?_) (a' := ?_) #[true, true, false, false, true, false, true, true, false, false, false] rfl rfl (by kernel_rfl) (fun _ _ _ h => h) (Or.inl ⟨by rfl, ?_⟩) ?_ ?_
 rotate_left
 ·intro w'
  go_simp
  with_reducible rfl
 rotate_left
 ·simp only [Act.put, List.setIfInBounds_toArray, List.set_cons_zero, List.set_cons_succ, i64_w, i32_w]
  rfl
 refine take_ (i := 2) (N := some 7) (v := ?_) (a' := ?_) #[true, true, true, false, true, false, true, true, false, false, false] rfl rfl (by kernel_rfl) (fun _ _ _ h => h) (Or.inl ⟨by rfl, ?_⟩) hHeld ?_ ?_
 rotate_left
 ·rintro w' ⟨s0, s1, s2⟩
  go_simp
  with_reducible rfl
 rotate_left
 ·simp only [Act.put, List.setIfInBounds_toArray, List.set_cons_zero, List.set_cons_succ, i64_w, i32_w]
  rfl
 refine pure_ (i := 3) (N := some 8) (v := ?_) (a' := ?_) #[true, true, true, true, true, false, true, true, false, false, false] rfl rfl (by kernel_rfl) (fun _ _ _ h => h) (Or.inl ⟨by rfl, ?_⟩) ?_ ?_
 rotate_left
 ·intro w'
  go_simp
  with_reducible rfl
 rotate_left
 ·simp only [Act.put, List.setIfInBounds_toArray, List.set_cons_zero, List.set_cons_succ, i64_w, i32_w]
  rfl
 refine pure_ (i := 8) (N := some 13) (v := ?_) (a' := ?_) #[true, true, true, true, true, false, true, true, true, false, false] rfl rfl (by kernel_rfl) (fun _ _ _ h => h) (Or.inl ⟨by rfl, ?_⟩) ?_ ?_
 rotate_left
 ·intro w'
  go_simp
  with_reducible rfl
 rotate_left
 ·simp only [Act.put, List.setIfInBounds_toArray, List.set_cons_zero, List.set_cons_succ, i64_w, i32_w]
  rfl
 refine take_ (i := 5) (N := some 10) (v := ?_) (a' := ?_) #[true, true, true, true, true, true, true, true, true, false, false] rfl rfl (by kernel_rfl) (fun _ _ _ h => h) (Or.inl ⟨by rfl, ?_⟩) hHeld ?_ ?_
 rotate_left
 ·rintro w' ⟨s0, s1, s2⟩
  go_simp
  with_reducible rfl
 rotate_left
 ·simp only [Act.put, List.setIfInBounds_toArray, List.set_cons_zero, List.set_cons_succ, i64_w, i32_w]
  rfl
 refine pure_ (i := 9) (N := some 14) (v := ?_) (a' := ?_) #[true, true, true, true, true, true, true, true, true, true, false] rfl rfl (by kernel_rfl) (fun _ _ _ h => h) (Or.inl ⟨by rfl, ?_⟩) ?_ ?_
 rotate_left
 ·intro w'
  go_simp
  with_reducible rfl
 rotate_left
 ·simp only [Act.put, List.setIfInBounds_toArray, List.set_cons_zero, List.set_cons_succ, i64_w, i32_w]
  rfl
 refine pure_ (i := 10) (N := some 4) (v := ?_) (a' := ?_) #[true, true, true, true, true, true, true, true, true, true, true] rfl rfl (by kernel_rfl) (fun _ _ _ h => h) (Or.inl ⟨by rfl, ?_⟩) ?_ ?_
 rotate_left
 ·intro w'
  go_simp
  with_reducible rfl
 rotate_left
 ·simp only [Act.put, List.setIfInBounds_toArray, List.set_cons_zero, List.set_cons_succ, i64_w, i32_w]
  rfl
 refine done_ (by kernel_rfl) ?_
 have hl := hHeld.2.2
 go_wp2
 go_ret
 exact ⟨by first | rfl | (rw [Nat.zero_add]; rfl), hz ▸ hl⟩
set_option maxRecDepth 100000 in
set_option maxHeartbeats 6400000 in
theorem place_2 (g : Nat) (i : Int) (w : World) (hi : 0 ≤ i) (hi2 : i < 6) : Calls Tryz.prog 123 #[.pointer (some ⟨g, 0, none⟩), .agg #[.int .i64 2, .int .i64 i]] w fun e w' => e = .returned (.pointer (some ⟨g, 6 + i.toNat, none⟩)) ∧ Below w.heap.size w w' := by
 have hu := Tryz.underlying28
 have hu56 := Tryz.underlying82
 have hu54 := Tryz.underlying80
 have hu53 := Tryz.underlying79
 have hwj : wrap64 1 = 1 := by unfold wrap64; omega
 have d1 : decide (0 ≤ i) = true := by simpa using hi
 have d2 : decide (i < 6) = true := by simpa using hi2
 go_enter Tryz.func123, Tryz.ntmps123
 go_wp2_with fail
 have n0 : (w.alloc (Obj.cells #[Value.int IntKind.i64 2, Value.int IntKind.i64 i] 28)).heap[w.heap.size]? = some (.cells #[.int .i64 2, .int .i64 i] 28 (0, 0)) := heap_alloc_new _ _
 have n1 : Below w.heap.size w (w.alloc (Obj.cells #[Value.int IntKind.i64 2, Value.int IntKind.i64 i] 28)) := (Below.refl _ _).alloc (Nat.le_refl _) _
 generalize w.alloc (Obj.cells #[Value.int IntKind.i64 2, Value.int IntKind.i64 i] 28) = w1 at n0 n1 ⊢
 generalize hz : w.heap.size = z at n0 ⊢
 have c0 : w1.drew.cell? ⟨z, 0, none⟩ = some (.int .i64 2) := (blk_cell n0 0).trans rfl
 have c1 : w1.drew.cell? ⟨z, 1, none⟩ = some (.int .i64 i) := (blk_cell n0 1).trans rfl
 have c2 := below_drew1 n1
 refine start_ (n := 11) (S := fun w' => w'.cell? ⟨z, 0, none⟩ = some (.int .i64 2) ∧ w'.cell? ⟨z, 1, none⟩ = some (.int .i64 i) ∧ Below w.heap.size w w') (ds := []) #[false, false, false, false, false, false, false, false, false, false, false] (by kernel_rfl) rfl rfl ⟨c0, c1, c2⟩ (fun hHeld => ?_)
 refine pure_ (i := 0) (N := some 5) (v := ?_) (a' := ?_) #[true, false, false, false, false, false, false, false, false, false, false] rfl rfl (by kernel_rfl) (fun _ _ _ h => h) (Or.inl ⟨by rfl, ?_⟩) ?_ ?_
 rotate_left
 ·intro w'
  go_simp
  with_reducible rfl
 rotate_left
 ·simp only [Act.put, List.setIfInBounds_toArray, List.set_cons_zero, List.set_cons_succ, i64_w, i32_w]
  rfl
 refine pure_ (i := 1) (N := some 6) (v := ?_) (a' := ?_) #[true, true, false, false, false, false, false, false, false, false, false] rfl rfl (by kernel_rfl) (fun _ _ _ h => h) (Or.inl ⟨by rfl, ?_⟩) ?_ ?_
 rotate_left
 ·intro w'
  go_simp
  with_reducible rfl
 rotate_left
 ·simp only [Act.put, List.setIfInBounds_toArray, List.set_cons_zero, List.set_cons_succ, i64_w, i32_w]
  rfl
 refine pure_ (i := 4) (N := some 9) (v := ?_) (a' := ?_) #[true, true, false, false, true, false, false, false, false, false, false] rfl rfl (by kernel_rfl) (fun _ _ _ h => h) (Or.inl ⟨by rfl, ?_⟩) ?_ ?_
 rotate_left
 ·intro w'
  go_simp
  with_reducible rfl
 rotate_left
 ·simp only [Act.put, List.setIfInBounds_toArray, List.set_cons_zero, List.set_cons_succ, i64_w, i32_w]
  rfl
 refine pure_ (i := 6) (N := some 11) (v := ?_) (a' := ?_) #[true, true, false, false, true, false, true, false, false, false, false] rfl rfl (by kernel_rfl) (fun _ _ _ h => h) (Or.inl ⟨by rfl, ?_⟩) ?_ ?_
 rotate_left
 ·intro w'
  go_simp
  with_reducible rfl
 rotate_left
 ·simp only [Act.put, List.setIfInBounds_toArray, List.set_cons_zero, List.set_cons_succ, i64_w, i32_w]
  rfl
 refine pure_ (i := 7) (N := some 12) (v := ?_) (a' := ?_) #[true, true, false, false, true, false, true, true, false, false, false] rfl rfl (by kernel_rfl) (fun _ _ _ h => h) (Or.inl ⟨by rfl, ?_⟩) ?_ ?_
 rotate_left
 ·intro w'
  go_simp
  with_reducible rfl
 rotate_left
 ·simp only [Act.put, List.setIfInBounds_toArray, List.set_cons_zero, List.set_cons_succ, i64_w, i32_w]
  rfl
 refine take_ (i := 2) (N := some 7) (v := ?_) (a' := ?_) #[true, true, true, false, true, false, true, true, false, false, false] rfl rfl (by kernel_rfl) (fun _ _ _ h => h) (Or.inl ⟨by rfl, ?_⟩) hHeld ?_ ?_
 rotate_left
 ·rintro w' ⟨s0, s1, s2⟩
  go_simp
  with_reducible rfl
 rotate_left
 ·simp only [Act.put, List.setIfInBounds_toArray, List.set_cons_zero, List.set_cons_succ, i64_w, i32_w]
  rfl
 refine pure_ (i := 3) (N := some 8) (v := ?_) (a' := ?_) #[true, true, true, true, true, false, true, true, false, false, false] rfl rfl (by kernel_rfl) (fun _ _ _ h => h) (Or.inl ⟨by rfl, ?_⟩) ?_ ?_
 rotate_left
 ·intro w'
  go_simp
  with_reducible rfl
 rotate_left
 ·simp only [Act.put, List.setIfInBounds_toArray, List.set_cons_zero, List.set_cons_succ, i64_w, i32_w]
  rfl
 refine pure_ (i := 8) (N := some 13) (v := ?_) (a' := ?_) #[true, true, true, true, true, false, true, true, true, false, false] rfl rfl (by kernel_rfl) (fun _ _ _ h => h) (Or.inl ⟨by rfl, ?_⟩) ?_ ?_
 rotate_left
 ·intro w'
  go_simp
  with_reducible rfl
 rotate_left
 ·simp only [Act.put, List.setIfInBounds_toArray, List.set_cons_zero, List.set_cons_succ, i64_w, i32_w]
  rfl
 refine take_ (i := 5) (N := some 10) (v := ?_) (a' := ?_) #[true, true, true, true, true, true, true, true, true, false, false] rfl rfl (by kernel_rfl) (fun _ _ _ h => h) (Or.inl ⟨by rfl, ?_⟩) hHeld ?_ ?_
 rotate_left
 ·rintro w' ⟨s0, s1, s2⟩
  go_simp
  with_reducible rfl
 rotate_left
 ·simp only [Act.put, List.setIfInBounds_toArray, List.set_cons_zero, List.set_cons_succ, i64_w, i32_w]
  rfl
 refine pure_ (i := 9) (N := some 14) (v := ?_) (a' := ?_) #[true, true, true, true, true, true, true, true, true, true, false] rfl rfl (by kernel_rfl) (fun _ _ _ h => h) (Or.inl ⟨by rfl, ?_⟩) ?_ ?_
 rotate_left
 ·intro w'
  go_simp
  with_reducible rfl
 rotate_left
 ·simp only [Act.put, List.setIfInBounds_toArray, List.set_cons_zero, List.set_cons_succ, i64_w, i32_w]
  rfl
 refine pure_ (i := 10) (N := some 4) (v := ?_) (a' := ?_) #[true, true, true, true, true, true, true, true, true, true, true] rfl rfl (by kernel_rfl) (fun _ _ _ h => h) (Or.inl ⟨by rfl, ?_⟩) ?_ ?_
 rotate_left
 ·intro w'
  go_simp
  with_reducible rfl
 rotate_left
 ·simp only [Act.put, List.setIfInBounds_toArray, List.set_cons_zero, List.set_cons_succ, i64_w, i32_w]
  rfl
 refine done_ (by kernel_rfl) ?_
 have hl := hHeld.2.2
 go_wp2
 go_ret
 exact ⟨by first | rfl | (rw [Nat.zero_add]; rfl), hz ▸ hl⟩
set_option maxRecDepth 100000 in
set_option maxHeartbeats 6400000 in
theorem place_3 (g : Nat) (i : Int) (w : World) (hi : 0 ≤ i) (hi2 : i < 6) : Calls Tryz.prog 123 #[.pointer (some ⟨g, 0, none⟩), .agg #[.int .i64 3, .int .i64 i]] w fun e w' => e = .returned (.pointer (some ⟨g, 12 + i.toNat, none⟩)) ∧ Below w.heap.size w w' := by
 have hu := Tryz.underlying28
 have hu56 := Tryz.underlying82
 have hu54 := Tryz.underlying80
 have hu53 := Tryz.underlying79
 have hwj : wrap64 2 = 2 := by unfold wrap64; omega
 have d1 : decide (0 ≤ i) = true := by simpa using hi
 have d2 : decide (i < 6) = true := by simpa using hi2
 go_enter Tryz.func123, Tryz.ntmps123
 go_wp2_with fail
 have n0 : (w.alloc (Obj.cells #[Value.int IntKind.i64 3, Value.int IntKind.i64 i] 28)).heap[w.heap.size]? = some (.cells #[.int .i64 3, .int .i64 i] 28 (0, 0)) := heap_alloc_new _ _
 have n1 : Below w.heap.size w (w.alloc (Obj.cells #[Value.int IntKind.i64 3, Value.int IntKind.i64 i] 28)) := (Below.refl _ _).alloc (Nat.le_refl _) _
 generalize w.alloc (Obj.cells #[Value.int IntKind.i64 3, Value.int IntKind.i64 i] 28) = w1 at n0 n1 ⊢
 generalize hz : w.heap.size = z at n0 ⊢
 have c0 : w1.drew.cell? ⟨z, 0, none⟩ = some (.int .i64 3) := (blk_cell n0 0).trans rfl
 have c1 : w1.drew.cell? ⟨z, 1, none⟩ = some (.int .i64 i) := (blk_cell n0 1).trans rfl
 have c2 := below_drew1 n1
 refine start_ (n := 11) (S := fun w' => w'.cell? ⟨z, 0, none⟩ = some (.int .i64 3) ∧ w'.cell? ⟨z, 1, none⟩ = some (.int .i64 i) ∧ Below w.heap.size w w') (ds := []) #[false, false, false, false, false, false, false, false, false, false, false] (by kernel_rfl) rfl rfl ⟨c0, c1, c2⟩ (fun hHeld => ?_)
 refine pure_ (i := 0) (N := some 5) (v := ?_) (a' := ?_) #[true, false, false, false, false, false, false, false, false, false, false] rfl rfl (by kernel_rfl) (fun _ _ _ h => h) (Or.inl ⟨by rfl, ?_⟩) ?_ ?_
 rotate_left
 ·intro w'
  go_simp
  with_reducible rfl
 rotate_left
 ·simp only [Act.put, List.setIfInBounds_toArray, List.set_cons_zero, List.set_cons_succ, i64_w, i32_w]
  rfl
 refine pure_ (i := 1) (N := some 6) (v := ?_) (a' := ?_) #[true, true, false, false, false, false, false, false, false, false, false] rfl rfl (by kernel_rfl) (fun _ _ _ h => h) (Or.inl ⟨by rfl, ?_⟩) ?_ ?_
 rotate_left
 ·intro w'
  go_simp
  with_reducible rfl
 rotate_left
 ·simp only [Act.put, List.setIfInBounds_toArray, List.set_cons_zero, List.set_cons_succ, i64_w, i32_w]
  rfl
 refine pure_ (i := 4) (N := some 9) (v := ?_) (a' := ?_) #[true, true, false, false, true, false, false, false, false, false, false] rfl rfl (by kernel_rfl) (fun _ _ _ h => h) (Or.inl ⟨by rfl, ?_⟩) ?_ ?_
 rotate_left
 ·intro w'
  go_simp
  with_reducible rfl
 rotate_left
 ·simp only [Act.put, List.setIfInBounds_toArray, List.set_cons_zero, List.set_cons_succ, i64_w, i32_w]
  rfl
 refine pure_ (i := 6) (N := some 11) (v := ?_) (a' := ?_) #[true, true, false, false, true, false, true, false, false, false, false] rfl rfl (by kernel_rfl) (fun _ _ _ h => h) (Or.inl ⟨by rfl, ?_⟩) ?_ ?_
 rotate_left
 ·intro w'
  go_simp
  with_reducible rfl
 rotate_left
 ·simp only [Act.put, List.setIfInBounds_toArray, List.set_cons_zero, List.set_cons_succ, i64_w, i32_w]
  rfl
 refine pure_ (i := 7) (N := some 12) (v := ?_) (a' := ?_) #[true, true, false, false, true, false, true, true, false, false, false] rfl rfl (by kernel_rfl) (fun _ _ _ h => h) (Or.inl ⟨by rfl, ?_⟩) ?_ ?_
 rotate_left
 ·intro w'
  go_simp
  with_reducible rfl
 rotate_left
 ·simp only [Act.put, List.setIfInBounds_toArray, List.set_cons_zero, List.set_cons_succ, i64_w, i32_w]
  rfl
 refine take_ (i := 2) (N := some 7) (v := ?_) (a' := ?_) #[true, true, true, false, true, false, true, true, false, false, false] rfl rfl (by kernel_rfl) (fun _ _ _ h => h) (Or.inl ⟨by rfl, ?_⟩) hHeld ?_ ?_
 rotate_left
 ·rintro w' ⟨s0, s1, s2⟩
  go_simp
  with_reducible rfl
 rotate_left
 ·simp only [Act.put, List.setIfInBounds_toArray, List.set_cons_zero, List.set_cons_succ, i64_w, i32_w]
  rfl
 refine pure_ (i := 3) (N := some 8) (v := ?_) (a' := ?_) #[true, true, true, true, true, false, true, true, false, false, false] rfl rfl (by kernel_rfl) (fun _ _ _ h => h) (Or.inl ⟨by rfl, ?_⟩) ?_ ?_
 rotate_left
 ·intro w'
  go_simp
  with_reducible rfl
 rotate_left
 ·simp only [Act.put, List.setIfInBounds_toArray, List.set_cons_zero, List.set_cons_succ, i64_w, i32_w]
  rfl
 refine pure_ (i := 8) (N := some 13) (v := ?_) (a' := ?_) #[true, true, true, true, true, false, true, true, true, false, false] rfl rfl (by kernel_rfl) (fun _ _ _ h => h) (Or.inl ⟨by rfl, ?_⟩) ?_ ?_
 rotate_left
 ·intro w'
  go_simp
  with_reducible rfl
 rotate_left
 ·simp only [Act.put, List.setIfInBounds_toArray, List.set_cons_zero, List.set_cons_succ, i64_w, i32_w]
  rfl
 refine take_ (i := 5) (N := some 10) (v := ?_) (a' := ?_) #[true, true, true, true, true, true, true, true, true, false, false] rfl rfl (by kernel_rfl) (fun _ _ _ h => h) (Or.inl ⟨by rfl, ?_⟩) hHeld ?_ ?_
 rotate_left
 ·rintro w' ⟨s0, s1, s2⟩
  go_simp
  with_reducible rfl
 rotate_left
 ·simp only [Act.put, List.setIfInBounds_toArray, List.set_cons_zero, List.set_cons_succ, i64_w, i32_w]
  rfl
 refine pure_ (i := 9) (N := some 14) (v := ?_) (a' := ?_) #[true, true, true, true, true, true, true, true, true, true, false] rfl rfl (by kernel_rfl) (fun _ _ _ h => h) (Or.inl ⟨by rfl, ?_⟩) ?_ ?_
 rotate_left
 ·intro w'
  go_simp
  with_reducible rfl
 rotate_left
 ·simp only [Act.put, List.setIfInBounds_toArray, List.set_cons_zero, List.set_cons_succ, i64_w, i32_w]
  rfl
 refine pure_ (i := 10) (N := some 4) (v := ?_) (a' := ?_) #[true, true, true, true, true, true, true, true, true, true, true] rfl rfl (by kernel_rfl) (fun _ _ _ h => h) (Or.inl ⟨by rfl, ?_⟩) ?_ ?_
 rotate_left
 ·intro w'
  go_simp
  with_reducible rfl
 rotate_left
 ·simp only [Act.put, List.setIfInBounds_toArray, List.set_cons_zero, List.set_cons_succ, i64_w, i32_w]
  rfl
 refine done_ (by kernel_rfl) ?_
 have hl := hHeld.2.2
 go_wp2
 go_ret
 exact ⟨by first | rfl | (rw [Nat.zero_add]; rfl), hz ▸ hl⟩
theorem place_any (g : Nat) (k i : Int) (w : World) (hk : 1 ≤ k) (hk2 : k ≤ 3) (hi : 0 ≤ i) (hi2 : i < 6) : Calls Tryz.prog 123 #[.pointer (some ⟨g, 0, none⟩), .agg #[.int .i64 k, .int .i64 i]] w fun e w' => e = .returned (.pointer (some ⟨g, 6 * (k - 1).toNat + i.toNat, none⟩)) ∧ Below w.heap.size w w' := by
 rcases (by omega : k = 1 ∨ k = 2 ∨ k = 3) with rfl | rfl | rfl
 ·exact place_1 g i w hi hi2
 ·exact place_2 g i w hi hi2
 ·exact place_3 g i w hi hi2
set_option maxRecDepth 100000 in
theorem get_yes (g : Nat) (k i v : Int) (M : Array Value) (t : TypeId) (w : World) (h : aOk k i = true) (hg : w.heap[g]? = some (.cells M t (0, 0))) (hv : M[6 * (k - 1).toNat + i.toNat]? = some (.int .i64 v)) : Calls Tryz.prog 95 #[.pointer (some ⟨g, 0, none⟩), .agg #[.int .i64 k, .int .i64 i]] w fun e w' => e = .returned (.int .i64 v) ∧ Below w.heap.size w w' := by
 have hu := Tryz.underlying28
 have al : ∀ o : Obj, Below w.heap.size w (w.alloc o) := fun o => (Below.refl _ _).alloc (Nat.le_refl _) _
 have hc := fun W => addrOk_any k i W
 rw [h] at hc
 have hp : ∀ W, Calls Tryz.prog 123 #[.pointer (some ⟨g, 0, none⟩), .agg #[.int .i64 k, .int .i64 i]] W fun e w' => e = .returned (.pointer (some ⟨g, 6 * (k - 1).toNat + i.toNat, none⟩)) ∧ Below W.heap.size W w' := fun W => by
  simp only [aOk, Bool.and_eq_true, decide_eq_true_eq] at h
  exact place_any g k i W h.1 h.2.1 h.2.2.1 h.2.2.2
 clear h
 generalize 6 * (k - 1).toNat + i.toNat = n at hv hp
 go_enter Tryz.func95, Tryz.ntmps95
 go_wp2_with fail
 refine (hc _).mono ?_
 rintro e w2 ⟨rfl, hb⟩
 have z1 : w2.cell? ⟨w.heap.size, 0, none⟩ = some (.int .i64 k) := (blk_cell (blk_below (heap_alloc_new w _) hb) 0).trans rfl
 have z2 : w2.cell? ⟨w.heap.size, 1, none⟩ = some (.int .i64 i) := (blk_cell (blk_below (heap_alloc_new w _) hb) 1).trans rfl
 go_wp2_with fail
 refine (hp _).mono ?_
 rintro e w3 ⟨rfl, hb2⟩
 have q : w3.cell? ⟨g, n, none⟩ = some (.int .i64 v) := (blk_cell (blk_below (blk_below (blk_alloc hg _) hb) hb2) n).trans hv
 go_wp2
 go_ret
 exact ⟨rfl, ((al _).trans (hb.mono (al _).size)).trans (hb2.mono ((al _).trans (hb.mono (al _).size)).size)⟩
def pk (l0 l1 l2 : List Int) (k : Int) : List Int := if k = 1 then l0 else if k = 2 then l1 else l2
theorem mM_at (l0 l1 l2 : List Int) (k i : Int) (h : aOk k i = true) : (mM 3 l0 l1 l2)[6 * (k - 1).toNat + i.toNat]? = some (.int .i64 (rd (pk l0 l1 l2 k) i)) := by
 simp only [aOk, Bool.and_eq_true, decide_eq_true_eq] at h
 obtain ⟨h1, h2, h3, h4⟩ := h
 rcases (by omega : k = 1 ∨ k = 2 ∨ k = 3) with rfl | rfl | rfl <;> rcases (by omega : i = 0 ∨ i = 1 ∨ i = 2 ∨ i = 3 ∨ i = 4 ∨ i = 5) with rfl | rfl | rfl | rfl | rfl | rfl <;> rfl
end Go.Proofs.YtjamfddhcigchaaGreatDoor.Gn
namespace Go.Proofs.YtjamfddhcigchaaGreatDoor.Gz
open Go.RowKit Go.Proofs.YtjamfddhcigchaaGreatDoorW.PrintWords Go.Proofs.YtjamfddhcigchaaGreatDoorW.PrintLast Go.Proofs.YtjamfddhcigchaaGreatDoorW.PrintMore Gm Gn
attribute [local go_sem] max2_int min2_int max_two min_two
set_option linter.unusedVariables false
set_option linter.unusedSimpArgs false
theorem info3 : (Tryz.prog.info? 3).map (fun i => (i.zero, i.size, i.bytes)) = some (some (.int .i64 0), 1, 8) := by kernel_rfl
set_option maxRecDepth 100000 in
theorem clone_any (ad : Addr) (c : Nat) (l : List Int) (w : World) (hr : Kd.C (Kd.int .i64) w (some ad) l.length l) (hl : l.length ≤ 1000) : Calls Tryz.prog 77 #[.slice (some ad) l.length c] w fun e w' => ∃ v, e = .returned v ∧ Kd.R (Kd.int .i64) 3 w' w.heap.size (fun _ => True) v l ∧ Below w.heap.size w w' := by
 have hu := Tryz.underlying31
 have heq : ∀ W, (binOp .eql 31 (.slice (some ad) l.length c) (.slice none 0 0)).run Tryz.prog W = .ok (.bool false) W := fun W => by
  simp only [binOp]
  simp [run_equal_slice_nil W 31 3 (some ad) l.length c Tryz.underlying31]
 go_enter Tryz.func77, Tryz.ntmps77
 go_wp2_with (first | ((with_reducible refine gate_dst (N := 5) rfl ?_); refine Kd.R_lit (Kd.int .i64) _ 3 ?hg (N := 5) ?hd (xs := ([] : List Int)) (inner := []) (ok := fun _ => True) (okp := fun _ => True) ?hr ?hp (fun _ hk => hk) trivial (Below.refl _ _) (Nat.le_refl _) (by simp) ?_; (case hd => rfl); (case hg => rfl); (case hr => first | (go_simp; done) | (go_simp; rfl)); (case hp => exact (Reps.none _ _)); intro v1 w1 ho1 hb1 hg1 hn1; clear hg1 hn1) | ((with_reducible refine gate_dst (N := 7) rfl ?_); refine Kd.R_append_rows (Kd.int .i64) (w0 := w) w.heap.size (by rfl) (.tmp 5) (.tmp 6) 31 3 (.int .i64 0) 8 rfl Tryz.underlying31 info3 rfl (by decide) (by omega) v1 [] l _ _ _ (fun _ => True) (fun _ => False) rfl rfl ho1 (Kd.C_below hr hb1) (fun _ _ h => h) (fun _ h => h.elim) (fun _ _ => trivial) hb1 (below_size hb1) (by simp; omega) ?_; intro v2 w2 ho2 hb2 hg2 hat2; clear hg2 hat2))
 go_ret
 exact ⟨v2, rfl, by simpa using ho2, hb2⟩
theorem R_int_ok {k : IntKind} {e : Nat} {w : World} {base : Nat} {ok ok' : Nat → Prop} {v : Value} {xs : List Int} (h : (Kd.int k).R e w base ok v xs) (h2 : ∀ b, v.ownBlock = some b → ok' b) : (Kd.int k).R e w base ok' v xs := ⟨h2, h.2.imp_ (fun _ _ hp => hp)⟩
theorem add_none (g off n : Nat) : (⟨g, off, none⟩ : Addr).add n = ⟨g, off + n, none⟩ := by
 unfold Addr.add; split
 ·subst_vars; rfl
 ·rfl
theorem C_of_cells {w : World} {g off : Nat} {a : List Int} (ha : a.length ≤ 1000) (h : ∀ i (hi : i < a.length), w.cell? ⟨g, off + i, none⟩ = some (.int .i64 a[i])) : Kd.C (Kd.int .i64) w (some ⟨g, off, none⟩) a.length a := by
 refine ⟨rfl, by omega, fun _ => ⟨_, rfl, fun j q hj => ?_⟩⟩
 obtain ⟨hjl, hjq⟩ := List.getElem?_eq_some_iff.1 hj
 refine ⟨[.int .i64 q], rfl, rfl, fun i u hu => ?_⟩
 have hi : i = 0 := by
  have := (List.getElem?_eq_some_iff.1 hu).1
  simpa using this
 subst hi
 have hu2 : Value.int .i64 q = u := by simpa using hu
 rw [← hu2, ← hjq, ← h j hjl, add_none]
 show w.cell? ⟨g, off + (j * 1 + 0), none⟩ = _
 rw [Nat.mul_one, Nat.add_zero]
def mv (l : List Int) : List Value := l.map (Value.int .i64)
def mA (a b c : List Int) : Array Value := (mv a ++ mv b ++ mv c).toArray
theorem cl_at {g : Nat} {M : Array Value} {W : World} (off : Nat) (a : List Int) (hl : a.length = 6) (hg : W.heap[g]? = some (.cells M 82 (0, 0))) (hM : ∀ i (hi : i < a.length), M[off + i]? = some (.int .i64 a[i])) :
  Calls Tryz.prog 77 #[.slice (some ⟨g, off, none⟩) 6 6] W fun e w' => ∃ A c, e = .returned (.slice A 6 c) ∧ Kd.R (Kd.int .i64) 3 w' W.heap.size (fun _ => True) (.slice A 6 c) a ∧ Below W.heap.size W w' := by
 have hc : Kd.C (Kd.int .i64) W (some ⟨g, off, none⟩) a.length a := C_of_cells (by omega) (fun i hi => (blk_cell hg (off + i)).trans (hM i hi))
 have := clone_any ⟨g, off, none⟩ 6 a W hc (by omega)
 rw [hl] at this
 refine this.mono ?_
 rintro e w' ⟨v, rfl, ho, hb⟩
 obtain ⟨A, c, rfl, _⟩ := Kd.R_reads ho
 rw [hl] at ho ⊢
 exact ⟨A, c, rfl, ho, hb⟩
theorem mA_at (a b c : List Int) (ha : a.length = 6) (hb : b.length = 6) (i : Nat) : (∀ (hi : i < a.length), (mA a b c)[0 + i]? = some (.int .i64 a[i])) ∧ (∀ (hi : i < b.length), (mA a b c)[6 + i]? = some (.int .i64 b[i])) ∧ (∀ (hi : i < c.length), (mA a b c)[12 + i]? = some (.int .i64 c[i])) := by
 have h1 : (mv a).length = 6 := by simp [mv, ha]
 have h2 : (mv b).length = 6 := by simp [mv, hb]
 refine ⟨fun hi => ?_, fun hi => ?_, fun hi => ?_⟩
 ·simp only [mA, List.getElem?_toArray]
  rw [List.append_assoc, List.getElem?_append_left (by omega)]; simp [mv]
 ·simp only [mA, List.getElem?_toArray]
  rw [List.append_assoc, List.getElem?_append_right (by omega), List.getElem?_append_left (by omega), h1]; simp [mv, hi]
 ·simp only [mA, List.getElem?_toArray]
  rw [List.append_assoc, List.getElem?_append_right (by omega), List.getElem?_append_right (by omega), h1, h2, show 12 + i - 6 - 6 = i by omega]; simp [mv, hi]
def Mem3 (w w' : World) (v0 v1 v2 : Value) (a b c : List Int) : Prop := Kd.R (Kd.int .i64) 3 w' w.heap.size (fun k_ => some k_ ≠ (v1 : Value).ownBlock ∧ some k_ ≠ (v2 : Value).ownBlock) v0 a ∧ Kd.R (Kd.int .i64) 3 w' w.heap.size (fun k_ => some k_ ≠ (v0 : Value).ownBlock ∧ some k_ ≠ (v2 : Value).ownBlock) v1 b ∧ Kd.R (Kd.int .i64) 3 w' w.heap.size (fun k_ => some k_ ≠ (v0 : Value).ownBlock ∧ some k_ ≠ (v1 : Value).ownBlock) v2 c
def Z3 : Array Value := #[.slice none 0 0, .slice none 0 0, .slice none 0 0]
theorem res_store {W : World} {z : Nat} (hz : W.heap[z]? = some (.cells Z3 33 (0, 0))) (v0 v1 v2 : Value) : (((W.setCell ⟨z, 0, none⟩ v0).setCell ⟨z, 1, none⟩ v1).setCell ⟨z, 2, none⟩ v2).heap[z]? = some (.cells #[v0, v1, v2] 33 (0, 0)) := blk_put (blk_put (blk_put hz 0 v0 rfl) 1 v1 rfl) 2 v2 rfl
theorem R_store {W : World} {z base : Nat} {v : Value} {l : List Int} {ok : Nat → Prop} (h : Kd.R (Kd.int .i64) 3 W base ok v l) (hz : W.heap[z]? = some (.cells Z3 33 (0, 0))) (v0 v1 v2 : Value) : Kd.R (Kd.int .i64) 3 (((W.setCell ⟨z, 0, none⟩ v0).setCell ⟨z, 1, none⟩ v1).setCell ⟨z, 2, none⟩ v2) base ok v l := by
 have ht : ∀ q, q ∈ 3 :: (Kd.int .i64).E → q ≠ 33 := by
  intro q hq
  rcases List.mem_cons.1 hq with rfl | h
  ·decide
  ·exact absurd (show q ∈ ([] : List Nat) from h) (by simp)
 exact Kd.R_set (Kd.R_set (Kd.R_set h hz ht _ _) (blk_put hz 0 v0 rfl) ht _ _) (blk_put (blk_put hz 0 v0 rfl) 1 v1 rfl) ht _ _
theorem mem3_of {w Wa Wb Wc Wd : World} {z : Nat} {v0 v1 v2 : Value} {a b c : List Int} (hsz : w.heap.size ≤ Wa.heap.size) (hab : Below Wa.heap.size Wa Wb) (hbc : Below Wb.heap.size Wb Wc) (hcd : Below Wc.heap.size Wc Wd)
  (ho0 : Kd.R (Kd.int .i64) 3 Wb Wa.heap.size (fun _ => True) v0 a) (ho1 : Kd.R (Kd.int .i64) 3 Wc Wb.heap.size (fun _ => True) v1 b) (ho2 : Kd.R (Kd.int .i64) 3 Wd Wc.heap.size (fun _ => True) v2 c) (hz : Wd.heap[z]? = some (.cells Z3 33 (0, 0))) :
  Mem3 w (((Wd.setCell ⟨z, 0, none⟩ v0).setCell ⟨z, 1, none⟩ v1).setCell ⟨z, 2, none⟩ v2) v0 v1 v2 a b c := by
 have s1 := below_size hab
 have s2 := below_size hbc
 have s3 := below_size hcd
 have ne : ∀ {u v : Value} {n : Nat}, (∀ k, u.ownBlock = some k → k < n) → (∀ k, v.ownBlock = some k → n ≤ k) → ∀ k, u.ownBlock = some k → some k ≠ v.ownBlock := fun h1 h2 k hk he => by
  have := h1 k hk; have := h2 k he.symm; omega
 have ne' : ∀ {u v : Value} {n : Nat}, (∀ k, u.ownBlock = some k → n ≤ k) → (∀ k, v.ownBlock = some k → k < n) → ∀ k, u.ownBlock = some k → some k ≠ v.ownBlock := fun h1 h2 k hk he => by
  have := h1 k hk; have := h2 k he.symm; omega
 have l0 := Kd.R_lt ho0
 have b0 := Kd.R_base ho0
 have l1 := Kd.R_lt ho1
 have b1 := Kd.R_base ho1
 have l2 := Kd.R_lt ho2
 have b2 := Kd.R_base ho2
 have l0' : ∀ k, v0.ownBlock = some k → k < Wc.heap.size := fun k hk => Nat.lt_of_lt_of_le (l0 k hk) s2
 refine ⟨?_, ?_, ?_⟩
 ·refine R_int_ok (Kd.R_lower (R_store (Kd.R_below (Kd.R_below ho0 hbc) hcd) hz _ _ _) hsz) (fun k hk => ⟨ne l0 b1 k hk, ne l0' b2 k hk⟩)
 ·refine R_int_ok (Kd.R_lower (R_store (Kd.R_below ho1 hcd) hz _ _ _) (by omega)) (fun k hk => ⟨ne' b1 l0 k hk, ne l1 b2 k hk⟩)
 ·refine R_int_ok (Kd.R_lower (R_store ho2 hz _ _ _) (by omega)) (fun k hk => ⟨ne' b2 l0' k hk, ne' b2 l1 k hk⟩)
set_option maxRecDepth 100000 in
set_option maxHeartbeats 6400000 in
theorem mem_any (g : Nat) (a b c : List Int) (w : World) (ha : a.length = 6) (hb : b.length = 6) (hc : c.length = 6) (hg : w.heap[g]? = some (.cells (mA a b c) 82 (0, 0))) :
  Calls Tryz.prog 43 #[.pointer (some ⟨g, 0, none⟩)] w fun e w' => ∃ v0 v1 v2, e = .returned (.agg #[v0, v1, v2]) ∧ Mem3 w w' v0 v1 v2 a b c ∧ Below w.heap.size w w' := by
 have cl0 := fun W hW => cl_at (g := g) (M := mA a b c) (W := W) 0 a ha hW (fun i hi => (mA_at a b c ha hb i).1 hi)
 have cl1 := fun W hW => cl_at (g := g) (M := mA a b c) (W := W) 6 b hb hW (fun i hi => (mA_at a b c ha hb i).2.1 hi)
 have cl2 := fun W hW => cl_at (g := g) (M := mA a b c) (W := W) 12 c hc hW (fun i hi => (mA_at a b c ha hb i).2.2 hi)
 generalize mA a b c = M at hg cl0 cl1 cl2
 clear ha hb hc
 have hgl : g < w.heap.size := (Array.getElem?_eq_some_iff.1 hg).1
 have hu24 := Tryz.underlying33
 have hu56 := Tryz.underlying82
 have hu54 := Tryz.underlying80
 have hu53 := Tryz.underlying79
 have hu22 := Tryz.underlying31
 have al : ∀ o : Obj, Below w.heap.size w (w.alloc o) := fun o => (Below.refl _ _).alloc (Nat.le_refl _) _
 go_enter Tryz.func43, Tryz.ntmps43
 go_wp2_with fail
 have n0 : (w.alloc (Obj.cells #[.slice none 0 0, .slice none 0 0, .slice none 0 0] 33)).heap[w.heap.size]? = some (.cells #[.slice none 0 0, .slice none 0 0, .slice none 0 0] 33 (0, 0)) := heap_alloc_new _ _
 have n1 := al (Obj.cells #[.slice none 0 0, .slice none 0 0, .slice none 0 0] 33)
 have n2 : (w.alloc (Obj.cells #[.slice none 0 0, .slice none 0 0, .slice none 0 0] 33)).heap[g]? = some (.cells M 82 (0, 0)) := blk_alloc hg _
 have n3 : w.heap.size < (w.alloc (Obj.cells #[.slice none 0 0, .slice none 0 0, .slice none 0 0] 33)).heap.size := by rw [alloc_size]; omega
 generalize w.alloc (Obj.cells #[.slice none 0 0, .slice none 0 0, .slice none 0 0] 33) = w1 at n0 n1 n2 n3 ⊢
 clear al hg
 generalize hz : w.heap.size = z at n0 n3 ⊢
 have hg1 := blk_drew n2
 have hB1 := below_drew1 n1
 have hz1 : w1.drew.heap[z]? = some (.cells Z3 33 (0, 0)) := n0
 have hgz : g ≠ z := by omega
 refine start_ (n := 20) (S := fun w' => w'.heap[g]? = some (.cells M 82 (0, 0)) ∧ Below w.heap.size w w') (ds := []) #[false, false, false, false, false, false, false, false, false, false, false, false, false, false, false, false, false, false, false, false] (by kernel_rfl) rfl rfl ⟨hg1, hB1⟩ (fun hHeld => ?_)
 refine pure_ (i := 0) (N := some 3) (v := ?_) (a' := ?_) #[true, false, false, false, false, false, false, false, false, false, false, false, false, false, false, false, false, false, false, false] rfl rfl (by kernel_rfl) (fun _ _ _ h => h) (Or.inl ⟨by rfl, ?_⟩) ?_ ?_
 rotate_left
 ·intro w'
  go_simp
  with_reducible rfl
 rotate_left
 ·simp only [Act.put, List.setIfInBounds_toArray, List.set_cons_zero, List.set_cons_succ, i64_w, i32_w]
  rfl
 refine pure_ (i := 1) (N := some 4) (v := ?_) (a' := ?_) #[true, true, false, false, false, false, false, false, false, false, false, false, false, false, false, false, false, false, false, false] rfl rfl (by kernel_rfl) (fun _ _ _ h => h) (Or.inl ⟨by rfl, ?_⟩) ?_ ?_
 rotate_left
 ·intro w'
  go_simp
  with_reducible rfl
 rotate_left
 ·simp only [Act.put, List.setIfInBounds_toArray, List.set_cons_zero, List.set_cons_succ, i64_w, i32_w]
  rfl
 refine pure_ (i := 2) (N := some 5) (v := ?_) (a' := ?_) #[true, true, true, false, false, false, false, false, false, false, false, false, false, false, false, false, false, false, false, false] rfl rfl (by kernel_rfl) (fun _ _ _ h => h) (Or.inl ⟨by rfl, ?_⟩) ?_ ?_
 rotate_left
 ·intro w'
  go_simp
  with_reducible rfl
 rotate_left
 ·simp only [Act.put, List.setIfInBounds_toArray, List.set_cons_zero, List.set_cons_succ, i64_w, i32_w]
  rfl
 refine pure_ (i := 3) (N := some 6) (v := ?_) (a' := ?_) #[true, true, true, true, false, false, false, false, false, false, false, false, false, false, false, false, false, false, false, false] rfl rfl (by kernel_rfl) (fun _ _ _ h => h) (Or.inl ⟨by rfl, ?_⟩) ?_ ?_
 rotate_left
 ·intro w'
  go_simp
  with_reducible rfl
 rotate_left
 ·simp only [Act.put, List.setIfInBounds_toArray, List.set_cons_zero, List.set_cons_succ, i64_w, i32_w]
  rfl
 refine pure_ (i := 4) (N := some 7) (v := ?_) (a' := ?_) #[true, true, true, true, true, false, false, false, false, false, false, false, false, false, false, false, false, false, false, false] rfl rfl (by kernel_rfl) (fun _ _ _ h => h) (Or.inl ⟨by rfl, ?_⟩) ?_ ?_
 rotate_left
 ·intro w'
  go_simp
  with_reducible rfl
 rotate_left
 ·simp only [Act.put, List.setIfInBounds_toArray, List.set_cons_zero, List.set_cons_succ, i64_w, i32_w]
  rfl
 refine pure_ (i := 6) (N := some 9) (v := ?_) (a' := ?_) #[true, true, true, true, true, false, true, false, false, false, false, false, false, false, false, false, false, false, false, false] rfl rfl (by kernel_rfl) (fun _ _ _ h => h) (Or.inl ⟨by rfl, ?_⟩) ?_ ?_
 rotate_left
 ·intro w'
  go_simp
  with_reducible rfl
 rotate_left
 ·simp only [Act.put, List.setIfInBounds_toArray, List.set_cons_zero, List.set_cons_succ, i64_w, i32_w]
  rfl
 refine pure_ (i := 7) (N := some 10) (v := ?_) (a' := ?_) #[true, true, true, true, true, false, true, true, false, false, false, false, false, false, false, false, false, false, false, false] rfl rfl (by kernel_rfl) (fun _ _ _ h => h) (Or.inl ⟨by rfl, ?_⟩) ?_ ?_
 rotate_left
 ·intro w'
  go_simp
  with_reducible rfl
 rotate_left
 ·simp only [Act.put, List.setIfInBounds_toArray, List.set_cons_zero, List.set_cons_succ, i64_w, i32_w]
  rfl
 refine pure_ (i := 8) (N := some 11) (v := ?_) (a' := ?_) #[true, true, true, true, true, false, true, true, true, false, false, false, false, false, false, false, false, false, false, false] rfl rfl (by kernel_rfl) (fun _ _ _ h => h) (Or.inl ⟨by rfl, ?_⟩) ?_ ?_
 rotate_left
 ·intro w'
  go_simp
  with_reducible rfl
 rotate_left
 ·simp only [Act.put, List.setIfInBounds_toArray, List.set_cons_zero, List.set_cons_succ, i64_w, i32_w]
  rfl
 refine pure_ (i := 9) (N := some 12) (v := ?_) (a' := ?_) #[true, true, true, true, true, false, true, true, true, true, false, false, false, false, false, false, false, false, false, false] rfl rfl (by kernel_rfl) (fun _ _ _ h => h) (Or.inl ⟨by rfl, ?_⟩) ?_ ?_
 rotate_left
 ·intro w'
  go_simp
  with_reducible rfl
 rotate_left
 ·simp only [Act.put, List.setIfInBounds_toArray, List.set_cons_zero, List.set_cons_succ, i64_w, i32_w]
  rfl
 refine pure_ (i := 10) (N := some 13) (v := ?_) (a' := ?_) #[true, true, true, true, true, false, true, true, true, true, true, false, false, false, false, false, false, false, false, false] rfl rfl (by kernel_rfl) (fun _ _ _ h => h) (Or.inl ⟨by rfl, ?_⟩) ?_ ?_
 rotate_left
 ·intro w'
  go_simp
  with_reducible rfl
 rotate_left
 ·simp only [Act.put, List.setIfInBounds_toArray, List.set_cons_zero, List.set_cons_succ, i64_w, i32_w]
  rfl
 refine pure_ (i := 12) (N := some 15) (v := ?_) (a' := ?_) #[true, true, true, true, true, false, true, true, true, true, true, false, true, false, false, false, false, false, false, false] rfl rfl (by kernel_rfl) (fun _ _ _ h => h) (Or.inl ⟨by rfl, ?_⟩) ?_ ?_
 rotate_left
 ·intro w'
  go_simp
  with_reducible rfl
 rotate_left
 ·simp only [Act.put, List.setIfInBounds_toArray, List.set_cons_zero, List.set_cons_succ, i64_w, i32_w]
  rfl
 refine pure_ (i := 13) (N := some 16) (v := ?_) (a' := ?_) #[true, true, true, true, true, false, true, true, true, true, true, false, true, true, false, false, false, false, false, false] rfl rfl (by kernel_rfl) (fun _ _ _ h => h) (Or.inl ⟨by rfl, ?_⟩) ?_ ?_
 rotate_left
 ·intro w'
  go_simp
  with_reducible rfl
 rotate_left
 ·simp only [Act.put, List.setIfInBounds_toArray, List.set_cons_zero, List.set_cons_succ, i64_w, i32_w]
  rfl
 refine pure_ (i := 14) (N := some 17) (v := ?_) (a' := ?_) #[true, true, true, true, true, false, true, true, true, true, true, false, true, true, true, false, false, false, false, false] rfl rfl (by kernel_rfl) (fun _ _ _ h => h) (Or.inl ⟨by rfl, ?_⟩) ?_ ?_
 rotate_left
 ·intro w'
  go_simp
  with_reducible rfl
 rotate_left
 ·simp only [Act.put, List.setIfInBounds_toArray, List.set_cons_zero, List.set_cons_succ, i64_w, i32_w]
  rfl
 refine pure_ (i := 15) (N := some 18) (v := ?_) (a' := ?_) #[true, true, true, true, true, false, true, true, true, true, true, false, true, true, true, true, false, false, false, false] rfl rfl (by kernel_rfl) (fun _ _ _ h => h) (Or.inl ⟨by rfl, ?_⟩) ?_ ?_
 rotate_left
 ·intro w'
  go_simp
  with_reducible rfl
 rotate_left
 ·simp only [Act.put, List.setIfInBounds_toArray, List.set_cons_zero, List.set_cons_succ, i64_w, i32_w]
  rfl
 refine pure_ (i := 16) (N := some 19) (v := ?_) (a' := ?_) #[true, true, true, true, true, false, true, true, true, true, true, false, true, true, true, true, true, false, false, false] rfl rfl (by kernel_rfl) (fun _ _ _ h => h) (Or.inl ⟨by rfl, ?_⟩) ?_ ?_
 rotate_left
 ·intro w'
  go_simp
  with_reducible rfl
 rotate_left
 ·simp only [Act.put, List.setIfInBounds_toArray, List.set_cons_zero, List.set_cons_succ, i64_w, i32_w]
  rfl
 refine one_ (i := 5) (N := some 8) #[true, true, true, true, true, true, true, true, true, true, true, false, true, true, true, true, true, false, false, false] rfl rfl (by kernel_rfl) (by decide) (fun K hK => ?_)
 refine goes_ Tryz.func77 (by kernel_rfl) rfl #[.slice (some ⟨g, 0, none⟩) 6 6] (by rfl) rfl rfl (by simp only [List.map_toArray, List.map_cons, List.map_nil]; rfl) ?_
 with_reducible refine (cl0 _ hHeld.1).mono ?_
 rintro e w3 ⟨A0, c0, rfl, ho0, hb0⟩
 refine ⟨_, rfl, ?_⟩
 refine hK.out _ _ ⟨(blk_below hHeld.1 hb0), (hHeld.2.trans (hb0.mono hHeld.2.size))⟩ (fun hHeld => ?_)
 clear hK K
 refine norm_ (a' := ?_) ?_ ?_
 rotate_left
 ·show Act.put _ (some 8) _ = _
  simp only [Act.put, List.setIfInBounds_toArray, List.set_cons_zero, List.set_cons_succ, i64_w, i32_w]
  rfl
 refine one_ (i := 11) (N := some 14) #[true, true, true, true, true, true, true, true, true, true, true, true, true, true, true, true, true, false, false, false] rfl rfl (by kernel_rfl) (by decide) (fun K hK => ?_)
 refine goes_ Tryz.func77 (by kernel_rfl) rfl #[.slice (some ⟨g, 6, none⟩) 6 6] (by rfl) rfl rfl (by simp only [List.map_toArray, List.map_cons, List.map_nil]; rfl) ?_
 with_reducible refine (cl1 _ hHeld.1).mono ?_
 rintro e w4 ⟨A1, c1, rfl, ho1, hb1⟩
 refine ⟨_, rfl, ?_⟩
 refine hK.out _ _ ⟨(blk_below hHeld.1 hb1), (hHeld.2.trans (hb1.mono hHeld.2.size))⟩ (fun hHeld => ?_)
 clear hK K
 refine norm_ (a' := ?_) ?_ ?_
 rotate_left
 ·show Act.put _ (some 14) _ = _
  simp only [Act.put, List.setIfInBounds_toArray, List.set_cons_zero, List.set_cons_succ, i64_w, i32_w]
  rfl
 refine one_ (i := 17) (N := some 20) #[true, true, true, true, true, true, true, true, true, true, true, true, true, true, true, true, true, true, false, false] rfl rfl (by kernel_rfl) (by decide) (fun K hK => ?_)
 refine goes_ Tryz.func77 (by kernel_rfl) rfl #[.slice (some ⟨g, 12, none⟩) 6 6] (by rfl) rfl rfl (by simp only [List.map_toArray, List.map_cons, List.map_nil]; rfl) ?_
 with_reducible refine (cl2 _ hHeld.1).mono ?_
 rintro e w5 ⟨A2, c2, rfl, ho2, hb2⟩
 refine ⟨_, rfl, ?_⟩
 refine hK.out _ _ ⟨(blk_below hHeld.1 hb2), (hHeld.2.trans (hb2.mono hHeld.2.size))⟩ (fun hHeld => ?_)
 clear hK K
 refine norm_ (a' := ?_) ?_ ?_
 rotate_left
 ·show Act.put _ (some 20) _ = _
  simp only [Act.put, List.setIfInBounds_toArray, List.set_cons_zero, List.set_cons_succ, i64_w, i32_w]
  rfl
 refine pure_ (i := 18) (N := some 21) (v := ?_) (a' := ?_) #[true, true, true, true, true, true, true, true, true, true, true, true, true, true, true, true, true, true, true, false] rfl rfl (by kernel_rfl) (fun _ _ _ h => h) (Or.inl ⟨by rfl, ?_⟩) ?_ ?_
 rotate_left
 ·intro w'
  go_simp
  with_reducible rfl
 rotate_left
 ·simp only [Act.put, List.setIfInBounds_toArray, List.set_cons_zero, List.set_cons_succ, i64_w, i32_w]
  rfl
 refine one_ (i := 19) (N := none) #[true, true, true, true, true, true, true, true, true, true, true, true, true, true, true, true, true, true, true, true] rfl rfl (by kernel_rfl) (by decide) (fun K hK => ?_)
 have hz5 := blk_below (blk_below (blk_below hz1 hb0) hb1) hb2
 have i0 : w5.cell? ⟨z, 0, none⟩ = some (.slice none 0 0) := (blk_cell hz5 0).trans rfl
 have i1 : w5.cell? ⟨z, 1, none⟩ = some (.slice none 0 0) := (blk_cell hz5 1).trans rfl
 have i2 : w5.cell? ⟨z, 2, none⟩ = some (.slice none 0 0) := (blk_cell hz5 2).trans rfl
 have j0 : w5.frozen? ⟨z, 0, none⟩ = false := blk_frozen hz5 0
 have j1 : w5.frozen? ⟨z, 1, none⟩ = false := blk_frozen hz5 1
 have j2 : w5.frozen? ⟨z, 2, none⟩ = false := blk_frozen hz5 2
 refine skip_ (w1 := ?_) (by rfl) rfl ?_ ?_
 rotate_left
 ·go_simp
  rfl
 refine hK.out _ _ ⟨(blk_far (blk_far (blk_far hHeld.1 hgz _) hgz _) hgz _), (below_set (below_set (below_set hHeld.2 (Nat.le_of_eq hz)) (Nat.le_of_eq hz)) (Nat.le_of_eq hz))⟩ (fun hHeld => ?_)
 clear hK K
 refine done_ (by kernel_rfl) ?_
 have hM := mem3_of hB1.size hb0 hb1 hb2 ho0 ho1 ho2 hz5
 have hzz := res_store hz5 (.slice A0 6 c0) (.slice A1 6 c1) (.slice A2 6 c2)
 have hbl := hHeld.2
 clear hHeld
 generalize (((w5.setCell ⟨z, 0, none⟩ (.slice A0 6 c0)).setCell ⟨z, 1, none⟩ (.slice A1 6 c1)).setCell ⟨z, 2, none⟩ (.slice A2 6 c2)) = w6 at hM hzz hbl ⊢
 go_wp2
 refine bodyPost_ret (results_cell_row rfl _ _ z 33 #[.slice A0 6 c0, .slice A1 6 c1, .slice A2 6 c2] (0, 0) _ rfl hzz Tryz.underlying33 rfl (by kernel_rfl)) rfl ⟨_, _, _, rfl, hM, hbl⟩
end Go.Proofs.YtjamfddhcigchaaGreatDoor.Gz
namespace Go.Proofs.YtjamfddhcigchaaGreatDoor.Gq
open Go.RowKit Go.Proofs.YtjamfddhcigchaaGreatDoorW.PrintWords Go.Proofs.YtjamfddhcigchaaGreatDoorW.PrintLast Go.Proofs.YtjamfddhcigchaaGreatDoorW.PrintMore Gm Gn Gz
attribute [local go_sem] max2_int min2_int max_two min_two
set_option linter.unusedVariables false
set_option linter.unusedSimpArgs false
theorem R_len {e base n : Nat} {w : World} {ok : Nat → Prop} {v : Value} {l : List Int} (h : Kd.R (Kd.int .i64) e w base ok v l) (hl : l.length = n) : ∃ A c, v = .slice A n c := by
 obtain ⟨A, c, rfl, _⟩ := Kd.R_reads h
 exact ⟨A, c, by rw [hl]⟩
theorem mem3_store {w W Wd : World} {z : Nat} {v0 v1 v2 : Value} {a b c : List Int} (hsz : w.heap.size ≤ W.heap.size) (hM : Mem3 W Wd v0 v1 v2 a b c) (hz : Wd.heap[z]? = some (.cells Z3 33 (0, 0))) : Mem3 w (((Wd.setCell ⟨z, 0, none⟩ v0).setCell ⟨z, 1, none⟩ v1).setCell ⟨z, 2, none⟩ v2) v0 v1 v2 a b c :=
 ⟨Kd.R_lower (R_store hM.1 hz _ _ _) hsz, Kd.R_lower (R_store hM.2.1 hz _ _ _) hsz, Kd.R_lower (R_store hM.2.2 hz _ _ _) hsz⟩
def pOk (k i : Int) : Bool := aOk k i && (k != 1)
set_option maxRecDepth 100000 in
theorem puts_any (k i : Int) (w : World) : Calls Tryz.prog 111 #[.agg #[.int .i64 k, .int .i64 i]] w fun e w' => e = .returned (.bool (pOk k i)) ∧ Below w.heap.size w w' := by
 have hu := Tryz.underlying28
 have al : ∀ o : Obj, Below w.heap.size w (w.alloc o) := fun o => (Below.refl _ _).alloc (Nat.le_refl _) _
 have hc := fun W => addrOk_any k i W
 obtain ⟨q, hq⟩ : ∃ q, aOk k i = q := ⟨_, rfl⟩
 obtain ⟨t, ht⟩ : ∃ t, (k != 1) = t := ⟨_, rfl⟩
 rw [hq] at hc
 have e : pOk k i = (q && t) := by unfold pOk; rw [hq, ht]
 rw [e]; clear e hq
 go_enter Tryz.func111, Tryz.ntmps111
 go_wp2_with fail
 refine (hc _).mono ?_
 rintro e w2 ⟨rfl, hb⟩
 have z1 : w2.cell? ⟨w.heap.size, 0, none⟩ = some (.int .i64 k) := (blk_cell (blk_below (heap_alloc_new w _) hb) 0).trans rfl
 have z2 : w2.cell? ⟨w.heap.size, 1, none⟩ = some (.int .i64 i) := (blk_cell (blk_below (heap_alloc_new w _) hb) 1).trans rfl
 have hb2 := (al (.cells #[Value.int IntKind.i64 k, Value.int IntKind.i64 i] 28)).trans (hb.mono (al (.cells #[Value.int IntKind.i64 k, Value.int IntKind.i64 i] 28)).size)
 cases q with
 | true =>
  go_wp2
  go_ret
  exact ⟨rfl, hb2⟩
 | false =>
  go_wp2
  go_ret
  exact ⟨rfl, hb2⟩
def cut (n : Int) : Int := mn (mx n (-1000000)) 1000000
set_option maxRecDepth 100000 in
theorem cut_any (n : Int) (w : World) : Calls Tryz.prog 124 #[.int .i64 n] w fun e w' => e = .returned (.int .i64 (cut n)) ∧ Below w.heap.size w w' := by
 obtain ⟨ji2, hji2⟩ : ∃ j_ : Int, (mx n (-1000000)) = j_ := ⟨_, rfl⟩
 have hji2_ : (if n < (-1000000) then (-1000000) else n) = ji2 := hji2
 obtain ⟨ji3, hji3⟩ : ∃ j_ : Int, (mn (ji2) 1000000) = j_ := ⟨_, rfl⟩
 have hji3_ : (if 1000000 < (ji2) then 1000000 else (ji2)) = ji3 := hji3
 have e : cut n = ji3 := by unfold cut; rw [hji2, hji3]
 rw [e]
 go_enter Tryz.func124, Tryz.ntmps124
 go_wp2
 go_ret
 exact ⟨rfl, Below.refl _ _⟩
theorem six {l : List Int} (h : l.length = 6) : ∃ a b c d e f, l = [a, b, c, d, e, f] := by
 match l, h with
 | [a, b, c, d, e, f], _ => exact ⟨a, b, c, d, e, f, rfl⟩
theorem okM_len {l0 l1 l2 : List Int} (h : okM l0 l1 l2 = true) : l0.length = 6 ∧ l1.length = 6 ∧ l2.length = 6 := by
 simp only [okM, okL, Bool.and_eq_true, decide_eq_true_eq] at h
 exact ⟨h.1.1.1, h.1.2.1, h.2.1⟩
theorem mM_eq {l0 l1 l2 : List Int} (h0 : l0.length = 6) (h1 : l1.length = 6) (h2 : l2.length = 6) : mM 3 l0 l1 l2 = mA l0 l1 l2 := by
 obtain ⟨a, b, c, d, e, f, rfl⟩ := six h0
 obtain ⟨a, b, c, d, e, f, rfl⟩ := six h1
 obtain ⟨a, b, c, d, e, f, rfl⟩ := six h2
 rfl
def pT (j : Int) (l : List Int) (k i n : Int) : List Int := if (pOk k i && (k == j)) = true then l.set i.toNat (cut n) else l
theorem pT_len {j : Int} {l : List Int} {k i n : Int} : (pT j l k i n).length = l.length := by unfold pT; split <;> simp
theorem pT_set {l0 l1 l2 : List Int} {k i n : Int} (h0 : l0.length = 6) (h1 : l1.length = 6) (h2 : l2.length = 6) (h : pOk k i = true) : (mA l0 l1 l2).setIfInBounds (6 * (k - 1).toNat + i.toNat) (.int .i64 (cut n)) = mA (pT 1 l0 k i n) (pT 2 l1 k i n) (pT 3 l2 k i n) := by
 have e1 : pT 1 l0 k i n = if k = 1 then l0.set i.toNat (cut n) else l0 := by simp [pT, h]
 have e2 : pT 2 l1 k i n = if k = 2 then l1.set i.toNat (cut n) else l1 := by simp [pT, h]
 have e3 : pT 3 l2 k i n = if k = 3 then l2.set i.toNat (cut n) else l2 := by simp [pT, h]
 rw [e1, e2, e3]
 obtain ⟨a, b, c, d, e, f, rfl⟩ := six h0
 obtain ⟨a', b', c', d', e', f', rfl⟩ := six h1
 obtain ⟨a'', b'', c'', d'', e'', f'', rfl⟩ := six h2
 simp only [pOk, aOk, Bool.and_eq_true, decide_eq_true_eq, bne_iff_ne, ne_eq] at h
 obtain ⟨⟨h1, h2, h3, h4⟩, h5⟩ := h
 rcases (by omega : k = 2 ∨ k = 3) with rfl | rfl <;> rcases (by omega : i = 0 ∨ i = 1 ∨ i = 2 ∨ i = 3 ∨ i = 4 ∨ i = 5) with rfl | rfl | rfl | rfl | rfl | rfl <;> rfl
theorem mem3_nil (w W : World) : Mem3 w W (.slice none 0 0) (.slice none 0 0) (.slice none 0 0) [] [] [] := ⟨Kd.R_nil _ _ _ _ _, Kd.R_nil _ _ _ _ _, Kd.R_nil _ _ _ _ _⟩
end Go.Proofs.YtjamfddhcigchaaGreatDoor.Gq
namespace Go.Proofs.YtjamfddhcigchaaGreatDoor.Gw
open Go.RowKit  Go.Proofs.YtjamfddhcigchaaGreatDoor.Gm Go.Proofs.YtjamfddhcigchaaGreatDoor.Gn Go.Proofs.YtjamfddhcigchaaGreatDoor.Gz Go.Proofs.YtjamfddhcigchaaGreatDoorW.PrintWords Go.Proofs.YtjamfddhcigchaaGreatDoorW.PrintLast Go.Proofs.YtjamfddhcigchaaGreatDoorW.PrintMore
set_option linter.unusedVariables false
set_option linter.unusedSimpArgs false
theorem al2 (W : World) (a b : Obj) : Below W.heap.size W ((W.alloc a).alloc b) ∧ ((W.alloc a).alloc b).heap[W.heap.size]? = some a ∧ ((W.alloc a).alloc b).heap[W.heap.size + 1]? = some b :=
 ⟨below_alloc (below_alloc (Below.refl _ _) _) _, blk_alloc (heap_alloc_new _ _) _, by have h := heap_alloc_new (W.alloc a) b; rwa [alloc_size] at h⟩
theorem al3 (W : World) (a b c : Obj) : Below W.heap.size W (((W.alloc a).alloc b).alloc c) ∧ (((W.alloc a).alloc b).alloc c).heap[W.heap.size]? = some a ∧ (((W.alloc a).alloc b).alloc c).heap[W.heap.size + 1]? = some b ∧ (((W.alloc a).alloc b).alloc c).heap[W.heap.size + 2]? = some c :=
 have h := al2 W a b
 ⟨below_alloc h.1 _, blk_alloc h.2.1 _, blk_alloc h.2.2 _, by have h := heap_alloc_new ((W.alloc a).alloc b) c; rwa [alloc_size, alloc_size] at h⟩
theorem c3 {W : World} {z t : Nat} {a b c : Value} (h : W.heap[z]? = some (.cells #[a, b, c] t (0, 0))) : (W.cell? ⟨z, 0, none⟩ = some a ∧ W.cell? ⟨z, 1, none⟩ = some b ∧ W.cell? ⟨z, 2, none⟩ = some c) ∧ W.frozen? ⟨z, 0, none⟩ = false ∧ W.frozen? ⟨z, 1, none⟩ = false ∧ W.frozen? ⟨z, 2, none⟩ = false :=
 ⟨⟨(blk_cell h 0).trans rfl, (blk_cell h 1).trans rfl, (blk_cell h 2).trans rfl⟩, blk_frozen h 0, blk_frozen h 1, blk_frozen h 2⟩
def Dw (v u : Value) : Prop := ∀ k, v.ownBlock = some k → u.ownBlock = some k → False
abbrev RI3 (W : World) (b : Nat) (v : Value) (l : List Int) : Prop := Kd.R (Kd.int .i64) 3 W b (fun _ => True) v l
structure CP (w W : World) (v0 v1 v2 : Value) (l0 l1 l2 : List Int) : Prop where
 a : RI3 W w.heap.size v0 l0
 b : RI3 W w.heap.size v1 l1
 c : RI3 W w.heap.size v2 l2
 ab : Dw v0 v1
 ac : Dw v0 v2
 bc : Dw v1 v2
 k : Below w.heap.size w W
section
variable {w W W' : World} {v0 v1 v2 u v : Value} {l0 l1 l2 l : List Int}
theorem Dw.symm (h : Dw v u) : Dw u v := fun k a b => h k b a
theorem CP.sw (h : CP w W v0 v1 v2 l0 l1 l2) : CP w W v1 v0 v2 l1 l0 l2 := ⟨h.b, h.a, h.c, h.ab.symm, h.bc, h.ac, h.k⟩
theorem CP.rt (h : CP w W v0 v1 v2 l0 l1 l2) : CP w W v2 v0 v1 l2 l0 l1 := ⟨h.c, h.a, h.b, h.ac.symm, h.bc.symm, h.ab, h.k⟩
theorem CP.tr (h : CP w W v0 v1 v2 l0 l1 l2) : CP w W v1 v2 v0 l1 l2 l0 := h.rt.rt
theorem kept (h : RI3 W w.heap.size v l) (hd : Dw v v0) (hg : W.grownBy W' v0.ownBlock) : RI3 W' w.heap.size v l :=
 R_int_ok (Kd.R_grown (R_int_ok (ok' := fun k => some k ≠ v0.ownBlock) h (fun b hb e => hd b hb e.symm)) hg (fun _ e => e)) (fun _ _ => trivial)
theorem Dw.new (hd : Dw v v0) (h : RI3 W w.heap.size v l) (hu : u.ownBlock = v0.ownBlock ∨ ∃ b, u.ownBlock = some b ∧ W.heap.size ≤ b) : Dw v u := fun k a b => by
 rcases hu with e | ⟨n, e, hn⟩
 ·exact hd k a (e ▸ b)
 ·have := Kd.R_lt h k a
  rw [e] at b
  injection b with b
  omega
theorem CP.up (h : CP w W v0 v1 v2 l0 l1 l2) (hR : RI3 W' w.heap.size u l) (hB : Below w.heap.size w W') (hg : W.grownBy W' v0.ownBlock) (hu : u.ownBlock = v0.ownBlock ∨ ∃ b, u.ownBlock = some b ∧ W.heap.size ≤ b) : CP w W' u v1 v2 l l1 l2 :=
 ⟨hR, kept h.b h.ab.symm hg, kept h.c h.ac.symm hg, (Dw.new h.ab.symm h.b hu).symm, (Dw.new h.ac.symm h.c hu).symm, h.bc, hB⟩
theorem CP.box {g : Nat} {cs : Array Value} (h : CP w W v0 v1 v2 l0 l1 l2) (hb : W.heap[g]? = some (.cells cs 33 (0, 0))) (hg : W.grownBy W' v0.ownBlock) : W'.heap[g]? = some (.cells cs 33 (0, 0)) := blk_grown hb hg (Kd.R_ne h.a hb (by decide))
theorem far1 {g i : Nat} {cs : Array Value} (h : RI3 W w.heap.size v l) (hb : W.heap[g]? = some (.cells cs 33 (0, 0))) (u : Value) : RI3 (W.setCell ⟨g, i, none⟩ u) w.heap.size v l :=
 R_int_ok (Kd.R_far (p := ⟨g, i, none⟩) (R_int_ok (ok' := fun k => k ≠ g) h (fun b hb' e => (Kd.R_ne h hb (by decide)) (by rw [hb', e]))) (fun _ e => e) u) (fun _ _ => trivial)
theorem CP.far {g i : Nat} {cs : Array Value} (h : CP w W v0 v1 v2 l0 l1 l2) (hb : W.heap[g]? = some (.cells cs 33 (0, 0))) (hw : w.heap.size ≤ g) (u : Value) : CP w (W.setCell ⟨g, i, none⟩ u) v0 v1 v2 l0 l1 l2 := ⟨far1 h.a hb u, far1 h.b hb u, far1 h.c hb u, h.ab, h.ac, h.bc, below_set h.k hw⟩
theorem CP.st {g : Nat} (h : CP w W v0 v1 v2 l0 l1 l2) (hb : W.heap[g]? = some (.cells Z3 33 (0, 0))) (hw : w.heap.size ≤ g) (a b c : Value) : CP w (((W.setCell ⟨g, 0, none⟩ a).setCell ⟨g, 1, none⟩ b).setCell ⟨g, 2, none⟩ c) v0 v1 v2 l0 l1 l2 :=
 ((h.far hb hw a).far (blk_put hb 0 a rfl) hw b).far (blk_put (blk_put hb 0 a rfl) 1 b rfl) hw c
theorem sl {b : Nat} (h : RI3 W b v l) : ∃ A n c, v = .slice A n c := by
 obtain ⟨A, c, e⟩ := Kd.R_slice h
 exact ⟨A, _, c, e⟩
theorem CP.nil (h : Below w.heap.size w W) : CP w W (.slice none 0 0) (.slice none 0 0) (.slice none 0 0) [] [] [] := ⟨Kd.R_nil _ _ _ _ _, Kd.R_nil _ _ _ _ _, Kd.R_nil _ _ _ _ _, fun _ h => (by cases h), fun _ h => (by cases h), fun _ h => (by cases h), h⟩
end
def cu (i j : Bool) (x u : Value) : Value := bif j then u else bif i then x else .slice none 0 0
def li (j : Bool) (l : List Int) : List Int := bif j then l else []
set_option maxRecDepth 100000 in
set_option maxHeartbeats 6400000 in
theorem copyC (A0 A1 A2 : Option Addr) (c0 c1 c2 : Nat) (l0 l1 l2 : List Int) (w : World) (hr0 : Kd.C (Kd.int .i64) w A0 l0.length l0) (hr1 : Kd.C (Kd.int .i64) w A1 l1.length l1) (hr2 : Kd.C (Kd.int .i64) w A2 l2.length l2) (m0 : l0.length ≤ 1000) (m1 : l1.length ≤ 1000) (m2 : l2.length ≤ 1000) :
  Calls Tryz.prog 48 #[.agg #[.slice A0 l0.length c0, .slice A1 l1.length c1, .slice A2 l2.length c2]] w fun e w' => ∃ v0 v1 v2, e = .returned (.agg #[v0, v1, v2]) ∧ CP w w' v0 v1 v2 l0 l1 l2 := by
 have hu33 := Tryz.underlying33
 obtain ⟨k0, f1, f2⟩ := al2 w (.cells #[.slice A0 l0.length c0, .slice A1 l1.length c1, .slice A2 l2.length c2] 33) (.cells #[.slice none 0 0, .slice none 0 0, .slice none 0 0] 33)
 replace k0 := below_drew1 k0
 replace f1 := blk_drew f1
 replace f2 := blk_drew f2
 go_enter Tryz.func48, Tryz.ntmps48
 go_upto_region 1 with (fail)
 obtain ⟨g1, e1⟩ : ∃ z, w.heap.size = z := ⟨_, rfl⟩
 obtain ⟨g2, e2⟩ : ∃ z, w.heap.size + 1 = z := ⟨_, rfl⟩
 have hw2 : w.heap.size ≤ g2 := by omega
 have hg12 : g2 ≠ g1 := by omega
 rw [e1] at f1
 rw [e2] at f2
 rw [e2, e1]
 clear e1 e2
 refine start_ (n := 14) (S := fun w' => True) (ds := []) #[false, false, false, false, false, false, false, false, false, false, false, false, false, false] (by kernel_rfl) rfl rfl trivial (fun hHeld => ?_)
 refine pure_ (i := 1) (N := some 4) (v := ?_) (a' := ?_) #[false, true, false, false, false, false, false, false, false, false, false, false, false, false] rfl rfl (by kernel_rfl) (fun _ _ _ h => h) (Or.inl ⟨by rfl, ?_⟩) ?_ ?_
 rotate_left
 ·intro w'
  go_simp
  with_reducible rfl
 rotate_left
 ·simp only [Act.put, List.setIfInBounds_toArray, List.set_cons_zero, List.set_cons_succ, i64_w, i32_w]
  rfl
 refine pure_ (i := 5) (N := some 8) (v := ?_) (a' := ?_) #[false, true, false, false, false, true, false, false, false, false, false, false, false, false] rfl rfl (by kernel_rfl) (fun _ _ _ h => h) (Or.inl ⟨by rfl, ?_⟩) ?_ ?_
 rotate_left
 ·intro w'
  go_simp
  with_reducible rfl
 rotate_left
 ·simp only [Act.put, List.setIfInBounds_toArray, List.set_cons_zero, List.set_cons_succ, i64_w, i32_w]
  rfl
 refine pure_ (i := 9) (N := some 12) (v := ?_) (a' := ?_) #[false, true, false, false, false, true, false, false, false, true, false, false, false, false] rfl rfl (by kernel_rfl) (fun _ _ _ h => h) (Or.inl ⟨by rfl, ?_⟩) ?_ ?_
 rotate_left
 ·intro w'
  go_simp
  with_reducible rfl
 rotate_left
 ·simp only [Act.put, List.setIfInBounds_toArray, List.set_cons_zero, List.set_cons_succ, i64_w, i32_w]
  rfl
 refine inv_at (T := rtab .any (opsOf Tryz.f48 1)) (B := [0, 0, 2, 7, 0, 0, 32, 127, 0, 0, 512, 2047, 4095, 8191]) [0, 2, 3, 4, 6, 7, 8, 10, 11, 12, 13] (fun a0_ b a w' => ∃ x0 u0 x1 u1 x2 u2 m : Value, a = putSel a0_ b [(0, 3, x0), (2, 5, .slice A0 l0.length c0), (3, 6, u0), (4, 7, x1), (6, 9, .slice A1 l1.length c1), (7, 10, u1), (8, 11, x2), (10, 13, .slice A2 l2.length c2), (11, 14, u2), (12, 15, m)] ∧ CP w w' (cu (b 0) (b 3) x0 u0) (cu (b 4) (b 7) x1 u1) (cu (b 8) (b 11) x2 u2) (li (b 3) l0) (li (b 7) l1) (li (b 11) l2) ∧ w'.heap[g1]? = some (.cells #[.slice A0 l0.length c0, .slice A1 l1.length c1, .slice A2 l2.length c2] 33 (0, 0)) ∧ (b 12 = true → m = .agg #[u0, u1, u2]) ∧ w'.heap[g2]? = some (.cells (bif b 13 then #[u0, u1, u2] else Z3) 33 (0, 0))) rfl (by kernel_rfl) (by kernel_rfl) (by kernel_rfl) ?_ ?_ ?_
 ·exact ⟨.bool false, .bool false, .bool false, .bool false, .bool false, .bool false, .bool false, by simp only [putSel, Bool.false_eq_true, if_false], CP.nil k0, f1, fun h => absurd h (by decide), f2⟩
 ·skip
  refine steps_cons ?_ ?_
  ·rintro b a w' ⟨x0, u0, x1, u1, x2, u2, m, ha, T, F1, X, F2⟩ hb_ hon hoff
   refine ⟨_, rfl, fun K hK => ?_⟩
   have h3 := hoff 13 (by kernel_rfl)
   rw [h3] at F2
   have pa : b 0 = false := hb_
   have pb : b 3 = false := hoff 3 (by kernel_rfl)
   rw [pa, pb] at T
   have T0 := T
   refine Kd.R_lit_step (Kd.int .i64) (w0 := w) w.heap.size 3 ?hg (N := 3) ?hd (xs := ([] : List Int)) (inner := []) (ok := fun _ => True) (okp := fun _ => True) ?hr (Reps.none _ _) (fun _ hk => hk) trivial T.k T.k.size (by simp) ?_; (case hd => rfl); (case hg => rfl); (case hr => first | (go_simp; done) | (go_simp; rfl))
   rintro v1 w1 hR hB hg hu
   replace hu := Or.inr (a := v1.ownBlock = (Value.slice none 0 0).ownBlock) hu
   refine hK.out _ _ ⟨v1, u0, x1, u1, x2, u2, m, (by rw [ha]; exact putSel_upk 0 hb_ rfl rfl rfl), by
      show CP w w1 (cu true (b 3) v1 u0) (cu (b 4) (b 7) x1 u1) (cu (b 8) (b 11) x2 u2) (li (b 3) l0) (li (b 7) l1) (li (b 11) l2)
      rw [pb]
      exact T0.up hR hB hg hu, T0.box F1 hg, fun h => absurd ((hoff 12 (by kernel_rfl)).symm.trans h) (by decide), by show w1.heap[g2]? = some (.cells (bif b 13 then #[u0, u1, u2] else Z3) 33 (0, 0)); rw [h3]; exact T0.box F2 hg⟩
  refine steps_cons ?_ ?_
  ·rintro b a w' ⟨x0, u0, x1, u1, x2, u2, m, ha, T, F1, X, F2⟩ hb_ hon hoff
   refine ⟨_, rfl, fun K hK => ?_⟩
   have e4 : a.tmps[4]? = some (.pointer (some ⟨g1, 0, none⟩)) := by rw [ha]; exact (putSel_off rfl).trans rfl
   have i := (c3 F1).1
   have ha' := Aside0.mk ha
   clear ha
   refine value_ (w1 := w') (v := .slice A0 l0.length c0) (by rfl) rfl ?_ ?_
   ·clear T X F1 F2 hK hon hoff
    go_simp
   replace ha := ha'.out
   refine hK.out _ _ ⟨x0, u0, x1, u1, x2, u2, m, (by rw [ha]; exact putSel_upk 1 hb_ rfl rfl rfl), T, F1, X, F2⟩
  refine steps_cons ?_ ?_
  ·rintro b a w' ⟨x0, u0, x1, u1, x2, u2, m, ha, T, F1, X, F2⟩ hb_ hon hoff
   refine ⟨_, rfl, fun K hK => ?_⟩
   have h3 := hoff 13 (by kernel_rfl)
   rw [h3] at F2
   have pa : b 0 = true := hon 0 (by kernel_rfl)
   have pb : b 3 = false := hb_
   rw [pa, pb] at T
   have T0 := T
   have e3 : a.tmps[3]? = some (x0) := by rw [ha]; exact putSel_on (e := (0, 3, x0)) 0 rfl rfl (hon 0 (by kernel_rfl)) rfl
   have e5 : a.tmps[5]? = some (.slice A0 l0.length c0) := by rw [ha]; exact putSel_on (e := (2, 5, .slice A0 l0.length c0)) 1 rfl rfl (hon 2 (by kernel_rfl)) rfl
   refine Kd.R_append_rows_step (Kd.int .i64) (w0 := w) w.heap.size (by rfl) (.tmp 3) (.tmp 5) 31 3 (.int .i64 0) 8 rfl Tryz.underlying31 Gz.info3 rfl (by decide) (by omega) x0 [] l0 A0 l0.length c0 (fun _ => True) (fun _ => False) (eval_of e3) (eval_of e5) T0.a (Kd.C_below hr0 T.k) (fun _ _ h => h) (fun _ h => h.elim) (fun _ _ => trivial) T.k T.k.size (by simp; omega) ?_
   rintro v1 w1 hR hB hg hu
   refine hK.out _ _ ⟨x0, v1, x1, u1, x2, u2, m, (by rw [ha]; exact putSel_upk 2 hb_ rfl rfl rfl), by
      show CP w w1 (cu (b 0) true x0 v1) (cu (b 4) (b 7) x1 u1) (cu (b 8) (b 11) x2 u2) (li true l0) (li (b 7) l1) (li (b 11) l2)
      rw [pa]
      exact T0.up hR hB hg hu, T0.box F1 hg, fun h => absurd ((hoff 12 (by kernel_rfl)).symm.trans h) (by decide), by show w1.heap[g2]? = some (.cells (bif b 13 then #[v1, u1, u2] else Z3) 33 (0, 0)); rw [h3]; exact T0.box F2 hg⟩
  refine steps_cons ?_ ?_
  ·rintro b a w' ⟨x0, u0, x1, u1, x2, u2, m, ha, T, F1, X, F2⟩ hb_ hon hoff
   refine ⟨_, rfl, fun K hK => ?_⟩
   have h3 := hoff 13 (by kernel_rfl)
   rw [h3] at F2
   have pa : b 4 = false := hb_
   have pb : b 7 = false := hoff 7 (by kernel_rfl)
   rw [pa, pb] at T
   have T0 := CP.sw (T)
   refine Kd.R_lit_step (Kd.int .i64) (w0 := w) w.heap.size 3 ?hg (N := 7) ?hd (xs := ([] : List Int)) (inner := []) (ok := fun _ => True) (okp := fun _ => True) ?hr (Reps.none _ _) (fun _ hk => hk) trivial T.k T.k.size (by simp) ?_; (case hd => rfl); (case hg => rfl); (case hr => first | (go_simp; done) | (go_simp; rfl))
   rintro v1 w1 hR hB hg hu
   replace hu := Or.inr (a := v1.ownBlock = (Value.slice none 0 0).ownBlock) hu
   refine hK.out _ _ ⟨x0, u0, v1, u1, x2, u2, m, (by rw [ha]; exact putSel_upk 3 hb_ rfl rfl rfl), by
      show CP w w1 (cu (b 0) (b 3) x0 u0) (cu true (b 7) v1 u1) (cu (b 8) (b 11) x2 u2) (li (b 3) l0) (li (b 7) l1) (li (b 11) l2)
      rw [pb]
      exact CP.sw (T0.up hR hB hg hu), T0.box F1 hg, fun h => absurd ((hoff 12 (by kernel_rfl)).symm.trans h) (by decide), by show w1.heap[g2]? = some (.cells (bif b 13 then #[u0, u1, u2] else Z3) 33 (0, 0)); rw [h3]; exact T0.box F2 hg⟩
  refine steps_cons ?_ ?_
  ·rintro b a w' ⟨x0, u0, x1, u1, x2, u2, m, ha, T, F1, X, F2⟩ hb_ hon hoff
   refine ⟨_, rfl, fun K hK => ?_⟩
   have e8 : a.tmps[8]? = some (.pointer (some ⟨g1, 1, none⟩)) := by rw [ha]; exact (putSel_off rfl).trans rfl
   have i := (c3 F1).1
   have ha' := Aside0.mk ha
   clear ha
   refine value_ (w1 := w') (v := .slice A1 l1.length c1) (by rfl) rfl ?_ ?_
   ·clear T X F1 F2 hK hon hoff
    go_simp
   replace ha := ha'.out
   refine hK.out _ _ ⟨x0, u0, x1, u1, x2, u2, m, (by rw [ha]; exact putSel_upk 4 hb_ rfl rfl rfl), T, F1, X, F2⟩
  refine steps_cons ?_ ?_
  ·rintro b a w' ⟨x0, u0, x1, u1, x2, u2, m, ha, T, F1, X, F2⟩ hb_ hon hoff
   refine ⟨_, rfl, fun K hK => ?_⟩
   have h3 := hoff 13 (by kernel_rfl)
   rw [h3] at F2
   have pa : b 4 = true := hon 4 (by kernel_rfl)
   have pb : b 7 = false := hb_
   rw [pa, pb] at T
   have T0 := CP.sw (T)
   have e7 : a.tmps[7]? = some (x1) := by rw [ha]; exact putSel_on (e := (4, 7, x1)) 3 rfl rfl (hon 4 (by kernel_rfl)) rfl
   have e9 : a.tmps[9]? = some (.slice A1 l1.length c1) := by rw [ha]; exact putSel_on (e := (6, 9, .slice A1 l1.length c1)) 4 rfl rfl (hon 6 (by kernel_rfl)) rfl
   refine Kd.R_append_rows_step (Kd.int .i64) (w0 := w) w.heap.size (by rfl) (.tmp 7) (.tmp 9) 31 3 (.int .i64 0) 8 rfl Tryz.underlying31 Gz.info3 rfl (by decide) (by omega) x1 [] l1 A1 l1.length c1 (fun _ => True) (fun _ => False) (eval_of e7) (eval_of e9) T0.a (Kd.C_below hr1 T.k) (fun _ _ h => h) (fun _ h => h.elim) (fun _ _ => trivial) T.k T.k.size (by simp; omega) ?_
   rintro v1 w1 hR hB hg hu
   refine hK.out _ _ ⟨x0, u0, x1, v1, x2, u2, m, (by rw [ha]; exact putSel_upk 5 hb_ rfl rfl rfl), by
      show CP w w1 (cu (b 0) (b 3) x0 u0) (cu (b 4) true x1 v1) (cu (b 8) (b 11) x2 u2) (li (b 3) l0) (li true l1) (li (b 11) l2)
      rw [pa]
      exact CP.sw (T0.up hR hB hg hu), T0.box F1 hg, fun h => absurd ((hoff 12 (by kernel_rfl)).symm.trans h) (by decide), by show w1.heap[g2]? = some (.cells (bif b 13 then #[u0, v1, u2] else Z3) 33 (0, 0)); rw [h3]; exact T0.box F2 hg⟩
  refine steps_cons ?_ ?_
  ·rintro b a w' ⟨x0, u0, x1, u1, x2, u2, m, ha, T, F1, X, F2⟩ hb_ hon hoff
   refine ⟨_, rfl, fun K hK => ?_⟩
   have h3 := hoff 13 (by kernel_rfl)
   rw [h3] at F2
   have pa : b 8 = false := hb_
   have pb : b 11 = false := hoff 11 (by kernel_rfl)
   rw [pa, pb] at T
   have T0 := CP.rt (T)
   refine Kd.R_lit_step (Kd.int .i64) (w0 := w) w.heap.size 3 ?hg (N := 11) ?hd (xs := ([] : List Int)) (inner := []) (ok := fun _ => True) (okp := fun _ => True) ?hr (Reps.none _ _) (fun _ hk => hk) trivial T.k T.k.size (by simp) ?_; (case hd => rfl); (case hg => rfl); (case hr => first | (go_simp; done) | (go_simp; rfl))
   rintro v1 w1 hR hB hg hu
   replace hu := Or.inr (a := v1.ownBlock = (Value.slice none 0 0).ownBlock) hu
   refine hK.out _ _ ⟨x0, u0, x1, u1, v1, u2, m, (by rw [ha]; exact putSel_upk 6 hb_ rfl rfl rfl), by
      show CP w w1 (cu (b 0) (b 3) x0 u0) (cu (b 4) (b 7) x1 u1) (cu true (b 11) v1 u2) (li (b 3) l0) (li (b 7) l1) (li (b 11) l2)
      rw [pb]
      exact CP.tr (T0.up hR hB hg hu), T0.box F1 hg, fun h => absurd ((hoff 12 (by kernel_rfl)).symm.trans h) (by decide), by show w1.heap[g2]? = some (.cells (bif b 13 then #[u0, u1, u2] else Z3) 33 (0, 0)); rw [h3]; exact T0.box F2 hg⟩
  refine steps_cons ?_ ?_
  ·rintro b a w' ⟨x0, u0, x1, u1, x2, u2, m, ha, T, F1, X, F2⟩ hb_ hon hoff
   refine ⟨_, rfl, fun K hK => ?_⟩
   have e12 : a.tmps[12]? = some (.pointer (some ⟨g1, 2, none⟩)) := by rw [ha]; exact (putSel_off rfl).trans rfl
   have i := (c3 F1).1
   have ha' := Aside0.mk ha
   clear ha
   refine value_ (w1 := w') (v := .slice A2 l2.length c2) (by rfl) rfl ?_ ?_
   ·clear T X F1 F2 hK hon hoff
    go_simp
   replace ha := ha'.out
   refine hK.out _ _ ⟨x0, u0, x1, u1, x2, u2, m, (by rw [ha]; exact putSel_upk 7 hb_ rfl rfl rfl), T, F1, X, F2⟩
  refine steps_cons ?_ ?_
  ·rintro b a w' ⟨x0, u0, x1, u1, x2, u2, m, ha, T, F1, X, F2⟩ hb_ hon hoff
   refine ⟨_, rfl, fun K hK => ?_⟩
   have h3 := hoff 13 (by kernel_rfl)
   rw [h3] at F2
   have pa : b 8 = true := hon 8 (by kernel_rfl)
   have pb : b 11 = false := hb_
   rw [pa, pb] at T
   have T0 := CP.rt (T)
   have e11 : a.tmps[11]? = some (x2) := by rw [ha]; exact putSel_on (e := (8, 11, x2)) 6 rfl rfl (hon 8 (by kernel_rfl)) rfl
   have e13 : a.tmps[13]? = some (.slice A2 l2.length c2) := by rw [ha]; exact putSel_on (e := (10, 13, .slice A2 l2.length c2)) 7 rfl rfl (hon 10 (by kernel_rfl)) rfl
   refine Kd.R_append_rows_step (Kd.int .i64) (w0 := w) w.heap.size (by rfl) (.tmp 11) (.tmp 13) 31 3 (.int .i64 0) 8 rfl Tryz.underlying31 Gz.info3 rfl (by decide) (by omega) x2 [] l2 A2 l2.length c2 (fun _ => True) (fun _ => False) (eval_of e11) (eval_of e13) T0.a (Kd.C_below hr2 T.k) (fun _ _ h => h) (fun _ h => h.elim) (fun _ _ => trivial) T.k T.k.size (by simp; omega) ?_
   rintro v1 w1 hR hB hg hu
   refine hK.out _ _ ⟨x0, u0, x1, u1, x2, v1, m, (by rw [ha]; exact putSel_upk 8 hb_ rfl rfl rfl), by
      show CP w w1 (cu (b 0) (b 3) x0 u0) (cu (b 4) (b 7) x1 u1) (cu (b 8) true x2 v1) (li (b 3) l0) (li (b 7) l1) (li true l2)
      rw [pa]
      exact CP.tr (T0.up hR hB hg hu), T0.box F1 hg, fun h => absurd ((hoff 12 (by kernel_rfl)).symm.trans h) (by decide), by show w1.heap[g2]? = some (.cells (bif b 13 then #[u0, u1, v1] else Z3) 33 (0, 0)); rw [h3]; exact T0.box F2 hg⟩
  refine steps_cons ?_ ?_
  ·rintro b a w' ⟨x0, u0, x1, u1, x2, u2, m, ha, T, F1, X, F2⟩ hb_ hon hoff
   refine ⟨_, rfl, fun K hK => ?_⟩
   have T1 := T
   rw [hon 3 (by kernel_rfl), hon 7 (by kernel_rfl), hon 11 (by kernel_rfl)] at T1
   obtain ⟨B0, n0, d0, e0⟩ := sl (v := u0) T1.a
   obtain ⟨B1, n1, d1, e1⟩ := sl (v := u1) T1.b
   obtain ⟨B2, n2, d2, e2⟩ := sl (v := u2) T1.c
   subst e0 e1 e2
   clear T1
   have e6 : a.tmps[6]? = some ((.slice B0 n0 d0)) := by rw [ha]; exact putSel_on (e := (3, 6, (.slice B0 n0 d0))) 2 rfl rfl (hon 3 (by kernel_rfl)) rfl
   have e10 : a.tmps[10]? = some ((.slice B1 n1 d1)) := by rw [ha]; exact putSel_on (e := (7, 10, (.slice B1 n1 d1))) 5 rfl rfl (hon 7 (by kernel_rfl)) rfl
   have e14 : a.tmps[14]? = some ((.slice B2 n2 d2)) := by rw [ha]; exact putSel_on (e := (11, 14, (.slice B2 n2 d2))) 8 rfl rfl (hon 11 (by kernel_rfl)) rfl
   have ha' := Aside0.mk ha
   clear ha
   refine value_ (w1 := w') (v := .agg #[(.slice B0 n0 d0), (.slice B1 n1 d1), (.slice B2 n2 d2)]) (by rfl) rfl ?_ ?_
   ·clear T X F1 F2 hK hon hoff
    go_simp
    try rfl
   replace ha := ha'.out
   refine hK.out _ _ ⟨_, _, _, _, _, _, _, (by rw [ha]; exact putSel_upk 9 hb_ rfl rfl rfl), T, F1, fun _ => rfl, F2⟩
  refine steps_cons ?_ ?_
  ·rintro b a w' ⟨x0, u0, x1, u1, x2, u2, m, ha, T, F1, X, F2⟩ hb_ hon hoff
   refine ⟨_, rfl, fun K hK => ?_⟩
   have T1 := T
   rw [hon 3 (by kernel_rfl), hon 7 (by kernel_rfl), hon 11 (by kernel_rfl)] at T1
   obtain ⟨B0, n0, d0, e0⟩ := sl (v := u0) T1.a
   obtain ⟨B1, n1, d1, e1⟩ := sl (v := u1) T1.b
   obtain ⟨B2, n2, d2, e2⟩ := sl (v := u2) T1.c
   subst e0 e1 e2
   clear T1
   have e15 : a.tmps[15]? = some (m) := by rw [ha]; exact putSel_on (e := (12, 15, m)) 9 rfl rfl (hon 12 (by kernel_rfl)) rfl
   rw [X (hon 12 (by kernel_rfl))] at e15
   have e2 : a.tmps[2]? = some (.pointer (some ⟨g2, 0, none⟩)) := by rw [ha]; exact (putSel_off rfl).trans rfl
   rw [hb_] at F2
   have y := c3 (a := .slice none 0 0) (b := .slice none 0 0) (c := .slice none 0 0) F2
   have ha' := Aside0.mk ha
   clear ha
   refine skip_ (w1 := ((w'.setCell ⟨g2, 0, none⟩ (.slice B0 n0 d0)).setCell ⟨g2, 1, none⟩ (.slice B1 n1 d1)).setCell ⟨g2, 2, none⟩ (.slice B2 n2 d2)) (by rfl) rfl ?_ ?_
   ·clear T X F1 hK hon hoff
    go_simp
    try rfl
   replace ha := ha'.out
   refine hK.out _ _ ⟨_, _, _, _, _, _, _, (by rw [ha]; exact putSel_none (v := undef) rfl), T.st F2 hw2 _ _ _, blk_far (p := ⟨g2, 2, none⟩) (blk_far (p := ⟨g2, 1, none⟩) (blk_far (p := ⟨g2, 0, none⟩) F1 hg12.symm _) hg12.symm _) hg12.symm _, X, res_store F2 _ _ _⟩
  exact steps_nil
 rintro b a w5 hall ⟨x0, u0, x1, u1, x2, u2, m, ha, T, F1, X, F2⟩
 have z0 : b 0 = true := hall 0 (by kernel_rfl)
 have z2 : b 2 = true := hall 2 (by kernel_rfl)
 have z3 : b 3 = true := hall 3 (by kernel_rfl)
 have z4 : b 4 = true := hall 4 (by kernel_rfl)
 have z6 : b 6 = true := hall 6 (by kernel_rfl)
 have z7 : b 7 = true := hall 7 (by kernel_rfl)
 have z8 : b 8 = true := hall 8 (by kernel_rfl)
 have z10 : b 10 = true := hall 10 (by kernel_rfl)
 have z11 : b 11 = true := hall 11 (by kernel_rfl)
 have z12 : b 12 = true := hall 12 (by kernel_rfl)
 have z13 : b 13 = true := hall 13 (by kernel_rfl)
 obtain rfl := X z12
 subst ha
 simp only [putSel, z0, z2, z3, z4, z6, z7, z8, z10, z11, z12, z13, if_true, Act.put, List.setIfInBounds_toArray, List.set_cons_zero, List.set_cons_succ]
 rw [z13] at F2
 rw [z0, z3, z4, z7, z8, z11] at T
 clear hall
 obtain ⟨B0, n0, d0, e0⟩ := sl (v := u0) T.a
 obtain ⟨B1, n1, d1, e1⟩ := sl (v := u1) T.b
 obtain ⟨B2, n2, d2, e2⟩ := sl (v := u2) T.c
 subst e0 e1 e2
 go_wp2
 refine bodyPost_ret (results_cell_row rfl _ _ g2 33 #[(.slice B0 n0 d0), (.slice B1 n1 d1), (.slice B2 n2 d2)] (0, 0) _ rfl F2 Tryz.underlying33 rfl (by kernel_rfl)) rfl ?_
 exact ⟨_, _, _, rfl, T⟩
end Go.Proofs.YtjamfddhcigchaaGreatDoor.Gw
