import Derived.Test.YtjamfddhcigchaaGreatDoorProg
import Derived.Test.YtjamfddhcigchaaGreatDoorTFnCodeSameWWords
import Derived.Laws.Cover3
import Derived.WalkLawsBesides
import Derived.WalkSpells
import Derived.Deep.RegionHeld
namespace Go.Proofs.YtjamfddhcigchaaGreatDoor.Gm
open Go.RowKit Go.Proofs.YtjamfddhcigchaaGreatDoorW.PrintWords Go.Proofs.YtjamfddhcigchaaGreatDoorW.PrintLast Go.Proofs.YtjamfddhcigchaaGreatDoorW.PrintMore
attribute [local go_sem] max2_int min2_int max_two min_two
set_option linter.unusedVariables false
set_option linter.unusedSimpArgs false
def isN (n : Int) : Bool := decide (-1000000 ≤ n) && decide (n ≤ 1000000)
set_option maxRecDepth 100000 in
theorem isNum_any (n : Int) (w : World) : Calls Tryz.prog 63 #[.int .i64 n] w fun e w' => e = .returned (.bool (isN n)) ∧ Below w.heap.size w w' := by
 by_cases h : -1000000 ≤ n
 ·have e : isN n = decide (n ≤ 1000000) := by simp [isN, h]
  have d : decide (-1000000 ≤ n) = true := by simpa using h
  rw [e]; clear h e
  go_enter Tryz.func63, Tryz.ntmps63
  go_wp2
  go_ret
  exact ⟨rfl, Below.refl _ _⟩
 ·have e : isN n = false := by simp [isN, h]
  have d : decide (-1000000 ≤ n) = false := by simpa using h
  rw [e]; clear h e
  go_enter Tryz.func63, Tryz.ntmps63
  go_wp2
  go_ret
  exact ⟨rfl, Below.refl _ _⟩
set_option maxRecDepth 100000 in
theorem lit_any (n : Int) (w : World) : Calls Tryz.prog 62 #[.int .i64 n] w fun e w' => e = .returned (.bool (!isN n)) ∧ Below w.heap.size w w' := by
 go_enter Tryz.func62, Tryz.ntmps62
 go_wp2_with fail
 refine (isNum_any _ _).mono ?_
 rintro e w' ⟨rfl, hb⟩
 go_wp2
 go_ret
 exact ⟨rfl, hb⟩
theorem rdI (l : List Int) (i : Nat) (h : i < l.length) : rd l (i : Int) = l[i] := by
 unfold rd; rw [Int.toNat_natCast, List.getD_eq_getElem?_getD, List.getElem?_eq_getElem h]; rfl
set_option maxRecDepth 100000 in
set_option maxHeartbeats 1600000 in
theorem idx_any (A : Option Addr) (c : Nat) (l : List Int) (w : World) (hr : Kd.C (Kd.int .i64) w A l.length l) :
  Calls Tryz.prog 89 #[.slice A l.length c, .func (.func 62) #[] #[]] w fun e w' => (∃ r : Int, e = .returned (.int .i64 r) ∧ decide (0 ≤ r) = !(l.all isN)) ∧ Below w.heap.size w w' := by
 have hm : l.length ≤ 9223372036854775807 := hr.2.1
 go_enter Tryz.func89, Tryz.ntmps89
 go_wp2_with fail
 go_loopw [8] (fun i wr => ∃ (j : Nat), j ≤ l.length ∧ i = .int .i64 j ∧ (l.take j).all isN = true ∧ Below w.heap.size w wr) (fun i _ => l.length - (intOf i).toNat)
 case atStart => exact ⟨0, by omega, rfl, by simp, Below.refl _ _⟩
 case round =>
  obtain ⟨j, hj, rfl, hall, hB⟩ := hrel
  by_cases hl : j < l.length
  ·have e1 : decide (j < l.length) = true := by simpa using hl
   obtain ⟨ad, hA, hcell⟩ := Kd.at_int (Kd.C_below hr hB) (j : Int) (by omega) (by omega)
   subst hA
   rw [rdI l j hl, Int.toNat_natCast] at hcell
   have hstep : (l.take (j + 1)).all isN = isN l[j] := by
    rw [List.take_succ_eq_append_getElem hl, List.all_append, hall]; simp
   have hnot : isN l[j] = false → l.all isN = false := fun h => by
    rw [Bool.eq_false_iff]; intro h2
    rw [List.all_eq_true] at h2
    have := h2 l[j] (List.getElem_mem hl)
    rw [h] at this; exact absurd this (by decide)
   generalize l[j] = b at hcell hstep hnot
   go_wp2_with fail
   refine (lit_any _ _).mono ?_
   rintro e w2 ⟨rfl, hb⟩
   cases hn : isN b with
   | false =>
    go_wp2
    go_ret
    exact ⟨⟨_, rfl, by rw [hnot hn]; simp⟩, hB.trans (hb.mono hB.size)⟩
   | true =>
    go_wp2
    go_roundw
    case rel => exact ⟨j + 1, by omega, by go_num, by rw [hstep, hn], hB.trans (hb.mono hB.size)⟩
    case measure => simp [intOf]; omega
  ·have e1 : decide (j < l.length) = false := by simpa using hl
   have hA : l.all isN = true := by rw [List.take_of_length_le (by omega)] at hall; exact hall
   go_wp2
   go_ret
   exact ⟨⟨_, rfl, by rw [hA]; rfl⟩, hB⟩
set_option maxRecDepth 100000 in
theorem contains_any (A : Option Addr) (c : Nat) (l : List Int) (w : World) (hr : Kd.C (Kd.int .i64) w A l.length l) :
  Calls Tryz.prog 61 #[.slice A l.length c, .func (.func 62) #[] #[]] w fun e w' => e = .returned (.bool !(l.all isN)) ∧ Below w.heap.size w w' := by
 go_enter Tryz.func61, Tryz.ntmps61
 go_wp2_with fail
 refine (idx_any A c l w hr).mono ?_
 rintro e w2 ⟨⟨r, rfl, h⟩, hb⟩
 go_wp2
 go_ret
 exact ⟨by rw [← h]; rfl, hb⟩
def okL (l : List Int) : Bool := decide (l.length = 6) && l.all isN
def okM (l0 l1 l2 : List Int) : Bool := okL l0 && okL l1 && okL l2
def mM : Nat → List Int → List Int → List Int → Array Value
 | 0, l0, l1, l2 => #[.int .i64 0, .int .i64 0, .int .i64 0, .int .i64 0, .int .i64 0, .int .i64 0, .int .i64 0, .int .i64 0, .int .i64 0, .int .i64 0, .int .i64 0, .int .i64 0, .int .i64 0, .int .i64 0, .int .i64 0, .int .i64 0, .int .i64 0, .int .i64 0]
 | 1, l0, l1, l2 => #[.int .i64 (rd l0 0), .int .i64 (rd l0 1), .int .i64 (rd l0 2), .int .i64 (rd l0 3), .int .i64 (rd l0 4), .int .i64 (rd l0 5), .int .i64 0, .int .i64 0, .int .i64 0, .int .i64 0, .int .i64 0, .int .i64 0, .int .i64 0, .int .i64 0, .int .i64 0, .int .i64 0, .int .i64 0, .int .i64 0]
 | 2, l0, l1, l2 => #[.int .i64 (rd l0 0), .int .i64 (rd l0 1), .int .i64 (rd l0 2), .int .i64 (rd l0 3), .int .i64 (rd l0 4), .int .i64 (rd l0 5), .int .i64 (rd l1 0), .int .i64 (rd l1 1), .int .i64 (rd l1 2), .int .i64 (rd l1 3), .int .i64 (rd l1 4), .int .i64 (rd l1 5), .int .i64 0, .int .i64 0, .int .i64 0, .int .i64 0, .int .i64 0, .int .i64 0]
 | _, l0, l1, l2 => #[.int .i64 (rd l0 0), .int .i64 (rd l0 1), .int .i64 (rd l0 2), .int .i64 (rd l0 3), .int .i64 (rd l0 4), .int .i64 (rd l0 5), .int .i64 (rd l1 0), .int .i64 (rd l1 1), .int .i64 (rd l1 2), .int .i64 (rd l1 3), .int .i64 (rd l1 4), .int .i64 (rd l1 5), .int .i64 (rd l2 0), .int .i64 (rd l2 1), .int .i64 (rd l2 2), .int .i64 (rd l2 3), .int .i64 (rd l2 4), .int .i64 (rd l2 5)]
theorem cell_drew (W : World) (a : Addr) : W.drew.cell? a = W.cell? a := rfl
theorem res41 (tmps : Array Value) (w : World) : (results Tryz.f36 tmps).run Tryz.prog w = .ok (.tuple #[tmps.getD 2 undef, tmps.getD 3 undef]) w := by
 have hres : Tryz.f36.results = #[.tmp 2, .tmp 3] := by kernel_rfl
 simp only [results, hres]
 go_simp
theorem spot_none {w : World} {bk off : Nat} {fz : Option Nat} {v : Value} (h : w.cell? ⟨bk, off, fz⟩ = some v) : fz = none := by
 cases fz with
 | none => rfl
 | some s => unfold World.cell? at h; split at h <;> simp_all
theorem alloc_size (w : World) (o : Obj) : (w.alloc o).heap.size = w.heap.size + 1 := Array.size_push ..
structure St (w : World) (b g : Nat) (S M : Array Value) (W : World) : Prop where
 hb : W.heap[b]? = some (.cells S 31 (0, 0))
 hg : W.heap[g]? = some (.cells M 82 (0, 0))
 ne : g < b
 gb : w.heap.size ≤ g
 bel : Below w.heap.size w W
theorem St.below {w W W' : World} {b g : Nat} {S M : Array Value} (h : St w b g S M W) (k : Below W.heap.size W W') : St w b g S M W' := ⟨blk_below h.hb k, blk_below h.hg k, h.ne, h.gb, h.bel.trans (k.mono h.bel.size)⟩
theorem St.drew {w W : World} {b g : Nat} {S M : Array Value} (h : St w b g S M W) : St w b g S M W.drew := ⟨h.hb, h.hg, h.ne, h.gb, below_drew1 h.bel⟩
theorem St.put {w W : World} {b g : Nat} {S M M' : Array Value} (h : St w b g S M W) (i : Nat) (u : Value) (e : M.setIfInBounds i u = M') : St w b g S M' (W.setCell ⟨g, i, none⟩ u) := ⟨blk_far h.hb (by have := h.ne; simp; omega) u, blk_put h.hg i u e, h.ne, h.gb, below_set h.bel h.gb⟩
theorem St.put6 {w W : World} {b g : Nat} {S M M2 : Array Value} (h : St w b g S M W) (a0 a1 a2 a3 a4 a5 : Nat) (u0 u1 u2 u3 u4 u5 : Value) (e : ((((((M.setIfInBounds a0 u0).setIfInBounds a1 u1).setIfInBounds a2 u2).setIfInBounds a3 u3).setIfInBounds a4 u4).setIfInBounds a5 u5) = M2) : St w b g S M2 ((((((W.setCell ⟨g, a0, none⟩ u0).setCell ⟨g, a1, none⟩ u1).setCell ⟨g, a2, none⟩ u2).setCell ⟨g, a3, none⟩ u3).setCell ⟨g, a4, none⟩ u4).setCell ⟨g, a5, none⟩ u5) := (St.put (St.put (St.put (St.put (St.put (St.put h a0 u0 rfl) a1 u1 rfl) a2 u2 rfl) a3 u3 rfl) a4 u4 rfl) a5 u5 e)
theorem far6 (W : World) {g bk : Nat} (o : Nat) (h : g ≠ bk) (a0 a1 a2 a3 a4 a5 : Nat) (u0 u1 u2 u3 u4 u5 : Value) {v : Option Value} (e : W.cell? ⟨bk, o, none⟩ = v) : ((((((W.setCell ⟨g, a0, none⟩ u0).setCell ⟨g, a1, none⟩ u1).setCell ⟨g, a2, none⟩ u2).setCell ⟨g, a3, none⟩ u3).setCell ⟨g, a4, none⟩ u4).setCell ⟨g, a5, none⟩ u5).cell? ⟨bk, o, none⟩ = v := by
 have l : ∀ q : Nat, (⟨g, q, none⟩ : Addr).block ≠ (⟨bk, o, none⟩ : Addr).block := fun q => h
 rw [World.cell?_setCell_far _ _ _ _ (l _), World.cell?_setCell_far _ _ _ _ (l _), World.cell?_setCell_far _ _ _ _ (l _), World.cell?_setCell_far _ _ _ _ (l _), World.cell?_setCell_far _ _ _ _ (l _), World.cell?_setCell_far _ _ _ _ (l _)]; exact e
set_option maxRecDepth 100000 in
set_option maxHeartbeats 6400000 in
theorem readMem_any (A0 A1 A2 : Option Addr) (c0 c1 c2 : Nat) (l0 l1 l2 : List Int) (w : World) (hr0 : Kd.C (Kd.int .i64) w A0 l0.length l0) (hr1 : Kd.C (Kd.int .i64) w A1 l1.length l1) (hr2 : Kd.C (Kd.int .i64) w A2 l2.length l2) :
  Calls Tryz.prog 36 #[.agg #[.slice A0 l0.length c0, .slice A1 l1.length c1, .slice A2 l2.length c2]] w fun e w' => (okM l0 l1 l2 = true → ∃ g, e = .returned (.tuple #[.pointer (some ⟨g, 0, none⟩), .bool true]) ∧ w'.heap[g]? = some (.cells (mM 3 l0 l1 l2) 82 (0, 0)) ∧ w.heap.size ≤ g) ∧ (okM l0 l1 l2 = false → e = .returned (.tuple #[.pointer none, .bool false])) ∧ Below w.heap.size w w' := by
 have hu := Tryz.underlying33
 have hu56 := Tryz.underlying82
 go_enter Tryz.func36, Tryz.ntmps36
 go_wp2_with fail
 have hS0 : St w (w.heap.size + 1 + 1) (w.heap.size + 1) #[.slice A0 l0.length c0, .slice A1 l1.length c1, .slice A2 l2.length c2] (mM 0 l0 l1 l2) (((w.alloc (Obj.cells #[.slice A0 l0.length c0, .slice A1 l1.length c1, .slice A2 l2.length c2] 33)).alloc (Obj.cells (mM 0 l0 l1 l2) 82)).alloc (Obj.cells #[.slice A0 l0.length c0, .slice A1 l1.length c1, .slice A2 l2.length c2] 31)) := by
  refine ⟨?_, ?_, by omega, by omega, ?_⟩
  ·have e : ((w.alloc (Obj.cells #[.slice A0 l0.length c0, .slice A1 l1.length c1, .slice A2 l2.length c2] 33)).alloc (Obj.cells (mM 0 l0 l1 l2) 82)).heap.size = w.heap.size + 1 + 1 := (alloc_size _ _).trans (congrArg (· + 1) (alloc_size _ _))
   rw [← e]; exact heap_alloc_new _ _
  ·have e : (w.alloc (Obj.cells #[.slice A0 l0.length c0, .slice A1 l1.length c1, .slice A2 l2.length c2] 33)).heap.size = w.heap.size + 1 := alloc_size _ _
   rw [← e]; exact blk_alloc (heap_alloc_new _ _) _
  ·exact (((Below.refl _ _).alloc (Nat.le_refl _) _).alloc (by rw [alloc_size]; exact Nat.le_succ _) _).alloc (by rw [alloc_size, alloc_size]; exact Nat.le_add_right _ 2) _
 unfold mM at hS0
 generalize ((w.alloc (Obj.cells _ 33)).alloc (Obj.cells _ 82)).alloc (Obj.cells _ 31) = w1 at hS0 ⊢
 obtain ⟨g, hg⟩ : ∃ g, w.heap.size + 1 = g := ⟨_, rfl⟩
 obtain ⟨b, hb⟩ : ∃ b, g + 1 = b := ⟨_, rfl⟩
 rw [hg, hb] at hS0 ⊢
 go_loopw [17] (fun i wr => ∃ j : Nat, j ≤ 3 ∧ i = .int .i64 j ∧ (1 ≤ j → okL l0 = true) ∧ (2 ≤ j → okL l1 = true) ∧ (3 ≤ j → okL l2 = true) ∧ St w b g #[.slice A0 l0.length c0, .slice A1 l1.length c1, .slice A2 l2.length c2] (mM j l0 l1 l2) wr) (fun i _ => 3 - (intOf i).toNat)
 case atStart => exact ⟨0, by omega, rfl, by omega, by omega, by omega, hS0⟩
 case round =>
  clear hS0
  obtain ⟨j, hj, rfl, o0, o1, o2, hS⟩ := hrel
  rcases (by omega : j = 0 ∨ j = 1 ∨ j = 2 ∨ j = 3) with rfl | rfl | rfl | rfl
  ·have s0 : wr.cell? ⟨b, 0, none⟩ = some (.slice A0 l0.length c0) := (blk_cell hS.hb 0).trans rfl
   have hr := Kd.C_below hr0 hS.bel
   by_cases hl : l0.length = 6
   ·have e1 : ((l0.length : Int) != 6) = false := by simp; omega
    have hl6 : 6 ≤ l0.length := by omega
    have hok : l0.all isN = true → okL l0 = true := fun h => by simp [okL, hl, h]
    have hc := contains_any A0 c0 l0 wr hr
    clear hl
    go_wp2_with fail
    refine hc.mono ?_
    rintro e w2 ⟨rfl, hb2⟩
    have hS2 := hS.below hb2
    have hr' := Kd.C_below hr0 hS2.bel
    cases hall : l0.all isN with
    | false =>
     go_wp2
     refine bodyPost_ret (res41 _ _) rfl ⟨fun h => absurd h (by simp [okM, okL, hall]), fun _ => rfl, hS2.bel⟩
    | true =>
     replace hok := hok hall
     obtain ⟨ad, hA, hq0⟩ := Kd.at_int hr' 0 (by omega) (by omega)
     obtain ⟨adw, hAw, hqw⟩ := Kd.at_int hr0 0 (by omega) (by omega)
     obtain rfl : adw = ad := Option.some.inj (hAw.symm.trans hA)
     clear hAw
     subst hA
     obtain ⟨ad1, hA, hq1⟩ := Kd.at_int hr' 1 (by omega) (by omega)
     obtain rfl := Option.some.inj hA
     obtain ⟨ad2, hA, hq2⟩ := Kd.at_int hr' 2 (by omega) (by omega)
     obtain rfl := Option.some.inj hA
     obtain ⟨ad3, hA, hq3⟩ := Kd.at_int hr' 3 (by omega) (by omega)
     obtain rfl := Option.some.inj hA
     obtain ⟨ad4, hA, hq4⟩ := Kd.at_int hr' 4 (by omega) (by omega)
     obtain rfl := Option.some.inj hA
     obtain ⟨ad5, hA, hq5⟩ := Kd.at_int hr' 5 (by omega) (by omega)
     obtain rfl := Option.some.inj hA
     obtain ⟨bk, off, fz⟩ := adw
     obtain rfl := spot_none hq0
     have hbkw : bk < w.heap.size := World.block_lt_of_cell? _ _ hqw
     clear hqw
     replace hq0 : w2.cell? ⟨bk, off, none⟩ = some (.int .i64 (rd l0 0)) := hq0
     replace hq1 : w2.cell? ⟨bk, off + 1, none⟩ = some (.int .i64 (rd l0 1)) := hq1
     replace hq2 : w2.cell? ⟨bk, off + 2, none⟩ = some (.int .i64 (rd l0 2)) := hq2
     replace hq3 : w2.cell? ⟨bk, off + 3, none⟩ = some (.int .i64 (rd l0 3)) := hq3
     replace hq4 : w2.cell? ⟨bk, off + 4, none⟩ = some (.int .i64 (rd l0 4)) := hq4
     replace hq5 : w2.cell? ⟨bk, off + 5, none⟩ = some (.int .i64 (rd l0 5)) := hq5
     have hat : ∀ W, (Instr.arrayAt 79 (.slice (some ⟨bk, off, none⟩) l0.length c0)).run Tryz.prog W = .ok (.pointer (some ⟨bk, off, none⟩)) W := fun W => run_arrayAt W 79 _ 6 _ _ c0 Tryz.underlying79 hl6
     unfold mM at hS2
     clear hc hr hr' hall s0 hS hb2
     go_wp2_with fail
     have hB0 := hS2.drew
     have hne : g ≠ bk := by have := hS2.gb; omega
     refine start_ (n := 9) (S := fun w' => w'.cell? ⟨bk, off, none⟩ = some (.int .i64 (rd l0 0)) ∧ w'.cell? ⟨bk, off + 1, none⟩ = some (.int .i64 (rd l0 1)) ∧ w'.cell? ⟨bk, off + 2, none⟩ = some (.int .i64 (rd l0 2)) ∧ w'.cell? ⟨bk, off + 3, none⟩ = some (.int .i64 (rd l0 3)) ∧ w'.cell? ⟨bk, off + 4, none⟩ = some (.int .i64 (rd l0 4)) ∧ w'.cell? ⟨bk, off + 5, none⟩ = some (.int .i64 (rd l0 5))) (ds := []) #[F_, F_, F_, F_, F_, F_, F_, F_, F_] (by kernel_rfl) rfl rfl ⟨hq0, hq1, hq2, hq3, hq4, hq5⟩ (fun hHeld => ?_)
     refine pure_ (i := 0) (N := some 29) (v := ?_) (a' := ?_) #[T_, F_, F_, F_, F_, F_, F_, F_, F_] rfl rfl (by kernel_rfl) (fun _ _ _ h => h) (Or.inl ⟨by rfl, ?_⟩) ?_ ?_
     rotate_left
     ·intro w'
      go_simp
      with_reducible rfl
     rotate_left
     ·simp only [Act.put, sA_, sB_, sC_, i64_w, i32_w]
      rfl
     refine pure_ (i := 1) (N := some 30) (v := ?_) (a' := ?_) #[T_, T_, F_, F_, F_, F_, F_, F_, F_] rfl rfl (by kernel_rfl) (fun _ _ _ h => h) (Or.inl ⟨by rfl, ?_⟩) ?_ ?_
     rotate_left
     ·intro w'
      go_simp
      with_reducible rfl
     rotate_left
     ·simp only [Act.put, sA_, sB_, sC_, i64_w, i32_w]
      rfl
     refine pure_ (i := 2) (N := some 31) (v := ?_) (a' := ?_) #[T_, T_, T_, F_, F_, F_, F_, F_, F_] rfl rfl (by kernel_rfl) (fun _ _ _ h => h) (Or.inl ⟨by rfl, ?_⟩) ?_ ?_
     rotate_left
     ·intro w'
      go_simp
      with_reducible rfl
     rotate_left
     ·simp only [Act.put, sA_, sB_, sC_, i64_w, i32_w]
      rfl
     refine pure_ (i := 5) (N := some 34) (v := ?_) (a' := ?_) #[T_, T_, T_, F_, F_, T_, F_, F_, F_] rfl rfl (by kernel_rfl) (fun _ _ _ h => h) (Or.inl ⟨by rfl, ?_⟩) ?_ ?_
     rotate_left
     ·intro w'
      go_simp
      with_reducible rfl
     rotate_left
     ·simp only [Act.put, sA_, sB_, sC_, i64_w, i32_w]
      rfl
     refine pure_ (i := 6) (N := some 35) (v := ?_) (a' := ?_) #[T_, T_, T_, F_, F_, T_, T_, F_, F_] rfl rfl (by kernel_rfl) (fun _ _ _ h => h) (Or.inl ⟨by rfl, ?_⟩) ?_ ?_
     rotate_left
     ·intro w'
      go_simp
      with_reducible rfl
     rotate_left
     ·simp only [Act.put, sA_, sB_, sC_, i64_w, i32_w]
      rfl
     refine one_ (i := 3) (N := some 32) #[T_, T_, T_, T_, F_, T_, T_, F_, F_] rfl rfl (by kernel_rfl) (by decide) (fun K hK => ?_)
     refine value_ (w1 := ?_) (v := ?_) (by rfl) rfl ?_ ?_
     rotate_left 2
     ·go_simp
      constructor
      ·rfl
      ·rfl
     refine hK.out _ _ ⟨hHeld.1, hHeld.2.1, hHeld.2.2.1, hHeld.2.2.2.1, hHeld.2.2.2.2.1, hHeld.2.2.2.2.2⟩ (fun hHeld => ?_)
     clear hK K
     refine norm_ (a' := ?_) ?_ ?_
     rotate_left
     ·show Act.put _ (some 32) _ = _
      simp only [Act.put, sA_, sB_, sC_, i64_w, i32_w]
      rfl
     refine take_ (i := 4) (N := some 33) (v := ?_) (a' := ?_) #[T_, T_, T_, T_, T_, T_, T_, F_, F_] rfl rfl (by kernel_rfl) (fun _ _ _ h => h) (Or.inl ⟨by rfl, ?_⟩) hHeld ?_ ?_
     rotate_left
     ·rintro w' ⟨s0, s1, s2, s3, s4, s5⟩
      go_simp
      with_reducible rfl
     rotate_left
     ·simp only [Act.put, sA_, sB_, sC_, i64_w, i32_w]
      rfl
     refine pure_ (i := 7) (N := some 36) (v := ?_) (a' := ?_) #[T_, T_, T_, T_, T_, T_, T_, T_, F_] rfl rfl (by kernel_rfl) (fun _ _ _ h => h) (Or.inl ⟨by rfl, ?_⟩) ?_ ?_
     rotate_left
     ·intro w'
      go_simp
      with_reducible rfl
     rotate_left
     ·simp only [Act.put, sA_, sB_, sC_, i64_w, i32_w]
      rfl
     refine one_ (i := 8) (N := none) #[T_, T_, T_, T_, T_, T_, T_, T_, T_] rfl rfl (by kernel_rfl) (by decide) (fun K hK => ?_)
     refine skip_ (w1 := ?_) (by rfl) rfl ?_ ?_
     rotate_left
     ·have hu53 := Tryz.underlying79
      have i0 : w2.cell? ⟨g, 0, none⟩ = some (.int .i64 0) := (blk_cell hS2.hg 0).trans rfl
      have i1 : w2.cell? ⟨g, 1, none⟩ = some (.int .i64 0) := (blk_cell hS2.hg 1).trans rfl
      have i2 : w2.cell? ⟨g, 2, none⟩ = some (.int .i64 0) := (blk_cell hS2.hg 2).trans rfl
      have i3 : w2.cell? ⟨g, 3, none⟩ = some (.int .i64 0) := (blk_cell hS2.hg 3).trans rfl
      have i4 : w2.cell? ⟨g, 4, none⟩ = some (.int .i64 0) := (blk_cell hS2.hg 4).trans rfl
      have i5 : w2.cell? ⟨g, 5, none⟩ = some (.int .i64 0) := (blk_cell hS2.hg 5).trans rfl
      have j0 : w2.frozen? ⟨g, 0, none⟩ = false := blk_frozen hS2.hg 0
      have j1 : w2.frozen? ⟨g, 1, none⟩ = false := blk_frozen hS2.hg 1
      have j2 : w2.frozen? ⟨g, 2, none⟩ = false := blk_frozen hS2.hg 2
      have j3 : w2.frozen? ⟨g, 3, none⟩ = false := blk_frozen hS2.hg 3
      have j4 : w2.frozen? ⟨g, 4, none⟩ = false := blk_frozen hS2.hg 4
      have j5 : w2.frozen? ⟨g, 5, none⟩ = false := blk_frozen hS2.hg 5
      go_simp
      rfl
     have hX : St w b g (#[.slice (some ⟨bk, off, none⟩) l0.length c0, .slice A1 l1.length c1, .slice A2 l2.length c2]) (#[.int .i64 (rd l0 0), .int .i64 (rd l0 1), .int .i64 (rd l0 2), .int .i64 (rd l0 3), .int .i64 (rd l0 4), .int .i64 (rd l0 5), .int .i64 0, .int .i64 0, .int .i64 0, .int .i64 0, .int .i64 0, .int .i64 0, .int .i64 0, .int .i64 0, .int .i64 0, .int .i64 0, .int .i64 0, .int .i64 0]) ((((((w2.setCell ⟨g, 0, none⟩ (.int .i64 (rd l0 0))).setCell ⟨g, 1, none⟩ (.int .i64 (rd l0 1))).setCell ⟨g, 2, none⟩ (.int .i64 (rd l0 2))).setCell ⟨g, 3, none⟩ (.int .i64 (rd l0 3))).setCell ⟨g, 4, none⟩ (.int .i64 (rd l0 4))).setCell ⟨g, 5, none⟩ (.int .i64 (rd l0 5))).drew := (St.put6 hS2 0 1 2 3 4 5 (.int .i64 (rd l0 0)) (.int .i64 (rd l0 1)) (.int .i64 (rd l0 2)) (.int .i64 (rd l0 3)) (.int .i64 (rd l0 4)) (.int .i64 (rd l0 5)) (by rfl)).drew
     have X0 : ((((((w2.setCell ⟨g, 0, none⟩ (.int .i64 (rd l0 0))).setCell ⟨g, 1, none⟩ (.int .i64 (rd l0 1))).setCell ⟨g, 2, none⟩ (.int .i64 (rd l0 2))).setCell ⟨g, 3, none⟩ (.int .i64 (rd l0 3))).setCell ⟨g, 4, none⟩ (.int .i64 (rd l0 4))).setCell ⟨g, 5, none⟩ (.int .i64 (rd l0 5))).drew.cell? ⟨bk, off, none⟩ = some (.int .i64 (rd l0 0)) := (cell_drew _ _).trans (far6 w2 (off) hne 0 1 2 3 4 5 (.int .i64 (rd l0 0)) (.int .i64 (rd l0 1)) (.int .i64 (rd l0 2)) (.int .i64 (rd l0 3)) (.int .i64 (rd l0 4)) (.int .i64 (rd l0 5)) hq0)
     have X1 : ((((((w2.setCell ⟨g, 0, none⟩ (.int .i64 (rd l0 0))).setCell ⟨g, 1, none⟩ (.int .i64 (rd l0 1))).setCell ⟨g, 2, none⟩ (.int .i64 (rd l0 2))).setCell ⟨g, 3, none⟩ (.int .i64 (rd l0 3))).setCell ⟨g, 4, none⟩ (.int .i64 (rd l0 4))).setCell ⟨g, 5, none⟩ (.int .i64 (rd l0 5))).drew.cell? ⟨bk, off + 1, none⟩ = some (.int .i64 (rd l0 1)) := (cell_drew _ _).trans (far6 w2 (off + 1) hne 0 1 2 3 4 5 (.int .i64 (rd l0 0)) (.int .i64 (rd l0 1)) (.int .i64 (rd l0 2)) (.int .i64 (rd l0 3)) (.int .i64 (rd l0 4)) (.int .i64 (rd l0 5)) hq1)
     have X2 : ((((((w2.setCell ⟨g, 0, none⟩ (.int .i64 (rd l0 0))).setCell ⟨g, 1, none⟩ (.int .i64 (rd l0 1))).setCell ⟨g, 2, none⟩ (.int .i64 (rd l0 2))).setCell ⟨g, 3, none⟩ (.int .i64 (rd l0 3))).setCell ⟨g, 4, none⟩ (.int .i64 (rd l0 4))).setCell ⟨g, 5, none⟩ (.int .i64 (rd l0 5))).drew.cell? ⟨bk, off + 2, none⟩ = some (.int .i64 (rd l0 2)) := (cell_drew _ _).trans (far6 w2 (off + 2) hne 0 1 2 3 4 5 (.int .i64 (rd l0 0)) (.int .i64 (rd l0 1)) (.int .i64 (rd l0 2)) (.int .i64 (rd l0 3)) (.int .i64 (rd l0 4)) (.int .i64 (rd l0 5)) hq2)
     have X3 : ((((((w2.setCell ⟨g, 0, none⟩ (.int .i64 (rd l0 0))).setCell ⟨g, 1, none⟩ (.int .i64 (rd l0 1))).setCell ⟨g, 2, none⟩ (.int .i64 (rd l0 2))).setCell ⟨g, 3, none⟩ (.int .i64 (rd l0 3))).setCell ⟨g, 4, none⟩ (.int .i64 (rd l0 4))).setCell ⟨g, 5, none⟩ (.int .i64 (rd l0 5))).drew.cell? ⟨bk, off + 3, none⟩ = some (.int .i64 (rd l0 3)) := (cell_drew _ _).trans (far6 w2 (off + 3) hne 0 1 2 3 4 5 (.int .i64 (rd l0 0)) (.int .i64 (rd l0 1)) (.int .i64 (rd l0 2)) (.int .i64 (rd l0 3)) (.int .i64 (rd l0 4)) (.int .i64 (rd l0 5)) hq3)
     have X4 : ((((((w2.setCell ⟨g, 0, none⟩ (.int .i64 (rd l0 0))).setCell ⟨g, 1, none⟩ (.int .i64 (rd l0 1))).setCell ⟨g, 2, none⟩ (.int .i64 (rd l0 2))).setCell ⟨g, 3, none⟩ (.int .i64 (rd l0 3))).setCell ⟨g, 4, none⟩ (.int .i64 (rd l0 4))).setCell ⟨g, 5, none⟩ (.int .i64 (rd l0 5))).drew.cell? ⟨bk, off + 4, none⟩ = some (.int .i64 (rd l0 4)) := (cell_drew _ _).trans (far6 w2 (off + 4) hne 0 1 2 3 4 5 (.int .i64 (rd l0 0)) (.int .i64 (rd l0 1)) (.int .i64 (rd l0 2)) (.int .i64 (rd l0 3)) (.int .i64 (rd l0 4)) (.int .i64 (rd l0 5)) hq4)
     have X5 : ((((((w2.setCell ⟨g, 0, none⟩ (.int .i64 (rd l0 0))).setCell ⟨g, 1, none⟩ (.int .i64 (rd l0 1))).setCell ⟨g, 2, none⟩ (.int .i64 (rd l0 2))).setCell ⟨g, 3, none⟩ (.int .i64 (rd l0 3))).setCell ⟨g, 4, none⟩ (.int .i64 (rd l0 4))).setCell ⟨g, 5, none⟩ (.int .i64 (rd l0 5))).drew.cell? ⟨bk, off + 5, none⟩ = some (.int .i64 (rd l0 5)) := (cell_drew _ _).trans (far6 w2 (off + 5) hne 0 1 2 3 4 5 (.int .i64 (rd l0 0)) (.int .i64 (rd l0 1)) (.int .i64 (rd l0 2)) (.int .i64 (rd l0 3)) (.int .i64 (rd l0 4)) (.int .i64 (rd l0 5)) hq5)
     refine hK.out _ _ ⟨X0, X1, X2, X3, X4, X5⟩ (fun hHeld => ?_)
     clear hK K
     refine done_ (by kernel_rfl) ?_
     clear hHeld X0 X1 X2 X3 X4 X5
     generalize (World.drew _) = w3 at hX ⊢
     go_wp2
     go_roundw
     case rel => exact ⟨1, by omega, by go_num, by intro _; first | assumption | exact o0 (by omega), by omega, by omega, hX⟩
     case measure => simp [intOf]
   ·have e1 : ((l0.length : Int) != 6) = true := by simp; omega
    go_wp2
    refine bodyPost_ret (res41 _ _) rfl ⟨fun h => absurd h (by simp [okM, okL, hl]), fun _ => rfl, hS.bel⟩
  ·have s0 : wr.cell? ⟨b, 1, none⟩ = some (.slice A1 l1.length c1) := (blk_cell hS.hb 1).trans rfl
   have hr := Kd.C_below hr1 hS.bel
   by_cases hl : l1.length = 6
   ·have e1 : ((l1.length : Int) != 6) = false := by simp; omega
    have hl6 : 6 ≤ l1.length := by omega
    have hok : l1.all isN = true → okL l1 = true := fun h => by simp [okL, hl, h]
    have hc := contains_any A1 c1 l1 wr hr
    clear hl
    go_wp2_with fail
    refine hc.mono ?_
    rintro e w2 ⟨rfl, hb2⟩
    have hS2 := hS.below hb2
    have hr' := Kd.C_below hr1 hS2.bel
    cases hall : l1.all isN with
    | false =>
     go_wp2
     refine bodyPost_ret (res41 _ _) rfl ⟨fun h => absurd h (by simp [okM, okL, hall]), fun _ => rfl, hS2.bel⟩
    | true =>
     replace hok := hok hall
     obtain ⟨ad, hA, hq0⟩ := Kd.at_int hr' 0 (by omega) (by omega)
     obtain ⟨adw, hAw, hqw⟩ := Kd.at_int hr1 0 (by omega) (by omega)
     obtain rfl : adw = ad := Option.some.inj (hAw.symm.trans hA)
     clear hAw
     subst hA
     obtain ⟨ad1, hA, hq1⟩ := Kd.at_int hr' 1 (by omega) (by omega)
     obtain rfl := Option.some.inj hA
     obtain ⟨ad2, hA, hq2⟩ := Kd.at_int hr' 2 (by omega) (by omega)
     obtain rfl := Option.some.inj hA
     obtain ⟨ad3, hA, hq3⟩ := Kd.at_int hr' 3 (by omega) (by omega)
     obtain rfl := Option.some.inj hA
     obtain ⟨ad4, hA, hq4⟩ := Kd.at_int hr' 4 (by omega) (by omega)
     obtain rfl := Option.some.inj hA
     obtain ⟨ad5, hA, hq5⟩ := Kd.at_int hr' 5 (by omega) (by omega)
     obtain rfl := Option.some.inj hA
     obtain ⟨bk, off, fz⟩ := adw
     obtain rfl := spot_none hq0
     have hbkw : bk < w.heap.size := World.block_lt_of_cell? _ _ hqw
     clear hqw
     replace hq0 : w2.cell? ⟨bk, off, none⟩ = some (.int .i64 (rd l1 0)) := hq0
     replace hq1 : w2.cell? ⟨bk, off + 1, none⟩ = some (.int .i64 (rd l1 1)) := hq1
     replace hq2 : w2.cell? ⟨bk, off + 2, none⟩ = some (.int .i64 (rd l1 2)) := hq2
     replace hq3 : w2.cell? ⟨bk, off + 3, none⟩ = some (.int .i64 (rd l1 3)) := hq3
     replace hq4 : w2.cell? ⟨bk, off + 4, none⟩ = some (.int .i64 (rd l1 4)) := hq4
     replace hq5 : w2.cell? ⟨bk, off + 5, none⟩ = some (.int .i64 (rd l1 5)) := hq5
     have hat : ∀ W, (Instr.arrayAt 79 (.slice (some ⟨bk, off, none⟩) l1.length c1)).run Tryz.prog W = .ok (.pointer (some ⟨bk, off, none⟩)) W := fun W => run_arrayAt W 79 _ 6 _ _ c1 Tryz.underlying79 hl6
     unfold mM at hS2
     clear hc hr hr' hall s0 hS hb2
     go_wp2_with fail
     have hB0 := hS2.drew
     have hne : g ≠ bk := by have := hS2.gb; omega
     refine start_ (n := 9) (S := fun w' => w'.cell? ⟨bk, off, none⟩ = some (.int .i64 (rd l1 0)) ∧ w'.cell? ⟨bk, off + 1, none⟩ = some (.int .i64 (rd l1 1)) ∧ w'.cell? ⟨bk, off + 2, none⟩ = some (.int .i64 (rd l1 2)) ∧ w'.cell? ⟨bk, off + 3, none⟩ = some (.int .i64 (rd l1 3)) ∧ w'.cell? ⟨bk, off + 4, none⟩ = some (.int .i64 (rd l1 4)) ∧ w'.cell? ⟨bk, off + 5, none⟩ = some (.int .i64 (rd l1 5))) (ds := []) #[F_, F_, F_, F_, F_, F_, F_, F_, F_] (by kernel_rfl) rfl rfl ⟨hq0, hq1, hq2, hq3, hq4, hq5⟩ (fun hHeld => ?_)
     refine pure_ (i := 0) (N := some 29) (v := ?_) (a' := ?_) #[T_, F_, F_, F_, F_, F_, F_, F_, F_] rfl rfl (by kernel_rfl) (fun _ _ _ h => h) (Or.inl ⟨by rfl, ?_⟩) ?_ ?_
     rotate_left
     ·intro w'
      go_simp
      with_reducible rfl
     rotate_left
     ·simp only [Act.put, sA_, sB_, sC_, i64_w, i32_w]
      rfl
     refine pure_ (i := 1) (N := some 30) (v := ?_) (a' := ?_) #[T_, T_, F_, F_, F_, F_, F_, F_, F_] rfl rfl (by kernel_rfl) (fun _ _ _ h => h) (Or.inl ⟨by rfl, ?_⟩) ?_ ?_
     rotate_left
     ·intro w'
      go_simp
      with_reducible rfl
     rotate_left
     ·simp only [Act.put, sA_, sB_, sC_, i64_w, i32_w]
      rfl
     refine pure_ (i := 2) (N := some 31) (v := ?_) (a' := ?_) #[T_, T_, T_, F_, F_, F_, F_, F_, F_] rfl rfl (by kernel_rfl) (fun _ _ _ h => h) (Or.inl ⟨by rfl, ?_⟩) ?_ ?_
     rotate_left
     ·intro w'
      go_simp
      with_reducible rfl
     rotate_left
     ·simp only [Act.put, sA_, sB_, sC_, i64_w, i32_w]
      rfl
     refine pure_ (i := 5) (N := some 34) (v := ?_) (a' := ?_) #[T_, T_, T_, F_, F_, T_, F_, F_, F_] rfl rfl (by kernel_rfl) (fun _ _ _ h => h) (Or.inl ⟨by rfl, ?_⟩) ?_ ?_
     rotate_left
     ·intro w'
      go_simp
      with_reducible rfl
     rotate_left
     ·simp only [Act.put, sA_, sB_, sC_, i64_w, i32_w]
      rfl
     refine pure_ (i := 6) (N := some 35) (v := ?_) (a' := ?_) #[T_, T_, T_, F_, F_, T_, T_, F_, F_] rfl rfl (by kernel_rfl) (fun _ _ _ h => h) (Or.inl ⟨by rfl, ?_⟩) ?_ ?_
     rotate_left
     ·intro w'
      go_simp
      with_reducible rfl
     rotate_left
     ·simp only [Act.put, sA_, sB_, sC_, i64_w, i32_w]
      rfl
     refine one_ (i := 3) (N := some 32) #[T_, T_, T_, T_, F_, T_, T_, F_, F_] rfl rfl (by kernel_rfl) (by decide) (fun K hK => ?_)
     refine value_ (w1 := ?_) (v := ?_) (by rfl) rfl ?_ ?_
     rotate_left 2
     ·go_simp
      constructor
      ·rfl
      ·rfl
     refine hK.out _ _ ⟨hHeld.1, hHeld.2.1, hHeld.2.2.1, hHeld.2.2.2.1, hHeld.2.2.2.2.1, hHeld.2.2.2.2.2⟩ (fun hHeld => ?_)
     clear hK K
     refine norm_ (a' := ?_) ?_ ?_
     rotate_left
     ·show Act.put _ (some 32) _ = _
      simp only [Act.put, sA_, sB_, sC_, i64_w, i32_w]
      rfl
     refine take_ (i := 4) (N := some 33) (v := ?_) (a' := ?_) #[T_, T_, T_, T_, T_, T_, T_, F_, F_] rfl rfl (by kernel_rfl) (fun _ _ _ h => h) (Or.inl ⟨by rfl, ?_⟩) hHeld ?_ ?_
     rotate_left
     ·rintro w' ⟨s0, s1, s2, s3, s4, s5⟩
      go_simp
      with_reducible rfl
     rotate_left
     ·simp only [Act.put, sA_, sB_, sC_, i64_w, i32_w]
      rfl
     refine pure_ (i := 7) (N := some 36) (v := ?_) (a' := ?_) #[T_, T_, T_, T_, T_, T_, T_, T_, F_] rfl rfl (by kernel_rfl) (fun _ _ _ h => h) (Or.inl ⟨by rfl, ?_⟩) ?_ ?_
     rotate_left
     ·intro w'
      go_simp
      with_reducible rfl
     rotate_left
     ·simp only [Act.put, sA_, sB_, sC_, i64_w, i32_w]
      rfl
     refine one_ (i := 8) (N := none) #[T_, T_, T_, T_, T_, T_, T_, T_, T_] rfl rfl (by kernel_rfl) (by decide) (fun K hK => ?_)
     refine skip_ (w1 := ?_) (by rfl) rfl ?_ ?_
     rotate_left
     ·have hu53 := Tryz.underlying79
      have i0 : w2.cell? ⟨g, 6, none⟩ = some (.int .i64 0) := (blk_cell hS2.hg 6).trans rfl
      have i1 : w2.cell? ⟨g, 7, none⟩ = some (.int .i64 0) := (blk_cell hS2.hg 7).trans rfl
      have i2 : w2.cell? ⟨g, 8, none⟩ = some (.int .i64 0) := (blk_cell hS2.hg 8).trans rfl
      have i3 : w2.cell? ⟨g, 9, none⟩ = some (.int .i64 0) := (blk_cell hS2.hg 9).trans rfl
      have i4 : w2.cell? ⟨g, 10, none⟩ = some (.int .i64 0) := (blk_cell hS2.hg 10).trans rfl
      have i5 : w2.cell? ⟨g, 11, none⟩ = some (.int .i64 0) := (blk_cell hS2.hg 11).trans rfl
      have j0 : w2.frozen? ⟨g, 6, none⟩ = false := blk_frozen hS2.hg 6
      have j1 : w2.frozen? ⟨g, 7, none⟩ = false := blk_frozen hS2.hg 7
      have j2 : w2.frozen? ⟨g, 8, none⟩ = false := blk_frozen hS2.hg 8
      have j3 : w2.frozen? ⟨g, 9, none⟩ = false := blk_frozen hS2.hg 9
      have j4 : w2.frozen? ⟨g, 10, none⟩ = false := blk_frozen hS2.hg 10
      have j5 : w2.frozen? ⟨g, 11, none⟩ = false := blk_frozen hS2.hg 11
      go_simp
      rfl
     have hX : St w b g (#[.slice A0 l0.length c0, .slice (some ⟨bk, off, none⟩) l1.length c1, .slice A2 l2.length c2]) (#[.int .i64 (rd l0 0), .int .i64 (rd l0 1), .int .i64 (rd l0 2), .int .i64 (rd l0 3), .int .i64 (rd l0 4), .int .i64 (rd l0 5), .int .i64 (rd l1 0), .int .i64 (rd l1 1), .int .i64 (rd l1 2), .int .i64 (rd l1 3), .int .i64 (rd l1 4), .int .i64 (rd l1 5), .int .i64 0, .int .i64 0, .int .i64 0, .int .i64 0, .int .i64 0, .int .i64 0]) ((((((w2.setCell ⟨g, 6, none⟩ (.int .i64 (rd l1 0))).setCell ⟨g, 7, none⟩ (.int .i64 (rd l1 1))).setCell ⟨g, 8, none⟩ (.int .i64 (rd l1 2))).setCell ⟨g, 9, none⟩ (.int .i64 (rd l1 3))).setCell ⟨g, 10, none⟩ (.int .i64 (rd l1 4))).setCell ⟨g, 11, none⟩ (.int .i64 (rd l1 5))).drew := (St.put6 hS2 6 7 8 9 10 11 (.int .i64 (rd l1 0)) (.int .i64 (rd l1 1)) (.int .i64 (rd l1 2)) (.int .i64 (rd l1 3)) (.int .i64 (rd l1 4)) (.int .i64 (rd l1 5)) (by rfl)).drew
     have X0 : ((((((w2.setCell ⟨g, 6, none⟩ (.int .i64 (rd l1 0))).setCell ⟨g, 7, none⟩ (.int .i64 (rd l1 1))).setCell ⟨g, 8, none⟩ (.int .i64 (rd l1 2))).setCell ⟨g, 9, none⟩ (.int .i64 (rd l1 3))).setCell ⟨g, 10, none⟩ (.int .i64 (rd l1 4))).setCell ⟨g, 11, none⟩ (.int .i64 (rd l1 5))).drew.cell? ⟨bk, off, none⟩ = some (.int .i64 (rd l1 0)) := (cell_drew _ _).trans (far6 w2 (off) hne 6 7 8 9 10 11 (.int .i64 (rd l1 0)) (.int .i64 (rd l1 1)) (.int .i64 (rd l1 2)) (.int .i64 (rd l1 3)) (.int .i64 (rd l1 4)) (.int .i64 (rd l1 5)) hq0)
     have X1 : ((((((w2.setCell ⟨g, 6, none⟩ (.int .i64 (rd l1 0))).setCell ⟨g, 7, none⟩ (.int .i64 (rd l1 1))).setCell ⟨g, 8, none⟩ (.int .i64 (rd l1 2))).setCell ⟨g, 9, none⟩ (.int .i64 (rd l1 3))).setCell ⟨g, 10, none⟩ (.int .i64 (rd l1 4))).setCell ⟨g, 11, none⟩ (.int .i64 (rd l1 5))).drew.cell? ⟨bk, off + 1, none⟩ = some (.int .i64 (rd l1 1)) := (cell_drew _ _).trans (far6 w2 (off + 1) hne 6 7 8 9 10 11 (.int .i64 (rd l1 0)) (.int .i64 (rd l1 1)) (.int .i64 (rd l1 2)) (.int .i64 (rd l1 3)) (.int .i64 (rd l1 4)) (.int .i64 (rd l1 5)) hq1)
     have X2 : ((((((w2.setCell ⟨g, 6, none⟩ (.int .i64 (rd l1 0))).setCell ⟨g, 7, none⟩ (.int .i64 (rd l1 1))).setCell ⟨g, 8, none⟩ (.int .i64 (rd l1 2))).setCell ⟨g, 9, none⟩ (.int .i64 (rd l1 3))).setCell ⟨g, 10, none⟩ (.int .i64 (rd l1 4))).setCell ⟨g, 11, none⟩ (.int .i64 (rd l1 5))).drew.cell? ⟨bk, off + 2, none⟩ = some (.int .i64 (rd l1 2)) := (cell_drew _ _).trans (far6 w2 (off + 2) hne 6 7 8 9 10 11 (.int .i64 (rd l1 0)) (.int .i64 (rd l1 1)) (.int .i64 (rd l1 2)) (.int .i64 (rd l1 3)) (.int .i64 (rd l1 4)) (.int .i64 (rd l1 5)) hq2)
     have X3 : ((((((w2.setCell ⟨g, 6, none⟩ (.int .i64 (rd l1 0))).setCell ⟨g, 7, none⟩ (.int .i64 (rd l1 1))).setCell ⟨g, 8, none⟩ (.int .i64 (rd l1 2))).setCell ⟨g, 9, none⟩ (.int .i64 (rd l1 3))).setCell ⟨g, 10, none⟩ (.int .i64 (rd l1 4))).setCell ⟨g, 11, none⟩ (.int .i64 (rd l1 5))).drew.cell? ⟨bk, off + 3, none⟩ = some (.int .i64 (rd l1 3)) := (cell_drew _ _).trans (far6 w2 (off + 3) hne 6 7 8 9 10 11 (.int .i64 (rd l1 0)) (.int .i64 (rd l1 1)) (.int .i64 (rd l1 2)) (.int .i64 (rd l1 3)) (.int .i64 (rd l1 4)) (.int .i64 (rd l1 5)) hq3)
     have X4 : ((((((w2.setCell ⟨g, 6, none⟩ (.int .i64 (rd l1 0))).setCell ⟨g, 7, none⟩ (.int .i64 (rd l1 1))).setCell ⟨g, 8, none⟩ (.int .i64 (rd l1 2))).setCell ⟨g, 9, none⟩ (.int .i64 (rd l1 3))).setCell ⟨g, 10, none⟩ (.int .i64 (rd l1 4))).setCell ⟨g, 11, none⟩ (.int .i64 (rd l1 5))).drew.cell? ⟨bk, off + 4, none⟩ = some (.int .i64 (rd l1 4)) := (cell_drew _ _).trans (far6 w2 (off + 4) hne 6 7 8 9 10 11 (.int .i64 (rd l1 0)) (.int .i64 (rd l1 1)) (.int .i64 (rd l1 2)) (.int .i64 (rd l1 3)) (.int .i64 (rd l1 4)) (.int .i64 (rd l1 5)) hq4)
     have X5 : ((((((w2.setCell ⟨g, 6, none⟩ (.int .i64 (rd l1 0))).setCell ⟨g, 7, none⟩ (.int .i64 (rd l1 1))).setCell ⟨g, 8, none⟩ (.int .i64 (rd l1 2))).setCell ⟨g, 9, none⟩ (.int .i64 (rd l1 3))).setCell ⟨g, 10, none⟩ (.int .i64 (rd l1 4))).setCell ⟨g, 11, none⟩ (.int .i64 (rd l1 5))).drew.cell? ⟨bk, off + 5, none⟩ = some (.int .i64 (rd l1 5)) := (cell_drew _ _).trans (far6 w2 (off + 5) hne 6 7 8 9 10 11 (.int .i64 (rd l1 0)) (.int .i64 (rd l1 1)) (.int .i64 (rd l1 2)) (.int .i64 (rd l1 3)) (.int .i64 (rd l1 4)) (.int .i64 (rd l1 5)) hq5)
     refine hK.out _ _ ⟨X0, X1, X2, X3, X4, X5⟩ (fun hHeld => ?_)
     clear hK K
     refine done_ (by kernel_rfl) ?_
     clear hHeld X0 X1 X2 X3 X4 X5
     generalize (World.drew _) = w3 at hX ⊢
     go_wp2
     go_roundw
     case rel => exact ⟨2, by omega, by go_num, by intro _; first | assumption | exact o0 (by omega), by intro _; first | assumption | exact o1 (by omega), by omega, hX⟩
     case measure => simp [intOf]
   ·have e1 : ((l1.length : Int) != 6) = true := by simp; omega
    go_wp2
    refine bodyPost_ret (res41 _ _) rfl ⟨fun h => absurd h (by simp [okM, okL, hl]), fun _ => rfl, hS.bel⟩
  ·have s0 : wr.cell? ⟨b, 2, none⟩ = some (.slice A2 l2.length c2) := (blk_cell hS.hb 2).trans rfl
   have hr := Kd.C_below hr2 hS.bel
   by_cases hl : l2.length = 6
   ·have e1 : ((l2.length : Int) != 6) = false := by simp; omega
    have hl6 : 6 ≤ l2.length := by omega
    have hok : l2.all isN = true → okL l2 = true := fun h => by simp [okL, hl, h]
    have hc := contains_any A2 c2 l2 wr hr
    clear hl
    go_wp2_with fail
    refine hc.mono ?_
    rintro e w2 ⟨rfl, hb2⟩
    have hS2 := hS.below hb2
    have hr' := Kd.C_below hr2 hS2.bel
    cases hall : l2.all isN with
    | false =>
     go_wp2
     refine bodyPost_ret (res41 _ _) rfl ⟨fun h => absurd h (by simp [okM, okL, hall]), fun _ => rfl, hS2.bel⟩
    | true =>
     replace hok := hok hall
     obtain ⟨ad, hA, hq0⟩ := Kd.at_int hr' 0 (by omega) (by omega)
     obtain ⟨adw, hAw, hqw⟩ := Kd.at_int hr2 0 (by omega) (by omega)
     obtain rfl : adw = ad := Option.some.inj (hAw.symm.trans hA)
     clear hAw
     subst hA
     obtain ⟨ad1, hA, hq1⟩ := Kd.at_int hr' 1 (by omega) (by omega)
     obtain rfl := Option.some.inj hA
     obtain ⟨ad2, hA, hq2⟩ := Kd.at_int hr' 2 (by omega) (by omega)
     obtain rfl := Option.some.inj hA
     obtain ⟨ad3, hA, hq3⟩ := Kd.at_int hr' 3 (by omega) (by omega)
     obtain rfl := Option.some.inj hA
     obtain ⟨ad4, hA, hq4⟩ := Kd.at_int hr' 4 (by omega) (by omega)
     obtain rfl := Option.some.inj hA
     obtain ⟨ad5, hA, hq5⟩ := Kd.at_int hr' 5 (by omega) (by omega)
     obtain rfl := Option.some.inj hA
     obtain ⟨bk, off, fz⟩ := adw
     obtain rfl := spot_none hq0
     have hbkw : bk < w.heap.size := World.block_lt_of_cell? _ _ hqw
     clear hqw
     replace hq0 : w2.cell? ⟨bk, off, none⟩ = some (.int .i64 (rd l2 0)) := hq0
     replace hq1 : w2.cell? ⟨bk, off + 1, none⟩ = some (.int .i64 (rd l2 1)) := hq1
     replace hq2 : w2.cell? ⟨bk, off + 2, none⟩ = some (.int .i64 (rd l2 2)) := hq2
     replace hq3 : w2.cell? ⟨bk, off + 3, none⟩ = some (.int .i64 (rd l2 3)) := hq3
     replace hq4 : w2.cell? ⟨bk, off + 4, none⟩ = some (.int .i64 (rd l2 4)) := hq4
     replace hq5 : w2.cell? ⟨bk, off + 5, none⟩ = some (.int .i64 (rd l2 5)) := hq5
     have hat : ∀ W, (Instr.arrayAt 79 (.slice (some ⟨bk, off, none⟩) l2.length c2)).run Tryz.prog W = .ok (.pointer (some ⟨bk, off, none⟩)) W := fun W => run_arrayAt W 79 _ 6 _ _ c2 Tryz.underlying79 hl6
     unfold mM at hS2
     clear hc hr hr' hall s0 hS hb2
     go_wp2_with fail
     have hB0 := hS2.drew
     have hne : g ≠ bk := by have := hS2.gb; omega
     refine start_ (n := 9) (S := fun w' => w'.cell? ⟨bk, off, none⟩ = some (.int .i64 (rd l2 0)) ∧ w'.cell? ⟨bk, off + 1, none⟩ = some (.int .i64 (rd l2 1)) ∧ w'.cell? ⟨bk, off + 2, none⟩ = some (.int .i64 (rd l2 2)) ∧ w'.cell? ⟨bk, off + 3, none⟩ = some (.int .i64 (rd l2 3)) ∧ w'.cell? ⟨bk, off + 4, none⟩ = some (.int .i64 (rd l2 4)) ∧ w'.cell? ⟨bk, off + 5, none⟩ = some (.int .i64 (rd l2 5))) (ds := []) #[F_, F_, F_, F_, F_, F_, F_, F_, F_] (by kernel_rfl) rfl rfl ⟨hq0, hq1, hq2, hq3, hq4, hq5⟩ (fun hHeld => ?_)
     refine pure_ (i := 0) (N := some 29) (v := ?_) (a' := ?_) #[T_, F_, F_, F_, F_, F_, F_, F_, F_] rfl rfl (by kernel_rfl) (fun _ _ _ h => h) (Or.inl ⟨by rfl, ?_⟩) ?_ ?_
     rotate_left
     ·intro w'
      go_simp
      with_reducible rfl
     rotate_left
     ·simp only [Act.put, sA_, sB_, sC_, i64_w, i32_w]
      rfl
     refine pure_ (i := 1) (N := some 30) (v := ?_) (a' := ?_) #[T_, T_, F_, F_, F_, F_, F_, F_, F_] rfl rfl (by kernel_rfl) (fun _ _ _ h => h) (Or.inl ⟨by rfl, ?_⟩) ?_ ?_
     rotate_left
     ·intro w'
      go_simp
      with_reducible rfl
     rotate_left
     ·simp only [Act.put, sA_, sB_, sC_, i64_w, i32_w]
      rfl
     refine pure_ (i := 2) (N := some 31) (v := ?_) (a' := ?_) #[T_, T_, T_, F_, F_, F_, F_, F_, F_] rfl rfl (by kernel_rfl) (fun _ _ _ h => h) (Or.inl ⟨by rfl, ?_⟩) ?_ ?_
     rotate_left
     ·intro w'
      go_simp
      with_reducible rfl
     rotate_left
     ·simp only [Act.put, sA_, sB_, sC_, i64_w, i32_w]
      rfl
     refine pure_ (i := 5) (N := some 34) (v := ?_) (a' := ?_) #[T_, T_, T_, F_, F_, T_, F_, F_, F_] rfl rfl (by kernel_rfl) (fun _ _ _ h => h) (Or.inl ⟨by rfl, ?_⟩) ?_ ?_
     rotate_left
     ·intro w'
      go_simp
      with_reducible rfl
     rotate_left
     ·simp only [Act.put, sA_, sB_, sC_, i64_w, i32_w]
      rfl
     refine pure_ (i := 6) (N := some 35) (v := ?_) (a' := ?_) #[T_, T_, T_, F_, F_, T_, T_, F_, F_] rfl rfl (by kernel_rfl) (fun _ _ _ h => h) (Or.inl ⟨by rfl, ?_⟩) ?_ ?_
     rotate_left
     ·intro w'
      go_simp
      with_reducible rfl
     rotate_left
     ·simp only [Act.put, sA_, sB_, sC_, i64_w, i32_w]
      rfl
     refine one_ (i := 3) (N := some 32) #[T_, T_, T_, T_, F_, T_, T_, F_, F_] rfl rfl (by kernel_rfl) (by decide) (fun K hK => ?_)
     refine value_ (w1 := ?_) (v := ?_) (by rfl) rfl ?_ ?_
     rotate_left 2
     ·go_simp
      constructor
      ·rfl
      ·rfl
     refine hK.out _ _ ⟨hHeld.1, hHeld.2.1, hHeld.2.2.1, hHeld.2.2.2.1, hHeld.2.2.2.2.1, hHeld.2.2.2.2.2⟩ (fun hHeld => ?_)
     clear hK K
     refine norm_ (a' := ?_) ?_ ?_
     rotate_left
     ·show Act.put _ (some 32) _ = _
      simp only [Act.put, sA_, sB_, sC_, i64_w, i32_w]
      rfl
     refine take_ (i := 4) (N := some 33) (v := ?_) (a' := ?_) #[T_, T_, T_, T_, T_, T_, T_, F_, F_] rfl rfl (by kernel_rfl) (fun _ _ _ h => h) (Or.inl ⟨by rfl, ?_⟩) hHeld ?_ ?_
     rotate_left
     ·rintro w' ⟨s0, s1, s2, s3, s4, s5⟩
      go_simp
      with_reducible rfl
     rotate_left
     ·simp only [Act.put, sA_, sB_, sC_, i64_w, i32_w]
      rfl
     refine pure_ (i := 7) (N := some 36) (v := ?_) (a' := ?_) #[T_, T_, T_, T_, T_, T_, T_, T_, F_] rfl rfl (by kernel_rfl) (fun _ _ _ h => h) (Or.inl ⟨by rfl, ?_⟩) ?_ ?_
     rotate_left
     ·intro w'
      go_simp
      with_reducible rfl
     rotate_left
     ·simp only [Act.put, sA_, sB_, sC_, i64_w, i32_w]
      rfl
     refine one_ (i := 8) (N := none) #[T_, T_, T_, T_, T_, T_, T_, T_, T_] rfl rfl (by kernel_rfl) (by decide) (fun K hK => ?_)
     refine skip_ (w1 := ?_) (by rfl) rfl ?_ ?_
     rotate_left
     ·have hu53 := Tryz.underlying79
      have i0 : w2.cell? ⟨g, 12, none⟩ = some (.int .i64 0) := (blk_cell hS2.hg 12).trans rfl
      have i1 : w2.cell? ⟨g, 13, none⟩ = some (.int .i64 0) := (blk_cell hS2.hg 13).trans rfl
      have i2 : w2.cell? ⟨g, 14, none⟩ = some (.int .i64 0) := (blk_cell hS2.hg 14).trans rfl
      have i3 : w2.cell? ⟨g, 15, none⟩ = some (.int .i64 0) := (blk_cell hS2.hg 15).trans rfl
      have i4 : w2.cell? ⟨g, 16, none⟩ = some (.int .i64 0) := (blk_cell hS2.hg 16).trans rfl
      have i5 : w2.cell? ⟨g, 17, none⟩ = some (.int .i64 0) := (blk_cell hS2.hg 17).trans rfl
      have j0 : w2.frozen? ⟨g, 12, none⟩ = false := blk_frozen hS2.hg 12
      have j1 : w2.frozen? ⟨g, 13, none⟩ = false := blk_frozen hS2.hg 13
      have j2 : w2.frozen? ⟨g, 14, none⟩ = false := blk_frozen hS2.hg 14
      have j3 : w2.frozen? ⟨g, 15, none⟩ = false := blk_frozen hS2.hg 15
      have j4 : w2.frozen? ⟨g, 16, none⟩ = false := blk_frozen hS2.hg 16
      have j5 : w2.frozen? ⟨g, 17, none⟩ = false := blk_frozen hS2.hg 17
      go_simp
      rfl
     have hX : St w b g (#[.slice A0 l0.length c0, .slice A1 l1.length c1, .slice (some ⟨bk, off, none⟩) l2.length c2]) (#[.int .i64 (rd l0 0), .int .i64 (rd l0 1), .int .i64 (rd l0 2), .int .i64 (rd l0 3), .int .i64 (rd l0 4), .int .i64 (rd l0 5), .int .i64 (rd l1 0), .int .i64 (rd l1 1), .int .i64 (rd l1 2), .int .i64 (rd l1 3), .int .i64 (rd l1 4), .int .i64 (rd l1 5), .int .i64 (rd l2 0), .int .i64 (rd l2 1), .int .i64 (rd l2 2), .int .i64 (rd l2 3), .int .i64 (rd l2 4), .int .i64 (rd l2 5)]) ((((((w2.setCell ⟨g, 12, none⟩ (.int .i64 (rd l2 0))).setCell ⟨g, 13, none⟩ (.int .i64 (rd l2 1))).setCell ⟨g, 14, none⟩ (.int .i64 (rd l2 2))).setCell ⟨g, 15, none⟩ (.int .i64 (rd l2 3))).setCell ⟨g, 16, none⟩ (.int .i64 (rd l2 4))).setCell ⟨g, 17, none⟩ (.int .i64 (rd l2 5))).drew := (St.put6 hS2 12 13 14 15 16 17 (.int .i64 (rd l2 0)) (.int .i64 (rd l2 1)) (.int .i64 (rd l2 2)) (.int .i64 (rd l2 3)) (.int .i64 (rd l2 4)) (.int .i64 (rd l2 5)) (by rfl)).drew
     have X0 : ((((((w2.setCell ⟨g, 12, none⟩ (.int .i64 (rd l2 0))).setCell ⟨g, 13, none⟩ (.int .i64 (rd l2 1))).setCell ⟨g, 14, none⟩ (.int .i64 (rd l2 2))).setCell ⟨g, 15, none⟩ (.int .i64 (rd l2 3))).setCell ⟨g, 16, none⟩ (.int .i64 (rd l2 4))).setCell ⟨g, 17, none⟩ (.int .i64 (rd l2 5))).drew.cell? ⟨bk, off, none⟩ = some (.int .i64 (rd l2 0)) := (cell_drew _ _).trans (far6 w2 (off) hne 12 13 14 15 16 17 (.int .i64 (rd l2 0)) (.int .i64 (rd l2 1)) (.int .i64 (rd l2 2)) (.int .i64 (rd l2 3)) (.int .i64 (rd l2 4)) (.int .i64 (rd l2 5)) hq0)
     have X1 : ((((((w2.setCell ⟨g, 12, none⟩ (.int .i64 (rd l2 0))).setCell ⟨g, 13, none⟩ (.int .i64 (rd l2 1))).setCell ⟨g, 14, none⟩ (.int .i64 (rd l2 2))).setCell ⟨g, 15, none⟩ (.int .i64 (rd l2 3))).setCell ⟨g, 16, none⟩ (.int .i64 (rd l2 4))).setCell ⟨g, 17, none⟩ (.int .i64 (rd l2 5))).drew.cell? ⟨bk, off + 1, none⟩ = some (.int .i64 (rd l2 1)) := (cell_drew _ _).trans (far6 w2 (off + 1) hne 12 13 14 15 16 17 (.int .i64 (rd l2 0)) (.int .i64 (rd l2 1)) (.int .i64 (rd l2 2)) (.int .i64 (rd l2 3)) (.int .i64 (rd l2 4)) (.int .i64 (rd l2 5)) hq1)
     have X2 : ((((((w2.setCell ⟨g, 12, none⟩ (.int .i64 (rd l2 0))).setCell ⟨g, 13, none⟩ (.int .i64 (rd l2 1))).setCell ⟨g, 14, none⟩ (.int .i64 (rd l2 2))).setCell ⟨g, 15, none⟩ (.int .i64 (rd l2 3))).setCell ⟨g, 16, none⟩ (.int .i64 (rd l2 4))).setCell ⟨g, 17, none⟩ (.int .i64 (rd l2 5))).drew.cell? ⟨bk, off + 2, none⟩ = some (.int .i64 (rd l2 2)) := (cell_drew _ _).trans (far6 w2 (off + 2) hne 12 13 14 15 16 17 (.int .i64 (rd l2 0)) (.int .i64 (rd l2 1)) (.int .i64 (rd l2 2)) (.int .i64 (rd l2 3)) (.int .i64 (rd l2 4)) (.int .i64 (rd l2 5)) hq2)
     have X3 : ((((((w2.setCell ⟨g, 12, none⟩ (.int .i64 (rd l2 0))).setCell ⟨g, 13, none⟩ (.int .i64 (rd l2 1))).setCell ⟨g, 14, none⟩ (.int .i64 (rd l2 2))).setCell ⟨g, 15, none⟩ (.int .i64 (rd l2 3))).setCell ⟨g, 16, none⟩ (.int .i64 (rd l2 4))).setCell ⟨g, 17, none⟩ (.int .i64 (rd l2 5))).drew.cell? ⟨bk, off + 3, none⟩ = some (.int .i64 (rd l2 3)) := (cell_drew _ _).trans (far6 w2 (off + 3) hne 12 13 14 15 16 17 (.int .i64 (rd l2 0)) (.int .i64 (rd l2 1)) (.int .i64 (rd l2 2)) (.int .i64 (rd l2 3)) (.int .i64 (rd l2 4)) (.int .i64 (rd l2 5)) hq3)
     have X4 : ((((((w2.setCell ⟨g, 12, none⟩ (.int .i64 (rd l2 0))).setCell ⟨g, 13, none⟩ (.int .i64 (rd l2 1))).setCell ⟨g, 14, none⟩ (.int .i64 (rd l2 2))).setCell ⟨g, 15, none⟩ (.int .i64 (rd l2 3))).setCell ⟨g, 16, none⟩ (.int .i64 (rd l2 4))).setCell ⟨g, 17, none⟩ (.int .i64 (rd l2 5))).drew.cell? ⟨bk, off + 4, none⟩ = some (.int .i64 (rd l2 4)) := (cell_drew _ _).trans (far6 w2 (off + 4) hne 12 13 14 15 16 17 (.int .i64 (rd l2 0)) (.int .i64 (rd l2 1)) (.int .i64 (rd l2 2)) (.int .i64 (rd l2 3)) (.int .i64 (rd l2 4)) (.int .i64 (rd l2 5)) hq4)
     have X5 : ((((((w2.setCell ⟨g, 12, none⟩ (.int .i64 (rd l2 0))).setCell ⟨g, 13, none⟩ (.int .i64 (rd l2 1))).setCell ⟨g, 14, none⟩ (.int .i64 (rd l2 2))).setCell ⟨g, 15, none⟩ (.int .i64 (rd l2 3))).setCell ⟨g, 16, none⟩ (.int .i64 (rd l2 4))).setCell ⟨g, 17, none⟩ (.int .i64 (rd l2 5))).drew.cell? ⟨bk, off + 5, none⟩ = some (.int .i64 (rd l2 5)) := (cell_drew _ _).trans (far6 w2 (off + 5) hne 12 13 14 15 16 17 (.int .i64 (rd l2 0)) (.int .i64 (rd l2 1)) (.int .i64 (rd l2 2)) (.int .i64 (rd l2 3)) (.int .i64 (rd l2 4)) (.int .i64 (rd l2 5)) hq5)
     refine hK.out _ _ ⟨X0, X1, X2, X3, X4, X5⟩ (fun hHeld => ?_)
     clear hK K
     refine done_ (by kernel_rfl) ?_
     clear hHeld X0 X1 X2 X3 X4 X5
     generalize (World.drew _) = w3 at hX ⊢
     go_wp2
     go_roundw
     case rel => exact ⟨3, by omega, by go_num, by intro _; first | assumption | exact o0 (by omega), by intro _; first | assumption | exact o1 (by omega), by intro _; first | assumption | exact o2 (by omega), hX⟩
     case measure => simp [intOf]
   ·have e1 : ((l2.length : Int) != 6) = true := by simp; omega
    go_wp2
    refine bodyPost_ret (res41 _ _) rfl ⟨fun h => absurd h (by simp [okM, okL, hl]), fun _ => rfl, hS.bel⟩
  ·go_wp2
   refine bodyPost_ret (res41 _ _) rfl ⟨fun _ => ⟨g, rfl, hS.hg, hS.gb⟩, fun h => absurd h (by simp [okM, o0 (by omega), o1 (by omega), o2 (by omega)]), hS.bel⟩
end Go.Proofs.YtjamfddhcigchaaGreatDoor.Gm
