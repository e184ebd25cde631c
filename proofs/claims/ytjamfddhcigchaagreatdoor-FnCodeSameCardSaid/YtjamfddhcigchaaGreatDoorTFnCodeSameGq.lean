import Derived.Test.YtjamfddhcigchaaGreatDoorTFnCodeSameGz
namespace Go.Proofs.YtjamfddhcigchaaGreatDoor.Gq
open Go.RowKit Go.Proofs.YtjamfddhcigchaaGreatDoorW.PrintWords Go.Proofs.YtjamfddhcigchaaGreatDoorW.PrintLast Go.Proofs.YtjamfddhcigchaaGreatDoorW.PrintMore Gm Gn Gz
attribute [local go_sem] max2_int min2_int max_two min_two
set_option linter.unusedVariables false
set_option linter.unusedSimpArgs false
theorem R_len {e base n : Nat} {w : World} {ok : Nat → Prop} {v : Value} {l : List Int} (h : Kd.R (Kd.int .i64) e w base ok v l) (hl : l.length = n) : ∃ A c, v = .slice A n c := by
 obtain ⟨A, c, rfl, _⟩ := Kd.R_reads h
 exact ⟨A, c, by rw [hl]⟩
theorem mem3_store {w W Wd : World} {z : Nat} {v0 v1 v2 : Value} {a b c : List Int} (hsz : w.heap.size ≤ W.heap.size) (hM : Mem3 W Wd v0 v1 v2 a b c) (hz : Wd.heap[z]? = some (.cells Z3 33 (0, 0))) : Mem3 w (((Wd.setCell ⟨z, 0, none⟩ v0).setCell ⟨z, 1, none⟩ v1).setCell ⟨z, 2, none⟩ v2) v0 v1 v2 a b c :=
 ⟨Kd.R_lower (R_store hM.1 hz _ _ _) hsz, Kd.R_lower (R_store hM.2.1 hz _ _ _) hsz, Kd.R_lower (R_store hM.2.2 hz _ _ _) hsz⟩
def pOk (k i : Int) : Bool := aOk k i && (k != 1)
set_option maxRecDepth 100000 in
theorem puts_any (k i : Int) (w : World) : Calls Tryz.prog 111 #[.agg #[.int .i64 k, .int .i64 i]] w fun e w' => e = .returned (.bool (pOk k i)) ∧ Below w.heap.size w w' := by
 have hu := Tryz.underlying28
 have al : ∀ o : Obj, Below w.heap.size w (w.alloc o) := fun o => (Below.refl _ _).alloc (Nat.le_refl _) _
 have hc := fun W => addrOk_any k i W
 obtain ⟨q, hq⟩ : ∃ q, aOk k i = q := ⟨_, rfl⟩
 obtain ⟨t, ht⟩ : ∃ t, (k != 1) = t := ⟨_, rfl⟩
 rw [hq] at hc
 have e : pOk k i = (q && t) := by unfold pOk; rw [hq, ht]
 rw [e]; clear e hq
 go_enter Tryz.func111, Tryz.ntmps111
 go_wp2_with fail
 refine (hc _).mono ?_
 rintro e w2 ⟨rfl, hb⟩
 have z1 : w2.cell? ⟨w.heap.size, 0, none⟩ = some (.int .i64 k) := (blk_cell (blk_below (heap_alloc_new w _) hb) 0).trans rfl
 have z2 : w2.cell? ⟨w.heap.size, 1, none⟩ = some (.int .i64 i) := (blk_cell (blk_below (heap_alloc_new w _) hb) 1).trans rfl
 have hb2 := (al (.cells #[Value.int IntKind.i64 k, Value.int IntKind.i64 i] 28)).trans (hb.mono (al (.cells #[Value.int IntKind.i64 k, Value.int IntKind.i64 i] 28)).size)
 cases q with
 | true =>
  go_wp2
  go_ret
  exact ⟨rfl, hb2⟩
 | false =>
  go_wp2
  go_ret
  exact ⟨rfl, hb2⟩
def cut (n : Int) : Int := mn (mx n (-1000000)) 1000000
set_option maxRecDepth 100000 in
theorem cut_any (n : Int) (w : World) : Calls Tryz.prog 124 #[.int .i64 n] w fun e w' => e = .returned (.int .i64 (cut n)) ∧ Below w.heap.size w w' := by
 obtain ⟨ji2, hji2⟩ : ∃ j_ : Int, (mx n (-1000000)) = j_ := ⟨_, rfl⟩
 have hji2_ : (if n < (-1000000) then (-1000000) else n) = ji2 := hji2
 obtain ⟨ji3, hji3⟩ : ∃ j_ : Int, (mn (ji2) 1000000) = j_ := ⟨_, rfl⟩
 have hji3_ : (if 1000000 < (ji2) then 1000000 else (ji2)) = ji3 := hji3
 have e : cut n = ji3 := by unfold cut; rw [hji2, hji3]
 rw [e]
 go_enter Tryz.func124, Tryz.ntmps124
 go_wp2
 go_ret
 exact ⟨rfl, Below.refl _ _⟩
theorem six {l : List Int} (h : l.length = 6) : ∃ a b c d e f, l = [a, b, c, d, e, f] := by
 match l, h with
 | [a, b, c, d, e, f], _ => exact ⟨a, b, c, d, e, f, rfl⟩
theorem okM_len {l0 l1 l2 : List Int} (h : okM l0 l1 l2 = true) : l0.length = 6 ∧ l1.length = 6 ∧ l2.length = 6 := by
 simp only [okM, okL, Bool.and_eq_true, decide_eq_true_eq] at h
 exact ⟨h.1.1.1, h.1.2.1, h.2.1⟩
theorem mM_eq {l0 l1 l2 : List Int} (h0 : l0.length = 6) (h1 : l1.length = 6) (h2 : l2.length = 6) : mM 3 l0 l1 l2 = mA l0 l1 l2 := by
 obtain ⟨a, b, c, d, e, f, rfl⟩ := six h0
 obtain ⟨a, b, c, d, e, f, rfl⟩ := six h1
 obtain ⟨a, b, c, d, e, f, rfl⟩ := six h2
 rfl
def pT (j : Int) (l : List Int) (k i n : Int) : List Int := if (pOk k i && (k == j)) = true then l.set i.toNat (cut n) else l
theorem pT_len {j : Int} {l : List Int} {k i n : Int} : (pT j l k i n).length = l.length := by unfold pT; split <;> simp
theorem pT_set {l0 l1 l2 : List Int} {k i n : Int} (h0 : l0.length = 6) (h1 : l1.length = 6) (h2 : l2.length = 6) (h : pOk k i = true) : (mA l0 l1 l2).setIfInBounds (6 * (k - 1).toNat + i.toNat) (.int .i64 (cut n)) = mA (pT 1 l0 k i n) (pT 2 l1 k i n) (pT 3 l2 k i n) := by
 have e1 : pT 1 l0 k i n = if k = 1 then l0.set i.toNat (cut n) else l0 := by simp [pT, h]
 have e2 : pT 2 l1 k i n = if k = 2 then l1.set i.toNat (cut n) else l1 := by simp [pT, h]
 have e3 : pT 3 l2 k i n = if k = 3 then l2.set i.toNat (cut n) else l2 := by simp [pT, h]
 rw [e1, e2, e3]
 obtain ⟨a, b, c, d, e, f, rfl⟩ := six h0
 obtain ⟨a', b', c', d', e', f', rfl⟩ := six h1
 obtain ⟨a'', b'', c'', d'', e'', f'', rfl⟩ := six h2
 simp only [pOk, aOk, Bool.and_eq_true, decide_eq_true_eq, bne_iff_ne, ne_eq] at h
 obtain ⟨⟨h1, h2, h3, h4⟩, h5⟩ := h
 rcases (by omega : k = 2 ∨ k = 3) with rfl | rfl <;> rcases (by omega : i = 0 ∨ i = 1 ∨ i = 2 ∨ i = 3 ∨ i = 4 ∨ i = 5) with rfl | rfl | rfl | rfl | rfl | rfl <;> rfl
theorem mem3_nil (w W : World) : Mem3 w W (.slice none 0 0) (.slice none 0 0) (.slice none 0 0) [] [] [] := ⟨Kd.R_nil _ _ _ _ _, Kd.R_nil _ _ _ _ _, Kd.R_nil _ _ _ _ _⟩
end Go.Proofs.YtjamfddhcigchaaGreatDoor.Gq
