import Derived.Test.YtlgogdpnakbhiaaHo
namespace Go.Proofs.Ytlgogdpnakbhiaa.Hq
open Go.RowKit Go.Proofs.YtlgogdpnakbhiaaW.PrintWords Go.Proofs.YtlgogdpnakbhiaaW.PrintLast Go.Proofs.YtlgogdpnakbhiaaW.PrintMore Hm Hn Ho
attribute [local go_sem] max2_int min2_int max_two min_two
set_option linter.unusedVariables false
set_option linter.unusedSimpArgs false
theorem R_len {e base n : Nat} {w : World} {ok : Nat → Prop} {v : Value} {l : List Int} (h : Kd.R (Kd.int .i64) e w base ok v l) (hl : l.length = n) : ∃ A c, v = .slice A n c := by
  obtain ⟨A, c, rfl, _⟩ := Kd.R_reads h
  exact ⟨A, c, by rw [hl]⟩
theorem mem3_store {w W Wd : World} {z : Nat} {v0 v1 v2 : Value} {a b c : List Int} (hsz : w.heap.size ≤ W.heap.size) (hM : Mem3 W Wd v0 v1 v2 a b c) (hz : Wd.heap[z]? = some (.cells Z3 24 (0, 0))) : Mem3 w (((Wd.setCell ⟨z, 0, none⟩ v0).setCell ⟨z, 1, none⟩ v1).setCell ⟨z, 2, none⟩ v2) v0 v1 v2 a b c :=
  ⟨Kd.R_lower (R_store hM.1 hz _ _ _) hsz, Kd.R_lower (R_store hM.2.1 hz _ _ _) hsz, Kd.R_lower (R_store hM.2.2 hz _ _ _) hsz⟩
set_option maxRecDepth 100000 in
theorem memOpen_any (w : World) : Calls Try.prog 12 #[] w fun e w' => ∃ v0 v1 v2, e = .returned (.agg #[v0, v1, v2]) ∧ Mem3 w w' v0 v1 v2 (List.replicate 6 0) (List.replicate 6 0) (List.replicate 6 0) ∧ Below w.heap.size w w' := by
  have hu24 := Try.underlying24
  have hu56 := Try.underlying56
  go_enter Try.func12, Try.ntmps12
  go_wp2_with fail
  have n0 : ((w.alloc (Obj.cells #[.slice none 0 0, .slice none 0 0, .slice none 0 0] 24)).alloc (Obj.cells (mA (List.replicate 6 0) (List.replicate 6 0) (List.replicate 6 0)) 56)).heap[w.heap.size]? = some (.cells Z3 24 (0, 0)) := blk_alloc (heap_alloc_new _ _) _
  have n1 : ((w.alloc (Obj.cells #[.slice none 0 0, .slice none 0 0, .slice none 0 0] 24)).alloc (Obj.cells (mA (List.replicate 6 0) (List.replicate 6 0) (List.replicate 6 0)) 56)).heap[w.heap.size + 1]? = some (.cells (mA (List.replicate 6 0) (List.replicate 6 0) (List.replicate 6 0)) 56 (0, 0)) := by
    rw [← alloc_size w (Obj.cells #[.slice none 0 0, .slice none 0 0, .slice none 0 0] 24)]; exact heap_alloc_new _ _
  have n2 : Below w.heap.size w ((w.alloc (Obj.cells #[.slice none 0 0, .slice none 0 0, .slice none 0 0] 24)).alloc (Obj.cells (mA (List.replicate 6 0) (List.replicate 6 0) (List.replicate 6 0)) 56)) := ((Below.refl _ _).alloc (Nat.le_refl _) _).alloc (by rw [alloc_size]; exact Nat.le_succ _) _
  have em : mA (List.replicate 6 0) (List.replicate 6 0) (List.replicate 6 0) = #[.int .i64 0, .int .i64 0, .int .i64 0, .int .i64 0, .int .i64 0, .int .i64 0, .int .i64 0, .int .i64 0, .int .i64 0, .int .i64 0, .int .i64 0, .int .i64 0, .int .i64 0, .int .i64 0, .int .i64 0, .int .i64 0, .int .i64 0, .int .i64 0] := rfl
  rw [← em]
  clear em
  generalize (w.alloc (Obj.cells _ 24)).alloc (Obj.cells _ 56) = w1 at n0 n1 n2 ⊢
  have hc := fun W hW => mem_any (w.heap.size + 1) (List.replicate 6 0) (List.replicate 6 0) (List.replicate 6 0) W rfl rfl rfl hW
  refine (hc _ n1).mono ?_
  rintro e w3 ⟨v0, v1, v2, rfl, hM, hb⟩
  obtain ⟨A0, c0, rfl⟩ := R_len (n := 6) hM.1 rfl
  obtain ⟨A1, c1, rfl⟩ := R_len (n := 6) hM.2.1 rfl
  obtain ⟨A2, c2, rfl⟩ := R_len (n := 6) hM.2.2 rfl
  have hz3 := blk_below n0 hb
  have i0 : w3.cell? ⟨w.heap.size, 0, none⟩ = some (.slice none 0 0) := (blk_cell hz3 0).trans rfl
  have i1 : w3.cell? ⟨w.heap.size, 1, none⟩ = some (.slice none 0 0) := (blk_cell hz3 1).trans rfl
  have i2 : w3.cell? ⟨w.heap.size, 2, none⟩ = some (.slice none 0 0) := (blk_cell hz3 2).trans rfl
  have j0 : w3.frozen? ⟨w.heap.size, 0, none⟩ = false := blk_frozen hz3 0
  have j1 : w3.frozen? ⟨w.heap.size, 1, none⟩ = false := blk_frozen hz3 1
  have j2 : w3.frozen? ⟨w.heap.size, 2, none⟩ = false := blk_frozen hz3 2
  have hB := n2.trans (hb.mono n2.size)
  have hE := mem3_store n2.size hM hz3
  have hzz := res_store hz3 (.slice A0 6 c0) (.slice A1 6 c1) (.slice A2 6 c2)
  have hbl := below_set (j := 2) (v := .slice A2 6 c2) (below_set (j := 1) (v := .slice A1 6 c1) (below_set (j := 0) (v := .slice A0 6 c0) hB (Nat.le_refl _)) (Nat.le_refl _)) (Nat.le_refl _)
  go_wp2
  refine bodyPost_ret (results_cell_row rfl _ _ w.heap.size 24 #[.slice A0 6 c0, .slice A1 6 c1, .slice A2 6 c2] (0, 0) _ rfl hzz Try.underlying24 rfl (by kernel_rfl)) rfl ⟨_, _, _, rfl, hE, hbl⟩
def pOk (k i : Int) : Bool := aOk k i && (k != 1)
set_option maxRecDepth 100000 in
theorem puts_any (k i : Int) (w : World) : Calls Try.prog 57 #[.agg #[.int .i64 k, .int .i64 i]] w fun e w' => e = .returned (.bool (pOk k i)) ∧ Below w.heap.size w w' := by
  have hu := Try.underlying38
  have al : ∀ o : Obj, Below w.heap.size w (w.alloc o) := fun o => (Below.refl _ _).alloc (Nat.le_refl _) _
  have hc := fun W => addrOk_any k i W
  obtain ⟨q, hq⟩ : ∃ q, aOk k i = q := ⟨_, rfl⟩
  obtain ⟨t, ht⟩ : ∃ t, (k != 1) = t := ⟨_, rfl⟩
  rw [hq] at hc
  have e : pOk k i = (q && t) := by unfold pOk; rw [hq, ht]
  rw [e]; clear e hq
  go_enter Try.func57, Try.ntmps57
  go_wp2_with fail
  refine (hc _).mono ?_
  rintro e w2 ⟨rfl, hb⟩
  have z1 : w2.cell? ⟨w.heap.size, 0, none⟩ = some (.int .i64 k) := (blk_cell (blk_below (heap_alloc_new w _) hb) 0).trans rfl
  have z2 : w2.cell? ⟨w.heap.size, 1, none⟩ = some (.int .i64 i) := (blk_cell (blk_below (heap_alloc_new w _) hb) 1).trans rfl
  have hb2 := (al (.cells #[Value.int IntKind.i64 k, Value.int IntKind.i64 i] 38)).trans (hb.mono (al (.cells #[Value.int IntKind.i64 k, Value.int IntKind.i64 i] 38)).size)
  cases q with
  | true =>
    go_wp2
    go_ret
    exact ⟨rfl, hb2⟩
  | false =>
    go_wp2
    go_ret
    exact ⟨rfl, hb2⟩
def cut (n : Int) : Int := mn (mx n (-1000000)) 1000000
set_option maxRecDepth 100000 in
theorem cut_any (n : Int) (w : World) : Calls Try.prog 31 #[.int .i64 n] w fun e w' => e = .returned (.int .i64 (cut n)) ∧ Below w.heap.size w w' := by
  obtain ⟨ji2, hji2⟩ : ∃ j_ : Int, (mx n (-1000000)) = j_ := ⟨_, rfl⟩
  have hji2_ : (if n < (-1000000) then (-1000000) else n) = ji2 := hji2
  obtain ⟨ji3, hji3⟩ : ∃ j_ : Int, (mn (ji2) 1000000) = j_ := ⟨_, rfl⟩
  have hji3_ : (if 1000000 < (ji2) then 1000000 else (ji2)) = ji3 := hji3
  have e : cut n = ji3 := by unfold cut; rw [hji2, hji3]
  rw [e]
  go_enter Try.func31, Try.ntmps31
  go_wp2
  go_ret
  exact ⟨rfl, Below.refl _ _⟩
set_option maxRecDepth 100000 in
theorem put_no (g : Nat) (k i n : Int) (w : World) (h : pOk k i = false) : Calls Try.prog 46 #[.pointer (some ⟨g, 0, none⟩), .agg #[.int .i64 k, .int .i64 i], .int .i64 n] w fun e w' => e = .returned (.tuple #[]) ∧ Below w.heap.size w w' := by
  have hu := Try.underlying38
  have al : ∀ o : Obj, Below w.heap.size w (w.alloc o) := fun o => (Below.refl _ _).alloc (Nat.le_refl _) _
  have hc := fun W => puts_any k i W
  rw [h] at hc
  clear h
  go_enter Try.func46, Try.ntmps46
  go_wp2_with fail
  refine (hc _).mono ?_
  rintro e w2 ⟨rfl, hb⟩
  go_wp2
  exact bodyPost_end (results_none (by kernel_rfl) _ _ _) rfl ⟨rfl, (al _).trans (hb.mono (al _).size)⟩
set_option maxRecDepth 100000 in
theorem put_yes (g : Nat) (k i n v : Int) (M : Array Value) (w : World) (h : pOk k i = true) (hg : w.heap[g]? = some (.cells M 56 (0, 0))) (hv : M[6 * (k - 1).toNat + i.toNat]? = some (.int .i64 v)) : Calls Try.prog 46 #[.pointer (some ⟨g, 0, none⟩), .agg #[.int .i64 k, .int .i64 i], .int .i64 n] w fun e w' => e = .returned (.tuple #[]) ∧ w'.heap[g]? = some (.cells (M.setIfInBounds (6 * (k - 1).toNat + i.toNat) (.int .i64 (cut n))) 56 (0, 0)) ∧ ∀ base, base ≤ g → base ≤ w.heap.size → Below base w w' := by
  have hu := Try.underlying38
  have al : ∀ o : Obj, Below w.heap.size w (w.alloc o) := fun o => (Below.refl _ _).alloc (Nat.le_refl _) _
  have hc := fun W => puts_any k i W
  rw [h] at hc
  have hp : ∀ W, Calls Try.prog 56 #[.pointer (some ⟨g, 0, none⟩), .agg #[.int .i64 k, .int .i64 i]] W fun e w' => e = .returned (.pointer (some ⟨g, 6 * (k - 1).toNat + i.toNat, none⟩)) ∧ Below W.heap.size W w' := fun W => by
    simp only [pOk, aOk, Bool.and_eq_true, decide_eq_true_eq] at h
    exact place_any g k i W h.1.1 h.1.2.1 h.1.2.2.1 h.1.2.2.2
  clear h
  have hn := fun W => cut_any n W
  generalize cut n = m at hn ⊢
  generalize 6 * (k - 1).toNat + i.toNat = q at hv hp ⊢
  go_enter Try.func46, Try.ntmps46
  go_wp2_with fail
  refine (hc _).mono ?_
  rintro e w2 ⟨rfl, hb⟩
  have hb2 := (al (.cells #[.int .i64 k, .int .i64 i] 38)).trans (hb.mono (al (.cells #[.int .i64 k, .int .i64 i] 38)).size)
  have z1 : w2.cell? ⟨w.heap.size, 0, none⟩ = some (.int .i64 k) := (blk_cell (blk_below (heap_alloc_new w _) hb) 0).trans rfl
  have z2 : w2.cell? ⟨w.heap.size, 1, none⟩ = some (.int .i64 i) := (blk_cell (blk_below (heap_alloc_new w _) hb) 1).trans rfl
  have hg2 := blk_below (blk_alloc hg (.cells #[.int .i64 k, .int .i64 i] 38)) hb
  have hg3 : ∀ {W : World}, Below w2.heap.size w2 W → W.heap[g]? = some (.cells M 56 (0, 0)) := fun hb => blk_below hg2 hb
  go_wp2_with fail
  refine (hp _).mono ?_
  rintro e w3 ⟨rfl, hb3⟩
  have hg3 := blk_below hg2 hb3
  have hb3' := hb2.trans (hb3.mono hb2.size)
  go_wp2_with fail
  refine (hn _).mono ?_
  rintro e w4 ⟨rfl, hb4⟩
  have hg4 := blk_below hg3 hb4
  have hb4' := hb3'.trans (hb4.mono hb3'.size)
  have i0 : w4.cell? ⟨g, q, none⟩ = some (.int .i64 v) := (blk_cell hg4 q).trans hv
  have j0 : w4.frozen? ⟨g, q, none⟩ = false := blk_frozen hg4 q
  go_wp2
  refine bodyPost_end (results_none (by kernel_rfl) _ _ _) rfl ⟨rfl, blk_put hg4 q _ rfl, fun base h1 h2 => (hb4'.mono h2).setCell h1 _⟩
theorem six {l : List Int} (h : l.length = 6) : ∃ a b c d e f, l = [a, b, c, d, e, f] := by
  match l, h with
  | [a, b, c, d, e, f], _ => exact ⟨a, b, c, d, e, f, rfl⟩
theorem okM_len {l0 l1 l2 : List Int} (h : okM l0 l1 l2 = true) : l0.length = 6 ∧ l1.length = 6 ∧ l2.length = 6 := by
  simp only [okM, okL, Bool.and_eq_true, decide_eq_true_eq] at h
  exact ⟨h.1.1.1, h.1.2.1, h.2.1⟩
theorem mM_eq {l0 l1 l2 : List Int} (h0 : l0.length = 6) (h1 : l1.length = 6) (h2 : l2.length = 6) : mM 3 l0 l1 l2 = mA l0 l1 l2 := by
  obtain ⟨a, b, c, d, e, f, rfl⟩ := six h0
  obtain ⟨a, b, c, d, e, f, rfl⟩ := six h1
  obtain ⟨a, b, c, d, e, f, rfl⟩ := six h2
  rfl
def pT (j : Int) (l : List Int) (k i n : Int) : List Int := if (pOk k i && (k == j)) = true then l.set i.toNat (cut n) else l
theorem pT_len {j : Int} {l : List Int} {k i n : Int} : (pT j l k i n).length = l.length := by unfold pT; split <;> simp
theorem pT_no {j : Int} {l : List Int} {k i n : Int} (h : pOk k i = false) : pT j l k i n = l := by simp [pT, h]
theorem pT_set {l0 l1 l2 : List Int} {k i n : Int} (h0 : l0.length = 6) (h1 : l1.length = 6) (h2 : l2.length = 6) (h : pOk k i = true) : (mA l0 l1 l2).setIfInBounds (6 * (k - 1).toNat + i.toNat) (.int .i64 (cut n)) = mA (pT 1 l0 k i n) (pT 2 l1 k i n) (pT 3 l2 k i n) := by
  have e1 : pT 1 l0 k i n = if k = 1 then l0.set i.toNat (cut n) else l0 := by simp [pT, h]
  have e2 : pT 2 l1 k i n = if k = 2 then l1.set i.toNat (cut n) else l1 := by simp [pT, h]
  have e3 : pT 3 l2 k i n = if k = 3 then l2.set i.toNat (cut n) else l2 := by simp [pT, h]
  rw [e1, e2, e3]
  obtain ⟨a, b, c, d, e, f, rfl⟩ := six h0
  obtain ⟨a', b', c', d', e', f', rfl⟩ := six h1
  obtain ⟨a'', b'', c'', d'', e'', f'', rfl⟩ := six h2
  simp only [pOk, aOk, Bool.and_eq_true, decide_eq_true_eq, bne_iff_ne, ne_eq] at h
  obtain ⟨⟨h1, h2, h3, h4⟩, h5⟩ := h
  rcases (by omega : k = 2 ∨ k = 3) with rfl | rfl <;> rcases (by omega : i = 0 ∨ i = 1 ∨ i = 2 ∨ i = 3 ∨ i = 4 ∨ i = 5) with rfl | rfl | rfl | rfl | rfl | rfl <;> rfl
theorem put_any (g : Nat) (l0 l1 l2 : List Int) (k i n : Int) (w : World) (hk : okM l0 l1 l2 = true) (hg : w.heap[g]? = some (.cells (mM 3 l0 l1 l2) 56 (0, 0))) : Calls Try.prog 46 #[.pointer (some ⟨g, 0, none⟩), .agg #[.int .i64 k, .int .i64 i], .int .i64 n] w fun e w' => e = .returned (.tuple #[]) ∧ w'.heap[g]? = some (.cells (mA (pT 1 l0 k i n) (pT 2 l1 k i n) (pT 3 l2 k i n)) 56 (0, 0)) ∧ ∀ base, base ≤ g → base ≤ w.heap.size → Below base w w' := by
  obtain ⟨h0, h1, h2⟩ := okM_len hk
  cases hp : pOk k i with
  | true =>
    rw [← pT_set h0 h1 h2 hp, ← mM_eq h0 h1 h2]
    have ha : aOk k i = true := by
      simp only [pOk, Bool.and_eq_true] at hp
      exact hp.1
    exact put_yes g k i n _ _ w hp hg (mM_at l0 l1 l2 k i ha)
  | false =>
    refine (put_no g k i n w hp).mono ?_
    rintro e w' ⟨rfl, hb⟩
    rw [pT_no hp, pT_no hp, pT_no hp, ← mM_eq h0 h1 h2]
    exact ⟨rfl, blk_below hg hb, fun base _ h => hb.mono h⟩
theorem viewR {w' : World} {B : Nat} {ok : Nat → Prop} {v : Value} {l : List Int} (h : Kd.R (Kd.int .i64) 3 w' B ok v l) : Kd.V (Kd.int .i64) 3 w' B (fun k_ => B ≤ k_) v l := Kd.R_V (Ho.R_int_ok h (fun k hk => Kd.R_base h k hk))
def pL (l0 l1 l2 : List Int) (j : Int) (l : List Int) (k i n : Int) : List Int := if okM l0 l1 l2 = true then pT j l k i n else []
theorem mem3_nil (w W : World) : Mem3 w W (.slice none 0 0) (.slice none 0 0) (.slice none 0 0) [] [] [] := ⟨Kd.R_nil _ _ _ _ _, Kd.R_nil _ _ _ _ _, Kd.R_nil _ _ _ _ _⟩
set_option maxRecDepth 100000 in
theorem memPut_any (A0 A1 A2 : Option Addr) (c0 c1 c2 : Nat) (l0 l1 l2 : List Int) (k i n : Int) (w : World) (hr0 : Kd.C (Kd.int .i64) w A0 l0.length l0) (hr1 : Kd.C (Kd.int .i64) w A1 l1.length l1) (hr2 : Kd.C (Kd.int .i64) w A2 l2.length l2) :
    Calls Try.prog 26 #[.agg #[.slice A0 l0.length c0, .slice A1 l1.length c1, .slice A2 l2.length c2], .agg #[.int .i64 k, .int .i64 i], .int .i64 n] w fun e w' => ∃ v0 v1 v2, e = .returned (.agg #[v0, v1, v2]) ∧ Mem3 w w' v0 v1 v2 (pL l0 l1 l2 1 l0 k i n) (pL l0 l1 l2 2 l1 k i n) (pL l0 l1 l2 3 l2 k i n) ∧ Below w.heap.size w w' := by
  have hu := Try.underlying24
  have hu38 := Try.underlying38
  have s1 : ∀ o : Obj, (w.alloc o).heap.size = w.heap.size + 1 := fun o => alloc_size _ _
  have s2 : ∀ o o2 : Obj, ((w.alloc o).alloc o2).heap.size = w.heap.size + 1 + 1 := fun o o2 => (alloc_size _ _).trans (congrArg (· + 1) (s1 o))
  have al : ∀ o o2 o3 : Obj, Below w.heap.size w (((w.alloc o).alloc o2).alloc o3) := fun o o2 o3 => (((Below.refl _ _).alloc (Nat.le_refl _) _).alloc (by rw [s1]; omega) _).alloc (by rw [s2]; omega) _
  obtain ⟨P0, hP0⟩ : ∃ q, pL l0 l1 l2 1 l0 k i n = q := ⟨_, rfl⟩
  obtain ⟨P1, hP1⟩ : ∃ q, pL l0 l1 l2 2 l1 k i n = q := ⟨_, rfl⟩
  obtain ⟨P2, hP2⟩ : ∃ q, pL l0 l1 l2 3 l2 k i n = q := ⟨_, rfl⟩
  rw [hP0, hP1, hP2]
  go_enter Try.func26, Try.ntmps26
  go_wp2_with fail
  have m1 : (((w.alloc (Obj.cells #[.slice A0 l0.length c0, .slice A1 l1.length c1, .slice A2 l2.length c2] 24)).alloc (Obj.cells #[.int .i64 k, .int .i64 i] 38)).alloc (Obj.cells #[.slice none 0 0, .slice none 0 0, .slice none 0 0] 24)).heap[w.heap.size + 1]? = some (.cells #[.int .i64 k, .int .i64 i] 38 (0, 0)) := by
    rw [← s1 (Obj.cells #[.slice A0 l0.length c0, .slice A1 l1.length c1, .slice A2 l2.length c2] 24)]; exact blk_alloc (heap_alloc_new _ _) _
  have m2 : (((w.alloc (Obj.cells #[.slice A0 l0.length c0, .slice A1 l1.length c1, .slice A2 l2.length c2] 24)).alloc (Obj.cells #[.int .i64 k, .int .i64 i] 38)).alloc (Obj.cells #[.slice none 0 0, .slice none 0 0, .slice none 0 0] 24)).heap[w.heap.size + 1 + 1]? = some (.cells Z3 24 (0, 0)) := by
    rw [← s2 (Obj.cells #[.slice A0 l0.length c0, .slice A1 l1.length c1, .slice A2 l2.length c2] 24) (Obj.cells #[.int .i64 k, .int .i64 i] 38)]; exact heap_alloc_new _ _
  have m3 := al (Obj.cells #[.slice A0 l0.length c0, .slice A1 l1.length c1, .slice A2 l2.length c2] 24) (Obj.cells #[.int .i64 k, .int .i64 i] 38) (Obj.cells #[.slice none 0 0, .slice none 0 0, .slice none 0 0] 24)
  have m4 : (((w.alloc (Obj.cells #[.slice A0 l0.length c0, .slice A1 l1.length c1, .slice A2 l2.length c2] 24)).alloc (Obj.cells #[.int .i64 k, .int .i64 i] 38)).alloc (Obj.cells #[.slice none 0 0, .slice none 0 0, .slice none 0 0] 24)).heap.size = w.heap.size + 1 + 1 + 1 := (alloc_size _ _).trans (congrArg (· + 1) (s2 _ _))
  generalize ((w.alloc (Obj.cells #[.slice A0 l0.length c0, .slice A1 l1.length c1, .slice A2 l2.length c2] 24)).alloc (Obj.cells _ 38)).alloc (Obj.cells _ 24) = w1 at m1 m2 m3 m4 ⊢
  clear s1 s2 al
  refine (readMem_any _ _ _ _ _ _ l0 l1 l2 _ (Kd.C_below hr0 m3) (Kd.C_below hr1 m3) (Kd.C_below hr2 m3)).mono ?_
  rintro e w2 ⟨h1, h2, hb⟩
  have hz2 := blk_below m2 hb
  have hB2 := m3.trans (hb.mono m3.size)
  obtain ⟨z, hz⟩ : ∃ z, w.heap.size + 1 + 1 = z := ⟨_, rfl⟩
  have hzl : w.heap.size ≤ z := by omega
  rw [hz] at hz2 ⊢
  cases hk : okM l0 l1 l2 with
  | true =>
    obtain ⟨g, rfl, hg, hgs⟩ := h1 hk
    have n1 := blk_below m1 hb
    have z0 : w2.cell? ⟨w.heap.size + 1, 0, none⟩ = some (.int .i64 k) := (blk_cell n1 0).trans rfl
    have z1 : w2.cell? ⟨w.heap.size + 1, 1, none⟩ = some (.int .i64 i) := (blk_cell n1 1).trans rfl
    have hc := fun W hW => put_any g l0 l1 l2 k i n W hk hW
    have e0 : ∀ j l, pL l0 l1 l2 j l k i n = pT j l k i n := fun j l => by unfold pL; rw [if_pos hk]
    rw [e0] at hP0 hP1 hP2
    clear e0 h1 h2
    obtain ⟨hl0, hl1, hl2⟩ := okM_len hk
    have hq0 : (pT 1 l0 k i n).length = 6 := pT_len.trans hl0
    have hq1 : (pT 2 l1 k i n).length = 6 := pT_len.trans hl1
    have hq2 : (pT 3 l2 k i n).length = 6 := pT_len.trans hl2
    clear hl0 hl1 hl2
    rw [hP0] at hq0
    rw [hP1] at hq1
    rw [hP2] at hq2
    simp only [hP0, hP1, hP2] at hc
    clear hP0 hP1 hP2
    have hd := fun W hW => mem_any g P0 P1 P2 W hq0 hq1 hq2 hW
    go_wp2_with fail
    refine (hc _ hg).mono ?_
    rintro e w3 ⟨rfl, hg3, hb3⟩
    have hzs : z < w2.heap.size := by have := hb.size; omega
    have hb3' := hb3 (z + 1) (by omega) (by omega)
    have hz3 : w3.heap[z]? = some (.cells Z3 24 (0, 0)) := (hb3'.block z (by omega)).trans hz2
    have hB3 := hB2.trans (hb3 w.heap.size (by omega) hB2.size)
    go_wp2_with fail
    refine (hd _ hg3).mono ?_
    rintro e w4 ⟨v0, v1, v2, rfl, hM, hb4⟩
    obtain ⟨A0, c0, rfl⟩ := R_len (n := 6) hM.1 hq0
    obtain ⟨A1, c1, rfl⟩ := R_len (n := 6) hM.2.1 hq1
    obtain ⟨A2, c2, rfl⟩ := R_len (n := 6) hM.2.2 hq2
    have hz4 := blk_below hz3 hb4
    have hB4 := hB3.trans (hb4.mono hB3.size)
    clear hd hc hq0 hq1 hq2
    have i0 : w4.cell? ⟨z, 0, none⟩ = some (.slice none 0 0) := (blk_cell hz4 0).trans rfl
    have i1 : w4.cell? ⟨z, 1, none⟩ = some (.slice none 0 0) := (blk_cell hz4 1).trans rfl
    have i2 : w4.cell? ⟨z, 2, none⟩ = some (.slice none 0 0) := (blk_cell hz4 2).trans rfl
    have j0 : w4.frozen? ⟨z, 0, none⟩ = false := blk_frozen hz4 0
    have j1 : w4.frozen? ⟨z, 1, none⟩ = false := blk_frozen hz4 1
    have j2 : w4.frozen? ⟨z, 2, none⟩ = false := blk_frozen hz4 2
    have hE := mem3_store hB3.size hM hz4
    have hzz := res_store hz4 (.slice A0 6 c0) (.slice A1 6 c1) (.slice A2 6 c2)
    have hbl := below_set (j := 2) (v := .slice A2 6 c2) (below_set (j := 1) (v := .slice A1 6 c1) (below_set (j := 0) (v := .slice A0 6 c0) hB4 hzl) hzl) hzl
    go_wp2
    refine bodyPost_ret (results_cell_row rfl _ _ z 24 #[.slice A0 6 c0, .slice A1 6 c1, .slice A2 6 c2] (0, 0) _ rfl hzz Try.underlying24 rfl (by kernel_rfl)) rfl ⟨_, _, _, rfl, hE, hbl⟩
  | false =>
    obtain rfl := h2 hk
    have e0 : ∀ j l, pL l0 l1 l2 j l k i n = [] := fun j l => by unfold pL; rw [hk]; rfl
    rw [e0] at hP0 hP1 hP2
    obtain rfl := hP0
    obtain rfl := hP1
    obtain rfl := hP2
    clear e0 h1 h2
    have i0 : w2.cell? ⟨z, 0, none⟩ = some (.slice none 0 0) := (blk_cell hz2 0).trans rfl
    have i1 : w2.cell? ⟨z, 1, none⟩ = some (.slice none 0 0) := (blk_cell hz2 1).trans rfl
    have i2 : w2.cell? ⟨z, 2, none⟩ = some (.slice none 0 0) := (blk_cell hz2 2).trans rfl
    have j0 : w2.frozen? ⟨z, 0, none⟩ = false := blk_frozen hz2 0
    have j1 : w2.frozen? ⟨z, 1, none⟩ = false := blk_frozen hz2 1
    have j2 : w2.frozen? ⟨z, 2, none⟩ = false := blk_frozen hz2 2
    have hE := mem3_store (w := w) (W := w) (Nat.le_refl _) (mem3_nil w w2) hz2
    have hzz := res_store hz2 (.slice none 0 0) (.slice none 0 0) (.slice none 0 0)
    have hbl := below_set (j := 2) (v := .slice none 0 0) (below_set (j := 1) (v := .slice none 0 0) (below_set (j := 0) (v := .slice none 0 0) hB2 hzl) hzl) hzl
    go_wp2
    refine bodyPost_ret (results_cell_row rfl _ _ z 24 #[.slice none 0 0, .slice none 0 0, .slice none 0 0] (0, 0) _ rfl hzz Try.underlying24 rfl (by kernel_rfl)) rfl ⟨_, _, _, rfl, hE, hbl⟩
end Go.Proofs.Ytlgogdpnakbhiaa.Hq
