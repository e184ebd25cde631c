import Derived.Test.YtlgogdpnakbhiaaDoorHo
namespace Go.Proofs.YtlgogdpnakbhiaaDoor.Hq
open Go.RowKit Go.Proofs.YtlgogdpnakbhiaaDoorW.PrintWords Go.Proofs.YtlgogdpnakbhiaaDoorW.PrintLast Go.Proofs.YtlgogdpnakbhiaaDoorW.PrintMore Hm Hn Ho
attribute [local go_sem] max2_int min2_int max_two min_two
set_option linter.unusedVariables false
set_option linter.unusedSimpArgs false
theorem R_len {e base n : Nat} {w : World} {ok : Nat → Prop} {v : Value} {l : List Int} (h : Kd.R (Kd.int .i64) e w base ok v l) (hl : l.length = n) : ∃ A c, v = .slice A n c := by
  obtain ⟨A, c, rfl, _⟩ := Kd.R_reads h
  exact ⟨A, c, by rw [hl]⟩
theorem mem3_store {w W Wd : World} {z : Nat} {v0 v1 v2 : Value} {a b c : List Int} (hsz : w.heap.size ≤ W.heap.size) (hM : Mem3 W Wd v0 v1 v2 a b c) (hz : Wd.heap[z]? = some (.cells Z3 25 (0, 0))) : Mem3 w (((Wd.setCell ⟨z, 0, none⟩ v0).setCell ⟨z, 1, none⟩ v1).setCell ⟨z, 2, none⟩ v2) v0 v1 v2 a b c :=
  ⟨Kd.R_lower (R_store hM.1 hz _ _ _) hsz, Kd.R_lower (R_store hM.2.1 hz _ _ _) hsz, Kd.R_lower (R_store hM.2.2 hz _ _ _) hsz⟩
set_option maxRecDepth 100000 in
theorem memOpen_any (w : World) : Calls Tryd.prog 21 #[] w fun e w' => ∃ v0 v1 v2, e = .returned (.agg #[v0, v1, v2]) ∧ Mem3 w w' v0 v1 v2 (List.replicate 6 0) (List.replicate 6 0) (List.replicate 6 0) ∧ Below w.heap.size w w' := by
  have hu24 := Tryd.underlying25
  have hu56 := Tryd.underlying61
  go_enter Tryd.func21, Tryd.ntmps21
  go_wp2_with fail
  have n0 : ((w.alloc (Obj.cells #[.slice none 0 0, .slice none 0 0, .slice none 0 0] 25)).alloc (Obj.cells (mA (List.replicate 6 0) (List.replicate 6 0) (List.replicate 6 0)) 61)).heap[w.heap.size]? = some (.cells Z3 25 (0, 0)) := blk_alloc (heap_alloc_new _ _) _
  have n1 : ((w.alloc (Obj.cells #[.slice none 0 0, .slice none 0 0, .slice none 0 0] 25)).alloc (Obj.cells (mA (List.replicate 6 0) (List.replicate 6 0) (List.replicate 6 0)) 61)).heap[w.heap.size + 1]? = some (.cells (mA (List.replicate 6 0) (List.replicate 6 0) (List.replicate 6 0)) 61 (0, 0)) := by
    rw [← alloc_size w (Obj.cells #[.slice none 0 0, .slice none 0 0, .slice none 0 0] 25)]; exact heap_alloc_new _ _
  have n2 : Below w.heap.size w ((w.alloc (Obj.cells #[.slice none 0 0, .slice none 0 0, .slice none 0 0] 25)).alloc (Obj.cells (mA (List.replicate 6 0) (List.replicate 6 0) (List.replicate 6 0)) 61)) := ((Below.refl _ _).alloc (Nat.le_refl _) _).alloc (by rw [alloc_size]; exact Nat.le_succ _) _
  have em : mA (List.replicate 6 0) (List.replicate 6 0) (List.replicate 6 0) = #[.int .i64 0, .int .i64 0, .int .i64 0, .int .i64 0, .int .i64 0, .int .i64 0, .int .i64 0, .int .i64 0, .int .i64 0, .int .i64 0, .int .i64 0, .int .i64 0, .int .i64 0, .int .i64 0, .int .i64 0, .int .i64 0, .int .i64 0, .int .i64 0] := rfl
  rw [← em]
  clear em
  generalize (w.alloc (Obj.cells _ 25)).alloc (Obj.cells _ 61) = w1 at n0 n1 n2 ⊢
  have hc := fun W hW => mem_any (w.heap.size + 1) (List.replicate 6 0) (List.replicate 6 0) (List.replicate 6 0) W rfl rfl rfl hW
  refine (hc _ n1).mono ?_
  rintro e w3 ⟨v0, v1, v2, rfl, hM, hb⟩
  obtain ⟨A0, c0, rfl⟩ := R_len (n := 6) hM.1 rfl
  obtain ⟨A1, c1, rfl⟩ := R_len (n := 6) hM.2.1 rfl
  obtain ⟨A2, c2, rfl⟩ := R_len (n := 6) hM.2.2 rfl
  have hz3 := blk_below n0 hb
  have i0 : w3.cell? ⟨w.heap.size, 0, none⟩ = some (.slice none 0 0) := (blk_cell hz3 0).trans rfl
  have i1 : w3.cell? ⟨w.heap.size, 1, none⟩ = some (.slice none 0 0) := (blk_cell hz3 1).trans rfl
  have i2 : w3.cell? ⟨w.heap.size, 2, none⟩ = some (.slice none 0 0) := (blk_cell hz3 2).trans rfl
  have j0 : w3.frozen? ⟨w.heap.size, 0, none⟩ = false := blk_frozen hz3 0
  have j1 : w3.frozen? ⟨w.heap.size, 1, none⟩ = false := blk_frozen hz3 1
  have j2 : w3.frozen? ⟨w.heap.size, 2, none⟩ = false := blk_frozen hz3 2
  have hB := n2.trans (hb.mono n2.size)
  have hE := mem3_store n2.size hM hz3
  have hzz := res_store hz3 (.slice A0 6 c0) (.slice A1 6 c1) (.slice A2 6 c2)
  have hbl := below_set (j := 2) (v := .slice A2 6 c2) (below_set (j := 1) (v := .slice A1 6 c1) (below_set (j := 0) (v := .slice A0 6 c0) hB (Nat.le_refl _)) (Nat.le_refl _)) (Nat.le_refl _)
  go_wp2
  refine bodyPost_ret (results_cell_row rfl _ _ w.heap.size 25 #[.slice A0 6 c0, .slice A1 6 c1, .slice A2 6 c2] (0, 0) _ rfl hzz Tryd.underlying25 rfl (by kernel_rfl)) rfl ⟨_, _, _, rfl, hE, hbl⟩
end Go.Proofs.YtlgogdpnakbhiaaDoor.Hq
