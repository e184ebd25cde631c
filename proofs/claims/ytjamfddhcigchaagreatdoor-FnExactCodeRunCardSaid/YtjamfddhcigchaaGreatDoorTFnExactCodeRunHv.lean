/- How a run ends (impl.ended): the memory told, and how. The variable errLong holds a pointer. No other condition. -/
import Derived.Test.YtjamfddhcigchaaGreatDoorTFnExactCodeRunHu
import Derived.Test.YtjamfddhcigchaaGreatDoorTFnExactCodeRunHi
namespace Go.Proofs.YtjamfddhcigchaaGreatDoor.Hv
open Go.RowKit  Go.Proofs.YtjamfddhcigchaaGreatDoor.Gm Go.Proofs.YtjamfddhcigchaaGreatDoor.Gn Go.Proofs.YtjamfddhcigchaaGreatDoor.Gz Go.Proofs.YtjamfddhcigchaaGreatDoor.Gq Go.Proofs.YtjamfddhcigchaaGreatDoor.Hj Go.Proofs.YtjamfddhcigchaaGreatDoor.Hm Go.Proofs.YtjamfddhcigchaaGreatDoor.Hq Go.Proofs.YtjamfddhcigchaaGreatDoor.Hu Go.Proofs.YtjamfddhcigchaaGreatDoor.HFnExactCodeRun Go.Proofs.YtjamfddhcigchaaGreatDoorW.PrintWords Go.Proofs.YtjamfddhcigchaaGreatDoorW.PrintLast Go.Proofs.YtjamfddhcigchaaGreatDoorW.PrintMore
set_option linter.unusedVariables false
set_option linter.unusedSimpArgs false
def LE (w : World) : Prop := ∃ e : Addr, w.cell? ⟨0, 0, none⟩ = some (.iface 170 (.pointer (some e)))
theorem LE.below {w w' : World} (h : LE w) (k : Below w.heap.size w w') : LE w' := by
 obtain ⟨e, he⟩ := h
 exact ⟨e, (k.cell (World.block_lt_of_cell? w _ he)).trans he⟩
theorem results_crtt {P : Program} {fn : Func} {p u v : Tmp} {ty : TypeId} (h : fn.results = #[.cell p ty, .tmp u, .tmp v]) (tmps : Array Value) (w : World) (g : Nat) (t : TypeId) (cs : Array Value) (fr : Nat × Nat) (d : TypeDesc)
  (hp : tmps.getD p undef = .pointer (some ⟨g, 0, none⟩)) (hg : w.heap[g]? = some (.cells cs t fr))
  (hu : P.underlying ty = some d) (hd : (match d with | .struct _ | .array _ _ => true | _ => false) = true) (hi : (P.info? ty).map (·.size) = some cs.size) :
  (results fn tmps).run P w = .ok (.tuple #[.agg cs, tmps.getD u undef, tmps.getD v undef]) w := by
 have hp' : tmps[p]?.getD undef = .pointer (some ⟨g, 0, none⟩) := by simpa using hp
 simp [results, h, hp', asAddr, run_loadVar_row w g t ty cs fr d hg hu hd hi]
set_option maxRecDepth 100000 in
set_option maxHeartbeats 6400000 in
theorem ended_long (g : Nat) (a b c : List Int) (w : World) (E : Addr) (ha : a.length = 6) (hb : b.length = 6) (hc : c.length = 6) (hg : w.heap[g]? = some (.cells (mA a b c) 82 (0, 0))) (he : w.cell? ⟨0, 0, none⟩ = some (.iface 170 (.pointer (some E)))) :
  Calls Tryz.prog 38 #[.pointer (some ⟨g, 0, none⟩), .int .i64 0, .iface 170 (.pointer (some E))] w fun e w' => ∃ v0 v1 v2, e = .returned (.tuple #[.agg #[v0, v1, v2], .int .i64 1, .int .i64 0]) ∧ Mem3 w w' v0 v1 v2 a b c ∧ Below w.heap.size w w' := by
 have hu33 := Tryz.underlying33
 have k1 : Below w.heap.size w (w.alloc (.cells #[.slice none 0 0, .slice none 0 0, .slice none 0 0] 33)) := (Below.refl _ _).alloc (Nat.le_refl _) _
 have hz := heap_alloc_new w (.cells #[.slice none 0 0, .slice none 0 0, .slice none 0 0] 33)
 have hg1 := blk_below hg k1
 have he1 : (w.alloc (.cells #[.slice none 0 0, .slice none 0 0, .slice none 0 0] 33)).cell? ⟨0, 0, none⟩ = some (.iface 170 (.pointer (some E))) := (k1.cell (World.block_lt_of_cell? w _ he)).trans he
 go_enter Tryz.func38, Tryz.ntmps38
 go_wp2_with fail
 refine (Hi.is_same E _).mono ?_
 rintro e w2 ⟨rfl, rfl⟩
 generalize w.alloc _ = w1 at hz hg1 he1 k1 ⊢
 go_wp2_with fail
 refine (mem_any g a b c w1 ha hb hc hg1).mono ?_
 rintro e w3 ⟨v0, v1, v2, rfl, hM, hb3⟩
 obtain ⟨A0, c0, rfl⟩ := R_len (n := 6) hM.1 ha
 obtain ⟨A1, c1, rfl⟩ := R_len (n := 6) hM.2.1 hb
 obtain ⟨A2, c2, rfl⟩ := R_len (n := 6) hM.2.2 hc
 have hz3 := blk_below hz hb3
 have hB3 := k1.trans (hb3.mono k1.size)
 obtain ⟨z, hzz⟩ : ∃ z, w.heap.size = z := ⟨_, rfl⟩
 rw [hzz] at hz3 ⊢
 clear hz
 have i0 : w3.cell? ⟨z, 0, none⟩ = some (.slice none 0 0) := (blk_cell hz3 0).trans rfl
 have i1 : w3.cell? ⟨z, 1, none⟩ = some (.slice none 0 0) := (blk_cell hz3 1).trans rfl
 have i2 : w3.cell? ⟨z, 2, none⟩ = some (.slice none 0 0) := (blk_cell hz3 2).trans rfl
 have j0 : w3.frozen? ⟨z, 0, none⟩ = false := blk_frozen hz3 0
 have j1 : w3.frozen? ⟨z, 1, none⟩ = false := blk_frozen hz3 1
 have j2 : w3.frozen? ⟨z, 2, none⟩ = false := blk_frozen hz3 2
 have hE2 := mem3_store k1.size hM hz3
 have hzz2 := res_store hz3 (.slice A0 6 c0) (.slice A1 6 c1) (.slice A2 6 c2)
 have hzl2 : w.heap.size ≤ z := Nat.le_of_eq hzz
 have hbl := below_set (j := 2) (v := .slice A2 6 c2) (below_set (j := 1) (v := .slice A1 6 c1) (below_set (j := 0) (v := .slice A0 6 c0) hB3 hzl2) hzl2) hzl2
 go_wp2
 refine bodyPost_ret (results_crtt rfl _ _ z 33 #[.slice A0 6 c0, .slice A1 6 c1, .slice A2 6 c2] (0, 0) _ rfl hzz2 Tryz.underlying33 rfl (by kernel_rfl)) rfl ⟨_, _, _, rfl, hE2, hbl⟩
set_option maxRecDepth 100000 in
set_option maxHeartbeats 6400000 in
theorem ended_fine (g : Nat) (fl : Int) (a b c : List Int) (w : World) (E : Addr) (ha : a.length = 6) (hb : b.length = 6) (hc : c.length = 6) (hg : w.heap[g]? = some (.cells (mA a b c) 82 (0, 0))) (he : w.cell? ⟨0, 0, none⟩ = some (.iface 170 (.pointer (some E)))) :
  Calls Tryz.prog 38 #[.pointer (some ⟨g, 0, none⟩), .int .i64 fl, .nilIface] w fun e w' => ∃ v0 v1 v2, e = .returned (.tuple #[.agg #[v0, v1, v2], .int .i64 0, .int .i64 fl]) ∧ Mem3 w w' v0 v1 v2 a b c ∧ Below w.heap.size w w' := by
 have hu33 := Tryz.underlying33
 have k1 : Below w.heap.size w (w.alloc (.cells #[.slice none 0 0, .slice none 0 0, .slice none 0 0] 33)) := (Below.refl _ _).alloc (Nat.le_refl _) _
 have hz := heap_alloc_new w (.cells #[.slice none 0 0, .slice none 0 0, .slice none 0 0] 33)
 have hg1 := blk_below hg k1
 have he1 : (w.alloc (.cells #[.slice none 0 0, .slice none 0 0, .slice none 0 0] 33)).cell? ⟨0, 0, none⟩ = some (.iface 170 (.pointer (some E))) := (k1.cell (World.block_lt_of_cell? w _ he)).trans he
 go_enter Tryz.func38, Tryz.ntmps38
 go_wp2_with fail
 refine (Hi.is_nil E _).mono ?_
 rintro e w2 ⟨rfl, rfl⟩
 generalize w.alloc _ = w1 at hz hg1 he1 k1 ⊢
 go_wp2_with fail
 refine (mem_any g a b c w1 ha hb hc hg1).mono ?_
 rintro e w3 ⟨v0, v1, v2, rfl, hM, hb3⟩
 obtain ⟨A0, c0, rfl⟩ := R_len (n := 6) hM.1 ha
 obtain ⟨A1, c1, rfl⟩ := R_len (n := 6) hM.2.1 hb
 obtain ⟨A2, c2, rfl⟩ := R_len (n := 6) hM.2.2 hc
 have hz3 := blk_below hz hb3
 have hB3 := k1.trans (hb3.mono k1.size)
 obtain ⟨z, hzz⟩ : ∃ z, w.heap.size = z := ⟨_, rfl⟩
 rw [hzz] at hz3 ⊢
 clear hz
 have i0 : w3.cell? ⟨z, 0, none⟩ = some (.slice none 0 0) := (blk_cell hz3 0).trans rfl
 have i1 : w3.cell? ⟨z, 1, none⟩ = some (.slice none 0 0) := (blk_cell hz3 1).trans rfl
 have i2 : w3.cell? ⟨z, 2, none⟩ = some (.slice none 0 0) := (blk_cell hz3 2).trans rfl
 have j0 : w3.frozen? ⟨z, 0, none⟩ = false := blk_frozen hz3 0
 have j1 : w3.frozen? ⟨z, 1, none⟩ = false := blk_frozen hz3 1
 have j2 : w3.frozen? ⟨z, 2, none⟩ = false := blk_frozen hz3 2
 have hE2 := mem3_store k1.size hM hz3
 have hzz2 := res_store hz3 (.slice A0 6 c0) (.slice A1 6 c1) (.slice A2 6 c2)
 have hzl2 : w.heap.size ≤ z := Nat.le_of_eq hzz
 have hbl := below_set (j := 2) (v := .slice A2 6 c2) (below_set (j := 1) (v := .slice A1 6 c1) (below_set (j := 0) (v := .slice A0 6 c0) hB3 hzl2) hzl2) hzl2
 go_wp2
 refine bodyPost_ret (results_crtt rfl _ _ z 33 #[.slice A0 6 c0, .slice A1 6 c1, .slice A2 6 c2] (0, 0) _ rfl hzz2 Tryz.underlying33 rfl (by kernel_rfl)) rfl ⟨_, _, _, rfl, hE2, hbl⟩
end Go.Proofs.YtjamfddhcigchaaGreatDoor.Hv
