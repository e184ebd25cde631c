/- The closures of code (impl.acts): a row of them, each of its instruction. No other condition. -/
import Derived.Test.YtjamfddhcigchaaGreatDoorTFnExactCodeRunHq
namespace Go.Proofs.YtjamfddhcigchaaGreatDoor.Hu
open Go.RowKit  Go.Proofs.YtjamfddhcigchaaGreatDoor.Gm Go.Proofs.YtjamfddhcigchaaGreatDoor.Gn Go.Proofs.YtjamfddhcigchaaGreatDoor.Gz Go.Proofs.YtjamfddhcigchaaGreatDoor.Gq Go.Proofs.YtjamfddhcigchaaGreatDoor.Hj Go.Proofs.YtjamfddhcigchaaGreatDoor.Hm Go.Proofs.YtjamfddhcigchaaGreatDoor.Hq Go.Proofs.YtjamfddhcigchaaGreatDoor.HFnExactCodeRun Go.Proofs.YtjamfddhcigchaaGreatDoorW.PrintWords Go.Proofs.YtjamfddhcigchaaGreatDoorW.PrintLast Go.Proofs.YtjamfddhcigchaaGreatDoorW.PrintMore
set_option linter.unusedVariables false
set_option linter.unusedSimpArgs false
def fV (q : Nat × Nat) : Value := .func (.func q.1) #[] #[.pointer (some ⟨q.2, 0, none⟩)]
def kF : Kd (Nat × Nat) := Kd.scalar fV (fun _ => rfl)
theorem info69 : (Tryz.prog.info? 69).map (fun i => (i.zero, i.size, i.bytes)) = some (some .nilFunc, 1, 8) := by kernel_rfl
theorem ActV.fv {W : World} {v : Value} {i : S30} (h : ActV W v i) : ∃ q, v = fV q := by
 obtain ⟨I, _, ⟨_, rfl⟩ | ⟨B, F, cap, rfl, _⟩⟩ := h
 ·exact ⟨(106, I), rfl⟩
 ·exact ⟨(91, B), rfl⟩
theorem ActV.below {W W' : World} {v : Value} {i : S30} (h : ActV W v i) (k : Below W.heap.size W W') : ActV W' v i :=
 h.kept ((Kept.refl W (fun _ => False)).below k) (fun _ _ _ e => e)
theorem ActV.grown {W W' : World} {v : Value} {i : S30} {row : Option Nat} (h : ActV W v i) (hg : W.grownBy W' row) (hr : ∀ k, row = some k → ∃ cells, W.heap[k]? = some (.cells cells 69 (0, 0))) : ActV W' v i := by
 have key : ∀ (b : Nat) (cs : Array Value) (t : TypeId), t ≠ 69 → W.heap[b]? = some (.cells cs t (0, 0)) → W'.heap[b]? = some (.cells cs t (0, 0)) := by
  intro b cs t ht hb
  refine (hg.block b (blk_lt hb) ?_).trans hb
  intro e
  obtain ⟨cells, hc⟩ := hr b e.symm
  rw [hb] at hc
  injection hc with hc
  injection hc with _ hc
  exact ht hc
 obtain ⟨I, hI, h⟩ := h
 refine ⟨I, key I _ _ (by decide) hI, ?_⟩
 rcases h with h | ⟨B, F, cap, e, hB, h⟩
 ·exact .inl h
 ·exact .inr ⟨B, F, cap, e, key B _ _ (by decide) hB, h⟩
theorem getD_snoc {qs : List (Nat × Nat)} {q : Nat × Nat} (j : Nat) (h : j < qs.length) : (qs ++ [q]).getD j (0, 0) = qs.getD j (0, 0) := by
 rw [List.getD_eq_getElem?_getD, List.getD_eq_getElem?_getD, List.getElem?_append_left h]
theorem getD_last {qs : List (Nat × Nat)} {q : Nat × Nat} : (qs ++ [q]).getD qs.length (0, 0) = q := by
 rw [List.getD_eq_getElem?_getD]; simp
set_option maxRecDepth 100000 in
set_option maxHeartbeats 6400000 in
theorem acts_any (A : Option Addr) (cc : Nat) (ps : List S30) (w : World) (hr : Kd.C k30 w A ps.length ps) (hle : ps.length ≤ 1000) :
  Calls Tryz.prog 37 #[.slice A ps.length cc] w fun e w' => ∃ v qs, e = .returned v ∧ Kd.R kF 69 w' w.heap.size (fun _ => True) v qs ∧ qs.length = ps.length ∧ (∀ j : Nat, j < ps.length → ActV w' (fV (qs.getD j (0, 0))) (rd_T30 ps j)) ∧ Below w.heap.size w w' := by
 have hu30 := Tryz.underlying30
 have hle' := Aside0.mk hle
 clear hle
 go_enter Tryz.func37, Tryz.ntmps37
 go_wp2_with fail
 go_loopw [3, 8] (fun v i wr => ∃ (k : Nat) (qs : List (Nat × Nat)), k ≤ ps.length ∧ i = .int .i64 (k : Int) ∧ Aside0 (qs.length = k) ∧ Kd.R kF 69 wr w.heap.size (fun _ => True) v qs ∧ Aside0 (∀ j : Nat, j < k → ActV wr (fV (qs.getD j (0, 0))) (rd_T30 ps j)) ∧ Below w.heap.size w wr) (fun _ i _ => ps.length - (intOf i).toNat)
 case atStart => exact ⟨0, [], by omega, rfl, ⟨rfl⟩, Kd.R_nil _ _ _ _ _, ⟨fun j hj => by omega⟩, Below.refl _ _⟩
 case round =>
  obtain ⟨k, qs, hk, rfl, hq, hR, hact, hB⟩ := hrel
  obtain ⟨A1, c1, rfl⟩ := Kd.R_slice hR
  by_cases hkn : k < ps.length
  ·have d2 : decide (k < ps.length) = true := by simpa using hkn
   obtain ⟨ad, hA, e0, e1, e2, e3⟩ := at_T30 (Kd.C_below hr hB) (k : Int) (by omega) (by omega)
   subst hA
   rw [Int.toNat_natCast] at e0 e1 e2 e3
   obtain ⟨ins, hins⟩ : ∃ ins, rd_T30 ps (k : Int) = ins := ⟨_, rfl⟩
   rw [hins] at e0 e1 e2 e3
   have hins' := Aside0.mk hins
   have hkn' := Aside0.mk hkn
   have w1_ : wrap64 ((k : Int) + 1) = ((k + 1 : Nat) : Int) := by have := hle'.out; unfold wrap64; omega
   clear hins hk
   go_upto_region 5 with (fail)
   try clear hkn
   have n7 := heap_alloc_new wr (Obj.cells #[.int .i64 ins.f0, .int .i64 ins.f1, .int .i64 ins.f2.f0, .int .i64 ins.f2.f1] 30)
   have hR2 : Kd.R kF 69 (wr.alloc (Obj.cells #[.int .i64 ins.f0, .int .i64 ins.f1, .int .i64 ins.f2.f0, .int .i64 ins.f2.f1] 30)) w.heap.size (fun _ => True) _ qs := Kd.R_alloc hR _
   have hb1 : Below wr.heap.size wr (wr.alloc (Obj.cells #[.int .i64 ins.f0, .int .i64 ins.f1, .int .i64 ins.f2.f0, .int .i64 ins.f2.f1] 30)) := (Below.refl _ _).alloc (Nat.le_refl _) _
   have hB2 := hB.trans (hb1.mono hB.size)
   have hact2 : Aside0 (∀ j : Nat, j < k → ActV (wr.alloc (Obj.cells #[.int .i64 ins.f0, .int .i64 ins.f1, .int .i64 ins.f2.f0, .int .i64 ins.f2.f1] 30)) (fV (qs.getD j (0, 0))) (rd_T30 ps j)) := ⟨fun j hj => ActV.below (hact.out j hj) hb1⟩
   generalize wr.alloc (Obj.cells _ 30) = w2 at n7 hR2 hB2 hact2 ⊢
   generalize wr.heap.size = g7 at n7 ⊢
   have z0 : w2.cell? ⟨g7, 0, none⟩ = some (.int .i64 ins.f0) := (blk_cell n7 0).trans rfl
   have z1 : w2.cell? ⟨g7, 1, none⟩ = some (.int .i64 ins.f1) := (blk_cell n7 1).trans rfl
   have z2 : w2.cell? ⟨g7, 2, none⟩ = some (.int .i64 ins.f2.f0) := (blk_cell n7 2).trans rfl
   have z3 : w2.cell? ⟨g7, 3, none⟩ = some (.int .i64 ins.f2.f1) := (blk_cell n7 3).trans rfl
   clear hR hB hact hb1 e0 e1 e2 e3
   go_wp2_with fail
   refine (act_any ins w2).mono ?_
   rintro e w3 ⟨v, rfl, hv, hb3⟩
   obtain ⟨q, rfl⟩ := ActV.fv hv
   have hR3 := Kd.R_below hR2 hb3
   have hB3 := hB2.trans (hb3.mono hB2.size)
   have hact3 : Aside0 (∀ j : Nat, j < k → ActV w3 (fV (qs.getD j (0, 0))) (rd_T30 ps j)) := ⟨fun j hj => ActV.below (hact2.out j hj) hb3⟩
   have hv' := Aside0.mk hv
   have hR3' := Aside0.mk hR3
   have hB3' := Aside0.mk hB3
   clear hR2 hB2 hact2 hb3 n7 hv hR3 hB3 z0 z1 z2 z3
   unfold fV
   go_wp2_with ((with_reducible refine gate_builtin (b := .append) (xs := #[.tmp 12, .tmp 15]) rfl ?_); at_builtin; refine Kd.R_append kF w.heap.size rfl (.tmp 12) (.tmp 15) 66 69 .nilFunc 8 rfl Tryz.underlying66 info69 rfl (by decide) (by omega) (.slice A1 qs.length c1) qs q [fV q] (fun _ => True) (fun _ => False) rfl rfl ?aP (fun _ hk => hk.elim) (fun _ _ => trivial) ?aO (Below.refl _ _) ?aS ?aL ?_; (case aP => exact rfl); (case aO => exact hR3'.out); (case aS => exact hB3'.out.size); (case aL => have := hle'.out; have := hkn'.out; have := hq.out; omega); intro v1 w4 ho hb hg hat)
   have typ : ∀ b, (Value.slice A1 qs.length c1).ownBlock = some b → ∃ cells, w3.heap[b]? = some (.cells cells 69 (0, 0)) := fun b hb_ => by
    obtain ⟨inner, hown⟩ := Kd.R_own hR3'.out
    exact own_typed hown b hb_
   rw [w1_]
   refine ⟨⟨k + 1, qs ++ [q], by have := hkn'.out; omega, rfl, ⟨by have := hq.out; simp; omega⟩, ho, ⟨fun j hj => ?_⟩, hB3'.out.trans hb⟩, ?_⟩
   ·by_cases hjk : j < k
    ·rw [getD_snoc j (by have := hq.out; omega)]
     exact ActV.grown (hact3.out j hjk) hg typ
    ·obtain rfl : j = k := by omega
     rw [hins'.out, ← hq.out, getD_last]
     exact ActV.grown hv'.out hg typ
   ·have := hkn'.out
    simp only [intOf]
    omega
  ·have d2 : decide (k < ps.length) = false := by simpa using hkn
   obtain rfl : k = ps.length := by omega
   go_wp2
   go_ret
   exact ⟨_, qs, rfl, hR, hq.out, hact.out, hB⟩
end Go.Proofs.YtjamfddhcigchaaGreatDoor.Hu
