/- The row of the law FnCodeSame: it returns true for every list of bytes, with the listed variables as the program's text lays them. -/
import Derived.Test.YtjamfddhcigchaaGreatDoorRows
import Derived.Test.YtjamfddhcigchaaGreatDoorTFnCodeSameCb
import Derived.Test.YtjamfddhcigchaaGreatDoorTie
import Derived.Test.YtjamfddhcigchaaGreatDoorCards
import Derived.LaidMore
import Derived.Stop.Joined
import Derived.SevenTiedAt
import Derived.ChangeVars
import Derived.ProofKit
import Derived.OpenShut
import Derived.ShutString
import Derived.ChangeOld
import Derived.Lib.SmallJoins
import Derived.ChangeSame
import Derived.Deep.Strs
namespace Go.Proofs.YtjamfddhcigchaaGreatDoor.fnCodeSame
open Go.ChangeShapes Go.WideShapes Go.ChangeAt Go.RowKit Go.Joins
open Go.ChangeMaps (open_string shut_string)
set_option linter.unusedVariables false
set_option linter.unusedSimpArgs false
theorem blk_same {w w' : World} {g : Nat} {o : Obj} (h : w.heap[g]? = some o) (k : Below w.heap.size w w') : w'.heap[g]? = some o := Go.Proofs.YtjamfddhcigchaaGreatDoorW.PrintWords.blk_below h k
theorem own : ownKnob Tryz.prog.godebug = none := by kernel_rfl
theorem laidOut : laidOutB Tryz.prog = true := by kernel_rfl
def IsRow (k : IntKind) (w : World) (a : Option Addr) (len cap : Nat) (zs : List Int) : Prop :=
  (a = none ∧ len = 0 ∧ cap = 0 ∧ zs = []) ∨
  ∃ x, a = some x ∧ len ≤ cap ∧ cap ≤ maxLen ∧ zs.length = cap ∧ (∀ i, i < zs.length → w.cell? (x.add i) = some (.int k (zs.getD i 0))) ∧ ∀ n ∈ zs, (Lit.int k n).wf = true
set_option maxRecDepth 100000 in
theorem door_met (os : Os) (args : Array Value) : laidMetH Tryz.prog Rows.fnCodeSameRow.laid ((World.doorLaid Tryz.prog 400 os).forCall (fun _ _ => 0) ⟨#[], args, []⟩).memory :=
  laidMetH_of_parts3 (fuel := 8) (laidMet_of_run' 8 (by kernel_rfl) (by kernel_rfl)) (by kernel_rfl) (by kernel_rfl)
set_option maxRecDepth 100000 in
theorem lifted (os : Os) (started : os.Started) (H : Type) (enc : TypeId × Value → H) :
    ReturnsInHanded {} Tryz.checked os 3 .any (fun w args => (Rows.fnCodeSameSpec.pre enc Tryz.prog Tryz.f3 [] false w args ∧ laidMetH Tryz.prog Rows.fnCodeSameRow.laid w) ∧ sizedMet enc Tryz.prog Tryz.f3 (OpenSpec.ofChange Rows.fnCodeSameSpec) false w args) (Rows.fnCodeSameSpec.post enc Tryz.prog Tryz.f3 false true false false) := by
  refine returnsInHanded_of_change_and (C := Tryz.checked) (X := fun w _ => laidMetH Tryz.prog Rows.fnCodeSameRow.laid w) (fun _ _ _ hh h => h.of_heap hh) own started (by kernel_rfl) Tryz.func3
    (ChangeSpec.witness_shaped (enc := enc) (C := Tryz.checked) (os := os) (X := fun w _ => laidMetH Tryz.prog Rows.fnCodeSameRow.laid w) false (World.doorLaid Tryz.prog 400 os) #[.slice none 0 0] 8 rfl (World.shaped_of_RefB (by kernel_rfl) (by kernel_rfl)) (by kernel_rfl) (by kernel_rfl) (by kernel_rfl) (door_met os _)) ?_
  intro W base args ds gs before hval0 hW hcnd hsz0 hL _
  have hsz : (DataW.weightsEach Tryz.prog (Tryz.f3.params.toList ++ Rows.fnCodeSameSpec.plain.varTypes Tryz.prog) (ds ++ gs)).all (· ≤ reachBytes) = true := hsz0
  have hval : ∀ (j : Nat) t v, Tryz.f3.params[j]? = some t → args[j]? = some v → Value.okWide Tryz.prog W .any base t v := hval0
  have hW' := hW
  obtain ⟨p, q, hA0, hV, rfl, hfz, hnd⟩ := hW
  have hA : DataW.TrodAll enc Tryz.prog W 0 (fun _ => true) true Tryz.f3.params.toList args.toList ds p := hA0
  rw [Tryz.params3] at hA hval hsz
  obtain ⟨v0, vs0, d0, ds0, p0, q0, hargs, rfl, rfl, h0, r0⟩ := trodAll_cons hA
  obtain ⟨rfl, rfl, rfl⟩ := trodAll_nil r0
  obtain rfl : args = #[v0] := by cases args; simp_all
  have hV1 : DataW.TrodVars enc Tryz.prog W (fun _ => true) ["loop.example/stopgate/impl.errLong"] gs q := hV
  obtain ⟨gV, tV, csV, fuV, dV, pV, rfl, hgV, htV, hvarV, hdV, rfl⟩ := trodVars_one hV1
  obtain rfl : 0 = gV := Option.some.inj ((show Tryz.prog.globalNamed "loop.example/stopgate/impl.errLong" = some 0 by kernel_rfl).symm.trans hgV)
  obtain rfl : 72 = tV := Option.some.inj ((show (Tryz.prog.globals[0]?).map (·.type) = some 72 by kernel_rfl).symm.trans htV)
  obtain ⟨oldV, hcsV, hoV, hxV⟩ := held_of_trod_list Tryz.underlying72 hdV
  simp only [Prod.mk.injEq] at hxV
  obtain ⟨rfl, rfl⟩ := hxV
  obtain rfl : csV = #[oldV] := by cases csV; simp_all
  have hvars : ∀ (W' : World), Below W.heap.size W W' → ∀ sp : Nat → Bool, DataW.TrodVars enc Tryz.prog W' sp ["loop.example/stopgate/impl.errLong"] [tok enc oldV] (MemPlace.row ⟨0, 0, none⟩ (#[oldV] : Array Value).size ++ []) := fun W' bel sp => by
    refine trodVars_mk1 (enc := enc) (spare := sp) (fuel := 1) (d := tok enc oldV) (p := []) hgV htV ?_ (trod_held Tryz.underlying72 hoV 0)
    have hv := hvarV
    unfold World.var? at hv ⊢
    rw [hgV] at hv ⊢
    simp only [Option.bind_some] at hv ⊢
    cases hh : W.heap[0]? with
    | none => rw [hh] at hv; cases hv
    | some o => rw [blk_same hh bel, ← hh]; exact hv
  have k0 := h0
  have lt0 : ∀ x ∈ p0, x.block < W.heap.size := by obtain ⟨m, hm⟩ := k0; exact DataW.trod_lt m _ _ _ hm
  clear hA0 hval0 hsz0
  suffices hfin : Calls Tryz.prog 3 #[v0] W fun e w' => e = .returned (.bool true) ∧ Below W.heap.size W w' by
    refine hfin.mono fun e W' ⟨he, bel⟩ => ?_
    subst he
    exact ⟨_, rfl, _, _, _, [], _, _, hW', trodAll_mk1 (shut_bool Tryz.underlying4 _), (trodAll_cons_mk (Below.trod laidOut (by kernel_rfl) (of_decide_eq_true (by kernel_rfl)) k0 bel lt0) trodAll_mk0), hvars _ bel _, bel.frame _, fun h => by cases h⟩
  obtain ⟨a0, len0, cap0, rfl⟩ := okWide_slice Tryz.underlying22 (hval 0 22 v0 rfl rfl)
  have y0 : len0 * 1 ≤ 140737488351232 := Go.Proofs.YtjamfddhcigchaaGreatDoorW.PrintWords.sized_ints hsz (j := 0) (t := 22) rfl rfl Tryz.underlying22 Tryz.underlying5 (by kernel_rfl) (by kernel_rfl) h0
  obtain ⟨z0, w0⟩ : ∃ zs, IsRow .u8 W a0 len0 cap0 zs := by
    obtain ⟨fuel, hf⟩ := h0
    rcases open_ints Tryz.underlying22 Tryz.underlying5 (by kernel_rfl) hf with ⟨hcs, _⟩ | ⟨x, l, c, zs, hcs, _, hl, hm, hz, _, hcell, hwz⟩
    · simp [Value.cells] at hcs
      obtain ⟨rfl, rfl, rfl⟩ := hcs
      exact ⟨[], .inl ⟨rfl, rfl, rfl, rfl⟩⟩
    · simp [Value.cells] at hcs
      obtain ⟨rfl, rfl, rfl⟩ := hcs
      exact ⟨zs, .inr ⟨_, rfl, hl, hm, by simpa using hz, hcell, hwz⟩⟩
  have hL1 : laidMet Tryz.prog Rows.fnCodeSameRow.laid W := hL
  exact Cb.walkRow a0 len0 cap0 z0 W w0 (Cb.le_of (r := []) W hL1)
theorem over : Rows.fnCodeSameRow.holds Tryz.pinned (OpenSpec.ofChange Rows.fnCodeSameSpec) :=
  OpenClaim.holds_of_wide 3 Tryz.f3 rfl rfl rfl rfl rfl rfl rfl ⟨rfl, rfl, rfl, rfl, rfl⟩ rfl rfl rfl rfl rfl (by kernel_rfl) Tryz.func3 (by kernel_rfl)
    (of_decide_eq_true (by kernel_rfl)) (by unfold Func.isWrapper; first | (rw [if_pos (by decide +kernel)]; kernel_rfl) | (rw [if_neg (by decide +kernel)]; exact ⟨rfl, rfl⟩))
    (fun os started H enc _ => lifted os started H enc)
theorem card_holds : Rows.FnCodeSameCardSaid :=
  Claim7.holds_tied_plain_at .later [] [.sentinel] true (true, "8e2eed3da5832f03801593413d0d97074931c9fe972dc2260191ac3ee88f37b4") true
    over (fun _ h => by cases h) (by kernel_rfl) (fun _ h => by cases h) fnCodeSame_row_tie rfl ⟨rfl, rfl⟩ (by kernel_rfl) rfl
    (fun f fn hf hfn => by
      obtain rfl : f = 3 := Option.some.inj ((show Tryz.prog.funcNamed "loop.example/stopgate/laws.FnCodeSame" = some 3 by kernel_rfl).symm.trans hf) |>.symm
      obtain rfl : fn = Tryz.f3 := (Option.some.inj (Tryz.func3.symm.trans hfn)).symm
      exact ⟨by kernel_rfl, fun j t ht => by
        rw [Tryz.params3] at ht
        have hm : t ∈ [22] := by simpa using Array.mem_of_getElem? ht
        have hall : ([22].all fun u => !Tryz.prog.wantsStandIn u) = true := by kernel_rfl
        exact (show Tryz.prog.wantsStandIn t = false by simpa using List.all_eq_true.1 hall t hm)⟩)
    (by kernel_rfl)
end Go.Proofs.YtjamfddhcigchaaGreatDoor.fnCodeSame
namespace Go.Proofs.YtjamfddhcigchaaGreatDoor
theorem fnCodeSameCard_holds : Rows.FnCodeSameCardSaid := fnCodeSame.card_holds
#print axioms fnCodeSameCard_holds
end Go.Proofs.YtjamfddhcigchaaGreatDoor
