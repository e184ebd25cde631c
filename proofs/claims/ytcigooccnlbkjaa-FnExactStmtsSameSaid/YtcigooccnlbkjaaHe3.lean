/- Contracts of laws.toExpr and laws.toExprS, by depth. No condition beyond the bounds told. -/
import Derived.Test.YtcigooccnlbkjaaHe1
import Derived.WalkLawsBesides
import Derived.WalkSpells
import Derived.Deep.RegionHeld
import Derived.Deep.DeepCutAuto
import Derived.Deep.CutBlock
namespace Go.Proofs.Ytcigooccnlbkjaa.He3
open Go.RowKit Go.Proofs.Ytcigooccnlbkjaa.He1 Go.Proofs.Ytcigooccnlbkjaa.PFnExactStmtsSame Go.Proofs.YtcigooccnlbkjaaW.PrintWords Go.Proofs.YtcigooccnlbkjaaW.PrintLast Go.Proofs.YtcigooccnlbkjaaW.PrintMore
set_option linter.unusedVariables false
set_option linter.unusedSimpArgs false
attribute [local go_sem] max2_int min2_int max_two min_two
theorem info55 : (Try.prog.info? 55).map (fun i => (i.zero, i.size, i.bytes)) = some (some (.agg #[.int .i64 0, .int .i64 0, .int .i64 0, .int .i64 0, .slice none 0 0]), 5, 56) := by kernel_rfl
theorem size55 : (Try.prog.info? 55).map (·.size) = some 5 := by kernel_rfl
theorem cvE_eq (x : S49) : cvE x = ⟨x.f0, x.f1, ⟨x.f2.f0, x.f2.f1⟩, cvEs x.f3⟩ := by cases x; rw [cvE]
theorem z55_M (w : World) (b : Nat) (ok : Nat → Prop) : k55.M w b ok z55 [.int .i64 0, .int .i64 0, .int .i64 0, .int .i64 0, .slice none 0 0] := k55_mkM w b ok z55 (Kd.R_nil _ _ _ _ _)
def TE (n : Nat) : Prop := ∀ (x : S49) (A : Option Addr) (c : Nat) (w : World), dE x < n → okE x → x.f3.length ≤ c → Kd.C k49 w A x.f3.length x.f3 →
  Calls Try.prog 27 #[.agg #[.int .i64 x.f0, .int .i64 x.f1, .int .i64 x.f2.f0, .int .i64 x.f2.f1, .slice A x.f3.length c]] w fun e w' => ∃ v, e = .returned (.agg #[.int .i64 x.f0, .int .i64 x.f1, .int .i64 x.f2.f0, .int .i64 x.f2.f1, v]) ∧ Kd.R k55 55 w' w.heap.size (fun _ => True) v (cvEs x.f3) ∧ Below w.heap.size w w'
theorem take_set (l : List S49) (xs : List S55) (k : Nat) (h : k < l.length) (hx : xs.length = l.length) (ht : xs.take k = (cvEs l).take k) : (xs.set k (cvE l[k])).take (k + 1) = (cvEs l).take (k + 1) := by
  rw [cvEs_map] at ht ⊢
  rw [List.take_succ_eq_append_getElem (by simpa using (by omega : k < xs.length)), List.take_succ_eq_append_getElem (by simpa using h), List.take_set, List.set_eq_of_length_le (by simp; omega), ht]
  simp
set_option maxRecDepth 100000 in
set_option maxHeartbeats 3200000 in
theorem toES_of (n : Nat) (IH : TE n) (l : List S49) (A : Option Addr) (c : Nat) (w : World) (hd : dEs l < n) (ho : okEs l) (hlen : l.length ≤ 1048576) (hc : l.length ≤ c) (hC : Kd.C k49 w A l.length l) :
    Calls Try.prog 54 #[.slice A l.length c] w fun e w' => ∃ v, e = .returned v ∧ Kd.R k55 55 w' w.heap.size (fun _ => True) v (cvEs l) ∧ Below w.heap.size w w' := by
  have p0 : 0 ≤ (l.length : Int) := by omega
  have p1 : (l.length : Int).toNat * 56 ≤ 281474976710656 := by rw [Int.toNat_natCast]; omega
  have hd' := Aside0.mk hd
  have hlen' := Aside0.mk hlen
  clear hd hlen
  go_enter Try.func54, Try.ntmps54
  go_wp2_with (first | ((with_reducible refine gate_dst (N := 7) rfl ?_); refine Kd.R_make k55 _ 55 rfl (N := 7) rfl 53 _ _ rfl (l.length : Int) rfl rfl Try.underlying53 (.agg #[.int .i64 0, .int .i64 0, .int .i64 0, .int .i64 0, .slice none 0 0]) 56 info55 rfl (by decide) (by omega) z55 (ok := fun _ => True) (okp := fun _ => True) (z55_M _ _ _) (fun _ hk => hk) trivial p0 p1 (Below.refl _ _) (Nat.le_refl _) ?_; intro v1 w1 hR1 hb1 hg_ hnew_; clear hg_ hnew_))
  rw [Int.toNat_natCast] at hR1
  clear p0 p1
  go_loopw [4] (fun i wr => ∃ (k : Nat) (xs : List S55), k ≤ l.length ∧ i = .int .i64 k ∧ xs.length = l.length ∧ Aside0 (xs.take k = (cvEs l).take k) ∧ Aside0 (Kd.R k55 55 wr w.heap.size (fun _ => True) v1 xs) ∧ Below w.heap.size w wr) (fun i _ => l.length - (intOf i).toNat)
  case atStart => exact ⟨0, List.replicate l.length z55, by omega, rfl, by simp, ⟨by simp⟩, ⟨hR1⟩, hb1⟩
  case round =>
    clear hR1 hb1
    obtain ⟨k, xs, hk, rfl, hxl, ht, hR, hbw⟩ := hrel
    have hlen := hlen'.out
    by_cases hlt : k < l.length
    · obtain ⟨ad, A4, c4, hA, e0, e1, e2, e3, e4, hl4, hC4⟩ := at_T49 (Kd.C_below hC hbw) (k : Int) (by omega) (by omega)
      subst hA
      rw [Int.toNat_natCast] at e0 e1 e2 e3 e4
      rw [rd49 l k hlt] at e0 e1 e2 e3 e4 hl4 hC4
      have hcall := IH l[k] A4 c4 wr (Nat.lt_of_le_of_lt (dEs_mem l _ (List.getElem_mem hlt)) hd'.out) (okEs_mem l _ ho (List.getElem_mem hlt)) hl4 hC4
      have hts := Aside0.mk (take_set l xs k hlt hxl ht.out)
      have hcv := cvE_eq l[k]
      generalize cvE l[k] = y at hcv hts
      generalize l[k] = x at *
      have hcv' := Aside0.mk hcv
      clear hcv hC4 hC IH ht ho
      obtain ⟨go, co, ev, gb, gl, _⟩ := Kd.R_form hR.out (by omega)
      subst ev
      have d2 : decide ((k : Int) < (l.length : Int)) = true := by simp; omega
      have d4 : decide ((k : Int) < (xs.length : Int)) = true := by simp; omega
      have hx' := Aside0.mk hxl
      have gb' := Aside0.mk gb
      have gl' := Aside0.mk gl
      have hlt' := Aside0.mk hlt
      have hk' := Aside0.mk hk
      have hu49 := Try.underlying49
      have hu46 := Try.underlying46
      clear hxl gb gl
      have kk : (k : Int) < (xs.length : Int) := by have := hx'.out; omega
      go_wp2_with fail
      refine hcall.mono ?_
      rintro e w2 ⟨v, rfl, hV, hb2⟩
      clear hcall
      have hR2 := Kd.R_below hR.out hb2
      have hB2 := hbw.trans (hb2.mono hbw.size)
      obtain ⟨ce, hcl, hM0, hcc, hfr⟩ := Kd.R_elem hR2 z55 (k : Int) (by omega) (by have := hx'.out; omega)
      have hN : Kd.R k55 55 w2 w.heap.size (fun k => True ∧ k ≠ go) v (cvEs x.f3) := Kd.R_lower (Kd.R_mono (Kd.R_newR hV hR.out) (fun k hk => ⟨trivial, fun e => hk.2 (by rw [e]; rfl)⟩)) hbw.size
      have hM : k55.M w2 w.heap.size (fun k => True ∧ k ≠ go) y (ce.take 0 ++ [.int .i64 x.f0, .int .i64 x.f1, .int .i64 x.f2.f0, .int .i64 x.f2.f1, v] ++ ce.drop (0 + 5)) := by
        have e5 : ce.drop (0 + 5) = [] := List.drop_of_length_le (by rw [hcl]; exact Nat.le_refl _)
        rw [e5, hcv'.out]
        exact k55_mkM w2 _ _ ⟨x.f0, x.f1, ⟨x.f2.f0, x.f2.f1⟩, cvEs x.f3⟩ hN
      have h1 := Aside0.mk (k55.K_one (k55.K_of_M (k55_mkM w2 _ _ (⟨x.f0, x.f1, ⟨x.f2.f0, x.f2.f1⟩, cvEs x.f3⟩ : S55) hN)))
      have hst := Aside0.mk (And.intro hR2 (And.intro hcl (And.intro hcc (And.intro hM hB2))))
      clear hV hb2 hR2 hcl hM0 hcc hfr hN hM hB2 e0 e1 e2 e3 e4 hl4 hR hbw
      go_wp2_with (first | ((with_reducible refine gate_store (t := 55) (p := 21) rfl ?_); refine Kd.R_store k55 w.heap.size rfl rfl 55 (.tmp 21) (.tmp 20) rfl 55 (g := go) (n := xs.length) (cap := co) (k : Int) 0 xs y (.agg #[.int .i64 x.f0, .int .i64 x.f1, .int .i64 x.f2.f0, .int .i64 x.f2.f1, v]) [.int .i64 x.f0, .int .i64 x.f1, .int .i64 x.f2.f0, .int .i64 x.f2.f1, v] ce (fun _ => True) (fun k => True ∧ k ≠ go) rfl (by rw [Int.toNat_natCast]; rfl) rfl rfl size55 h1.out hst.out.1 (by omega) kk hst.out.2.1 hst.out.2.2.1 (Nat.le_refl _) hst.out.2.2.2.1 (fun _ h => h) hst.out.2.2.2.2 ?_; intro w3 hR3 hB3 hg3; rw [Int.toNat_natCast] at hR3; clear hst h1 hg3))
      have hk2 := hk'.out
      have hlt2 := hlt'.out
      have hR3' := Aside0.mk hR3
      clear hR3
      go_roundw
      case rel => exact ⟨k + 1, xs.set k y, by omega, by go_num, by rw [List.length_set]; exact hx'.out, hts, hR3', hB3⟩
      case measure => simp [intOf]; omega
    · have hkn : k = l.length := by omega
      subst hkn
      have d2 : decide ((l.length : Int) < (l.length : Int)) = false := by simp
      have e := ht.out
      rw [List.take_of_length_le (by omega), List.take_of_length_le (by rw [cvEs_len]; exact Nat.le_refl _)] at e
      subst e
      clear ht hC IH
      go_wp2
      go_ret
      exact ⟨_, rfl, hR.out, hbw⟩
structure Tr (w : World) (g1 g2 g3 : Nat) (X Z O : Array Value) (W : World) : Prop where
  h1 : W.heap[g1]? = some (.cells X 49 (0, 0))
  h2 : W.heap[g2]? = some (.cells Z 55 (0, 0))
  h3 : W.heap[g3]? = some (.cells O 55 (0, 0))
  n12 : g1 ≠ g2
  n13 : g1 ≠ g3
  n23 : g2 ≠ g3
  b1 : w.heap.size ≤ g1
  b2 : w.heap.size ≤ g2
  b3 : w.heap.size ≤ g3
  bel : Below w.heap.size w W
theorem Tr.below {w W W' : World} {g1 g2 g3 : Nat} {X Z O : Array Value} (h : Tr w g1 g2 g3 X Z O W) (k : Below W.heap.size W W') : Tr w g1 g2 g3 X Z O W' := ⟨blk_below h.h1 k, blk_below h.h2 k, blk_below h.h3 k, h.n12, h.n13, h.n23, h.b1, h.b2, h.b3, h.bel.trans (k.mono h.bel.size)⟩
theorem Tr.put {w W : World} {g1 g2 g3 : Nat} {X Z O O' : Array Value} (h : Tr w g1 g2 g3 X Z O W) (i : Nat) (u : Value) (e : O.setIfInBounds i u = O') : Tr w g1 g2 g3 X Z O' (W.setCell ⟨g3, i, none⟩ u) := ⟨blk_far h.h1 h.n13 u, blk_far h.h2 h.n23 u, blk_put h.h3 i u e, h.n12, h.n13, h.n23, h.b1, h.b2, h.b3, below_set h.bel h.b3⟩
theorem Tr.put2 {w W : World} {g1 g2 g3 : Nat} {X Z O Z' : Array Value} (h : Tr w g1 g2 g3 X Z O W) (i : Nat) (u : Value) (e : Z.setIfInBounds i u = Z') : Tr w g1 g2 g3 X Z' O (W.setCell ⟨g2, i, none⟩ u) := ⟨blk_far h.h1 h.n12 u, blk_put h.h2 i u e, blk_far h.h3 (Ne.symm h.n23) u, h.n12, h.n13, h.n23, h.b1, h.b2, h.b3, below_set h.bel h.b2⟩
set_option maxRecDepth 100000 in
set_option maxHeartbeats 3200000 in
theorem te_succ (n : Nat) (IH : TE n) : TE (n + 1) := by
  intro x A c w hd ho hc hC
  obtain ⟨ho1, ho2⟩ := (okE_eq x).1 ho
  have hx := dE_eq x
  have hcall := fun W (h : Below w.heap.size w W) => toES_of n IH x.f3 A c W (by omega) ho2 ho1 hc (Kd.C_below hC h)
  generalize cvEs x.f3 = ys at hcall ⊢
  clear hx hd ho ho1 ho2 hC IH
  have hu49 := Try.underlying49
  have hu46 := Try.underlying46
  have hu55 := Try.underlying55
  have hu52 := Try.underlying52
  go_enter Try.func27, Try.ntmps27
  go_upto_region 2 with (fail)
  have hT : Tr w w.heap.size (w.heap.size + 1) (w.heap.size + 1 + 1) #[.int .i64 x.f0, .int .i64 x.f1, .int .i64 x.f2.f0, .int .i64 x.f2.f1, .slice A x.f3.length c] #[.int .i64 0, .int .i64 0, .int .i64 0, .int .i64 0, .slice none 0 0] #[.int .i64 0, .int .i64 0, .int .i64 0, .int .i64 0, .slice none 0 0] (((w.alloc (.cells #[.int .i64 x.f0, .int .i64 x.f1, .int .i64 x.f2.f0, .int .i64 x.f2.f1, .slice A x.f3.length c] 49)).alloc (.cells #[.int .i64 0, .int .i64 0, .int .i64 0, .int .i64 0, .slice none 0 0] 55)).alloc (.cells #[.int .i64 0, .int .i64 0, .int .i64 0, .int .i64 0, .slice none 0 0] 55)) := by
    have e1 : (w.alloc (.cells #[.int .i64 x.f0, .int .i64 x.f1, .int .i64 x.f2.f0, .int .i64 x.f2.f1, .slice A x.f3.length c] 49)).heap.size = w.heap.size + 1 := Array.size_push ..
    have e2 : ((w.alloc (.cells #[.int .i64 x.f0, .int .i64 x.f1, .int .i64 x.f2.f0, .int .i64 x.f2.f1, .slice A x.f3.length c] 49)).alloc (.cells #[.int .i64 0, .int .i64 0, .int .i64 0, .int .i64 0, .slice none 0 0] 55)).heap.size = w.heap.size + 1 + 1 := (Array.size_push ..).trans (congrArg (· + 1) e1)
    refine ⟨blk_alloc (blk_alloc (heap_alloc_new _ _) _) _, ?_, ?_, by omega, by omega, by omega, by omega, by omega, by omega, (((Below.refl _ _).alloc (Nat.le_refl _) _).alloc (by rw [e1]; omega) _).alloc (by rw [e2]; omega) _⟩
    · have h := heap_alloc_new (w.alloc (.cells #[.int .i64 x.f0, .int .i64 x.f1, .int .i64 x.f2.f0, .int .i64 x.f2.f1, .slice A x.f3.length c] 49)) (.cells #[.int .i64 0, .int .i64 0, .int .i64 0, .int .i64 0, .slice none 0 0] 55)
      rw [e1] at h
      exact blk_alloc h _
    · have h := heap_alloc_new ((w.alloc (.cells #[.int .i64 x.f0, .int .i64 x.f1, .int .i64 x.f2.f0, .int .i64 x.f2.f1, .slice A x.f3.length c] 49)).alloc (.cells #[.int .i64 0, .int .i64 0, .int .i64 0, .int .i64 0, .slice none 0 0] 55)) (.cells #[.int .i64 0, .int .i64 0, .int .i64 0, .int .i64 0, .slice none 0 0] 55)
      rw [e2] at h
      exact h
  generalize ((w.alloc (Obj.cells _ 49)).alloc (Obj.cells _ 55)).alloc (Obj.cells _ 55) = w2 at hT ⊢
  obtain ⟨g1, hg1⟩ : ∃ g, w.heap.size = g := ⟨_, rfl⟩
  obtain ⟨g2, hg2⟩ : ∃ g, g1 + 1 = g := ⟨_, rfl⟩
  obtain ⟨g3, hg3⟩ : ∃ g, g2 + 1 = g := ⟨_, rfl⟩
  rw [hg1, hg2, hg3] at hT ⊢
  have hG := Aside0.mk hg1
  clear hg1 hg2 hg3
  have i1 : w2.cell? ⟨g1, 0, none⟩ = some (.int .i64 x.f0) := (blk_cell hT.h1 0).trans rfl
  have i2 : w2.cell? ⟨g3, 0, none⟩ = some (.int .i64 0) := (blk_cell hT.h3 0).trans rfl
  have i3 : w2.frozen? ⟨g3, 0, none⟩ = false := blk_frozen hT.h3 0
  go_upto_region 3 with (fail)
  have hT2 := hT.put 0 (.int .i64 x.f0) (O' := #[.int .i64 x.f0, .int .i64 0, .int .i64 0, .int .i64 0, .slice none 0 0]) rfl
  clear i1 i2 i3 hT
  generalize w2.setCell _ _ = w3 at hT2 ⊢
  have hT := hT2
  clear hT2
  have i1 : w3.cell? ⟨g1, 1, none⟩ = some (.int .i64 x.f1) := (blk_cell hT.h1 1).trans rfl
  have i2 : w3.cell? ⟨g3, 1, none⟩ = some (.int .i64 0) := (blk_cell hT.h3 1).trans rfl
  have i3 : w3.frozen? ⟨g3, 1, none⟩ = false := blk_frozen hT.h3 1
  go_upto_region 4 with (fail)
  have hT2 := hT.put 1 (.int .i64 x.f1) (O' := #[.int .i64 x.f0, .int .i64 x.f1, .int .i64 0, .int .i64 0, .slice none 0 0]) rfl
  clear i1 i2 i3 hT
  generalize w3.setCell _ _ = w4 at hT2 ⊢
  have hT := hT2
  clear hT2
  have i1 : w4.cell? ⟨g1, 2, none⟩ = some (.int .i64 x.f2.f0) := (blk_cell hT.h1 2).trans rfl
  have i2 : w4.cell? ⟨g1, 3, none⟩ = some (.int .i64 x.f2.f1) := (blk_cell hT.h1 3).trans rfl
  have ca := fun W => laws_toAddr.calls x.f2.f0 x.f2.f1 x.f2.f0 x.f2.f1 W rfl
  go_wp2_with fail
  refine (ca _).mono ?_
  rintro e w5 ⟨rfl, hb⟩
  have hT2 := hT.below hb
  clear hT hb i1 i2 ca
  have i1 : w5.cell? ⟨g3, 2, none⟩ = some (.int .i64 0) := (blk_cell hT2.h3 2).trans rfl
  have i2 : w5.cell? ⟨g3, 3, none⟩ = some (.int .i64 0) := (blk_cell hT2.h3 3).trans rfl
  have i3 : w5.frozen? ⟨g3, 2, none⟩ = false := blk_frozen hT2.h3 2
  have i4 : w5.frozen? ⟨g3, 3, none⟩ = false := blk_frozen hT2.h3 3
  go_upto_region 5 with (fail)
  have hT := (hT2.put 2 (.int .i64 x.f2.f0) (O' := #[.int .i64 x.f0, .int .i64 x.f1, .int .i64 x.f2.f0, .int .i64 0, .slice none 0 0]) rfl).put 3 (.int .i64 x.f2.f1) (O' := #[.int .i64 x.f0, .int .i64 x.f1, .int .i64 x.f2.f0, .int .i64 x.f2.f1, .slice none 0 0]) rfl
  clear hT2 i1 i2 i3 i4
  generalize (w5.setCell _ _).setCell _ _ = w6 at hT ⊢
  have i1 : w6.cell? ⟨g1, 4, none⟩ = some (.slice A x.f3.length c) := (blk_cell hT.h1 4).trans rfl
  have hB6 := hT.bel
  go_wp2_with fail
  refine (hcall _ hB6).mono ?_
  rintro e w7 ⟨v, rfl, hV, hb⟩
  have hT2 := hT.below hb
  have hV2 : Kd.R k55 55 w7 w6.heap.size (fun k => k ≠ g3 ∧ k ≠ g2) v ys := Kd.R_mono (Kd.R_bound hV) (fun k hk => ⟨by have h1 := hk.2.1; have h2 := blk_lt hT.h3; omega, by have h1 := hk.2.1; have h2 := blk_lt hT.h2; omega⟩)
  obtain ⟨VA, vc, rfl⟩ := Kd.R_slice hV
  clear hV hb i1 hcall
  have i1 : w7.cell? ⟨g3, 4, none⟩ = some (.slice none 0 0) := (blk_cell hT2.h3 4).trans rfl
  have i3 : w7.frozen? ⟨g3, 4, none⟩ = false := blk_frozen hT2.h3 4
  go_upto_region 6 with (fail)
  have hT3 := hT2.put 4 (.slice VA ys.length vc) (O' := #[.int .i64 x.f0, .int .i64 x.f1, .int .i64 x.f2.f0, .int .i64 x.f2.f1, .slice VA ys.length vc]) rfl
  have hV3 := Kd.R_far (p := ⟨g3, 4, none⟩) hV2 (fun k hk => hk.1) (.slice VA ys.length vc)
  clear hT2 hV2 i1 i3
  generalize w7.setCell _ _ = w8 at hT3 hV3 ⊢

  have i0 : w8.cell? ⟨g3, 0, none⟩ = some (.int .i64 x.f0) := (blk_cell hT3.h3 0).trans rfl
  have j0 : w8.cell? ⟨g2, 0, none⟩ = some (.int .i64 0) := (blk_cell hT3.h2 0).trans rfl
  have k0 : w8.frozen? ⟨g2, 0, none⟩ = false := blk_frozen hT3.h2 0
  have i1 : w8.cell? ⟨g3, 1, none⟩ = some (.int .i64 x.f1) := (blk_cell hT3.h3 1).trans rfl
  have j1 : w8.cell? ⟨g2, 1, none⟩ = some (.int .i64 0) := (blk_cell hT3.h2 1).trans rfl
  have k1 : w8.frozen? ⟨g2, 1, none⟩ = false := blk_frozen hT3.h2 1
  have i2 : w8.cell? ⟨g3, 2, none⟩ = some (.int .i64 x.f2.f0) := (blk_cell hT3.h3 2).trans rfl
  have j2 : w8.cell? ⟨g2, 2, none⟩ = some (.int .i64 0) := (blk_cell hT3.h2 2).trans rfl
  have k2 : w8.frozen? ⟨g2, 2, none⟩ = false := blk_frozen hT3.h2 2
  have i3 : w8.cell? ⟨g3, 3, none⟩ = some (.int .i64 x.f2.f1) := (blk_cell hT3.h3 3).trans rfl
  have j3 : w8.cell? ⟨g2, 3, none⟩ = some (.int .i64 0) := (blk_cell hT3.h2 3).trans rfl
  have k3 : w8.frozen? ⟨g2, 3, none⟩ = false := blk_frozen hT3.h2 3
  have i4 : w8.cell? ⟨g3, 4, none⟩ = some (.slice VA ys.length vc) := (blk_cell hT3.h3 4).trans rfl
  have j4 : w8.cell? ⟨g2, 4, none⟩ = some (.slice none 0 0) := (blk_cell hT3.h2 4).trans rfl
  have k4 : w8.frozen? ⟨g2, 4, none⟩ = false := blk_frozen hT3.h2 4
  have hT4 := (((((hT3.put2 0 (.int .i64 x.f0) (Z' := #[.int .i64 x.f0, .int .i64 0, .int .i64 0, .int .i64 0, .slice none 0 0]) rfl).put2 1 (.int .i64 x.f1) (Z' := #[.int .i64 x.f0, .int .i64 x.f1, .int .i64 0, .int .i64 0, .slice none 0 0]) rfl).put2 2 (.int .i64 x.f2.f0) (Z' := #[.int .i64 x.f0, .int .i64 x.f1, .int .i64 x.f2.f0, .int .i64 0, .slice none 0 0]) rfl).put2 3 (.int .i64 x.f2.f1) (Z' := #[.int .i64 x.f0, .int .i64 x.f1, .int .i64 x.f2.f0, .int .i64 x.f2.f1, .slice none 0 0]) rfl).put2 4 (.slice VA ys.length vc) (Z' := #[.int .i64 x.f0, .int .i64 x.f1, .int .i64 x.f2.f0, .int .i64 x.f2.f1, .slice VA ys.length vc]) rfl)
  have hV4 := (Kd.R_far (p := ⟨g2, 4, none⟩) (Kd.R_far (p := ⟨g2, 3, none⟩) (Kd.R_far (p := ⟨g2, 2, none⟩) (Kd.R_far (p := ⟨g2, 1, none⟩) (Kd.R_far (p := ⟨g2, 0, none⟩) hV3 (fun k hk => hk.2) (.int .i64 x.f0)) (fun k hk => hk.2) (.int .i64 x.f1)) (fun k hk => hk.2) (.int .i64 x.f2.f0)) (fun k hk => hk.2) (.int .i64 x.f2.f1)) (fun k hk => hk.2) (.slice VA ys.length vc))
  have hbs := hT.bel.size
  clear hT3 hV3
  go_wp2
  refine bodyPost_ret (results_cell_row rfl _ _ g2 55 #[.int .i64 x.f0, .int .i64 x.f1, .int .i64 x.f2.f0, .int .i64 x.f2.f1, .slice VA ys.length vc] (0, 0) _ rfl hT4.h2 Try.underlying55 rfl (by kernel_rfl)) rfl ⟨_, rfl, ?_, ?_⟩
  · exact Kd.R_mono (Kd.R_lower hV4 hbs) (fun _ _ => trivial)
  · exact hT4.bel
theorem te_all : ∀ n, TE n
  | 0 => fun x A c w h => absurd h (by omega)
  | n + 1 => te_succ n (te_all n)
end Go.Proofs.Ytcigooccnlbkjaa.He3
