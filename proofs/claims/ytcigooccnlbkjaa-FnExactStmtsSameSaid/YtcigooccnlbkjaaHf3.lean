/- Contracts of laws.toStmt and laws.toStmtS, by depth. No condition beyond the bounds told. -/
import Derived.Test.YtcigooccnlbkjaaHf1
import Derived.Test.YtcigooccnlbkjaaHe3
import Derived.WalkLawsBesides
import Derived.WalkSpells
import Derived.Deep.RegionHeld
import Derived.Deep.DeepCutAuto
import Derived.Deep.CutBlock
namespace Go.Proofs.Ytcigooccnlbkjaa.Hf3
open Go.RowKit Go.Proofs.Ytcigooccnlbkjaa.He1 Go.Proofs.Ytcigooccnlbkjaa.He3 Go.Proofs.Ytcigooccnlbkjaa.He4 Go.Proofs.Ytcigooccnlbkjaa.Hf1 Go.Proofs.Ytcigooccnlbkjaa.PFnExactStmtsSame Go.Proofs.YtcigooccnlbkjaaW.PrintWords Go.Proofs.YtcigooccnlbkjaaW.PrintLast Go.Proofs.YtcigooccnlbkjaaW.PrintMore
set_option linter.unusedVariables false
set_option linter.unusedSimpArgs false
attribute [local go_sem] max2_int min2_int max_two min_two

theorem info109 : (Try.prog.info? 109).map (fun i => (i.zero, i.size, i.bytes)) = some (some (.agg #[.int .i64 0, .int .i64 0, .int .i64 0, .int .i64 0, .int .i64 0, .int .i64 0, .int .i64 0, .slice none 0 0, .slice none 0 0, .slice none 0 0]), 10, 128) := by kernel_rfl
theorem size109 : (Try.prog.info? 109).map (·.size) = some 10 := by kernel_rfl
theorem z109_M (w : World) (b : Nat) (ok : Nat → Prop) : k109.M w b ok z109 [.int .i64 0, .int .i64 0, .int .i64 0, .int .i64 0, .int .i64 0, .int .i64 0, .int .i64 0, .slice none 0 0, .slice none 0 0, .slice none 0 0] := k109_mkM w b ok z109 (Kd.R_nil _ _ _ _ _) (Kd.R_nil _ _ _ _ _) (Kd.R_nil _ _ _ _ _)
theorem cvS_eq2 (x : S107) : cvS x = (⟨x.f0, ⟨x.f1.f0, x.f1.f1⟩, ⟨x.f2.f0, x.f2.f1, ⟨x.f2.f2.f0, x.f2.f2.f1⟩, cvEs x.f2.f3⟩, cvSs x.f3, cvSs x.f4⟩ : S109) := by rw [cvS_eq, cvE_eq]
def TS (n : Nat) : Prop := ∀ (x : S107) (A : Option Addr) (B : Option Addr) (C : Option Addr) (a1 : Nat) (b1 : Nat) (c1 : Nat) (w : World), dS x < n → okS x → x.f2.f3.length ≤ a1 → x.f3.length ≤ b1 → x.f4.length ≤ c1 → Kd.C k49 w A x.f2.f3.length x.f2.f3 → Kd.C k107 w B x.f3.length x.f3 → Kd.C k107 w C x.f4.length x.f4 →
  Calls Try.prog 59 #[.agg #[.int .i64 x.f0, .int .i64 x.f1.f0, .int .i64 x.f1.f1, .int .i64 x.f2.f0, .int .i64 x.f2.f1, .int .i64 x.f2.f2.f0, .int .i64 x.f2.f2.f1, .slice A x.f2.f3.length a1, .slice B x.f3.length b1, .slice C x.f4.length c1]] w fun e w' => ∃ v1 v2 v3, e = .returned (.agg #[.int .i64 x.f0, .int .i64 x.f1.f0, .int .i64 x.f1.f1, .int .i64 x.f2.f0, .int .i64 x.f2.f1, .int .i64 x.f2.f2.f0, .int .i64 x.f2.f2.f1, v1, v2, v3]) ∧ Kd.R k55 55 w' w.heap.size (fun _ => True) v1 (cvEs x.f2.f3) ∧ Kd.R k109 109 w' w.heap.size (fun _ => True) v2 (cvSs x.f3) ∧ Kd.R k109 109 w' w.heap.size (fun _ => True) v3 (cvSs x.f4) ∧ Below w.heap.size w w'
theorem take_setS (l : List S107) (xs : List S109) (k : Nat) (h : k < l.length) (hx : xs.length = l.length) (ht : xs.take k = (cvSs l).take k) : (xs.set k (cvS l[k])).take (k + 1) = (cvSs l).take (k + 1) := by
  rw [cvSs_map] at ht ⊢
  rw [List.take_succ_eq_append_getElem (by simpa using (by omega : k < xs.length)), List.take_succ_eq_append_getElem (by simpa using h), List.take_set, List.set_eq_of_length_le (by simp; omega), ht]
  simp
set_option maxRecDepth 100000 in
set_option maxHeartbeats 3200000 in
theorem toSs_of (n : Nat) (IH : TS n) (l : List S107) (A : Option Addr) (c : Nat) (w : World) (hd : dSs l < n) (ho : okSs l) (hlen : l.length ≤ 1048576) (hc : l.length ≤ c) (hC : Kd.C k107 w A l.length l) :
    Calls Try.prog 32 #[.slice A l.length c] w fun e w' => ∃ v, e = .returned v ∧ Kd.R k109 109 w' w.heap.size (fun _ => True) v (cvSs l) ∧ Below w.heap.size w w' := by
  have p0 : 0 ≤ (l.length : Int) := by omega
  have p1 : (l.length : Int).toNat * 128 ≤ 281474976710656 := by rw [Int.toNat_natCast]; omega
  have hd' := Aside0.mk hd
  have hlen' := Aside0.mk hlen
  clear hd hlen
  go_enter Try.func32, Try.ntmps32
  go_wp2_with (first | ((with_reducible refine gate_dst (N := 7) rfl ?_); refine Kd.R_make k109 _ 109 rfl (N := 7) rfl 61 _ _ rfl (l.length : Int) rfl rfl Try.underlying61 (.agg #[.int .i64 0, .int .i64 0, .int .i64 0, .int .i64 0, .int .i64 0, .int .i64 0, .int .i64 0, .slice none 0 0, .slice none 0 0, .slice none 0 0]) 128 info109 rfl (by decide) (by omega) z109 (ok := fun _ => True) (okp := fun _ => True) (z109_M _ _ _) (fun _ hk => hk) trivial p0 p1 (Below.refl _ _) (Nat.le_refl _) ?_; intro v1 w1 hR1 hb1 hg_ hnew_; clear hg_ hnew_))
  rw [Int.toNat_natCast] at hR1
  clear p0 p1
  go_loopw [4] (fun i wr => ∃ (k : Nat) (xs : List S109), k ≤ l.length ∧ i = .int .i64 k ∧ xs.length = l.length ∧ Aside0 (xs.take k = (cvSs l).take k) ∧ Aside0 (Kd.R k109 109 wr w.heap.size (fun _ => True) v1 xs) ∧ Below w.heap.size w wr) (fun i _ => l.length - (intOf i).toNat)
  case atStart => exact ⟨0, List.replicate l.length z109, by omega, rfl, by simp, ⟨by simp⟩, ⟨hR1⟩, hb1⟩
  case round =>
    clear hR1 hb1
    obtain ⟨k, xs, hk, rfl, hxl, ht, hR, hbw⟩ := hrel
    have hlen := hlen'.out
    by_cases hlt : k < l.length
    · obtain ⟨ad, A7, c7, A8, c8, A9, c9, hA, e0, e1, e2, e3, e4, e5, e6, e7, e8, e9, l7, r7, l8, r8, l9, r9⟩ := at_T107 (Kd.C_below hC hbw) (k : Int) (by omega) (by omega)
      subst hA
      rw [Int.toNat_natCast] at e0 e1 e2 e3 e4 e5 e6 e7 e8 e9
      rw [rd107 l k hlt] at e0 e1 e2 e3 e4 e5 e6 e7 e8 e9 l7 r7 l8 r8 l9 r9
      have hcall := IH l[k] A7 A8 A9 c7 c8 c9 wr (Nat.lt_of_le_of_lt (dSs_mem l _ (List.getElem_mem hlt)) hd'.out) (okSs_mem l _ ho (List.getElem_mem hlt)) l7 l8 l9 r7 r8 r9
      have hts := Aside0.mk (take_setS l xs k hlt hxl ht.out)
      have hcv := cvS_eq2 l[k]
      generalize cvS l[k] = y at hcv hts
      generalize l[k] = x at *
      have hcv' := Aside0.mk hcv
      clear hcv r7 r8 r9 hC IH ht ho
      obtain ⟨go, co, ev, gb, gl_, _⟩ := Kd.R_form hR.out (by omega)
      subst ev
      have d2 : decide ((k : Int) < (l.length : Int)) = true := by simp; omega
      have d4 : decide ((k : Int) < (xs.length : Int)) = true := by simp; omega
      have hx' := Aside0.mk hxl
      have hlt' := Aside0.mk hlt
      have hk' := Aside0.mk hk
      have hu107 := Try.underlying107
      have hu49 := Try.underlying49
      have hu46 := Try.underlying46
      clear hxl gb gl_
      have kk : (k : Int) < (xs.length : Int) := by have := hx'.out; omega
      go_wp2_with fail
      refine hcall.mono ?_
      rintro e w2 ⟨v1, v2, v3, rfl, hV1, hV2, hV3, hb2⟩
      clear hcall
      have hR2 := Kd.R_below hR.out hb2
      have hB2 := hbw.trans (hb2.mono hbw.size)
      obtain ⟨ce, hcl, hM0, hcc, hfr⟩ := Kd.R_elem hR2 z109 (k : Int) (by omega) (by have := hx'.out; omega)
      have hN1 : Kd.R k55 55 w2 w.heap.size (fun k => True ∧ k ≠ go) v1 (cvEs x.f2.f3) := Kd.R_lower (Kd.R_mono (Kd.R_newR hV1 hR.out) (fun k hk => ⟨trivial, fun e => hk.2 (by rw [e]; rfl)⟩)) hbw.size
      have hN2 : Kd.R k109 109 w2 w.heap.size (fun k => True ∧ k ≠ go) v2 (cvSs x.f3) := Kd.R_lower (Kd.R_mono (Kd.R_newR hV2 hR.out) (fun k hk => ⟨trivial, fun e => hk.2 (by rw [e]; rfl)⟩)) hbw.size
      have hN3 : Kd.R k109 109 w2 w.heap.size (fun k => True ∧ k ≠ go) v3 (cvSs x.f4) := Kd.R_lower (Kd.R_mono (Kd.R_newR hV3 hR.out) (fun k hk => ⟨trivial, fun e => hk.2 (by rw [e]; rfl)⟩)) hbw.size
      have hM : k109.M w2 w.heap.size (fun k => True ∧ k ≠ go) y (ce.take 0 ++ [.int .i64 x.f0, .int .i64 x.f1.f0, .int .i64 x.f1.f1, .int .i64 x.f2.f0, .int .i64 x.f2.f1, .int .i64 x.f2.f2.f0, .int .i64 x.f2.f2.f1, v1, v2, v3] ++ ce.drop (0 + 10)) := by
        have e5 : ce.drop (0 + 10) = [] := List.drop_of_length_le (by rw [hcl]; exact Nat.le_refl _)
        rw [e5, hcv'.out]
        exact k109_mkM w2 _ _ (⟨x.f0, ⟨x.f1.f0, x.f1.f1⟩, ⟨x.f2.f0, x.f2.f1, ⟨x.f2.f2.f0, x.f2.f2.f1⟩, cvEs x.f2.f3⟩, cvSs x.f3, cvSs x.f4⟩ : S109) hN1 hN2 hN3
      have h1 := Aside0.mk (k109.K_one (k109.K_of_M (k109_mkM w2 _ _ (⟨x.f0, ⟨x.f1.f0, x.f1.f1⟩, ⟨x.f2.f0, x.f2.f1, ⟨x.f2.f2.f0, x.f2.f2.f1⟩, cvEs x.f2.f3⟩, cvSs x.f3, cvSs x.f4⟩ : S109) hN1 hN2 hN3)))
      have hst := Aside0.mk (And.intro hR2 (And.intro hcl (And.intro hcc (And.intro hM hB2))))
      clear hV1 hV2 hV3 hb2 hR2 hcl hM0 hcc hfr hN1 hN2 hN3 hM hB2 e0 e1 e2 e3 e4 e5 e6 e7 e8 e9 l7 l8 l9 hR hbw
      go_wp2_with (first | ((with_reducible refine gate_store (t := 109) (p := 21) rfl ?_); refine Kd.R_store k109 w.heap.size rfl rfl 109 (.tmp 21) (.tmp 20) rfl 109 (g := go) (n := xs.length) (cap := co) (k : Int) 0 xs y (.agg #[.int .i64 x.f0, .int .i64 x.f1.f0, .int .i64 x.f1.f1, .int .i64 x.f2.f0, .int .i64 x.f2.f1, .int .i64 x.f2.f2.f0, .int .i64 x.f2.f2.f1, v1, v2, v3]) [.int .i64 x.f0, .int .i64 x.f1.f0, .int .i64 x.f1.f1, .int .i64 x.f2.f0, .int .i64 x.f2.f1, .int .i64 x.f2.f2.f0, .int .i64 x.f2.f2.f1, v1, v2, v3] ce (fun _ => True) (fun k => True ∧ k ≠ go) rfl (by rw [Int.toNat_natCast]; rfl) rfl rfl size109 h1.out hst.out.1 (by omega) kk hst.out.2.1 hst.out.2.2.1 (Nat.le_refl _) hst.out.2.2.2.1 (fun _ h => h) hst.out.2.2.2.2 ?_; intro w3 hR3 hB3 hg3; rw [Int.toNat_natCast] at hR3; clear hst h1 hg3))
      have hk2 := hk'.out
      have hlt2 := hlt'.out
      have hR3' := Aside0.mk hR3
      clear hR3
      go_roundw
      case rel => exact ⟨k + 1, xs.set k y, by omega, by go_num, by rw [List.length_set]; exact hx'.out, hts, hR3', hB3⟩
      case measure => simp [intOf]; omega
    · have hkn : k = l.length := by omega
      subst hkn
      have d2 : decide ((l.length : Int) < (l.length : Int)) = false := by simp
      have e := ht.out
      rw [List.take_of_length_le (by omega), List.take_of_length_le (by rw [cvSs_len]; exact Nat.le_refl _)] at e
      subst e
      clear ht hC IH
      go_wp2
      go_ret
      exact ⟨_, rfl, hR.out, hbw⟩
structure Tr (w : World) (g1 g2 g3 : Nat) (X Z O : Array Value) (W : World) : Prop where
  h1 : W.heap[g1]? = some (.cells X 107 (0, 0))
  h2 : W.heap[g2]? = some (.cells Z 109 (0, 0))
  h3 : W.heap[g3]? = some (.cells O 109 (0, 0))
  n12 : g1 ≠ g2
  n13 : g1 ≠ g3
  n23 : g2 ≠ g3
  b1 : w.heap.size ≤ g1
  b2 : w.heap.size ≤ g2
  b3 : w.heap.size ≤ g3
  bel : Below w.heap.size w W
theorem Tr.below {w W W' : World} {g1 g2 g3 : Nat} {X Z O : Array Value} (h : Tr w g1 g2 g3 X Z O W) (k : Below W.heap.size W W') : Tr w g1 g2 g3 X Z O W' := ⟨blk_below h.h1 k, blk_below h.h2 k, blk_below h.h3 k, h.n12, h.n13, h.n23, h.b1, h.b2, h.b3, h.bel.trans (k.mono h.bel.size)⟩
theorem Tr.put {w W : World} {g1 g2 g3 : Nat} {X Z O O' : Array Value} (h : Tr w g1 g2 g3 X Z O W) (i : Nat) (u : Value) (e : O.setIfInBounds i u = O') : Tr w g1 g2 g3 X Z O' (W.setCell ⟨g3, i, none⟩ u) := ⟨blk_far h.h1 h.n13 u, blk_far h.h2 h.n23 u, blk_put h.h3 i u e, h.n12, h.n13, h.n23, h.b1, h.b2, h.b3, below_set h.bel h.b3⟩
theorem Tr.put2 {w W : World} {g1 g2 g3 : Nat} {X Z O Z' : Array Value} (h : Tr w g1 g2 g3 X Z O W) (i : Nat) (u : Value) (e : Z.setIfInBounds i u = Z') : Tr w g1 g2 g3 X Z' O (W.setCell ⟨g2, i, none⟩ u) := ⟨blk_far h.h1 h.n12 u, blk_put h.h2 i u e, blk_far h.h3 (Ne.symm h.n23) u, h.n12, h.n13, h.n23, h.b1, h.b2, h.b3, below_set h.bel h.b2⟩
set_option maxRecDepth 100000 in
set_option maxHeartbeats 6400000 in
theorem ts_succ (n : Nat) (IH : TS n) : TS (n + 1) := by
  intro x A B C a1 b1 c1 w hd ho hl1 hl2 hl3 hr1 hr2 hr3
  obtain ⟨ho1, ⟨ho2, ho3⟩, ho4, ho5⟩ := (okS_eq x).1 ho
  have hx := dS_eq x
  have cE := fun W (h : Below w.heap.size w W) => te_all (dE x.f2 + 1) x.f2 A a1 W (by omega) ho1 hl1 (Kd.C_below hr1 h)
  have cT := fun W (h : Below w.heap.size w W) => toSs_of n IH x.f3 B b1 W (by omega) ho3 ho2 hl2 (Kd.C_below hr2 h)
  have cL := fun W (h : Below w.heap.size w W) => toSs_of n IH x.f4 C c1 W (by omega) ho5 ho4 hl3 (Kd.C_below hr3 h)
  generalize cvEs x.f2.f3 = y1 at cE ⊢
  generalize cvSs x.f3 = y2 at cT ⊢
  generalize cvSs x.f4 = y3 at cL ⊢
  clear hx hd ho ho1 ho2 ho3 ho4 ho5 hr1 hr2 hr3 IH
  have hu107 := Try.underlying107
  have hu109 := Try.underlying109
  have hu49 := Try.underlying49
  have hu46 := Try.underlying46
  have hu55 := Try.underlying55
  have hu52 := Try.underlying52
  go_enter Try.func59, Try.ntmps59
  go_upto_region 2 with (fail)
  have hT : Tr w w.heap.size (w.heap.size + 1) (w.heap.size + 1 + 1) #[.int .i64 x.f0, .int .i64 x.f1.f0, .int .i64 x.f1.f1, .int .i64 x.f2.f0, .int .i64 x.f2.f1, .int .i64 x.f2.f2.f0, .int .i64 x.f2.f2.f1, .slice A x.f2.f3.length a1, .slice B x.f3.length b1, .slice C x.f4.length c1] #[.int .i64 0, .int .i64 0, .int .i64 0, .int .i64 0, .int .i64 0, .int .i64 0, .int .i64 0, .slice none 0 0, .slice none 0 0, .slice none 0 0] #[.int .i64 0, .int .i64 0, .int .i64 0, .int .i64 0, .int .i64 0, .int .i64 0, .int .i64 0, .slice none 0 0, .slice none 0 0, .slice none 0 0] (((w.alloc (.cells #[.int .i64 x.f0, .int .i64 x.f1.f0, .int .i64 x.f1.f1, .int .i64 x.f2.f0, .int .i64 x.f2.f1, .int .i64 x.f2.f2.f0, .int .i64 x.f2.f2.f1, .slice A x.f2.f3.length a1, .slice B x.f3.length b1, .slice C x.f4.length c1] 107)).alloc (.cells #[.int .i64 0, .int .i64 0, .int .i64 0, .int .i64 0, .int .i64 0, .int .i64 0, .int .i64 0, .slice none 0 0, .slice none 0 0, .slice none 0 0] 109)).alloc (.cells #[.int .i64 0, .int .i64 0, .int .i64 0, .int .i64 0, .int .i64 0, .int .i64 0, .int .i64 0, .slice none 0 0, .slice none 0 0, .slice none 0 0] 109)) := by
    have e1 : (w.alloc (.cells #[.int .i64 x.f0, .int .i64 x.f1.f0, .int .i64 x.f1.f1, .int .i64 x.f2.f0, .int .i64 x.f2.f1, .int .i64 x.f2.f2.f0, .int .i64 x.f2.f2.f1, .slice A x.f2.f3.length a1, .slice B x.f3.length b1, .slice C x.f4.length c1] 107)).heap.size = w.heap.size + 1 := Array.size_push ..
    have e2 : ((w.alloc (.cells #[.int .i64 x.f0, .int .i64 x.f1.f0, .int .i64 x.f1.f1, .int .i64 x.f2.f0, .int .i64 x.f2.f1, .int .i64 x.f2.f2.f0, .int .i64 x.f2.f2.f1, .slice A x.f2.f3.length a1, .slice B x.f3.length b1, .slice C x.f4.length c1] 107)).alloc (.cells #[.int .i64 0, .int .i64 0, .int .i64 0, .int .i64 0, .int .i64 0, .int .i64 0, .int .i64 0, .slice none 0 0, .slice none 0 0, .slice none 0 0] 109)).heap.size = w.heap.size + 1 + 1 := (Array.size_push ..).trans (congrArg (· + 1) e1)
    refine ⟨blk_alloc (blk_alloc (heap_alloc_new _ _) _) _, ?_, ?_, by omega, by omega, by omega, by omega, by omega, by omega, (((Below.refl _ _).alloc (Nat.le_refl _) _).alloc (by rw [e1]; omega) _).alloc (by rw [e2]; omega) _⟩
    · have h := heap_alloc_new (w.alloc (.cells #[.int .i64 x.f0, .int .i64 x.f1.f0, .int .i64 x.f1.f1, .int .i64 x.f2.f0, .int .i64 x.f2.f1, .int .i64 x.f2.f2.f0, .int .i64 x.f2.f2.f1, .slice A x.f2.f3.length a1, .slice B x.f3.length b1, .slice C x.f4.length c1] 107)) (.cells #[.int .i64 0, .int .i64 0, .int .i64 0, .int .i64 0, .int .i64 0, .int .i64 0, .int .i64 0, .slice none 0 0, .slice none 0 0, .slice none 0 0] 109)
      rw [e1] at h
      exact blk_alloc h _
    · have h := heap_alloc_new ((w.alloc (.cells #[.int .i64 x.f0, .int .i64 x.f1.f0, .int .i64 x.f1.f1, .int .i64 x.f2.f0, .int .i64 x.f2.f1, .int .i64 x.f2.f2.f0, .int .i64 x.f2.f2.f1, .slice A x.f2.f3.length a1, .slice B x.f3.length b1, .slice C x.f4.length c1] 107)).alloc (.cells #[.int .i64 0, .int .i64 0, .int .i64 0, .int .i64 0, .int .i64 0, .int .i64 0, .int .i64 0, .slice none 0 0, .slice none 0 0, .slice none 0 0] 109)) (.cells #[.int .i64 0, .int .i64 0, .int .i64 0, .int .i64 0, .int .i64 0, .int .i64 0, .int .i64 0, .slice none 0 0, .slice none 0 0, .slice none 0 0] 109)
      rw [e2] at h
      exact h
  generalize ((w.alloc (Obj.cells _ 107)).alloc (Obj.cells _ 109)).alloc (Obj.cells _ 109) = w2 at hT ⊢
  obtain ⟨g1, hg1⟩ : ∃ g, w.heap.size = g := ⟨_, rfl⟩
  obtain ⟨g2, hg2⟩ : ∃ g, g1 + 1 = g := ⟨_, rfl⟩
  obtain ⟨g3, hg3⟩ : ∃ g, g2 + 1 = g := ⟨_, rfl⟩
  rw [hg1, hg2, hg3] at hT ⊢
  clear hg1 hg2 hg3
  have i0 : w2.cell? ⟨g1, 0, none⟩ = some (.int .i64 x.f0) := (blk_cell hT.h1 0).trans rfl
  have o0 : w2.cell? ⟨g3, 0, none⟩ = some (.int .i64 0) := (blk_cell hT.h3 0).trans rfl
  have f0 : w2.frozen? ⟨g3, 0, none⟩ = false := blk_frozen hT.h3 0
  go_upto_region 3 with (fail)
  have hT2 := hT.put 0 (.int .i64 x.f0) (O' := #[.int .i64 x.f0, .int .i64 0, .int .i64 0, .int .i64 0, .int .i64 0, .int .i64 0, .int .i64 0, .slice none 0 0, .slice none 0 0, .slice none 0 0]) rfl
  clear i0 o0 f0
  clear hT
  generalize w2.setCell _ _ = w3 at hT2 ⊢
  have hT := hT2
  clear hT2
  have i1 : w3.cell? ⟨g1, 1, none⟩ = some (.int .i64 x.f1.f0) := (blk_cell hT.h1 1).trans rfl
  have i2 : w3.cell? ⟨g1, 2, none⟩ = some (.int .i64 x.f1.f1) := (blk_cell hT.h1 2).trans rfl
  have ca := fun W => laws_toAddr.calls x.f1.f0 x.f1.f1 x.f1.f0 x.f1.f1 W rfl
  go_wp2_with fail
  refine (ca _).mono ?_
  rintro e w4 ⟨rfl, hb⟩
  have hT2 := hT.below hb
  clear hT hb i1 i2 ca
  have o1 : w4.cell? ⟨g3, 1, none⟩ = some (.int .i64 0) := (blk_cell hT2.h3 1).trans rfl
  have o2 : w4.cell? ⟨g3, 2, none⟩ = some (.int .i64 0) := (blk_cell hT2.h3 2).trans rfl
  have f1 : w4.frozen? ⟨g3, 1, none⟩ = false := blk_frozen hT2.h3 1
  have f2 : w4.frozen? ⟨g3, 2, none⟩ = false := blk_frozen hT2.h3 2
  go_upto_region 4 with (fail)
  have hT := (hT2.put 1 (.int .i64 x.f1.f0) (O' := #[.int .i64 x.f0, .int .i64 x.f1.f0, .int .i64 0, .int .i64 0, .int .i64 0, .int .i64 0, .int .i64 0, .slice none 0 0, .slice none 0 0, .slice none 0 0]) rfl).put 2 (.int .i64 x.f1.f1) (O' := #[.int .i64 x.f0, .int .i64 x.f1.f0, .int .i64 x.f1.f1, .int .i64 0, .int .i64 0, .int .i64 0, .int .i64 0, .slice none 0 0, .slice none 0 0, .slice none 0 0]) rfl
  clear hT2 o1 o2 f1 f2
  generalize (w4.setCell _ _).setCell _ _ = w5 at hT ⊢
  have i3 : w5.cell? ⟨g1, 3, none⟩ = some (.int .i64 x.f2.f0) := (blk_cell hT.h1 3).trans rfl
  have i4 : w5.cell? ⟨g1, 4, none⟩ = some (.int .i64 x.f2.f1) := (blk_cell hT.h1 4).trans rfl
  have i5 : w5.cell? ⟨g1, 5, none⟩ = some (.int .i64 x.f2.f2.f0) := (blk_cell hT.h1 5).trans rfl
  have i6 : w5.cell? ⟨g1, 6, none⟩ = some (.int .i64 x.f2.f2.f1) := (blk_cell hT.h1 6).trans rfl
  have i7 : w5.cell? ⟨g1, 7, none⟩ = some (.slice A x.f2.f3.length a1) := (blk_cell hT.h1 7).trans rfl
  have hB5 := hT.bel
  go_wp2_with fail
  refine (cE _ hB5).mono ?_
  rintro e w6 ⟨v1, rfl, hV, hb⟩
  have hT2 := hT.below hb
  have hbs := hT.bel.size
  have hV1 : Kd.R k55 55 w6 w.heap.size (fun k => k ≠ g3 ∧ k ≠ g2) v1 y1 := Kd.R_lower (Kd.R_mono (Kd.R_bound hV) (fun k hk => ⟨by have h1 := hk.2.1; have h2 := blk_lt hT.h3; omega, by have h1 := hk.2.1; have h2 := blk_lt hT.h2; omega⟩)) hbs
  obtain ⟨V1, m1, rfl⟩ := Kd.R_slice hV
  clear hV hb i3 i4 i5 i6 i7 cE hbs hT hB5
  have o3 : w6.cell? ⟨g3, 3, none⟩ = some (.int .i64 0) := (blk_cell hT2.h3 3).trans rfl
  have o4 : w6.cell? ⟨g3, 4, none⟩ = some (.int .i64 0) := (blk_cell hT2.h3 4).trans rfl
  have o5 : w6.cell? ⟨g3, 5, none⟩ = some (.int .i64 0) := (blk_cell hT2.h3 5).trans rfl
  have o6 : w6.cell? ⟨g3, 6, none⟩ = some (.int .i64 0) := (blk_cell hT2.h3 6).trans rfl
  have o7 : w6.cell? ⟨g3, 7, none⟩ = some (.slice none 0 0) := (blk_cell hT2.h3 7).trans rfl
  have f3 : w6.frozen? ⟨g3, 3, none⟩ = false := blk_frozen hT2.h3 3
  have f4 : w6.frozen? ⟨g3, 4, none⟩ = false := blk_frozen hT2.h3 4
  have f5 : w6.frozen? ⟨g3, 5, none⟩ = false := blk_frozen hT2.h3 5
  have f6 : w6.frozen? ⟨g3, 6, none⟩ = false := blk_frozen hT2.h3 6
  have f7 : w6.frozen? ⟨g3, 7, none⟩ = false := blk_frozen hT2.h3 7
  go_upto_region 5 with (fail)
  have hT := (((((hT2.put 3 (.int .i64 x.f2.f0) (O' := #[.int .i64 x.f0, .int .i64 x.f1.f0, .int .i64 x.f1.f1, .int .i64 x.f2.f0, .int .i64 0, .int .i64 0, .int .i64 0, .slice none 0 0, .slice none 0 0, .slice none 0 0]) rfl).put 4 (.int .i64 x.f2.f1) (O' := #[.int .i64 x.f0, .int .i64 x.f1.f0, .int .i64 x.f1.f1, .int .i64 x.f2.f0, .int .i64 x.f2.f1, .int .i64 0, .int .i64 0, .slice none 0 0, .slice none 0 0, .slice none 0 0]) rfl).put 5 (.int .i64 x.f2.f2.f0) (O' := #[.int .i64 x.f0, .int .i64 x.f1.f0, .int .i64 x.f1.f1, .int .i64 x.f2.f0, .int .i64 x.f2.f1, .int .i64 x.f2.f2.f0, .int .i64 0, .slice none 0 0, .slice none 0 0, .slice none 0 0]) rfl).put 6 (.int .i64 x.f2.f2.f1) (O' := #[.int .i64 x.f0, .int .i64 x.f1.f0, .int .i64 x.f1.f1, .int .i64 x.f2.f0, .int .i64 x.f2.f1, .int .i64 x.f2.f2.f0, .int .i64 x.f2.f2.f1, .slice none 0 0, .slice none 0 0, .slice none 0 0]) rfl).put 7 (.slice V1 y1.length m1) (O' := #[.int .i64 x.f0, .int .i64 x.f1.f0, .int .i64 x.f1.f1, .int .i64 x.f2.f0, .int .i64 x.f2.f1, .int .i64 x.f2.f2.f0, .int .i64 x.f2.f2.f1, .slice V1 y1.length m1, .slice none 0 0, .slice none 0 0]) rfl)
  replace hV1 := (Kd.R_far (p := ⟨g3, 7, none⟩) (Kd.R_far (p := ⟨g3, 6, none⟩) (Kd.R_far (p := ⟨g3, 5, none⟩) (Kd.R_far (p := ⟨g3, 4, none⟩) (Kd.R_far (p := ⟨g3, 3, none⟩) hV1 (fun k hk => hk.1) (.int .i64 x.f2.f0)) (fun k hk => hk.1) (.int .i64 x.f2.f1)) (fun k hk => hk.1) (.int .i64 x.f2.f2.f0)) (fun k hk => hk.1) (.int .i64 x.f2.f2.f1)) (fun k hk => hk.1) (.slice V1 y1.length m1))
  clear hT2 o3 f3 o4 f4 o5 f5 o6 f6 o7 f7
  generalize ((((w6.setCell _ _).setCell _ _).setCell _ _).setCell _ _).setCell _ _ = w7 at hT hV1 ⊢
  have i8 : w7.cell? ⟨g1, 8, none⟩ = some (.slice B x.f3.length b1) := (blk_cell hT.h1 8).trans rfl
  have hB7 := hT.bel
  go_wp2_with fail
  refine (cT _ hB7).mono ?_
  rintro e w8 ⟨v2, rfl, hV, hb⟩
  have hT2 := hT.below hb
  have hbs := hT.bel.size
  have hV2 : Kd.R k109 109 w8 w.heap.size (fun k => k ≠ g3 ∧ k ≠ g2) v2 y2 := Kd.R_lower (Kd.R_mono (Kd.R_bound hV) (fun k hk => ⟨by have h1 := hk.2.1; have h2 := blk_lt hT.h3; omega, by have h1 := hk.2.1; have h2 := blk_lt hT.h2; omega⟩)) hbs
  replace hV1 := Kd.R_below hV1 hb
  obtain ⟨V2, m2, rfl⟩ := Kd.R_slice hV
  clear hV hb i8 cT hbs hT hB7
  have o8 : w8.cell? ⟨g3, 8, none⟩ = some (.slice none 0 0) := (blk_cell hT2.h3 8).trans rfl
  have f8 : w8.frozen? ⟨g3, 8, none⟩ = false := blk_frozen hT2.h3 8
  go_upto_region 6 with (fail)
  have hT := hT2.put 8 (.slice V2 y2.length m2) (O' := #[.int .i64 x.f0, .int .i64 x.f1.f0, .int .i64 x.f1.f1, .int .i64 x.f2.f0, .int .i64 x.f2.f1, .int .i64 x.f2.f2.f0, .int .i64 x.f2.f2.f1, .slice V1 y1.length m1, .slice V2 y2.length m2, .slice none 0 0]) rfl
  replace hV1 := Kd.R_far (p := ⟨g3, 8, none⟩) hV1 (fun k hk => hk.1) (.slice V2 y2.length m2)
  replace hV2 := Kd.R_far (p := ⟨g3, 8, none⟩) hV2 (fun k hk => hk.1) (.slice V2 y2.length m2)
  clear hT2 o8 f8
  generalize w8.setCell _ _ = w10 at hT hV1 hV2 ⊢
  have i9 : w10.cell? ⟨g1, 9, none⟩ = some (.slice C x.f4.length c1) := (blk_cell hT.h1 9).trans rfl
  have hB10 := hT.bel
  go_wp2_with fail
  refine (cL _ hB10).mono ?_
  rintro e w11 ⟨v2, rfl, hV, hb⟩
  have hT2 := hT.below hb
  have hbs := hT.bel.size
  have hV3 : Kd.R k109 109 w11 w.heap.size (fun k => k ≠ g3 ∧ k ≠ g2) v2 y3 := Kd.R_lower (Kd.R_mono (Kd.R_bound hV) (fun k hk => ⟨by have h1 := hk.2.1; have h2 := blk_lt hT.h3; omega, by have h1 := hk.2.1; have h2 := blk_lt hT.h2; omega⟩)) hbs
  replace hV1 := Kd.R_below hV1 hb
  replace hV2 := Kd.R_below hV2 hb
  obtain ⟨V3, m3, rfl⟩ := Kd.R_slice hV
  clear hV hb i9 cL hbs hT hB10
  have o9 : w11.cell? ⟨g3, 9, none⟩ = some (.slice none 0 0) := (blk_cell hT2.h3 9).trans rfl
  have f9 : w11.frozen? ⟨g3, 9, none⟩ = false := blk_frozen hT2.h3 9
  go_upto_region 7 with (fail)
  have hT := hT2.put 9 (.slice V3 y3.length m3) (O' := #[.int .i64 x.f0, .int .i64 x.f1.f0, .int .i64 x.f1.f1, .int .i64 x.f2.f0, .int .i64 x.f2.f1, .int .i64 x.f2.f2.f0, .int .i64 x.f2.f2.f1, .slice V1 y1.length m1, .slice V2 y2.length m2, .slice V3 y3.length m3]) rfl
  replace hV1 := Kd.R_far (p := ⟨g3, 9, none⟩) hV1 (fun k hk => hk.1) (.slice V3 y3.length m3)
  replace hV2 := Kd.R_far (p := ⟨g3, 9, none⟩) hV2 (fun k hk => hk.1) (.slice V3 y3.length m3)
  replace hV3 := Kd.R_far (p := ⟨g3, 9, none⟩) hV3 (fun k hk => hk.1) (.slice V3 y3.length m3)
  clear hT2 o9 f9
  generalize w11.setCell _ _ = w13 at hT hV1 hV2 hV3 ⊢
  have i0 : w13.cell? ⟨g3, 0, none⟩ = some (.int .i64 x.f0) := (blk_cell hT.h3 0).trans rfl
  have o0 : w13.cell? ⟨g2, 0, none⟩ = some (.int .i64 0) := (blk_cell hT.h2 0).trans rfl
  have f0 : w13.frozen? ⟨g2, 0, none⟩ = false := blk_frozen hT.h2 0
  have i1 : w13.cell? ⟨g3, 1, none⟩ = some (.int .i64 x.f1.f0) := (blk_cell hT.h3 1).trans rfl
  have o1 : w13.cell? ⟨g2, 1, none⟩ = some (.int .i64 0) := (blk_cell hT.h2 1).trans rfl
  have f1 : w13.frozen? ⟨g2, 1, none⟩ = false := blk_frozen hT.h2 1
  have i2 : w13.cell? ⟨g3, 2, none⟩ = some (.int .i64 x.f1.f1) := (blk_cell hT.h3 2).trans rfl
  have o2 : w13.cell? ⟨g2, 2, none⟩ = some (.int .i64 0) := (blk_cell hT.h2 2).trans rfl
  have f2 : w13.frozen? ⟨g2, 2, none⟩ = false := blk_frozen hT.h2 2
  have i3 : w13.cell? ⟨g3, 3, none⟩ = some (.int .i64 x.f2.f0) := (blk_cell hT.h3 3).trans rfl
  have o3 : w13.cell? ⟨g2, 3, none⟩ = some (.int .i64 0) := (blk_cell hT.h2 3).trans rfl
  have f3 : w13.frozen? ⟨g2, 3, none⟩ = false := blk_frozen hT.h2 3
  have i4 : w13.cell? ⟨g3, 4, none⟩ = some (.int .i64 x.f2.f1) := (blk_cell hT.h3 4).trans rfl
  have o4 : w13.cell? ⟨g2, 4, none⟩ = some (.int .i64 0) := (blk_cell hT.h2 4).trans rfl
  have f4 : w13.frozen? ⟨g2, 4, none⟩ = false := blk_frozen hT.h2 4
  have i5 : w13.cell? ⟨g3, 5, none⟩ = some (.int .i64 x.f2.f2.f0) := (blk_cell hT.h3 5).trans rfl
  have o5 : w13.cell? ⟨g2, 5, none⟩ = some (.int .i64 0) := (blk_cell hT.h2 5).trans rfl
  have f5 : w13.frozen? ⟨g2, 5, none⟩ = false := blk_frozen hT.h2 5
  have i6 : w13.cell? ⟨g3, 6, none⟩ = some (.int .i64 x.f2.f2.f1) := (blk_cell hT.h3 6).trans rfl
  have o6 : w13.cell? ⟨g2, 6, none⟩ = some (.int .i64 0) := (blk_cell hT.h2 6).trans rfl
  have f6 : w13.frozen? ⟨g2, 6, none⟩ = false := blk_frozen hT.h2 6
  have i7 : w13.cell? ⟨g3, 7, none⟩ = some (.slice V1 y1.length m1) := (blk_cell hT.h3 7).trans rfl
  have o7 : w13.cell? ⟨g2, 7, none⟩ = some (.slice none 0 0) := (blk_cell hT.h2 7).trans rfl
  have f7 : w13.frozen? ⟨g2, 7, none⟩ = false := blk_frozen hT.h2 7
  have i8 : w13.cell? ⟨g3, 8, none⟩ = some (.slice V2 y2.length m2) := (blk_cell hT.h3 8).trans rfl
  have o8 : w13.cell? ⟨g2, 8, none⟩ = some (.slice none 0 0) := (blk_cell hT.h2 8).trans rfl
  have f8 : w13.frozen? ⟨g2, 8, none⟩ = false := blk_frozen hT.h2 8
  have i9 : w13.cell? ⟨g3, 9, none⟩ = some (.slice V3 y3.length m3) := (blk_cell hT.h3 9).trans rfl
  have o9 : w13.cell? ⟨g2, 9, none⟩ = some (.slice none 0 0) := (blk_cell hT.h2 9).trans rfl
  have f9 : w13.frozen? ⟨g2, 9, none⟩ = false := blk_frozen hT.h2 9
  have hT4 := ((((((((((hT.put2 0 (.int .i64 x.f0) (Z' := #[.int .i64 x.f0, .int .i64 0, .int .i64 0, .int .i64 0, .int .i64 0, .int .i64 0, .int .i64 0, .slice none 0 0, .slice none 0 0, .slice none 0 0]) rfl).put2 1 (.int .i64 x.f1.f0) (Z' := #[.int .i64 x.f0, .int .i64 x.f1.f0, .int .i64 0, .int .i64 0, .int .i64 0, .int .i64 0, .int .i64 0, .slice none 0 0, .slice none 0 0, .slice none 0 0]) rfl).put2 2 (.int .i64 x.f1.f1) (Z' := #[.int .i64 x.f0, .int .i64 x.f1.f0, .int .i64 x.f1.f1, .int .i64 0, .int .i64 0, .int .i64 0, .int .i64 0, .slice none 0 0, .slice none 0 0, .slice none 0 0]) rfl).put2 3 (.int .i64 x.f2.f0) (Z' := #[.int .i64 x.f0, .int .i64 x.f1.f0, .int .i64 x.f1.f1, .int .i64 x.f2.f0, .int .i64 0, .int .i64 0, .int .i64 0, .slice none 0 0, .slice none 0 0, .slice none 0 0]) rfl).put2 4 (.int .i64 x.f2.f1) (Z' := #[.int .i64 x.f0, .int .i64 x.f1.f0, .int .i64 x.f1.f1, .int .i64 x.f2.f0, .int .i64 x.f2.f1, .int .i64 0, .int .i64 0, .slice none 0 0, .slice none 0 0, .slice none 0 0]) rfl).put2 5 (.int .i64 x.f2.f2.f0) (Z' := #[.int .i64 x.f0, .int .i64 x.f1.f0, .int .i64 x.f1.f1, .int .i64 x.f2.f0, .int .i64 x.f2.f1, .int .i64 x.f2.f2.f0, .int .i64 0, .slice none 0 0, .slice none 0 0, .slice none 0 0]) rfl).put2 6 (.int .i64 x.f2.f2.f1) (Z' := #[.int .i64 x.f0, .int .i64 x.f1.f0, .int .i64 x.f1.f1, .int .i64 x.f2.f0, .int .i64 x.f2.f1, .int .i64 x.f2.f2.f0, .int .i64 x.f2.f2.f1, .slice none 0 0, .slice none 0 0, .slice none 0 0]) rfl).put2 7 (.slice V1 y1.length m1) (Z' := #[.int .i64 x.f0, .int .i64 x.f1.f0, .int .i64 x.f1.f1, .int .i64 x.f2.f0, .int .i64 x.f2.f1, .int .i64 x.f2.f2.f0, .int .i64 x.f2.f2.f1, .slice V1 y1.length m1, .slice none 0 0, .slice none 0 0]) rfl).put2 8 (.slice V2 y2.length m2) (Z' := #[.int .i64 x.f0, .int .i64 x.f1.f0, .int .i64 x.f1.f1, .int .i64 x.f2.f0, .int .i64 x.f2.f1, .int .i64 x.f2.f2.f0, .int .i64 x.f2.f2.f1, .slice V1 y1.length m1, .slice V2 y2.length m2, .slice none 0 0]) rfl).put2 9 (.slice V3 y3.length m3) (Z' := #[.int .i64 x.f0, .int .i64 x.f1.f0, .int .i64 x.f1.f1, .int .i64 x.f2.f0, .int .i64 x.f2.f1, .int .i64 x.f2.f2.f0, .int .i64 x.f2.f2.f1, .slice V1 y1.length m1, .slice V2 y2.length m2, .slice V3 y3.length m3]) rfl)
  have hW1 := (Kd.R_far (p := ⟨g2, 9, none⟩) (Kd.R_far (p := ⟨g2, 8, none⟩) (Kd.R_far (p := ⟨g2, 7, none⟩) (Kd.R_far (p := ⟨g2, 6, none⟩) (Kd.R_far (p := ⟨g2, 5, none⟩) (Kd.R_far (p := ⟨g2, 4, none⟩) (Kd.R_far (p := ⟨g2, 3, none⟩) (Kd.R_far (p := ⟨g2, 2, none⟩) (Kd.R_far (p := ⟨g2, 1, none⟩) (Kd.R_far (p := ⟨g2, 0, none⟩) hV1 (fun k hk => hk.2) (.int .i64 x.f0)) (fun k hk => hk.2) (.int .i64 x.f1.f0)) (fun k hk => hk.2) (.int .i64 x.f1.f1)) (fun k hk => hk.2) (.int .i64 x.f2.f0)) (fun k hk => hk.2) (.int .i64 x.f2.f1)) (fun k hk => hk.2) (.int .i64 x.f2.f2.f0)) (fun k hk => hk.2) (.int .i64 x.f2.f2.f1)) (fun k hk => hk.2) (.slice V1 y1.length m1)) (fun k hk => hk.2) (.slice V2 y2.length m2)) (fun k hk => hk.2) (.slice V3 y3.length m3))
  have hW2 := (Kd.R_far (p := ⟨g2, 9, none⟩) (Kd.R_far (p := ⟨g2, 8, none⟩) (Kd.R_far (p := ⟨g2, 7, none⟩) (Kd.R_far (p := ⟨g2, 6, none⟩) (Kd.R_far (p := ⟨g2, 5, none⟩) (Kd.R_far (p := ⟨g2, 4, none⟩) (Kd.R_far (p := ⟨g2, 3, none⟩) (Kd.R_far (p := ⟨g2, 2, none⟩) (Kd.R_far (p := ⟨g2, 1, none⟩) (Kd.R_far (p := ⟨g2, 0, none⟩) hV2 (fun k hk => hk.2) (.int .i64 x.f0)) (fun k hk => hk.2) (.int .i64 x.f1.f0)) (fun k hk => hk.2) (.int .i64 x.f1.f1)) (fun k hk => hk.2) (.int .i64 x.f2.f0)) (fun k hk => hk.2) (.int .i64 x.f2.f1)) (fun k hk => hk.2) (.int .i64 x.f2.f2.f0)) (fun k hk => hk.2) (.int .i64 x.f2.f2.f1)) (fun k hk => hk.2) (.slice V1 y1.length m1)) (fun k hk => hk.2) (.slice V2 y2.length m2)) (fun k hk => hk.2) (.slice V3 y3.length m3))
  have hW3 := (Kd.R_far (p := ⟨g2, 9, none⟩) (Kd.R_far (p := ⟨g2, 8, none⟩) (Kd.R_far (p := ⟨g2, 7, none⟩) (Kd.R_far (p := ⟨g2, 6, none⟩) (Kd.R_far (p := ⟨g2, 5, none⟩) (Kd.R_far (p := ⟨g2, 4, none⟩) (Kd.R_far (p := ⟨g2, 3, none⟩) (Kd.R_far (p := ⟨g2, 2, none⟩) (Kd.R_far (p := ⟨g2, 1, none⟩) (Kd.R_far (p := ⟨g2, 0, none⟩) hV3 (fun k hk => hk.2) (.int .i64 x.f0)) (fun k hk => hk.2) (.int .i64 x.f1.f0)) (fun k hk => hk.2) (.int .i64 x.f1.f1)) (fun k hk => hk.2) (.int .i64 x.f2.f0)) (fun k hk => hk.2) (.int .i64 x.f2.f1)) (fun k hk => hk.2) (.int .i64 x.f2.f2.f0)) (fun k hk => hk.2) (.int .i64 x.f2.f2.f1)) (fun k hk => hk.2) (.slice V1 y1.length m1)) (fun k hk => hk.2) (.slice V2 y2.length m2)) (fun k hk => hk.2) (.slice V3 y3.length m3))
  clear hT hV1 hV2 hV3
  go_wp2
  refine bodyPost_ret (results_cell_row rfl _ _ g2 109 #[.int .i64 x.f0, .int .i64 x.f1.f0, .int .i64 x.f1.f1, .int .i64 x.f2.f0, .int .i64 x.f2.f1, .int .i64 x.f2.f2.f0, .int .i64 x.f2.f2.f1, .slice V1 y1.length m1, .slice V2 y2.length m2, .slice V3 y3.length m3] (0, 0) _ rfl hT4.h2 Try.underlying109 rfl (by kernel_rfl)) rfl ⟨_, _, _, rfl, ?_, ?_, ?_, ?_⟩
  · exact Kd.R_mono hW1 (fun _ _ => trivial)
  · exact Kd.R_mono hW2 (fun _ _ => trivial)
  · exact Kd.R_mono hW3 (fun _ _ => trivial)
  · exact hT4.bel
theorem ts_all : ∀ n, TS n
  | 0 => fun x A B C a1 b1 c1 w h => absurd h (by omega)
  | n + 1 => ts_succ n (ts_all n)
theorem toSs_any (l : List S107) (A : Option Addr) (c : Nat) (w : World) (ho : okSs l) (hlen : l.length ≤ 1048576) (hc : l.length ≤ c) (hC : Kd.C k107 w A l.length l) :
    Calls Try.prog 32 #[.slice A l.length c] w fun e w' => ∃ P p, e = .returned (.slice P (cvSs l).length p) ∧ (cvSs l).length ≤ p ∧ Kd.C k109 w' P (cvSs l).length (cvSs l) ∧ Below w.heap.size w w' := by
  refine (toSs_of (dSs l + 1) (ts_all _) l A c w (by omega) ho hlen hc hC).mono ?_
  rintro e w' ⟨v, rfl, hR, hb⟩
  obtain ⟨P, p, rfl, hl, hC'⟩ := Kd.R_reads hR
  exact ⟨P, p, rfl, hl, hC', hb⟩
end Go.Proofs.Ytcigooccnlbkjaa.Hf3
