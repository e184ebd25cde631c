/- The laws FnExactCodeOk and FnExactCodeDepth return true for every slice: walks by hand over printed callees. No condition. -/
import Derived.Test.YtjamfddhcigchaaHc
namespace Go.Proofs.Ytjamfddhcigchaa.Hl
open Go.RowKit Go.Proofs.Ytjamfddhcigchaa.Hc Go.Proofs.Ytjamfddhcigchaa.Hs Go.Proofs.Ytjamfddhcigchaa.Hp Go.Proofs.Ytjamfddhcigchaa.PFnExactCodeDepth Go.Proofs.YtjamfddhcigchaaW.PrintWords Go.Proofs.YtjamfddhcigchaaW.PrintLast Go.Proofs.YtjamfddhcigchaaW.PrintMore
set_option linter.unusedVariables false
set_option linter.unusedSimpArgs false
def cvIns (x : S40) : S34 := ⟨x.f0, x.f1, ⟨x.f2.f0, x.f2.f1⟩⟩
theorem rd40 (l : List S40) (i : Nat) (h : i < l.length) : rd_T40 l (i : Int) = l[i] := by
  unfold rd_T40; rw [Int.toNat_natCast, List.getD_eq_getElem?_getD, List.getElem?_eq_getElem h]; rfl
theorem toInsS_loop (l : List S40) (hl : l.length ≤ 1048576) (d : Nat) : ∀ (k i : Nat) (x : List S34), i + d = l.length → x.length = l.length → x.take i = (l.take i).map cvIns → d < k →
    laws_toInsS.l0 k l x (i : Int) = some (l.map cvIns) := by
  induction d with
  | zero =>
    intro k i x hi hx ht hk
    obtain ⟨k, rfl⟩ : ∃ m, k = m + 1 := ⟨k - 1, by omega⟩
    simp only [laws_toInsS.l0]
    rw [if_neg (by omega)]
    have e1 : x.take i = x := List.take_of_length_le (by omega)
    have e2 : l.take i = l := List.take_of_length_le (by omega)
    rw [e1, e2] at ht; rw [ht]
  | succ d ih =>
    intro k i x hi hx ht hk
    obtain ⟨k, rfl⟩ : ∃ m, k = m + 1 := ⟨k - 1, by omega⟩
    simp only [laws_toInsS.l0]
    have hil : i < l.length := by omega
    rw [if_pos (by omega), if_pos (by omega), rd40 l i hil]
    simp only [laws_toIns.f, laws_toAddr.f, Option.bind_some]
    rw [if_pos (by omega), wrap_id (by omega) (by omega), Int.toNat_natCast]
    have := ih k (i + 1) (x.set i (cvIns l[i])) (by omega) (by simpa using hx) (by
      rw [List.take_succ_eq_append_getElem (by simpa using (by omega : i < x.length)), List.take_succ_eq_append_getElem hil, List.map_append, List.map_singleton, ← ht, List.take_set, List.set_eq_of_length_le (by simp; omega)]
      simp) (by omega)
    exact this
theorem toInsS_some (l : List S40) (hl : l.length ≤ 1048576) (k : Nat) (hk : l.length < k) : laws_toInsS.f k l = some (l.map cvIns) := by
  unfold laws_toInsS.f
  rw [if_pos (by omega), if_pos (by omega)]
  have := toInsS_loop l hl l.length k 0 (List.replicate ((l.length : Int)).toNat z34) (by omega) (by simp) (by simp) hk
  exact this
theorem eqInsS_loop (x : List S34) (hl : x.length ≤ 1048576) (d : Nat) : ∀ (k i : Nat), i + d = x.length → d < k → laws_eqInsS.l0 k x x (i : Int) = some true := by
  induction d with
  | zero =>
    intro k i hi hk
    obtain ⟨k, rfl⟩ : ∃ m, k = m + 1 := ⟨k - 1, by omega⟩
    simp only [laws_eqInsS.l0]
    rw [if_neg (by omega)]
  | succ d ih =>
    intro k i hi hk
    obtain ⟨k, rfl⟩ : ∃ m, k = m + 1 := ⟨k - 1, by omega⟩
    simp only [laws_eqInsS.l0]
    rw [if_pos (by omega), if_pos (by omega), if_pos (by omega)]
    simp only [laws_eqIns.f, laws_eqAddr.f, if_true, Option.bind_some]
    rw [wrap_id (by omega) (by omega)]
    exact ih k (i + 1) (by omega) (by omega)
theorem eqInsS_self (x : List S34) (hl : x.length ≤ 1048576) (k : Nat) (hk : x.length < k) : laws_eqInsS.f k x x = some true := by
  unfold laws_eqInsS.f
  rw [if_pos rfl]; exact eqInsS_loop x hl x.length k 0 (by omega) hk
theorem szInsS_le (l : List S40) (a r : Int) (ha : 0 ≤ a) (ha2 : a ≤ 1048576) (hl : l.length ≤ 9223372036854775807) (h : laws_szInsS.f l a = some r) : r < 0 ∨ (r = a - (l.length : Int) ∧ (l.length : Int) ≤ a) := by
  unfold laws_szInsS.f at h
  rw [wrap_id (by omega) (by omega)] at h
  split at h <;> simp only [Option.some.injEq] at h <;> omega
theorem szInsS_some (l : List S40) (a : Int) : ∃ r, laws_szInsS.f l a = some r := by
  unfold laws_szInsS.f; split <;> exact ⟨_, rfl⟩
set_option maxRecDepth 100000 in
set_option maxHeartbeats 6400000 in
theorem walkOk (A : Option Addr) (c : Nat) (l : List S40) (w : World) (hr : Kd.C k40 w A l.length l) (hc : l.length ≤ c) : Calls Try.prog 3 #[.slice A l.length c] w fun e w' => e = .returned (.bool true) ∧ Below w.heap.size w w' := by
  obtain ⟨r, hs⟩ := szInsS_some l 1048576
  have sz := laws_szInsS.calls A c l 1048576 r w hr hc hs
  by_cases hneg : r < 0
  · have d1 : decide (r < 0) = true := decide_eq_true hneg
    clear hneg hs hr hc
    go_enter Try.func3, Try.ntmps3
    go_wp2_with fail
    refine sz.mono ?_
    rintro e w1 ⟨rfl, hb0⟩
    have hb := hb0.below
    clear sz hb0
    go_wp2
    go_ret
    exact ⟨rfl, hb⟩
  · have d1 : decide (r < 0) = false := decide_eq_false hneg
    have hlen : l.length ≤ 1048576 := by
      have := szInsS_le l 1048576 r (by omega) (by omega) (Kd.C_max hr) hs
      omega
    have e2 := toInsS_some l hlen 2000000 (by omega)
    have q : (l.map cvIns).length ≤ 1048576 := by simpa using hlen
    generalize l.map cvIns = m at e2 q
    have eS := codeOkS m q 2000000 (by omega)
    have eE := eqInsS_self m q 2000000 (by omega)
    have tt : ∀ W, Below w.heap.size w W → Calls Try.prog 7 #[.slice A l.length c] W fun e w' => ∃ A' c', e = .returned (.slice A' m.length c') ∧ m.length ≤ c' ∧ Kd.C k34 w' A' m.length m ∧ Below W.heap.size W w' ∧ Below w.heap.size w w' := by
      intro W hb
      refine (laws_toInsS.calls 2000000 A c l m W (Kd.C_below hr hb) hc e2).mono ?_
      rintro e w' ⟨v, rfl, hR, hb'⟩
      obtain ⟨A', c', rfl, hl, hC⟩ := Kd.R_reads hR
      exact ⟨A', c', rfl, hl, hC, hb', hb.trans (hb'.mono hb.size)⟩
    have sp : ∀ A' c' W, m.length ≤ c' → Kd.C k34 W A' m.length m → Calls Try.prog 6 #[.slice A' m.length c'] W fun e w' => e = .returned (.bool (okB m)) ∧ Below W.heap.size W w' := fun A' c' W h1 h2 => spec_CodeOk.calls 2000000 A' c' m _ W h2 h1 eS
    have ip : ∀ A' c' W, m.length ≤ c' → Kd.C k34 W A' m.length m → Calls Try.prog 8 #[.slice A' m.length c'] W fun e w' => e = .returned (.bool (okB m)) ∧ Below W.heap.size W w' := fun A' c' W h1 h2 => codeOk_any A' c' m W h2 h1
    have eq_ : ∀ A1 c1 A2 c2 W, m.length ≤ c1 → Kd.C k34 W A1 m.length m → m.length ≤ c2 → Kd.C k34 W A2 m.length m → Calls Try.prog 9 #[.slice A1 m.length c1, .slice A2 m.length c2] W fun e w' => e = .returned (.bool true) ∧ Below W.heap.size W w' := fun A1 c1 A2 c2 W h1 h2 h3 h4 => laws_eqInsS.calls 2000000 A1 c1 m A2 c2 m true W h2 h1 h4 h3 eE
    generalize okB m = b at sp ip
    have dne : (b != b) = false := by simp
    clear hneg hs hr hc e2 q eS eE hlen
    go_enter Try.func3, Try.ntmps3
    go_wp2_with fail
    refine sz.mono ?_
    rintro e w1 ⟨rfl, hb0⟩
    have hb1 := hb0.below
    clear sz hb0
    go_wp2_with fail
    refine (tt _ hb1).mono ?_
    rintro e w2 ⟨A1, c1, rfl, hc1, hC1, _, hb2⟩
    go_wp2_with fail
    refine (sp A1 c1 w2 hc1 hC1).mono ?_
    rintro e w3 ⟨rfl, hb3_⟩
    have hb3 := hb2.trans (hb3_.mono hb2.size)
    clear hb3_ hb2 hb1 hC1 hc1
    go_wp2_with fail
    refine (tt _ hb3).mono ?_
    rintro e w4 ⟨A2, c2, rfl, hc2, hC2, _, hb4⟩
    clear hb3
    go_wp2_with fail
    refine (ip A2 c2 w4 hc2 hC2).mono ?_
    rintro e w5 ⟨rfl, hb5_⟩
    have hb5 := hb4.trans (hb5_.mono hb4.size)
    have hC5 := Kd.C_below hC2 hb5_
    clear hb5_ hb4 hC2 sp ip
    go_wp2_with fail
    refine (tt _ hb5).mono ?_
    rintro e w6 ⟨A3, c3, rfl, hc3, hC3, hb6_, hb6⟩
    have hC6 := Kd.C_below hC5 hb6_
    clear hb6_ hb5 hC5 tt
    go_wp2_with fail
    refine (eq_ A2 c2 A3 c3 w6 hc2 hC6 hc3 hC3).mono ?_
    rintro e w7 ⟨rfl, hb7_⟩
    have hb7 := hb6.trans (hb7_.mono hb6.size)
    clear hb7_ hb6 hC6 hC3 eq_
    go_wp2
    go_ret
    exact ⟨rfl, hb7⟩
set_option maxRecDepth 100000 in
set_option maxHeartbeats 6400000 in
theorem walkDepth (A : Option Addr) (c : Nat) (l : List S40) (w : World) (hr : Kd.C k40 w A l.length l) (hc : l.length ≤ c) : Calls Try.prog 4 #[.slice A l.length c] w fun e w' => e = .returned (.bool true) ∧ Below w.heap.size w w' := by
  obtain ⟨r, hs⟩ := szInsS_some l 1048576
  have sz := laws_szInsS.calls A c l 1048576 r w hr hc hs
  by_cases hneg : r < 0
  · have d1 : decide (r < 0) = true := decide_eq_true hneg
    clear hneg hs hr hc
    go_enter Try.func4, Try.ntmps4
    go_wp2_with fail
    refine sz.mono ?_
    rintro e w1 ⟨rfl, hb0⟩
    have hb := hb0.below
    clear sz hb0
    go_wp2
    go_ret
    exact ⟨rfl, hb⟩
  · have d1 : decide (r < 0) = false := decide_eq_false hneg
    have hlen : l.length ≤ 1048576 := by
      have := szInsS_le l 1048576 r (by omega) (by omega) (Kd.C_max hr) hs
      omega
    have e2 := toInsS_some l hlen 2000000 (by omega)
    have q : (l.map cvIns).length ≤ 1048576 := by simpa using hlen
    generalize l.map cvIns = m at e2 q
    have eS := codeDepthS m q 2000000 (by omega)
    have eE := eqInsS_self m q 2000000 (by omega)
    have tt : ∀ W, Below w.heap.size w W → Calls Try.prog 7 #[.slice A l.length c] W fun e w' => ∃ A' c', e = .returned (.slice A' m.length c') ∧ m.length ≤ c' ∧ Kd.C k34 w' A' m.length m ∧ Below W.heap.size W w' ∧ Below w.heap.size w w' := by
      intro W hb
      refine (laws_toInsS.calls 2000000 A c l m W (Kd.C_below hr hb) hc e2).mono ?_
      rintro e w' ⟨v, rfl, hR, hb'⟩
      obtain ⟨A', c', rfl, hl, hC⟩ := Kd.R_reads hR
      exact ⟨A', c', rfl, hl, hC, hb', hb.trans (hb'.mono hb.size)⟩
    have sp : ∀ A' c' W, m.length ≤ c' → Kd.C k34 W A' m.length m → Calls Try.prog 10 #[.slice A' m.length c'] W fun e w' => e = .returned (.int .i64 (depB m)) ∧ Below W.heap.size W w' := fun A' c' W h1 h2 => spec_CodeDepth.calls 2000000 A' c' m _ W h2 h1 eS
    have ip : ∀ A' c' W, m.length ≤ c' → Kd.C k34 W A' m.length m → Calls Try.prog 11 #[.slice A' m.length c'] W fun e w' => e = .returned (.int .i64 (depB m)) ∧ Below W.heap.size W w' := fun A' c' W h1 h2 => codeDepth_any A' c' m W h2 h1
    have eq_ : ∀ A1 c1 A2 c2 W, m.length ≤ c1 → Kd.C k34 W A1 m.length m → m.length ≤ c2 → Kd.C k34 W A2 m.length m → Calls Try.prog 9 #[.slice A1 m.length c1, .slice A2 m.length c2] W fun e w' => e = .returned (.bool true) ∧ Below W.heap.size W w' := fun A1 c1 A2 c2 W h1 h2 h3 h4 => laws_eqInsS.calls 2000000 A1 c1 m A2 c2 m true W h2 h1 h4 h3 eE
    generalize depB m = b at sp ip
    have dne : (b != b) = false := by simp
    clear hneg hs hr hc e2 q eS eE hlen
    go_enter Try.func4, Try.ntmps4
    go_wp2_with fail
    refine sz.mono ?_
    rintro e w1 ⟨rfl, hb0⟩
    have hb1 := hb0.below
    clear sz hb0
    go_wp2_with fail
    refine (tt _ hb1).mono ?_
    rintro e w2 ⟨A1, c1, rfl, hc1, hC1, _, hb2⟩
    go_wp2_with fail
    refine (sp A1 c1 w2 hc1 hC1).mono ?_
    rintro e w3 ⟨rfl, hb3_⟩
    have hb3 := hb2.trans (hb3_.mono hb2.size)
    clear hb3_ hb2 hb1 hC1 hc1
    go_wp2_with fail
    refine (tt _ hb3).mono ?_
    rintro e w4 ⟨A2, c2, rfl, hc2, hC2, _, hb4⟩
    clear hb3
    go_wp2_with fail
    refine (ip A2 c2 w4 hc2 hC2).mono ?_
    rintro e w5 ⟨rfl, hb5_⟩
    have hb5 := hb4.trans (hb5_.mono hb4.size)
    have hC5 := Kd.C_below hC2 hb5_
    clear hb5_ hb4 hC2 sp ip
    go_wp2_with fail
    refine (tt _ hb5).mono ?_
    rintro e w6 ⟨A3, c3, rfl, hc3, hC3, hb6_, hb6⟩
    have hC6 := Kd.C_below hC5 hb6_
    clear hb6_ hb5 hC5 tt
    go_wp2_with fail
    refine (eq_ A2 c2 A3 c3 w6 hc2 hC6 hc3 hC3).mono ?_
    rintro e w7 ⟨rfl, hb7_⟩
    have hb7 := hb6.trans (hb7_.mono hb6.size)
    clear hb7_ hb6 hC6 hC3 eq_
    go_wp2
    go_ret
    exact ⟨rfl, hb7⟩
end Go.Proofs.Ytjamfddhcigchaa.Hl
