/- impl.CodeOk and impl.CodeDepth (slices.Max under it) answer what Hp and Hs say. No condition. -/
import Derived.Test.YtjamfddhcigchaaHd
import Derived.Test.YtjamfddhcigchaaHs
namespace Go.Proofs.Ytjamfddhcigchaa.Hc
open Go.RowKit Go.Proofs.Ytjamfddhcigchaa.Hd Go.Proofs.Ytjamfddhcigchaa.Hs Go.Proofs.Ytjamfddhcigchaa.Ht Go.Proofs.Ytjamfddhcigchaa.Hp Go.Proofs.Ytjamfddhcigchaa.PFnExactCodeDepth Go.Proofs.YtjamfddhcigchaaW.PrintWords Go.Proofs.YtjamfddhcigchaaW.PrintLast Go.Proofs.YtjamfddhcigchaaW.PrintMore
set_option linter.unusedVariables false
set_option linter.unusedSimpArgs false
attribute [local go_sem] max2_int min2_int max_two min_two
def mxT (l : List Int) (k : Nat) : Int := ((l.take k).drop 1).foldl max (rd l 0)
theorem mxT_one (l : List Int) : mxT l 1 = rd l 0 := by
  unfold mxT
  cases l <;> rfl
theorem mxT_succ (l : List Int) (k : Nat) (h1 : 1 ≤ k) (h : k < l.length) : mxT l (k + 1) = max (mxT l k) (rd l (k : Int)) := by
  unfold mxT
  rw [List.take_succ_eq_append_getElem h, List.drop_append_of_le_length (by simp; omega), List.foldl_append]
  have : rd l (k : Int) = l[k] := by unfold rd; rw [Int.toNat_natCast, List.getD_eq_getElem?_getD, List.getElem?_eq_getElem h]; rfl
  rw [this]; rfl
theorem mxT_all (l : List Int) : mxT l l.length = (l.drop 1).foldl max (rd l 0) := by
  unfold mxT; rw [List.take_length]
set_option maxRecDepth 100000 in
set_option maxHeartbeats 3200000 in
theorem max_any (A : Option Addr) (c : Nat) (l : List Int) (w : World) (hr : Kd.C (Kd.int .i64) w A l.length l) (h1 : 1 ≤ l.length) (h5 : l.length ≤ 500) :
    Calls Try.prog 18 #[.slice A l.length c] w fun e w' => e = .returned (.int .i64 ((l.drop 1).foldl max (rd l 0))) ∧ w' = w := by
  have d1 : decide ((l.length : Int) < 1) = false := by simp; omega
  obtain ⟨ad, hA, h0⟩ := Kd.at_int hr 0 (by omega) (by omega)
  subst hA
  have hp : 0 < l.length := by omega
  have hm1 := mxT_one l
  have hma := Aside0.mk (mxT_all l)
  replace h0 : w.cell? ad = some (.int .i64 (rd l 0)) := h0
  rw [← hm1] at h0
  have hm1' := Aside0.mk hm1
  clear hm1
  go_enter Try.func18, Try.ntmps18
  go_wp2
  go_loop [3, 4] (fun m i => ∃ k : Nat, 1 ≤ k ∧ k ≤ l.length ∧ i = .int .i64 k ∧ m = .int .i64 (mxT l k)) (fun _ i => l.length - (intOf i).toNat)
  case atStart => exact ⟨1, Nat.le_refl _, h1, rfl, rfl⟩
  case round =>
    obtain ⟨k, hk1, hk, rfl, rfl⟩ := hrel
    by_cases hlt : k < l.length
    · obtain ⟨ad2, hA, hx⟩ := Kd.at_int hr (k : Int) (by omega) (by omega)
      obtain rfl := Option.some.inj hA
      rw [Int.toNat_natCast] at hx
      have hs := Aside0.mk (mxT_succ l k hk1 hlt)
      have d2 : decide ((k : Int) < (l.length : Int)) = true := by simp; omega
      generalize hgm : mxT l k = m at hs
      clear hgm
      go_wp2
      go_round
      case rel => exact ⟨k + 1, by omega, by omega, by go_num, by rw [hs.out]; congr 1; split <;> omega⟩
      case measure => simp [intOf]; omega
    · have hkn : k = l.length := by omega
      subst hkn
      have d2 : decide ((l.length : Int) < (l.length : Int)) = false := by simp
      rw [hma.out]
      go_wp2
      go_ret
      exact ⟨rfl, rfl⟩
set_option maxRecDepth 100000 in
theorem codeOk_any (A : Option Addr) (cc : Nat) (ps : List S34) (w : World) (hr : Kd.C k34 w A ps.length ps) (hc : ps.length ≤ cc) :
    Calls Try.prog 8 #[.slice A ps.length cc] w fun e w' => e = .returned (.bool (okB ps)) ∧ Below w.heap.size w w' := by
  have h := depths_any A cc ps w hr hc
  generalize okB ps = b at h
  clear hr hc
  go_enter Try.func8, Try.ntmps8
  go_wp2_with fail
  refine h.mono ?_
  rintro e w' ⟨v, rfl, _, hb⟩
  clear h
  go_wp2
  go_ret
  exact ⟨rfl, hb⟩
set_option maxRecDepth 100000 in
theorem codeDepth_any (A : Option Addr) (cc : Nat) (ps : List S34) (w : World) (hr : Kd.C k34 w A ps.length ps) (hc : ps.length ≤ cc) :
    Calls Try.prog 11 #[.slice A ps.length cc] w fun e w' => e = .returned (.int .i64 (depB ps)) ∧ Below w.heap.size w w' := by
  have h := depths_any A cc ps w hr hc
  clear hr hc
  cases ho : okB ps with
  | false =>
    have hd : depB ps = -1 := by unfold depB; rw [if_neg (by rw [ho]; simp)]
    rw [hd]
    rw [ho] at h
    clear ho hd
    go_enter Try.func11, Try.ntmps11
    go_wp2_with fail
    refine h.mono ?_
    rintro e w' ⟨v, rfl, _, hb⟩
    clear h
    go_wp2
    go_ret
    exact ⟨rfl, hb⟩
  | true =>
    rw [ho] at h
    have ho' := Aside0.mk ho
    clear ho
    go_enter Try.func11, Try.ntmps11
    go_wp2_with fail
    refine h.mono ?_
    rintro e w1 ⟨v, rfl, hx, hb⟩
    obtain ⟨g, c, l, hd, rfl, hR⟩ := hx (by simp)
    clear h hx
    have h3 := dep_some hd
    have hl : ps.length + 1 = l.length := h3.2.2.1.symm
    have h5 : l.length ≤ 500 := by omega
    have h1 : 1 ≤ l.length := by omega
    have hD := Aside0.mk (depB_max ho'.out hd)
    rw [hl] at hR ⊢
    have hC := (Kd.R_reads' hR).2.2
    have hm := max_any (some ⟨g, 0, none⟩) c l w1 hC h1 h5
    generalize (l.drop 1).foldl max (rd l 0) = m at hm hD
    clear hl h5 h1 h3 hd hR hC
    go_wp2_with fail
    refine hm.mono ?_
    rintro e w2 ⟨rfl, rfl⟩
    clear hm
    go_wp2
    go_ret
    exact ⟨by rw [hD.out]; rfl, hb⟩
end Go.Proofs.Ytjamfddhcigchaa.Hc
