/- slices.IndexFunc and slices.ContainsFunc over a closure that captures one pointer, at inputs, wires and drives. No condition. -/
import Derived.Test.YtphblfmjdiigkaaTFnNetOrderPFnNetOrderx6
import Derived.Test.YtphblfmjdiigkaaTFnNetOrderPFnNetOrderx7
import Derived.Test.YtphblfmjdiigkaaTFnNetOrderPFnNetOrderx8
import Derived.Test.YtphblfmjdiigkaaTFnNetOrderHk2
import Derived.Test.YtphblfmjdiigkaaTFnNetOrderHk1
import Derived.WalkLawsBesides
import Derived.WalkSpells
import Derived.Deep.RegionHeld
import Derived.Deep.DeepCutAuto
import Derived.Deep.CutBlock
namespace Go.Proofs.Ytphblfmjdiigkaa.Hk3
open Go.RowKit Go.Proofs.Ytphblfmjdiigkaa.Hk2 Go.Proofs.Ytphblfmjdiigkaa.Hk1 Go.Proofs.Ytphblfmjdiigkaa.PFnNetOrder Go.Proofs.YtphblfmjdiigkaaW.PrintWords Go.Proofs.YtphblfmjdiigkaaW.PrintLast Go.Proofs.YtphblfmjdiigkaaW.PrintMore
set_option linter.unusedVariables false
set_option linter.unusedSimpArgs false
attribute [local go_sem] max2_int min2_int max_two min_two
attribute [local go_sem high] eqA44
attribute [local go_sem high] eqA46
theorem rd46 (l : List S46) (i : Nat) (h : i < l.length) : rd_T46 l (i : Int) = l[i] := by
  unfold rd_T46; rw [Int.toNat_natCast, List.getD_eq_getElem?_getD, List.getElem?_eq_getElem h]; rfl
set_option maxRecDepth 100000 in
set_option maxHeartbeats 3200000 in
theorem index46 (g T : Nat) (C : Array Value) (p : S46 → Bool) (l : List S46) (A : Option Addr) (c : Nat) (w : World) (hg : w.heap[g]? = some (.cells C T (0, 0))) (hc : l.length ≤ c) (hC : Kd.C k46 w A l.length l)
    (hp : ∀ (x : S46) (W : World), W.heap[g]? = some (.cells C T (0, 0)) → Calls Try.prog 63 #[.agg #[.int .i64 x.f0, .int .i64 x.f1, .int .i64 x.f2.f0, .int .i64 x.f2.f1, .bool x.f3], .pointer (some ⟨g, 0, none⟩)] W fun e w' => e = .returned (.bool (p x)) ∧ Below W.heap.size W w') :
    Calls Try.prog 73 #[.slice A l.length c, .func (.func 63) #[] #[.pointer (some ⟨g, 0, none⟩)]] w fun e w' => ∃ i : Int, e = .returned (.int .i64 i) ∧ Aside0 (decide (i ≥ 0) = l.any p) ∧ Below w.heap.size w w' := by
  have hmx := Aside0.mk (Kd.C_max hC)
  go_enter Try.func73, Try.ntmps73
  go_wp2
  go_loopw [8] (fun i wr => ∃ (k : Nat), k ≤ l.length ∧ i = .int .i64 k ∧ Aside0 (∀ j (h : j < l.length), j < k → p l[j] = false) ∧ Below w.heap.size w wr) (fun i _ => l.length - (intOf i).toNat)
  case atStart => exact ⟨0, by omega, rfl, ⟨fun _ _ h => absurd h (by omega)⟩, Below.refl _ _⟩
  case round =>
    obtain ⟨k, hk, rfl, hf, hbw⟩ := hrel
    by_cases hlt : k < l.length
    · obtain ⟨ad, hA, e0, e1, e2, e3, e4⟩ := at_T46 (Kd.C_below hC hbw) (k : Int) (by omega) (by omega)
      subst hA
      rw [Int.toNat_natCast] at e0 e1 e2 e3 e4
      rw [rd46 l k hlt] at e0 e1 e2 e3 e4
      have hcall := hp l[k] wr (blk_below hg hbw)
      obtain ⟨q, hq⟩ : ∃ q, p l[k] = q := ⟨_, rfl⟩
      rw [hq] at hcall
      have hq' := Aside0.mk hq
      clear hq
      have hmem := Aside0.mk (List.getElem_mem hlt)
      generalize hxe : l[k] = x at e0 e1 e2 e3 e4 hcall
      clear hxe
      have d2 : decide ((k : Int) < (l.length : Int)) = true := by simp; omega
      have hu46 := Try.underlying46
      have hu44 := Try.underlying44
      have hkb : k + 1 ≤ 9223372036854775807 := Nat.le_trans hlt hmx.out
      have hkb' := Aside0.mk hkb
      clear hC hp hg hkb
      cases q with
      | true =>
        go_wp2_with fail
        refine hcall.mono ?_
        rintro e w2 ⟨rfl, hb2⟩
        clear hcall
        go_wp2
        go_ret
        refine ⟨(k : Int), rfl, ⟨?_⟩, hbw.trans (hb2.mono hbw.size)⟩
        rw [List.any_eq_true.2 ⟨_, hmem.out, hq'.out⟩]
        exact decide_eq_true (by omega)
      | false =>
        go_wp2_with fail
        refine hcall.mono ?_
        rintro e w2 ⟨rfl, hb2⟩
        clear hcall
        have hkb := hkb'.out
        have hf2 := Aside0.mk (show ∀ j (h : j < l.length), j < k + 1 → p l[j] = false from fun j h h1 => by
          by_cases e : j = k
          · subst e; exact hq'.out
          · exact hf.out j h (by omega))
        go_wp2
        go_roundw
        case rel => exact ⟨k + 1, by omega, by go_num, hf2, hbw.trans (hb2.mono hbw.size)⟩
        case measure => simp [intOf]; omega
    · have hkn : k = l.length := by omega
      subst hkn
      have d2 : decide ((l.length : Int) < (l.length : Int)) = false := by simp
      clear hC hp hg
      go_wp2
      go_ret
      refine ⟨-1, rfl, ⟨?_⟩, hbw⟩
      have : l.any p = false := by
        rw [List.any_eq_false]
        intro x hx
        obtain ⟨j, hj, rfl⟩ := List.mem_iff_getElem.1 hx
        rw [hf.out j hj hj]; simp
      rw [this]; rfl
set_option maxRecDepth 100000 in
theorem contains46 (g T : Nat) (C : Array Value) (p : S46 → Bool) (l : List S46) (A : Option Addr) (c : Nat) (w : World) (hg : w.heap[g]? = some (.cells C T (0, 0))) (hc : l.length ≤ c) (hC : Kd.C k46 w A l.length l)
    (hp : ∀ (x : S46) (W : World), W.heap[g]? = some (.cells C T (0, 0)) → Calls Try.prog 63 #[.agg #[.int .i64 x.f0, .int .i64 x.f1, .int .i64 x.f2.f0, .int .i64 x.f2.f1, .bool x.f3], .pointer (some ⟨g, 0, none⟩)] W fun e w' => e = .returned (.bool (p x)) ∧ Below W.heap.size W w') :
    Calls Try.prog 61 #[.slice A l.length c, .func (.func 63) #[] #[.pointer (some ⟨g, 0, none⟩)]] w fun e w' => e = .returned (.bool (l.any p)) ∧ Below w.heap.size w w' := by
  have h := index46 g T C p l A c w hg hc hC hp
  clear hg hC hp
  go_enter Try.func61, Try.ntmps61
  go_wp2_with fail
  refine h.mono ?_
  rintro e w2 ⟨i, rfl, hi, hb⟩
  clear h
  go_wp2
  go_ret
  exact ⟨by rw [← hi.out] <;> rfl, hb⟩
theorem rd48 (l : List S48) (i : Nat) (h : i < l.length) : rd_T48 l (i : Int) = l[i] := by
  unfold rd_T48; rw [Int.toNat_natCast, List.getD_eq_getElem?_getD, List.getElem?_eq_getElem h]; rfl
set_option maxRecDepth 100000 in
set_option maxHeartbeats 3200000 in
theorem index48 (g T : Nat) (C : Array Value) (p : S48 → Bool) (l : List S48) (A : Option Addr) (c : Nat) (w : World) (hg : w.heap[g]? = some (.cells C T (0, 0))) (hc : l.length ≤ c) (hC : Kd.C k48 w A l.length l)
    (hp : ∀ (x : S48) (W : World), W.heap[g]? = some (.cells C T (0, 0)) → Calls Try.prog 37 #[.agg #[.int .i64 x.f0, .int .i64 x.f1, .int .i64 x.f2.f0, .int .i64 x.f2.f1, .int .i64 x.f2.f2.f0, .int .i64 x.f2.f2.f1, .bool x.f2.f3, .int .i64 x.f3.f0, .int .i64 x.f3.f1, .int .i64 x.f3.f2.f0, .int .i64 x.f3.f2.f1, .bool x.f3.f3], .pointer (some ⟨g, 0, none⟩)] W fun e w' => e = .returned (.bool (p x)) ∧ Below W.heap.size W w') :
    Calls Try.prog 56 #[.slice A l.length c, .func (.func 37) #[] #[.pointer (some ⟨g, 0, none⟩)]] w fun e w' => ∃ i : Int, e = .returned (.int .i64 i) ∧ Aside0 (decide (i ≥ 0) = l.any p) ∧ Below w.heap.size w w' := by
  have hmx := Aside0.mk (Kd.C_max hC)
  go_enter Try.func56, Try.ntmps56
  go_wp2
  go_loopw [8] (fun i wr => ∃ (k : Nat), k ≤ l.length ∧ i = .int .i64 k ∧ Aside0 (∀ j (h : j < l.length), j < k → p l[j] = false) ∧ Below w.heap.size w wr) (fun i _ => l.length - (intOf i).toNat)
  case atStart => exact ⟨0, by omega, rfl, ⟨fun _ _ h => absurd h (by omega)⟩, Below.refl _ _⟩
  case round =>
    obtain ⟨k, hk, rfl, hf, hbw⟩ := hrel
    by_cases hlt : k < l.length
    · obtain ⟨ad, hA, e0, e1, e2, e3, e4, e5, e6, e7, e8, e9, e10, e11⟩ := at_T48 (Kd.C_below hC hbw) (k : Int) (by omega) (by omega)
      subst hA
      rw [Int.toNat_natCast] at e0 e1 e2 e3 e4 e5 e6 e7 e8 e9 e10 e11
      rw [rd48 l k hlt] at e0 e1 e2 e3 e4 e5 e6 e7 e8 e9 e10 e11
      have hcall := hp l[k] wr (blk_below hg hbw)
      obtain ⟨q, hq⟩ : ∃ q, p l[k] = q := ⟨_, rfl⟩
      rw [hq] at hcall
      have hq' := Aside0.mk hq
      clear hq
      have hmem := Aside0.mk (List.getElem_mem hlt)
      generalize hxe : l[k] = x at e0 e1 e2 e3 e4 e5 e6 e7 e8 e9 e10 e11 hcall
      clear hxe
      have d2 : decide ((k : Int) < (l.length : Int)) = true := by simp; omega
      have hu48 := Try.underlying48
      have hu46 := Try.underlying46
      have hu44 := Try.underlying44
      have hkb : k + 1 ≤ 9223372036854775807 := Nat.le_trans hlt hmx.out
      have hkb' := Aside0.mk hkb
      clear hC hp hg hkb
      cases q with
      | true =>
        go_wp2_with fail
        refine hcall.mono ?_
        rintro e w2 ⟨rfl, hb2⟩
        clear hcall
        go_wp2
        go_ret
        refine ⟨(k : Int), rfl, ⟨?_⟩, hbw.trans (hb2.mono hbw.size)⟩
        rw [List.any_eq_true.2 ⟨_, hmem.out, hq'.out⟩]
        exact decide_eq_true (by omega)
      | false =>
        go_wp2_with fail
        refine hcall.mono ?_
        rintro e w2 ⟨rfl, hb2⟩
        clear hcall
        have hkb := hkb'.out
        have hf2 := Aside0.mk (show ∀ j (h : j < l.length), j < k + 1 → p l[j] = false from fun j h h1 => by
          by_cases e : j = k
          · subst e; exact hq'.out
          · exact hf.out j h (by omega))
        go_wp2
        go_roundw
        case rel => exact ⟨k + 1, by omega, by go_num, hf2, hbw.trans (hb2.mono hbw.size)⟩
        case measure => simp [intOf]; omega
    · have hkn : k = l.length := by omega
      subst hkn
      have d2 : decide ((l.length : Int) < (l.length : Int)) = false := by simp
      clear hC hp hg
      go_wp2
      go_ret
      refine ⟨-1, rfl, ⟨?_⟩, hbw⟩
      have : l.any p = false := by
        rw [List.any_eq_false]
        intro x hx
        obtain ⟨j, hj, rfl⟩ := List.mem_iff_getElem.1 hx
        rw [hf.out j hj hj]; simp
      rw [this]; rfl
set_option maxRecDepth 100000 in
theorem contains48 (g T : Nat) (C : Array Value) (p : S48 → Bool) (l : List S48) (A : Option Addr) (c : Nat) (w : World) (hg : w.heap[g]? = some (.cells C T (0, 0))) (hc : l.length ≤ c) (hC : Kd.C k48 w A l.length l)
    (hp : ∀ (x : S48) (W : World), W.heap[g]? = some (.cells C T (0, 0)) → Calls Try.prog 37 #[.agg #[.int .i64 x.f0, .int .i64 x.f1, .int .i64 x.f2.f0, .int .i64 x.f2.f1, .int .i64 x.f2.f2.f0, .int .i64 x.f2.f2.f1, .bool x.f2.f3, .int .i64 x.f3.f0, .int .i64 x.f3.f1, .int .i64 x.f3.f2.f0, .int .i64 x.f3.f2.f1, .bool x.f3.f3], .pointer (some ⟨g, 0, none⟩)] W fun e w' => e = .returned (.bool (p x)) ∧ Below W.heap.size W w') :
    Calls Try.prog 36 #[.slice A l.length c, .func (.func 37) #[] #[.pointer (some ⟨g, 0, none⟩)]] w fun e w' => e = .returned (.bool (l.any p)) ∧ Below w.heap.size w w' := by
  have h := index48 g T C p l A c w hg hc hC hp
  clear hg hC hp
  go_enter Try.func36, Try.ntmps36
  go_wp2_with fail
  refine h.mono ?_
  rintro e w2 ⟨i, rfl, hi, hb⟩
  clear h
  go_wp2
  go_ret
  exact ⟨by rw [← hi.out] <;> rfl, hb⟩
theorem rd62 (l : List S62) (i : Nat) (h : i < l.length) : rd_T62 l (i : Int) = l[i] := by
  unfold rd_T62; rw [Int.toNat_natCast, List.getD_eq_getElem?_getD, List.getElem?_eq_getElem h]; rfl
set_option maxRecDepth 100000 in
set_option maxHeartbeats 3200000 in
theorem index62 (g T : Nat) (C : Array Value) (p : S62 → Bool) (l : List S62) (A : Option Addr) (c : Nat) (w : World) (hg : w.heap[g]? = some (.cells C T (0, 0))) (hc : l.length ≤ c) (hC : Kd.C k62 w A l.length l)
    (hp : ∀ (x : S62) (W : World), W.heap[g]? = some (.cells C T (0, 0)) → Calls Try.prog 41 #[.agg #[.int .i64 x.f0.f0, .int .i64 x.f0.f1, .int .i64 x.f1], .pointer (some ⟨g, 0, none⟩)] W fun e w' => e = .returned (.bool (p x)) ∧ Below W.heap.size W w') :
    Calls Try.prog 66 #[.slice A l.length c, .func (.func 41) #[] #[.pointer (some ⟨g, 0, none⟩)]] w fun e w' => ∃ i : Int, e = .returned (.int .i64 i) ∧ Aside0 (decide (i ≥ 0) = l.any p) ∧ Below w.heap.size w w' := by
  have hmx := Aside0.mk (Kd.C_max hC)
  go_enter Try.func66, Try.ntmps66
  go_wp2
  go_loopw [8] (fun i wr => ∃ (k : Nat), k ≤ l.length ∧ i = .int .i64 k ∧ Aside0 (∀ j (h : j < l.length), j < k → p l[j] = false) ∧ Below w.heap.size w wr) (fun i _ => l.length - (intOf i).toNat)
  case atStart => exact ⟨0, by omega, rfl, ⟨fun _ _ h => absurd h (by omega)⟩, Below.refl _ _⟩
  case round =>
    obtain ⟨k, hk, rfl, hf, hbw⟩ := hrel
    by_cases hlt : k < l.length
    · obtain ⟨ad, hA, e0, e1, e2⟩ := at_T62 (Kd.C_below hC hbw) (k : Int) (by omega) (by omega)
      subst hA
      rw [Int.toNat_natCast] at e0 e1 e2
      rw [rd62 l k hlt] at e0 e1 e2
      have hcall := hp l[k] wr (blk_below hg hbw)
      obtain ⟨q, hq⟩ : ∃ q, p l[k] = q := ⟨_, rfl⟩
      rw [hq] at hcall
      have hq' := Aside0.mk hq
      clear hq
      have hmem := Aside0.mk (List.getElem_mem hlt)
      generalize hxe : l[k] = x at e0 e1 e2 hcall
      clear hxe
      have d2 : decide ((k : Int) < (l.length : Int)) = true := by simp; omega
      have hu62 := Try.underlying62
      have hu44 := Try.underlying44
      have hkb : k + 1 ≤ 9223372036854775807 := Nat.le_trans hlt hmx.out
      have hkb' := Aside0.mk hkb
      clear hC hp hg hkb
      cases q with
      | true =>
        go_wp2_with fail
        refine hcall.mono ?_
        rintro e w2 ⟨rfl, hb2⟩
        clear hcall
        go_wp2
        go_ret
        refine ⟨(k : Int), rfl, ⟨?_⟩, hbw.trans (hb2.mono hbw.size)⟩
        rw [List.any_eq_true.2 ⟨_, hmem.out, hq'.out⟩]
        exact decide_eq_true (by omega)
      | false =>
        go_wp2_with fail
        refine hcall.mono ?_
        rintro e w2 ⟨rfl, hb2⟩
        clear hcall
        have hkb := hkb'.out
        have hf2 := Aside0.mk (show ∀ j (h : j < l.length), j < k + 1 → p l[j] = false from fun j h h1 => by
          by_cases e : j = k
          · subst e; exact hq'.out
          · exact hf.out j h (by omega))
        go_wp2
        go_roundw
        case rel => exact ⟨k + 1, by omega, by go_num, hf2, hbw.trans (hb2.mono hbw.size)⟩
        case measure => simp [intOf]; omega
    · have hkn : k = l.length := by omega
      subst hkn
      have d2 : decide ((l.length : Int) < (l.length : Int)) = false := by simp
      clear hC hp hg
      go_wp2
      go_ret
      refine ⟨-1, rfl, ⟨?_⟩, hbw⟩
      have : l.any p = false := by
        rw [List.any_eq_false]
        intro x hx
        obtain ⟨j, hj, rfl⟩ := List.mem_iff_getElem.1 hx
        rw [hf.out j hj hj]; simp
      rw [this]; rfl
set_option maxRecDepth 100000 in
theorem contains62 (g T : Nat) (C : Array Value) (p : S62 → Bool) (l : List S62) (A : Option Addr) (c : Nat) (w : World) (hg : w.heap[g]? = some (.cells C T (0, 0))) (hc : l.length ≤ c) (hC : Kd.C k62 w A l.length l)
    (hp : ∀ (x : S62) (W : World), W.heap[g]? = some (.cells C T (0, 0)) → Calls Try.prog 41 #[.agg #[.int .i64 x.f0.f0, .int .i64 x.f0.f1, .int .i64 x.f1], .pointer (some ⟨g, 0, none⟩)] W fun e w' => e = .returned (.bool (p x)) ∧ Below W.heap.size W w') :
    Calls Try.prog 40 #[.slice A l.length c, .func (.func 41) #[] #[.pointer (some ⟨g, 0, none⟩)]] w fun e w' => e = .returned (.bool (l.any p)) ∧ Below w.heap.size w w' := by
  have h := index62 g T C p l A c w hg hc hC hp
  clear hg hC hp
  go_enter Try.func40, Try.ntmps40
  go_wp2_with fail
  refine h.mono ?_
  rintro e w2 ⟨i, rfl, hi, hb⟩
  clear h
  go_wp2
  go_ret
  exact ⟨by rw [← hi.out] <;> rfl, hb⟩
end Go.Proofs.Ytphblfmjdiigkaa.Hk3
