/- slices.IndexFunc and slices.ContainsFunc over a closure that captures one pointer, at inputs, wires and drives. No condition. -/
import Derived.Test.YtphblfmjdiigkaaGreatDoorTFnExactNetTextHFnExactNetTextx6
import Derived.Test.YtphblfmjdiigkaaGreatDoorTFnExactNetTextHFnExactNetTextx11
import Derived.Test.YtphblfmjdiigkaaGreatDoorTFnExactNetTextHj2
import Derived.Test.YtphblfmjdiigkaaGreatDoorTFnExactNetTextHj1
import Derived.WalkLawsBesides
import Derived.WalkSpells
import Derived.Deep.RegionHeld
import Derived.Deep.DeepCutAuto
import Derived.Deep.CutBlock
namespace Go.Proofs.YtphblfmjdiigkaaGreatDoor.Hj3
open Go.RowKit Go.Proofs.YtphblfmjdiigkaaGreatDoor.Hj2 Go.Proofs.YtphblfmjdiigkaaGreatDoor.Hj1 Go.Proofs.YtphblfmjdiigkaaGreatDoor.HFnExactNetText Go.Proofs.YtphblfmjdiigkaaGreatDoorW.PrintWords Go.Proofs.YtphblfmjdiigkaaGreatDoorW.PrintLast Go.Proofs.YtphblfmjdiigkaaGreatDoorW.PrintMore
set_option linter.unusedVariables false
set_option linter.unusedSimpArgs false
attribute [local go_sem] max2_int min2_int max_two min_two
attribute [local go_sem high] eqA39
attribute [local go_sem high] eqA41
theorem rd46 (l : List S41) (i : Nat) (h : i < l.length) : rd_T41 l (i : Int) = l[i] := by
  unfold rd_T41; rw [Int.toNat_natCast, List.getD_eq_getElem?_getD, List.getElem?_eq_getElem h]; rfl
set_option maxRecDepth 100000 in
set_option maxHeartbeats 3200000 in
theorem index46 (g T : Nat) (C : Array Value) (p : S41 → Bool) (l : List S41) (A : Option Addr) (c : Nat) (w : World) (hg : w.heap[g]? = some (.cells C T (0, 0))) (hc : l.length ≤ c) (hC : Kd.C k41 w A l.length l)
    (hp : ∀ (x : S41) (W : World), W.heap[g]? = some (.cells C T (0, 0)) → Calls Tryz.prog 80 #[.agg #[.int .i64 x.f0, .int .i64 x.f1, .int .i64 x.f2.f0, .int .i64 x.f2.f1, .bool x.f3], .pointer (some ⟨g, 0, none⟩)] W fun e w' => e = .returned (.bool (p x)) ∧ Below W.heap.size W w') :
    Calls Tryz.prog 93 #[.slice A l.length c, .func (.func 80) #[] #[.pointer (some ⟨g, 0, none⟩)]] w fun e w' => ∃ i : Int, e = .returned (.int .i64 i) ∧ Aside0 (decide (i ≥ 0) = l.any p) ∧ Below w.heap.size w w' := by
  have hmx := Aside0.mk (Kd.C_max hC)
  go_enter Tryz.func93, Tryz.ntmps93
  go_wp2
  go_loopw [8] (fun i wr => ∃ (k : Nat), k ≤ l.length ∧ i = .int .i64 k ∧ Aside0 (∀ j (h : j < l.length), j < k → p l[j] = false) ∧ Below w.heap.size w wr) (fun i _ => l.length - (intOf i).toNat)
  case atStart => exact ⟨0, by omega, rfl, ⟨fun _ _ h => absurd h (by omega)⟩, Below.refl _ _⟩
  case round =>
    obtain ⟨k, hk, rfl, hf, hbw⟩ := hrel
    by_cases hlt : k < l.length
    · obtain ⟨ad, hA, e0, e1, e2, e3, e4⟩ := at_T41 (Kd.C_below hC hbw) (k : Int) (by omega) (by omega)
      subst hA
      rw [Int.toNat_natCast] at e0 e1 e2 e3 e4
      rw [rd46 l k hlt] at e0 e1 e2 e3 e4
      have hcall := hp l[k] wr (blk_below hg hbw)
      obtain ⟨q, hq⟩ : ∃ q, p l[k] = q := ⟨_, rfl⟩
      rw [hq] at hcall
      have hq' := Aside0.mk hq
      clear hq
      have hmem := Aside0.mk (List.getElem_mem hlt)
      generalize hxe : l[k] = x at e0 e1 e2 e3 e4 hcall
      clear hxe
      have d2 : decide ((k : Int) < (l.length : Int)) = true := by simp; omega
      have hu46 := Tryz.underlying41
      have hu44 := Tryz.underlying39
      have hkb : k + 1 ≤ 9223372036854775807 := Nat.le_trans hlt hmx.out
      have hkb' := Aside0.mk hkb
      clear hC hp hg hkb
      cases q with
      | true =>
        go_wp2_with fail
        refine hcall.mono ?_
        rintro e w2 ⟨rfl, hb2⟩
        clear hcall
        go_wp2
        go_ret
        refine ⟨(k : Int), rfl, ⟨?_⟩, hbw.trans (hb2.mono hbw.size)⟩
        rw [List.any_eq_true.2 ⟨_, hmem.out, hq'.out⟩]
        exact decide_eq_true (by omega)
      | false =>
        go_wp2_with fail
        refine hcall.mono ?_
        rintro e w2 ⟨rfl, hb2⟩
        clear hcall
        have hkb := hkb'.out
        have hf2 := Aside0.mk (show ∀ j (h : j < l.length), j < k + 1 → p l[j] = false from fun j h h1 => by
          by_cases e : j = k
          · subst e; exact hq'.out
          · exact hf.out j h (by omega))
        go_wp2
        go_roundw
        case rel => exact ⟨k + 1, by omega, by go_num, hf2, hbw.trans (hb2.mono hbw.size)⟩
        case measure => simp [intOf]; omega
    · have hkn : k = l.length := by omega
      subst hkn
      have d2 : decide ((l.length : Int) < (l.length : Int)) = false := by simp
      clear hC hp hg
      go_wp2
      go_ret
      refine ⟨-1, rfl, ⟨?_⟩, hbw⟩
      have : l.any p = false := by
        rw [List.any_eq_false]
        intro x hx
        obtain ⟨j, hj, rfl⟩ := List.mem_iff_getElem.1 hx
        rw [hf.out j hj hj]; simp
      rw [this]; rfl
set_option maxRecDepth 100000 in
theorem contains41 (g T : Nat) (C : Array Value) (p : S41 → Bool) (l : List S41) (A : Option Addr) (c : Nat) (w : World) (hg : w.heap[g]? = some (.cells C T (0, 0))) (hc : l.length ≤ c) (hC : Kd.C k41 w A l.length l)
    (hp : ∀ (x : S41) (W : World), W.heap[g]? = some (.cells C T (0, 0)) → Calls Tryz.prog 80 #[.agg #[.int .i64 x.f0, .int .i64 x.f1, .int .i64 x.f2.f0, .int .i64 x.f2.f1, .bool x.f3], .pointer (some ⟨g, 0, none⟩)] W fun e w' => e = .returned (.bool (p x)) ∧ Below W.heap.size W w') :
    Calls Tryz.prog 79 #[.slice A l.length c, .func (.func 80) #[] #[.pointer (some ⟨g, 0, none⟩)]] w fun e w' => e = .returned (.bool (l.any p)) ∧ Below w.heap.size w w' := by
  have h := index46 g T C p l A c w hg hc hC hp
  clear hg hC hp
  go_enter Tryz.func79, Tryz.ntmps79
  go_wp2_with fail
  refine h.mono ?_
  rintro e w2 ⟨i, rfl, hi, hb⟩
  clear h
  go_wp2
  go_ret
  exact ⟨by rw [← hi.out] <;> rfl, hb⟩
theorem rd48 (l : List S43) (i : Nat) (h : i < l.length) : rd_T43 l (i : Int) = l[i] := by
  unfold rd_T43; rw [Int.toNat_natCast, List.getD_eq_getElem?_getD, List.getElem?_eq_getElem h]; rfl
set_option maxRecDepth 100000 in
set_option maxHeartbeats 3200000 in
theorem index48 (g T : Nat) (C : Array Value) (p : S43 → Bool) (l : List S43) (A : Option Addr) (c : Nat) (w : World) (hg : w.heap[g]? = some (.cells C T (0, 0))) (hc : l.length ≤ c) (hC : Kd.C k43 w A l.length l)
    (hp : ∀ (x : S43) (W : World), W.heap[g]? = some (.cells C T (0, 0)) → Calls Tryz.prog 47 #[.agg #[.int .i64 x.f0, .int .i64 x.f1, .int .i64 x.f2.f0, .int .i64 x.f2.f1, .int .i64 x.f2.f2.f0, .int .i64 x.f2.f2.f1, .bool x.f2.f3, .int .i64 x.f3.f0, .int .i64 x.f3.f1, .int .i64 x.f3.f2.f0, .int .i64 x.f3.f2.f1, .bool x.f3.f3], .pointer (some ⟨g, 0, none⟩)] W fun e w' => e = .returned (.bool (p x)) ∧ Below W.heap.size W w') :
    Calls Tryz.prog 76 #[.slice A l.length c, .func (.func 47) #[] #[.pointer (some ⟨g, 0, none⟩)]] w fun e w' => ∃ i : Int, e = .returned (.int .i64 i) ∧ Aside0 (decide (i ≥ 0) = l.any p) ∧ Below w.heap.size w w' := by
  have hmx := Aside0.mk (Kd.C_max hC)
  go_enter Tryz.func76, Tryz.ntmps76
  go_wp2
  go_loopw [8] (fun i wr => ∃ (k : Nat), k ≤ l.length ∧ i = .int .i64 k ∧ Aside0 (∀ j (h : j < l.length), j < k → p l[j] = false) ∧ Below w.heap.size w wr) (fun i _ => l.length - (intOf i).toNat)
  case atStart => exact ⟨0, by omega, rfl, ⟨fun _ _ h => absurd h (by omega)⟩, Below.refl _ _⟩
  case round =>
    obtain ⟨k, hk, rfl, hf, hbw⟩ := hrel
    by_cases hlt : k < l.length
    · obtain ⟨ad, hA, e0, e1, e2, e3, e4, e5, e6, e7, e8, e9, e10, e11⟩ := at_T43 (Kd.C_below hC hbw) (k : Int) (by omega) (by omega)
      subst hA
      rw [Int.toNat_natCast] at e0 e1 e2 e3 e4 e5 e6 e7 e8 e9 e10 e11
      rw [rd48 l k hlt] at e0 e1 e2 e3 e4 e5 e6 e7 e8 e9 e10 e11
      have hcall := hp l[k] wr (blk_below hg hbw)
      obtain ⟨q, hq⟩ : ∃ q, p l[k] = q := ⟨_, rfl⟩
      rw [hq] at hcall
      have hq' := Aside0.mk hq
      clear hq
      have hmem := Aside0.mk (List.getElem_mem hlt)
      generalize hxe : l[k] = x at e0 e1 e2 e3 e4 e5 e6 e7 e8 e9 e10 e11 hcall
      clear hxe
      have d2 : decide ((k : Int) < (l.length : Int)) = true := by simp; omega
      have hu48 := Tryz.underlying43
      have hu46 := Tryz.underlying41
      have hu44 := Tryz.underlying39
      have hkb : k + 1 ≤ 9223372036854775807 := Nat.le_trans hlt hmx.out
      have hkb' := Aside0.mk hkb
      clear hC hp hg hkb
      cases q with
      | true =>
        go_wp2_with fail
        refine hcall.mono ?_
        rintro e w2 ⟨rfl, hb2⟩
        clear hcall
        go_wp2
        go_ret
        refine ⟨(k : Int), rfl, ⟨?_⟩, hbw.trans (hb2.mono hbw.size)⟩
        rw [List.any_eq_true.2 ⟨_, hmem.out, hq'.out⟩]
        exact decide_eq_true (by omega)
      | false =>
        go_wp2_with fail
        refine hcall.mono ?_
        rintro e w2 ⟨rfl, hb2⟩
        clear hcall
        have hkb := hkb'.out
        have hf2 := Aside0.mk (show ∀ j (h : j < l.length), j < k + 1 → p l[j] = false from fun j h h1 => by
          by_cases e : j = k
          · subst e; exact hq'.out
          · exact hf.out j h (by omega))
        go_wp2
        go_roundw
        case rel => exact ⟨k + 1, by omega, by go_num, hf2, hbw.trans (hb2.mono hbw.size)⟩
        case measure => simp [intOf]; omega
    · have hkn : k = l.length := by omega
      subst hkn
      have d2 : decide ((l.length : Int) < (l.length : Int)) = false := by simp
      clear hC hp hg
      go_wp2
      go_ret
      refine ⟨-1, rfl, ⟨?_⟩, hbw⟩
      have : l.any p = false := by
        rw [List.any_eq_false]
        intro x hx
        obtain ⟨j, hj, rfl⟩ := List.mem_iff_getElem.1 hx
        rw [hf.out j hj hj]; simp
      rw [this]; rfl
set_option maxRecDepth 100000 in
theorem contains43 (g T : Nat) (C : Array Value) (p : S43 → Bool) (l : List S43) (A : Option Addr) (c : Nat) (w : World) (hg : w.heap[g]? = some (.cells C T (0, 0))) (hc : l.length ≤ c) (hC : Kd.C k43 w A l.length l)
    (hp : ∀ (x : S43) (W : World), W.heap[g]? = some (.cells C T (0, 0)) → Calls Tryz.prog 47 #[.agg #[.int .i64 x.f0, .int .i64 x.f1, .int .i64 x.f2.f0, .int .i64 x.f2.f1, .int .i64 x.f2.f2.f0, .int .i64 x.f2.f2.f1, .bool x.f2.f3, .int .i64 x.f3.f0, .int .i64 x.f3.f1, .int .i64 x.f3.f2.f0, .int .i64 x.f3.f2.f1, .bool x.f3.f3], .pointer (some ⟨g, 0, none⟩)] W fun e w' => e = .returned (.bool (p x)) ∧ Below W.heap.size W w') :
    Calls Tryz.prog 46 #[.slice A l.length c, .func (.func 47) #[] #[.pointer (some ⟨g, 0, none⟩)]] w fun e w' => e = .returned (.bool (l.any p)) ∧ Below w.heap.size w w' := by
  have h := index48 g T C p l A c w hg hc hC hp
  clear hg hC hp
  go_enter Tryz.func46, Tryz.ntmps46
  go_wp2_with fail
  refine h.mono ?_
  rintro e w2 ⟨i, rfl, hi, hb⟩
  clear h
  go_wp2
  go_ret
  exact ⟨by rw [← hi.out] <;> rfl, hb⟩
theorem rd62 (l : List S66) (i : Nat) (h : i < l.length) : rd_T66 l (i : Int) = l[i] := by
  unfold rd_T66; rw [Int.toNat_natCast, List.getD_eq_getElem?_getD, List.getElem?_eq_getElem h]; rfl
set_option maxRecDepth 100000 in
set_option maxHeartbeats 3200000 in
theorem index62 (g T : Nat) (C : Array Value) (p : S66 → Bool) (l : List S66) (A : Option Addr) (c : Nat) (w : World) (hg : w.heap[g]? = some (.cells C T (0, 0))) (hc : l.length ≤ c) (hC : Kd.C k66 w A l.length l)
    (hp : ∀ (x : S66) (W : World), W.heap[g]? = some (.cells C T (0, 0)) → Calls Tryz.prog 51 #[.agg #[.int .i64 x.f0.f0, .int .i64 x.f0.f1, .int .i64 x.f1], .pointer (some ⟨g, 0, none⟩)] W fun e w' => e = .returned (.bool (p x)) ∧ Below W.heap.size W w') :
    Calls Tryz.prog 82 #[.slice A l.length c, .func (.func 51) #[] #[.pointer (some ⟨g, 0, none⟩)]] w fun e w' => ∃ i : Int, e = .returned (.int .i64 i) ∧ Aside0 (decide (i ≥ 0) = l.any p) ∧ Below w.heap.size w w' := by
  have hmx := Aside0.mk (Kd.C_max hC)
  go_enter Tryz.func82, Tryz.ntmps82
  go_wp2
  go_loopw [8] (fun i wr => ∃ (k : Nat), k ≤ l.length ∧ i = .int .i64 k ∧ Aside0 (∀ j (h : j < l.length), j < k → p l[j] = false) ∧ Below w.heap.size w wr) (fun i _ => l.length - (intOf i).toNat)
  case atStart => exact ⟨0, by omega, rfl, ⟨fun _ _ h => absurd h (by omega)⟩, Below.refl _ _⟩
  case round =>
    obtain ⟨k, hk, rfl, hf, hbw⟩ := hrel
    by_cases hlt : k < l.length
    · obtain ⟨ad, hA, e0, e1, e2⟩ := at_T66 (Kd.C_below hC hbw) (k : Int) (by omega) (by omega)
      subst hA
      rw [Int.toNat_natCast] at e0 e1 e2
      rw [rd62 l k hlt] at e0 e1 e2
      have hcall := hp l[k] wr (blk_below hg hbw)
      obtain ⟨q, hq⟩ : ∃ q, p l[k] = q := ⟨_, rfl⟩
      rw [hq] at hcall
      have hq' := Aside0.mk hq
      clear hq
      have hmem := Aside0.mk (List.getElem_mem hlt)
      generalize hxe : l[k] = x at e0 e1 e2 hcall
      clear hxe
      have d2 : decide ((k : Int) < (l.length : Int)) = true := by simp; omega
      have hu62 := Tryz.underlying66
      have hu44 := Tryz.underlying39
      have hkb : k + 1 ≤ 9223372036854775807 := Nat.le_trans hlt hmx.out
      have hkb' := Aside0.mk hkb
      clear hC hp hg hkb
      cases q with
      | true =>
        go_wp2_with fail
        refine hcall.mono ?_
        rintro e w2 ⟨rfl, hb2⟩
        clear hcall
        go_wp2
        go_ret
        refine ⟨(k : Int), rfl, ⟨?_⟩, hbw.trans (hb2.mono hbw.size)⟩
        rw [List.any_eq_true.2 ⟨_, hmem.out, hq'.out⟩]
        exact decide_eq_true (by omega)
      | false =>
        go_wp2_with fail
        refine hcall.mono ?_
        rintro e w2 ⟨rfl, hb2⟩
        clear hcall
        have hkb := hkb'.out
        have hf2 := Aside0.mk (show ∀ j (h : j < l.length), j < k + 1 → p l[j] = false from fun j h h1 => by
          by_cases e : j = k
          · subst e; exact hq'.out
          · exact hf.out j h (by omega))
        go_wp2
        go_roundw
        case rel => exact ⟨k + 1, by omega, by go_num, hf2, hbw.trans (hb2.mono hbw.size)⟩
        case measure => simp [intOf]; omega
    · have hkn : k = l.length := by omega
      subst hkn
      have d2 : decide ((l.length : Int) < (l.length : Int)) = false := by simp
      clear hC hp hg
      go_wp2
      go_ret
      refine ⟨-1, rfl, ⟨?_⟩, hbw⟩
      have : l.any p = false := by
        rw [List.any_eq_false]
        intro x hx
        obtain ⟨j, hj, rfl⟩ := List.mem_iff_getElem.1 hx
        rw [hf.out j hj hj]; simp
      rw [this]; rfl
set_option maxRecDepth 100000 in
theorem contains66 (g T : Nat) (C : Array Value) (p : S66 → Bool) (l : List S66) (A : Option Addr) (c : Nat) (w : World) (hg : w.heap[g]? = some (.cells C T (0, 0))) (hc : l.length ≤ c) (hC : Kd.C k66 w A l.length l)
    (hp : ∀ (x : S66) (W : World), W.heap[g]? = some (.cells C T (0, 0)) → Calls Tryz.prog 51 #[.agg #[.int .i64 x.f0.f0, .int .i64 x.f0.f1, .int .i64 x.f1], .pointer (some ⟨g, 0, none⟩)] W fun e w' => e = .returned (.bool (p x)) ∧ Below W.heap.size W w') :
    Calls Tryz.prog 50 #[.slice A l.length c, .func (.func 51) #[] #[.pointer (some ⟨g, 0, none⟩)]] w fun e w' => e = .returned (.bool (l.any p)) ∧ Below w.heap.size w w' := by
  have h := index62 g T C p l A c w hg hc hC hp
  clear hg hC hp
  go_enter Tryz.func50, Tryz.ntmps50
  go_wp2_with fail
  refine h.mono ?_
  rintro e w2 ⟨i, rfl, hi, hb⟩
  clear h
  go_wp2
  go_ret
  exact ⟨by rw [← hi.out] <;> rfl, hb⟩
end Go.Proofs.YtphblfmjdiigkaaGreatDoor.Hj3
