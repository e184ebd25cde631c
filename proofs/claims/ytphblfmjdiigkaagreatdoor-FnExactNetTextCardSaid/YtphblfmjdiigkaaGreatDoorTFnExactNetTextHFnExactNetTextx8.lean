/- spec.l7WireText by hand: the text of a wire. Condition: the kind is in range, the parts are short. -/
import Derived.Test.YtphblfmjdiigkaaGreatDoorTFnExactNetTextHFnExactNetTextx0
import Derived.Test.YtphblfmjdiigkaaGreatDoorTFnExactNetTextHFnExactNetTextx3
import Derived.Test.YtphblfmjdiigkaaGreatDoorTFnExactNetTextHFnExactNetTextx7
import Derived.WalkLawsBesides
import Derived.WalkSpells
import Derived.Deep.RegionHeld
import Derived.Deep.DeepCutAuto
import Derived.Deep.CutBlock
namespace Go.Proofs.YtphblfmjdiigkaaGreatDoor.HFnExactNetText
open Go.RowKit Go.Proofs.YtphblfmjdiigkaaGreatDoorW.PrintWords Go.Proofs.YtphblfmjdiigkaaGreatDoorW.PrintLast Go.Proofs.YtphblfmjdiigkaaGreatDoorW.PrintMore
set_option linter.unusedVariables false
set_option linter.unusedSimpArgs false
def kindL : List ByteArray := [(⟨#[]⟩ : ByteArray), (⟨#[100, 101, 108, 97, 121]⟩ : ByteArray), (⟨#[104, 111, 108, 100]⟩ : ByteArray), (⟨#[99, 111, 117, 110, 116]⟩ : ByteArray), (⟨#[114, 105, 115, 101]⟩ : ByteArray), (⟨#[108, 97, 116, 99, 104]⟩ : ByteArray), (⟨#[]⟩ : ByteArray), (⟨#[]⟩ : ByteArray), (⟨#[]⟩ : ByteArray), (⟨#[]⟩ : ByteArray), (⟨#[]⟩ : ByteArray), (⟨#[97, 110, 100]⟩ : ByteArray), (⟨#[111, 114]⟩ : ByteArray), (⟨#[120, 111, 114]⟩ : ByteArray)]
abbrev sp : ByteArray := ⟨#[32]⟩
def wtF (c b2 : Bool) (kw d s1 s2 : ByteArray) : ByteArray := let h := if c = true then kw ++ sp ++ d else kw; if b2 = true then h ++ sp ++ s1 ++ sp ++ s2 else h ++ sp ++ s1
/-- The text of a wire: the kind's word, the number where the kind has one, the one or two inputs. -/
def spec_l7WireText.f (k : Nat) (a0_0 : Int) (a0_1 : Int) (a0_2 : Int) (a0_3 : Int) (a0_4 : Int) (a0_5 : Int) (a0_6 : Bool) (a0_7 : Int) (a0_8 : Int) (a0_9 : Int) (a0_10 : Int) (a0_11 : Bool) : Option (ByteArray) :=
  if 0 ≤ a0_0 ∧ a0_0 < 14 then
    (spec_l7Gate.f a0_0).bind fun b1 => (spec_l7Two.f a0_0).bind fun b2 => (spec_l12Dec.f k a0_1).bind fun d => (spec_l7SrcText.f k a0_2 a0_3 a0_4 a0_5 a0_6).bind fun s1 => (if b2 = true then spec_l7SrcText.f k a0_7 a0_8 a0_9 a0_10 a0_11 else some ByteArray.empty).bind fun s2 =>
      if d.size ≤ 1000 ∧ s1.size ≤ 1000 ∧ s2.size ≤ 1000 then
        some (wtF (!b1 && decide (a0_0 ≤ 3)) b2 (rdOf ByteArray.empty kindL a0_0) d s1 s2)
      else none
  else none
theorem kind_size : ∀ (i : Nat), i < 14 → (rdOf ByteArray.empty kindL (i : Int)).size ≤ 5
  | 0, _ | 1, _ | 2, _ | 3, _ | 4, _ | 5, _ | 6, _ | 7, _ | 8, _ | 9, _ | 10, _ | 11, _ | 12, _ | 13, _ => by decide
  | n + 14, h => absurd h (by omega)
structure LW (w : World) (g : Nat) (X : Array Value) (W : World) : Prop where
  h : W.heap[g]? = some (.cells X 43 (0, 0))
  bel : Below w.heap.size w W
theorem LW.below {w W W' : World} {g : Nat} {X : Array Value} (h : LW w g X W) (k : Below W.heap.size W W') : LW w g X W' := ⟨blk_below h.h k, h.bel.trans (k.mono h.bel.size)⟩
set_option maxRecDepth 100000 in
set_option maxHeartbeats 12800000 in
theorem wireText (k : Nat) (a0 : Nat) (a1 a2 a3 a4 a5 : Int) (a6 : Bool) (a7 a8 a9 a10 : Int) (a11 b1 b2 : Bool) (d s1 s2 : ByteArray) (w : World) (h0 : a0 < 14) (e1 : spec_l7Gate.f a0 = some b1) (e2 : spec_l7Two.f a0 = some b2) (e3 : spec_l12Dec.f k a1 = some d) (e4 : spec_l7SrcText.f k a2 a3 a4 a5 a6 = some s1) (e5 : b2 = true → spec_l7SrcText.f k a7 a8 a9 a10 a11 = some s2) (z1 : d.size ≤ 1000) (z2 : s1.size ≤ 1000) (z3 : s2.size ≤ 1000) :
    Calls Tryz.prog 41 #[.agg #[.int .i64 (a0 : Int), .int .i64 a1, .int .i64 a2, .int .i64 a3, .int .i64 a4, .int .i64 a5, .bool a6, .int .i64 a7, .int .i64 a8, .int .i64 a9, .int .i64 a10, .bool a11]] w fun e w' => e = .returned (.string (wtF (!b1 && decide ((a0 : Int) ≤ 3)) b2 (rdOf ByteArray.empty kindL a0) d s1 s2)) ∧ Below w.heap.size w w' := by
  have hu43 := Tryz.underlying43
  have hu41 := Tryz.underlying41
  have hu39 := Tryz.underlying39
  have hT : LW w w.heap.size #[.int .i64 (a0 : Int), .int .i64 a1, .int .i64 a2, .int .i64 a3, .int .i64 a4, .int .i64 a5, .bool a6, .int .i64 a7, .int .i64 a8, .int .i64 a9, .int .i64 a10, .bool a11] (w.alloc (.cells #[.int .i64 (a0 : Int), .int .i64 a1, .int .i64 a2, .int .i64 a3, .int .i64 a4, .int .i64 a5, .bool a6, .int .i64 a7, .int .i64 a8, .int .i64 a9, .int .i64 a10, .bool a11] 43)) := ⟨heap_alloc_new _ _, (Below.refl _ _).alloc (Nat.le_refl _) _⟩
  have hks := kind_size a0 h0
  have hkl : a0 < kindL.length := h0
  obtain ⟨kw, hkw⟩ : ∃ q, rdOf ByteArray.empty kindL (a0 : Int) = q := ⟨_, rfl⟩
  rw [hkw] at hks ⊢
  have KW := Aside0.mk hkw
  clear hkw
  have E1 := Aside0.mk e1
  have E2 := Aside0.mk e2
  have E3 := Aside0.mk e3
  have E4 := Aside0.mk e4
  have E5 := Aside0.mk e5
  clear e1 e2 e3 e4 e5
  have c72 := fun W => spec_l7Kinds.calls kindL W rfl
  go_enter Tryz.func41, Tryz.ntmps41
  go_upto_region 1 with (fail)
  generalize w.alloc (Obj.cells _ 43) = W1 at hT ⊢
  obtain ⟨g, hg⟩ : ∃ q, w.heap.size = q := ⟨_, rfl⟩
  rw [hg] at hT ⊢
  clear hg
  have hTd := hT.below (below_drew1 (Below.refl _ _))
  clear hT
  refine start_ (n := 6) (S := fun w' => w'.cell? ⟨g, 0, none⟩ = some (.int .i64 (a0 : Int)) ∧ LW w g #[.int .i64 (a0 : Int), .int .i64 a1, .int .i64 a2, .int .i64 a3, .int .i64 a4, .int .i64 a5, .bool a6, .int .i64 a7, .int .i64 a8, .int .i64 a9, .int .i64 a10, .bool a11] w') (ds := [4]) #[false, false, false, false, false, false] (by kernel_rfl) rfl rfl ⟨(blk_cell hTd.h 0).trans rfl, hTd⟩ (fun hHeld => ?_)
  refine pure_ (i := 1) (N := some 5) (v := ?_) (a' := ?_) #[false, true, false, false, false, false] rfl rfl (by kernel_rfl) (fun _ _ _ h => h) (Or.inl ⟨by rfl, ?_⟩) ?_ ?_
  rotate_left
  · intro w'
    go_simp
    with_reducible rfl
  rotate_left
  · simp only [Act.put, List.setIfInBounds_toArray, List.set_cons_zero, List.set_cons_succ, i64_w, i32_w]
    rfl
  refine take_ (i := 2) (N := some 6) (v := ?_) (a' := ?_) #[false, true, true, false, false, false] rfl rfl (by kernel_rfl) (fun _ _ _ h => h) (Or.inl ⟨by rfl, ?_⟩) hHeld ?_ ?_
  rotate_left
  · rintro w' ⟨s0, s1⟩
    go_simp
    with_reducible rfl
  rotate_left
  · simp only [Act.put, List.setIfInBounds_toArray, List.set_cons_zero, List.set_cons_succ, i64_w, i32_w]
    rfl
  refine one_ (i := 0) (N := some 4) #[true, true, true, false, false, false] rfl rfl (by kernel_rfl) (by decide) (fun K hK => ?_)
  refine goes_ Tryz.func72 (by kernel_rfl) rfl #[] (by rfl) rfl rfl (by simp only [List.map_toArray, List.map_cons, List.map_nil]) ?_
  with_reducible refine (c72 _).mono ?_
  rintro e w2 ⟨v0, rfl, hR, hb⟩
  refine ⟨_, rfl, ?_⟩
  obtain ⟨A, cA, rfl, hlc, hC⟩ := Kd.R_reads hR
  have hX2 := hHeld.2.below hb
  obtain ⟨ad, hA, hk⟩ := Kd.at_string hC (a0 : Int) (by omega) (by omega)
  subst hA
  rw [KW.out, Int.toNat_natCast] at hk
  refine hK.out _ _ ⟨(blk_cell hX2.h 0).trans rfl, hX2⟩ (fun hHeld => ?_)
  clear hK K
  refine norm_ (a' := ?_) ?_ ?_
  rotate_left
  · show Act.put _ (some 4) _ = _
    simp only [Act.put, List.setIfInBounds_toArray, List.set_cons_zero, List.set_cons_succ, i64_w, i32_w]
    rfl
  refine pure_ (i := 3) (N := some 7) (v := ?_) (a' := ?_) #[true, true, true, true, false, false] rfl rfl (by kernel_rfl) (fun _ _ _ h => h) (Or.inl ⟨by rfl, ?_⟩) ?_ ?_
  rotate_left
  · intro w'
    go_simp
    with_reducible rfl
  rotate_left
  · simp only [Act.put, List.setIfInBounds_toArray, List.set_cons_zero, List.set_cons_succ, i64_w, i32_w]
    rfl
  refine last_ (i := 4) (N := some 8) #[true, true, true, true, true, false] rfl rfl (by kernel_rfl) (by decide) (fun K hK => ?_)
  refine value_ (w1 := ?_) (v := ?_) (by rfl) rfl ?_ ?_
  rotate_left 2
  · go_simp
    constructor
    · rfl
    · rfl
  refine hK.out _ _ ?_
  clear hK K
  refine norm_ (a' := ?_) ?_ ?_
  rotate_left
  · show Act.put _ (some 8) _ = _
    simp only [Act.put, List.setIfInBounds_toArray, List.set_cons_zero, List.set_cons_succ, i64_w, i32_w]
    rfl
  refine pure_ (i := 5) (N := some 3) (v := ?_) (a' := ?_) #[true, true, true, true, true, true] rfl rfl (by kernel_rfl) (fun _ _ _ h => h) (Or.inl ⟨by rfl, ?_⟩) ?_ ?_
  rotate_left
  · intro w'
    go_simp
    with_reducible rfl
  rotate_left
  · simp only [Act.put, List.setIfInBounds_toArray, List.set_cons_zero, List.set_cons_succ, i64_w, i32_w]
    rfl
  refine done_ (by kernel_rfl) ?_
  have hT := hHeld.2
  clear hHeld hTd hkl c72
  try clear hk
  clear hC hR
  have j0 : w2.cell? ⟨g, 0, none⟩ = some (.int .i64 (a0 : Int)) := (blk_cell hT.h 0).trans rfl
  have cc := spec_l7Gate.calls a0 b1 w2 E1.out
  go_wp2_with fail
  refine cc.mono ?_
  rintro e w3 ⟨rfl, hd⟩
  replace hT := hT.below hd.below
  clear hd cc j0
  cases b1 with
  | true =>
    have HH : Aside0 ((if (!true && decide ((a0 : Int) ≤ 3)) = true then kw ++ sp ++ d else kw) = kw) := ⟨rfl⟩
    go_upto_region 4 with (fail)
    have f1 : (9223372036854775807 < kw.size + 1) = False := eq_false (by omega)
    have f2 : (9223372036854775807 < kw.size + 1 + s1.size) = False := eq_false (by omega)
    have j2 : w3.cell? ⟨g, 2, none⟩ = some (.int .i64 a2) := (blk_cell hT.h 2).trans rfl
    have j3 : w3.cell? ⟨g, 3, none⟩ = some (.int .i64 a3) := (blk_cell hT.h 3).trans rfl
    have j4 : w3.cell? ⟨g, 4, none⟩ = some (.int .i64 a4) := (blk_cell hT.h 4).trans rfl
    have j5 : w3.cell? ⟨g, 5, none⟩ = some (.int .i64 a5) := (blk_cell hT.h 5).trans rfl
    have j6 : w3.cell? ⟨g, 6, none⟩ = some (.bool a6) := (blk_cell hT.h 6).trans rfl
    have cc := fun W => spec_l7SrcText.calls k a2 a3 a4 a5 a6 s1 W E4.out
    go_wp2_with fail
    refine (cc _).mono ?_
    rintro e w5 ⟨rfl, hd⟩
    replace hT := hT.below hd
    clear hd cc j2 j3 j4 j5 j6
    have j0 : w5.cell? ⟨g, 0, none⟩ = some (.int .i64 (a0 : Int)) := (blk_cell hT.h 0).trans rfl
    have cc := fun W => spec_l7Two.calls a0 b2 W E2.out
    go_wp2_with fail
    refine (cc _).mono ?_
    rintro e w6 ⟨rfl, hd⟩
    replace hT := hT.below hd.below
    clear hd cc j0 f1 f2
    cases b2 with
    | true =>
      have f1 : (9223372036854775807 < kw.size + 1 + s1.size + 1) = False := eq_false (by omega)
      have f2 : (9223372036854775807 < kw.size + 1 + s1.size + 1 + s2.size) = False := eq_false (by omega)
      have j7 : w6.cell? ⟨g, 7, none⟩ = some (.int .i64 a7) := (blk_cell hT.h 7).trans rfl
      have j8 : w6.cell? ⟨g, 8, none⟩ = some (.int .i64 a8) := (blk_cell hT.h 8).trans rfl
      have j9 : w6.cell? ⟨g, 9, none⟩ = some (.int .i64 a9) := (blk_cell hT.h 9).trans rfl
      have j10 : w6.cell? ⟨g, 10, none⟩ = some (.int .i64 a10) := (blk_cell hT.h 10).trans rfl
      have j11 : w6.cell? ⟨g, 11, none⟩ = some (.bool a11) := (blk_cell hT.h 11).trans rfl
      have cc := fun W => spec_l7SrcText.calls k a7 a8 a9 a10 a11 s2 W (E5.out rfl)
      go_wp2_with fail
      refine (cc _).mono ?_
      rintro e w7 ⟨rfl, hd⟩
      replace hT := hT.below hd
      clear hd cc j7 j8 j9 j10 j11
      have hB := hT.bel
      go_wp2
      go_ret
      have e : wtF (!true && decide ((a0 : Int) ≤ 3)) true kw d s1 s2 = kw ++ sp ++ s1 ++ sp ++ s2 := by
        unfold wtF
        rw [HH.out]
        rfl
      rw [e]
      exact ⟨rfl, hB⟩
    | false =>
      have hB := hT.bel
      go_wp2
      go_ret
      have e : wtF (!true && decide ((a0 : Int) ≤ 3)) false kw d s1 s2 = kw ++ sp ++ s1 := by
        unfold wtF
        rw [HH.out]
        rfl
      rw [e]
      exact ⟨rfl, hB⟩
  | false =>
    by_cases hp : (a0 : Int) ≤ 3
    · have t1 : decide ((a0 : Int) ≤ 3) = true := decide_eq_true hp
      have j0 : w3.cell? ⟨g, 0, none⟩ = some (.int .i64 (a0 : Int)) := (blk_cell hT.h 0).trans rfl
      have j1 : w3.cell? ⟨g, 1, none⟩ = some (.int .i64 a1) := (blk_cell hT.h 1).trans rfl
      have f1 : (9223372036854775807 < kw.size + 1) = False := eq_false (by omega)
      have f2 : (9223372036854775807 < kw.size + 1 + d.size) = False := eq_false (by omega)
      have cc := fun W => spec_l12Dec.calls k a1 d W E3.out
      go_wp2_with fail
      refine (cc _).mono ?_
      rintro e w4 ⟨rfl, hd⟩
      replace hT := hT.below hd
      clear hd cc j0 j1
      go_upto_region 4 with (fail)
      clear f1 f2
      obtain ⟨h, hh_⟩ : ∃ q, kw ++ sp ++ d = q := ⟨_, rfl⟩
      have hh : h.size ≤ 2000 := by rw [← hh_]; simp only [ByteArray.size_append, show sp.size = 1 from rfl]; omega
      have HH := Aside0.mk (show (if (!false && decide ((a0 : Int) ≤ 3)) = true then kw ++ sp ++ d else kw) = h by rw [if_pos (by simpa using hp)]; exact hh_)
      rw [show kw ++ ({ data := #[32] } : ByteArray) ++ d = h from hh_]
      clear hh_ t1
      have f1 : (9223372036854775807 < h.size + 1) = False := eq_false (by omega)
      have f2 : (9223372036854775807 < h.size + 1 + s1.size) = False := eq_false (by omega)
      have j2 : w4.cell? ⟨g, 2, none⟩ = some (.int .i64 a2) := (blk_cell hT.h 2).trans rfl
      have j3 : w4.cell? ⟨g, 3, none⟩ = some (.int .i64 a3) := (blk_cell hT.h 3).trans rfl
      have j4 : w4.cell? ⟨g, 4, none⟩ = some (.int .i64 a4) := (blk_cell hT.h 4).trans rfl
      have j5 : w4.cell? ⟨g, 5, none⟩ = some (.int .i64 a5) := (blk_cell hT.h 5).trans rfl
      have j6 : w4.cell? ⟨g, 6, none⟩ = some (.bool a6) := (blk_cell hT.h 6).trans rfl
      have cc := fun W => spec_l7SrcText.calls k a2 a3 a4 a5 a6 s1 W E4.out
      go_wp2_with fail
      refine (cc _).mono ?_
      rintro e w5 ⟨rfl, hd⟩
      replace hT := hT.below hd
      clear hd cc j2 j3 j4 j5 j6
      have j0 : w5.cell? ⟨g, 0, none⟩ = some (.int .i64 (a0 : Int)) := (blk_cell hT.h 0).trans rfl
      have cc := fun W => spec_l7Two.calls a0 b2 W E2.out
      go_wp2_with fail
      refine (cc _).mono ?_
      rintro e w6 ⟨rfl, hd⟩
      replace hT := hT.below hd.below
      clear hd cc j0 f1 f2
      cases b2 with
      | true =>
        have f1 : (9223372036854775807 < h.size + 1 + s1.size + 1) = False := eq_false (by omega)
        have f2 : (9223372036854775807 < h.size + 1 + s1.size + 1 + s2.size) = False := eq_false (by omega)
        have j7 : w6.cell? ⟨g, 7, none⟩ = some (.int .i64 a7) := (blk_cell hT.h 7).trans rfl
        have j8 : w6.cell? ⟨g, 8, none⟩ = some (.int .i64 a8) := (blk_cell hT.h 8).trans rfl
        have j9 : w6.cell? ⟨g, 9, none⟩ = some (.int .i64 a9) := (blk_cell hT.h 9).trans rfl
        have j10 : w6.cell? ⟨g, 10, none⟩ = some (.int .i64 a10) := (blk_cell hT.h 10).trans rfl
        have j11 : w6.cell? ⟨g, 11, none⟩ = some (.bool a11) := (blk_cell hT.h 11).trans rfl
        have cc := fun W => spec_l7SrcText.calls k a7 a8 a9 a10 a11 s2 W (E5.out rfl)
        go_wp2_with fail
        refine (cc _).mono ?_
        rintro e w7 ⟨rfl, hd⟩
        replace hT := hT.below hd
        clear hd cc j7 j8 j9 j10 j11
        have hB := hT.bel
        go_wp2
        go_ret
        have e : wtF (!false && decide ((a0 : Int) ≤ 3)) true kw d s1 s2 = h ++ sp ++ s1 ++ sp ++ s2 := by
          unfold wtF
          rw [HH.out]
          rfl
        rw [e]
        exact ⟨rfl, hB⟩
      | false =>
        have hB := hT.bel
        go_wp2
        go_ret
        have e : wtF (!false && decide ((a0 : Int) ≤ 3)) false kw d s1 s2 = h ++ sp ++ s1 := by
          unfold wtF
          rw [HH.out]
          rfl
        rw [e]
        exact ⟨rfl, hB⟩
    · have t1 : decide ((a0 : Int) ≤ 3) = false := decide_eq_false hp
      have j0 : w3.cell? ⟨g, 0, none⟩ = some (.int .i64 (a0 : Int)) := (blk_cell hT.h 0).trans rfl
      go_upto_region 4 with (fail)
      have HH : Aside0 ((if (!false && decide ((a0 : Int) ≤ 3)) = true then kw ++ sp ++ d else kw) = kw) := ⟨by rw [if_neg (by simpa using hp)]⟩
      clear t1 j0
      have f1 : (9223372036854775807 < kw.size + 1) = False := eq_false (by omega)
      have f2 : (9223372036854775807 < kw.size + 1 + s1.size) = False := eq_false (by omega)
      have j2 : w3.cell? ⟨g, 2, none⟩ = some (.int .i64 a2) := (blk_cell hT.h 2).trans rfl
      have j3 : w3.cell? ⟨g, 3, none⟩ = some (.int .i64 a3) := (blk_cell hT.h 3).trans rfl
      have j4 : w3.cell? ⟨g, 4, none⟩ = some (.int .i64 a4) := (blk_cell hT.h 4).trans rfl
      have j5 : w3.cell? ⟨g, 5, none⟩ = some (.int .i64 a5) := (blk_cell hT.h 5).trans rfl
      have j6 : w3.cell? ⟨g, 6, none⟩ = some (.bool a6) := (blk_cell hT.h 6).trans rfl
      have cc := fun W => spec_l7SrcText.calls k a2 a3 a4 a5 a6 s1 W E4.out
      go_wp2_with fail
      refine (cc _).mono ?_
      rintro e w5 ⟨rfl, hd⟩
      replace hT := hT.below hd
      clear hd cc j2 j3 j4 j5 j6
      have j0 : w5.cell? ⟨g, 0, none⟩ = some (.int .i64 (a0 : Int)) := (blk_cell hT.h 0).trans rfl
      have cc := fun W => spec_l7Two.calls a0 b2 W E2.out
      go_wp2_with fail
      refine (cc _).mono ?_
      rintro e w6 ⟨rfl, hd⟩
      replace hT := hT.below hd.below
      clear hd cc j0 f1 f2
      cases b2 with
      | true =>
        have f1 : (9223372036854775807 < kw.size + 1 + s1.size + 1) = False := eq_false (by omega)
        have f2 : (9223372036854775807 < kw.size + 1 + s1.size + 1 + s2.size) = False := eq_false (by omega)
        have j7 : w6.cell? ⟨g, 7, none⟩ = some (.int .i64 a7) := (blk_cell hT.h 7).trans rfl
        have j8 : w6.cell? ⟨g, 8, none⟩ = some (.int .i64 a8) := (blk_cell hT.h 8).trans rfl
        have j9 : w6.cell? ⟨g, 9, none⟩ = some (.int .i64 a9) := (blk_cell hT.h 9).trans rfl
        have j10 : w6.cell? ⟨g, 10, none⟩ = some (.int .i64 a10) := (blk_cell hT.h 10).trans rfl
        have j11 : w6.cell? ⟨g, 11, none⟩ = some (.bool a11) := (blk_cell hT.h 11).trans rfl
        have cc := fun W => spec_l7SrcText.calls k a7 a8 a9 a10 a11 s2 W (E5.out rfl)
        go_wp2_with fail
        refine (cc _).mono ?_
        rintro e w7 ⟨rfl, hd⟩
        replace hT := hT.below hd
        clear hd cc j7 j8 j9 j10 j11
        have hB := hT.bel
        go_wp2
        go_ret
        have e : wtF (!false && decide ((a0 : Int) ≤ 3)) true kw d s1 s2 = kw ++ sp ++ s1 ++ sp ++ s2 := by
          unfold wtF
          rw [HH.out]
          rfl
        rw [e]
        exact ⟨rfl, hB⟩
      | false =>
        have hB := hT.bel
        go_wp2
        go_ret
        have e : wtF (!false && decide ((a0 : Int) ≤ 3)) false kw d s1 s2 = kw ++ sp ++ s1 := by
          unfold wtF
          rw [HH.out]
          rfl
        rw [e]
        exact ⟨rfl, hB⟩
theorem spec_l7WireText.calls (k : Nat) (a0_0 : Int) (a0_1 : Int) (a0_2 : Int) (a0_3 : Int) (a0_4 : Int) (a0_5 : Int) (a0_6 : Bool) (a0_7 : Int) (a0_8 : Int) (a0_9 : Int) (a0_10 : Int) (a0_11 : Bool) (r : ByteArray) (w : World) (h : spec_l7WireText.f k a0_0 a0_1 a0_2 a0_3 a0_4 a0_5 a0_6 a0_7 a0_8 a0_9 a0_10 a0_11 = some r) :
    Calls Tryz.prog 41 #[.agg #[.int .i64 a0_0, .int .i64 a0_1, .int .i64 a0_2, .int .i64 a0_3, .int .i64 a0_4, .int .i64 a0_5, .bool a0_6, .int .i64 a0_7, .int .i64 a0_8, .int .i64 a0_9, .int .i64 a0_10, .bool a0_11]] w fun e w' => e = .returned (.string r) ∧ Below w.heap.size w w' := by
  unfold spec_l7WireText.f at h
  by_cases h0 : 0 ≤ a0_0 ∧ a0_0 < 14
  · rw [if_pos h0] at h
    obtain ⟨b1, e1, h⟩ := Option.bind_eq_some_iff.mp h
    obtain ⟨b2, e2, h⟩ := Option.bind_eq_some_iff.mp h
    obtain ⟨d, e3, h⟩ := Option.bind_eq_some_iff.mp h
    obtain ⟨s1, e4, h⟩ := Option.bind_eq_some_iff.mp h
    obtain ⟨s2, e5, h⟩ := Option.bind_eq_some_iff.mp h
    by_cases hz : d.size ≤ 1000 ∧ s1.size ≤ 1000 ∧ s2.size ≤ 1000
    · rw [if_pos hz] at h
      obtain ⟨n, rfl⟩ := Int.eq_ofNat_of_zero_le h0.1
      obtain rfl := Option.some.inj h
      exact wireText k n a0_1 a0_2 a0_3 a0_4 a0_5 a0_6 a0_7 a0_8 a0_9 a0_10 a0_11 b1 b2 d s1 s2 w (by omega) e1 e2 e3 e4 (fun hb => by rw [if_pos hb] at e5; exact e5) hz.1 hz.2.1 hz.2.2
    · rw [if_neg hz] at h; cases h
  · rw [if_neg h0] at h; cases h
end Go.Proofs.YtphblfmjdiigkaaGreatDoor.HFnExactNetText
