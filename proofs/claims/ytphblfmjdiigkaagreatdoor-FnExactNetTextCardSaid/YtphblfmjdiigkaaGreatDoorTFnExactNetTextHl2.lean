/- strings.Join and strconv.Itoa at this program; the texts of places, inputs, wires and drives, as impl writes them. Condition: the table of the powers of ten is laid (Tb). -/
import Derived.Test.YtphblfmjdiigkaaGreatDoorTFnExactNetTextHl1
import Derived.Test.YtphblfmjdiigkaaGreatDoorTFnExactNetTextHj9
import Derived.Test.YtphblfmjdiigkaaGreatDoorTFnExactNetTextHb
import Derived.Test.YtphblfmjdiigkaaGreatDoorTFnExactNetTextHFnExactNetTextx9
import Derived.WalkSmall
import Derived.WalkLawsBesides
import Derived.WalkSpells
import Derived.Deep.RegionHeld
import Derived.Deep.DeepCutAuto
import Derived.Deep.CutBlock
namespace Go.Proofs.YtphblfmjdiigkaaGreatDoor.Hl2
open Go.RowKit Go.Proofs.YtphblfmjdiigkaaGreatDoor.Hj9 Go.Proofs.YtphblfmjdiigkaaGreatDoor.Hj8 Go.Proofs.YtphblfmjdiigkaaGreatDoor.Hb Go.Proofs.YtphblfmjdiigkaaGreatDoor.Hj1 Go.Proofs.YtphblfmjdiigkaaGreatDoor.Hj2 Go.Proofs.YtphblfmjdiigkaaGreatDoor.Hj3 Go.Proofs.YtphblfmjdiigkaaGreatDoor.Hj4 Go.Proofs.YtphblfmjdiigkaaGreatDoor.Hj5 Go.Proofs.YtphblfmjdiigkaaGreatDoor.Hj6 Go.Proofs.YtphblfmjdiigkaaGreatDoor.Hj7 Go.Proofs.YtphblfmjdiigkaaGreatDoor.HFnExactNetText Go.Proofs.YtphblfmjdiigkaaGreatDoorW.PrintWords Go.Proofs.YtphblfmjdiigkaaGreatDoorW.PrintLast Go.Proofs.YtphblfmjdiigkaaGreatDoorW.PrintMore
set_option linter.unusedVariables false
set_option linter.unusedSimpArgs false
/-- The table of the powers of ten stands where the program's text lays it. -/
structure Tb (w : World) : Prop where
  tab : Lib.TabIs Tryz.prog w "internal/strconv.uint64pow10" .u64 Lib.pow10Tab
  gl : ∃ g, Tryz.prog.globalNamed "internal/strconv.uint64pow10" = some g ∧ g < w.heap.size
theorem Tb.at_ {w W : World} (h : Tb w) (b : Below w.heap.size w W) : Tb W := by
  obtain ⟨g, hg, hlt⟩ := h.gl
  exact ⟨var?_below b hg hlt h.tab, g, hg, Nat.lt_of_lt_of_le hlt b.size⟩
theorem below_gr (w : World) (k : Nat) (os : Array Obj) : Below w.heap.size w (Go.Sort.grow (w.drewN k) os) :=
  ⟨rfl, rfl, rfl, by show w.heap.size ≤ (w.heap ++ os).size; simp, fun i hi => by
    show (w.heap ++ os)[i]? = w.heap[i]?
    exact Array.getElem?_append_left hi⟩
def itoaS (n : Int) : ByteArray := ⟨(Lib.itoa n).toArray⟩
theorem itoaC (n : Int) (h0 : 0 ≤ n) (h1 : n ≤ 100000) (W : World) (ht : Tb W) : Calls Tryz.prog 27 #[.int .i64 n] W fun e w' => e = .returned (.string (itoaS n)) ∧ Below W.heap.size W w' := by
  refine (Any.strconv_Itoa (ρ := Hl1.laysM171_ren) Hl1.laysM171 n (by omega) (by omega) W ht.tab).mono ?_
  rintro e w' ⟨rfl, k, os, rfl⟩
  exact ⟨rfl, below_gr W k os⟩
def joinS (xs : List ByteArray) (sep : ByteArray) : ByteArray := ⟨(Lib.join (xs.map (·.data.toList)) sep.data.toList).toArray⟩
theorem joinC {base : Nat} {ok : Nat → Prop} (v : Value) (xs : List ByteArray) (sep : ByteArray) (W : World) (hR : Kd.R Kd.string 9 W base ok v xs) (h1 : 1 ≤ xs.length) (hn : xs.length ≤ 100) (hl : (Lib.join (xs.map (·.data.toList)) sep.data.toList).length ≤ 1000000) :
    Calls Tryz.prog 30 #[v, .string sep] W fun e w' => e = .returned (.string (joinS xs sep)) ∧ Below W.heap.size W w' := by
  obtain ⟨g, cp, rfl, hg, hg2, cs, hcs⟩ := Kd.R_form hR (by omega)
  obtain ⟨A', c', hv, hlc, hC⟩ := Kd.R_reads hR
  injection hv with hv1 hv2 hv3
  subst hv1 hv3
  refine (Any.strings_Join (ρ := Hl1.lays156_ren) Hl1.lays156 Hl1.extra156 g 0 cp xs sep W (fun j x hj => ?_) (blk_lt hcs) (by omega) hlc (by omega)).mono ?_
  · have hjl := (List.getElem?_eq_some_iff.1 hj).1
    obtain ⟨ad, hA, hc⟩ := Kd.at_string hC (j : Int) (by omega) (by omega)
    injection hA with hA
    subst hA
    have e : rdOf ByteArray.empty xs (j : Int) = x := by
      unfold rdOf
      rw [Int.toNat_natCast, List.getD_eq_getElem?_getD, hj]; rfl
    rw [e, Int.toNat_natCast] at hc
    have e2 : ((⟨g, 0, none⟩ : Addr).add j) = ⟨g, 0 + j, none⟩ := by
      simp [Addr.add]
      try (intro h; omega)
    rw [e2] at hc
    exact hc
  · rintro e w' ⟨rfl, hb⟩
    exact ⟨rfl, hb⟩
def wns : Array MapEntry := #[⟨.int .i64 1, .string ⟨#[100, 101, 108, 97, 121]⟩, 0⟩, ⟨.int .i64 2, .string ⟨#[104, 111, 108, 100]⟩, 1⟩, ⟨.int .i64 3, .string ⟨#[99, 111, 117, 110, 116]⟩, 2⟩, ⟨.int .i64 4, .string ⟨#[114, 105, 115, 101]⟩, 3⟩, ⟨.int .i64 5, .string ⟨#[108, 97, 116, 99, 104]⟩, 4⟩, ⟨.int .i64 11, .string ⟨#[97, 110, 100]⟩, 5⟩, ⟨.int .i64 12, .string ⟨#[111, 114]⟩, 6⟩, ⟨.int .i64 13, .string ⟨#[120, 111, 114]⟩, 7⟩]
theorem w_names (w : World) : Calls Tryz.prog 24 #[] w fun e w' => e = .returned (.map (some w.heap.size)) ∧ w.alloc (.map wns 8) = w' := by
  have hmm : (Instr.makeMap 53 none).run Tryz.prog w = .ok (.map (some w.heap.size)) (w.alloc (.map #[] 0)) := rfl
  have h1 := ins_new w Tryz.underlying53 Tryz.underlying3 #[] 0 1 (.string ⟨#[100, 101, 108, 97, 121]⟩) rfl
  have h2 := ins_new w Tryz.underlying53 Tryz.underlying3 #[⟨.int .i64 1, .string ⟨#[100, 101, 108, 97, 121]⟩, 0⟩] 1 2 (.string ⟨#[104, 111, 108, 100]⟩) rfl
  have h3 := ins_new w Tryz.underlying53 Tryz.underlying3 #[⟨.int .i64 1, .string ⟨#[100, 101, 108, 97, 121]⟩, 0⟩, ⟨.int .i64 2, .string ⟨#[104, 111, 108, 100]⟩, 1⟩] 2 3 (.string ⟨#[99, 111, 117, 110, 116]⟩) rfl
  have h4 := ins_new w Tryz.underlying53 Tryz.underlying3 #[⟨.int .i64 1, .string ⟨#[100, 101, 108, 97, 121]⟩, 0⟩, ⟨.int .i64 2, .string ⟨#[104, 111, 108, 100]⟩, 1⟩, ⟨.int .i64 3, .string ⟨#[99, 111, 117, 110, 116]⟩, 2⟩] 3 4 (.string ⟨#[114, 105, 115, 101]⟩) rfl
  have h5 := ins_new w Tryz.underlying53 Tryz.underlying3 #[⟨.int .i64 1, .string ⟨#[100, 101, 108, 97, 121]⟩, 0⟩, ⟨.int .i64 2, .string ⟨#[104, 111, 108, 100]⟩, 1⟩, ⟨.int .i64 3, .string ⟨#[99, 111, 117, 110, 116]⟩, 2⟩, ⟨.int .i64 4, .string ⟨#[114, 105, 115, 101]⟩, 3⟩] 4 5 (.string ⟨#[108, 97, 116, 99, 104]⟩) rfl
  have h6 := ins_new w Tryz.underlying53 Tryz.underlying3 #[⟨.int .i64 1, .string ⟨#[100, 101, 108, 97, 121]⟩, 0⟩, ⟨.int .i64 2, .string ⟨#[104, 111, 108, 100]⟩, 1⟩, ⟨.int .i64 3, .string ⟨#[99, 111, 117, 110, 116]⟩, 2⟩, ⟨.int .i64 4, .string ⟨#[114, 105, 115, 101]⟩, 3⟩, ⟨.int .i64 5, .string ⟨#[108, 97, 116, 99, 104]⟩, 4⟩] 5 11 (.string ⟨#[97, 110, 100]⟩) rfl
  have h7 := ins_new w Tryz.underlying53 Tryz.underlying3 #[⟨.int .i64 1, .string ⟨#[100, 101, 108, 97, 121]⟩, 0⟩, ⟨.int .i64 2, .string ⟨#[104, 111, 108, 100]⟩, 1⟩, ⟨.int .i64 3, .string ⟨#[99, 111, 117, 110, 116]⟩, 2⟩, ⟨.int .i64 4, .string ⟨#[114, 105, 115, 101]⟩, 3⟩, ⟨.int .i64 5, .string ⟨#[108, 97, 116, 99, 104]⟩, 4⟩, ⟨.int .i64 11, .string ⟨#[97, 110, 100]⟩, 5⟩] 6 12 (.string ⟨#[111, 114]⟩) rfl
  have h8 := ins_new w Tryz.underlying53 Tryz.underlying3 #[⟨.int .i64 1, .string ⟨#[100, 101, 108, 97, 121]⟩, 0⟩, ⟨.int .i64 2, .string ⟨#[104, 111, 108, 100]⟩, 1⟩, ⟨.int .i64 3, .string ⟨#[99, 111, 117, 110, 116]⟩, 2⟩, ⟨.int .i64 4, .string ⟨#[114, 105, 115, 101]⟩, 3⟩, ⟨.int .i64 5, .string ⟨#[108, 97, 116, 99, 104]⟩, 4⟩, ⟨.int .i64 11, .string ⟨#[97, 110, 100]⟩, 5⟩, ⟨.int .i64 12, .string ⟨#[111, 114]⟩, 6⟩] 7 13 (.string ⟨#[120, 111, 114]⟩) rfl
  simp at h1 h2 h3 h4 h5 h6 h7 h8
  go_enter Tryz.func24, Tryz.ntmps24
  go_wp2
  go_ret
  exact ⟨rfl, rfl⟩
theorem fnd (k : Int) (h : (1 ≤ k ∧ k ≤ 5) ∨ (11 ≤ k ∧ k ≤ 13)) : ∃ i, Instr.findNow (.int .i64) (.int .i64 k) wns.toList 0 = some (some (i, .string (rdOf ByteArray.empty kindL k))) := by
  have h' : k = 1 ∨ k = 2 ∨ k = 3 ∨ k = 4 ∨ k = 5 ∨ k = 11 ∨ k = 12 ∨ k = 13 := by omega
  rcases h' with rfl | rfl | rfl | rfl | rfl | rfl | rfl | rfl
  · exact ⟨0, rfl⟩
  · exact ⟨1, rfl⟩
  · exact ⟨2, rfl⟩
  · exact ⟨3, rfl⟩
  · exact ⟨4, rfl⟩
  · exact ⟨5, rfl⟩
  · exact ⟨6, rfl⟩
  · exact ⟨7, rfl⟩
theorem look_nm (k : Int) (h : (1 ≤ k ∧ k ≤ 5) ∨ (11 ≤ k ∧ k ≤ 13)) {b : Nat} {W : World} (hb : W.heap[b]? = some (.map wns 8)) : (Instr.lookup 53 (.map (some b)) (.int .i64 k) false).run Tryz.prog W = .ok (.string (rdOf ByteArray.empty kindL k)) W := by
  obtain ⟨i, hf⟩ := fnd k h
  have := look_hit W Tryz.underlying53 Tryz.underlying3 hb k false hf
  simpa using this
def letS (k : Int) : ByteArray := rdOf ByteArray.empty [(⟨#[]⟩ : ByteArray), (⟨#[105]⟩ : ByteArray), (⟨#[111]⟩ : ByteArray), (⟨#[118]⟩ : ByteArray)] k
set_option maxRecDepth 100000 in
theorem letterC (k i : Int) (h1 : 1 ≤ k) (h2 : k ≤ 3) (W : World) : Calls Tryz.prog 60 #[.agg #[.int .i64 k, .int .i64 i]] W fun e w' => e = .returned (.string (letS k)) ∧ Below W.heap.size W w' := by
  have hu39 := Tryz.underlying39
  have h' : k = 1 ∨ k = 2 ∨ k = 3 := by omega
  rcases h' with rfl | rfl | rfl
  all_goals
    go_enter Tryz.func60, Tryz.ntmps60
    go_wp2
    go_ret
    exact ⟨rfl, al W _⟩

theorem let_size (k : Int) : (letS k).size ≤ 1 := by
  by_cases h : k = 1 ∨ k = 2 ∨ k = 3
  · rcases h with rfl | rfl | rfl <;> decide
  · unfold letS rdOf
    match hk : k.toNat with
    | 0 => simp; try decide
    | 1 => exact absurd (by omega : k = 1) (fun e => h (.inl e))
    | 2 => exact absurd (by omega : k = 2) (fun e => h (.inr (.inl e)))
    | 3 => exact absurd (by omega : k = 3) (fun e => h (.inr (.inr e)))
    | n + 4 => simp
theorem dd_len : ∀ (u : Nat), u ≤ 100000 → (Lib.decDigits u).length ≤ 6 := by
  have step : ∀ n u : Nat, u < 10 ^ (n + 1) → (Lib.decDigits u).length ≤ n + 1 := by
    intro n
    induction n with
    | zero => intro u hu; rw [Lib.decDigits, dif_pos (by omega)]; simp
    | succ n ih =>
      intro u hu
      rw [Lib.decDigits]
      by_cases h : u < 10
      · rw [dif_pos h]; simp
      · rw [dif_neg h, List.length_append, List.length_singleton]
        have := ih (u / 10) (by rw [Nat.div_lt_iff_lt_mul (by omega)]; rw [Nat.pow_succ] at hu; exact hu)
        omega
  intro u hu
  exact step 5 u (by omega)
theorem itoa_size (n : Int) (h0 : 0 ≤ n) (h1 : n ≤ 100000) : (itoaS n).size ≤ 6 := by
  show (Lib.itoa n).toArray.size ≤ 6
  unfold Lib.itoa
  rw [if_neg (by omega), List.size_toArray]
  exact dd_len _ (by omega)
def addrS (k i : Int) : ByteArray := letS k ++ itoaS i
theorem addr_size (k i : Int) (h0 : 0 ≤ i) (h1 : i ≤ 100000) : (addrS k i).size ≤ 7 := by
  unfold addrS
  rw [ByteArray.size_append]
  have := let_size k; have := itoa_size i h0 h1
  omega
structure Tn2 (w : World) (g : Nat) (ty : Nat) (X : Array Value) (W : World) : Prop where
  h : W.heap[g]? = some (.cells X ty (0, 0))
  bel : Below w.heap.size w W
theorem Tn2.below {w W W' : World} {g ty : Nat} {X : Array Value} (h : Tn2 w g ty X W) (k : Below W.heap.size W W') : Tn2 w g ty X W' := ⟨blk_below h.h k, h.bel.trans (k.mono h.bel.size)⟩
set_option maxRecDepth 100000 in
theorem addrTextC (k i : Int) (h : aOk k i = true) (w : World) (ht : Tb w) : Calls Tryz.prog 31 #[.agg #[.int .i64 k, .int .i64 i]] w fun e w' => e = .returned (.string (addrS k i)) ∧ Below w.heap.size w w' := by
  have hu39 := Tryz.underlying39
  have hT : Tn2 w w.heap.size 39 #[.int .i64 k, .int .i64 i] (w.alloc (.cells #[.int .i64 k, .int .i64 i] 39)) := ⟨heap_alloc_new _ _, al w _⟩
  have hk : 1 ≤ k ∧ k ≤ 3 ∧ 0 ≤ i ∧ i < 6 := by
    unfold aOk at h; simp only [Bool.and_eq_true, decide_eq_true_eq] at h; exact ⟨h.1, h.2.1, h.2.2.1, h.2.2.2⟩
  have c59 := fun W => aOkC k i W
  rw [h] at c59
  have f1 : (9223372036854775807 < (letS k).size + (itoaS i).size) = False := eq_false (by have := let_size k; have := itoa_size i (by omega) (by omega); omega)
  have HK := Aside0.mk hk
  clear hk h
  go_enter Tryz.func31, Tryz.ntmps31
  go_upto_region 1 with (fail)
  generalize w.alloc (Obj.cells _ 39) = W1 at hT ⊢
  obtain ⟨g, hg⟩ : ∃ q, w.heap.size = q := ⟨_, rfl⟩
  rw [hg] at hT ⊢
  clear hg
  have j0 : W1.cell? ⟨g, 0, none⟩ = some (.int .i64 k) := (blk_cell hT.h 0).trans rfl
  have j1 : W1.cell? ⟨g, 1, none⟩ = some (.int .i64 i) := (blk_cell hT.h 1).trans rfl
  go_wp2_with fail
  refine (c59 _).mono ?_
  rintro e w2 ⟨rfl, hd⟩
  replace hT := hT.below hd
  clear hd c59 j0 j1
  go_upto_region 3 with (fail)
  have hTd := hT.below (below_drew1 (Below.refl _ _))
  clear hT
  refine start_ (n := 7) (S := fun w' => w'.cell? ⟨g, 0, none⟩ = some (.int .i64 k) ∧ w'.cell? ⟨g, 1, none⟩ = some (.int .i64 i) ∧ Tn2 w g 39 #[.int .i64 k, .int .i64 i] w') (ds := []) #[false, false, false, false, false, false, false] (by kernel_rfl) rfl rfl ⟨(blk_cell hTd.h 0).trans rfl, (blk_cell hTd.h 1).trans rfl, hTd⟩ (fun hHeld => ?_)
  refine pure_ (i := 2) (N := some 8) (v := ?_) (a' := ?_) #[false, false, true, false, false, false, false] rfl rfl (by kernel_rfl) (fun _ _ _ h => h) (Or.inl ⟨by rfl, ?_⟩) ?_ ?_
  rotate_left
  · intro w'
    go_simp
    with_reducible rfl
  rotate_left
  · simp only [Act.put, List.setIfInBounds_toArray, List.set_cons_zero, List.set_cons_succ, i64_w, i32_w]
    rfl
  refine take_ (i := 0) (N := some 6) (v := ?_) (a' := ?_) #[true, false, true, false, false, false, false] rfl rfl (by kernel_rfl) (fun _ _ _ h => h) (Or.inl ⟨by rfl, ?_⟩) hHeld ?_ ?_
  rotate_left
  · rintro w' ⟨s0, s1, s2⟩
    go_simp
    with_reducible rfl
  rotate_left
  · simp only [Act.put, List.setIfInBounds_toArray, List.set_cons_zero, List.set_cons_succ, i64_w, i32_w]
    rfl
  refine take_ (i := 3) (N := some 9) (v := ?_) (a' := ?_) #[true, false, true, true, false, false, false] rfl rfl (by kernel_rfl) (fun _ _ _ h => h) (Or.inl ⟨by rfl, ?_⟩) hHeld ?_ ?_
  rotate_left
  · rintro w' ⟨s0, s1, s2⟩
    go_simp
    with_reducible rfl
  rotate_left
  · simp only [Act.put, List.setIfInBounds_toArray, List.set_cons_zero, List.set_cons_succ, i64_w, i32_w]
    rfl
  refine one_ (i := 1) (N := some 7) #[true, true, true, true, false, false, false] rfl rfl (by kernel_rfl) (by decide) (fun K hK => ?_)
  refine goes_ Tryz.func60 (by kernel_rfl) rfl #[.agg #[.int .i64 k, .int .i64 i]] (by rfl) rfl rfl (by simp only [List.map_toArray, List.map_cons, List.map_nil]; rfl) ?_
  with_reducible refine (letterC k i HK.out.1 HK.out.2.1 _).mono ?_
  rintro e wq ⟨rfl, hb⟩
  refine ⟨_, rfl, ?_⟩
  have hX := hHeld.2.2.below hb
  refine hK.out _ _ ⟨(blk_cell hX.h 0).trans rfl, (blk_cell hX.h 1).trans rfl, hX⟩ (fun hHeld => ?_)
  clear hK K
  refine norm_ (a' := ?_) ?_ ?_
  rotate_left
  · show Act.put _ (some 7) _ = _
    simp only [Act.put, List.setIfInBounds_toArray, List.set_cons_zero, List.set_cons_succ, i64_w, i32_w]
    rfl
  refine one_ (i := 4) (N := some 10) #[true, true, true, true, true, false, false] rfl rfl (by kernel_rfl) (by decide) (fun K hK => ?_)
  refine goes_ Tryz.func27 (by kernel_rfl) rfl #[.int .i64 i] (by rfl) rfl rfl (by simp only [List.map_toArray, List.map_cons, List.map_nil]; rfl) ?_
  with_reducible refine (itoaC i HK.out.2.2.1 (by have := HK.out.2.2.2; omega) _ (ht.at_ hHeld.2.2.bel)).mono ?_
  rintro e wq ⟨rfl, hb⟩
  refine ⟨_, rfl, ?_⟩
  have hX := hHeld.2.2.below hb
  refine hK.out _ _ ⟨(blk_cell hX.h 0).trans rfl, (blk_cell hX.h 1).trans rfl, hX⟩ (fun hHeld => ?_)
  clear hK K
  refine norm_ (a' := ?_) ?_ ?_
  rotate_left
  · show Act.put _ (some 10) _ = _
    simp only [Act.put, List.setIfInBounds_toArray, List.set_cons_zero, List.set_cons_succ, i64_w, i32_w]
    rfl
  refine pure_ (i := 5) (N := some 11) (v := ?_) (a' := ?_) #[true, true, true, true, true, true, false] rfl rfl (by kernel_rfl) (fun _ _ _ h => h) (Or.inl ⟨by rfl, ?_⟩) ?_ ?_
  rotate_left
  · intro w'
    go_simp
    with_reducible rfl
  rotate_left
  · simp only [Act.put, List.setIfInBounds_toArray, List.set_cons_zero, List.set_cons_succ, i64_w, i32_w]
    rfl
  refine pure_ (i := 6) (N := some 2) (v := ?_) (a' := ?_) #[true, true, true, true, true, true, true] rfl rfl (by kernel_rfl) (fun _ _ _ h => h) (Or.inl ⟨by rfl, ?_⟩) ?_ ?_
  rotate_left
  · intro w'
    go_simp
    with_reducible rfl
  rotate_left
  · simp only [Act.put, List.setIfInBounds_toArray, List.set_cons_zero, List.set_cons_succ, i64_w, i32_w]
    rfl
  refine done_ (by kernel_rfl) ?_
  have hB := hHeld.2.2.bel
  clear hHeld hTd f1
  go_wp2
  go_ret
  exact ⟨rfl, hB⟩

theorem m_text1 (v : Value) (w : World) : (method 297 132 v "loop.example/stopgate/impl.text").run Tryz.prog w = .ok (143, v) w := by kernel_rfl
theorem m_text2 (v : Value) (w : World) : (method 297 134 v "loop.example/stopgate/impl.text").run Tryz.prog w = .ok (147, v) w := by kernel_rfl
theorem m_text3 (v : Value) (w : World) : (method 297 135 v "loop.example/stopgate/impl.text").run Tryz.prog w = .ok (151, v) w := by kernel_rfl
set_option maxRecDepth 100000 in
theorem rt1 (c d : Int) (h : aOk c d = true) (w : World) (ht : Tb w) : Calls Tryz.prog 143 #[.agg #[.int .i64 c, .int .i64 d]] w fun e w' => e = .returned (.string (addrS c d)) ∧ Below w.heap.size w w' := by
  have hu132 := Tryz.underlying132
  have hu39 := Tryz.underlying39
  have hT : Tn2 w w.heap.size 132 #[.int .i64 c, .int .i64 d] (w.alloc (.cells #[.int .i64 c, .int .i64 d] 132)) := ⟨heap_alloc_new _ _, al w _⟩
  have cc := addrTextC c d h _ (ht.at_ hT.bel)
  have i0 : (w.alloc (.cells #[.int .i64 c, .int .i64 d] 132)).cell? ⟨w.heap.size, 0, none⟩ = some (.int .i64 c) := (blk_cell hT.h 0).trans rfl
  have i1 : (w.alloc (.cells #[.int .i64 c, .int .i64 d] 132)).cell? ⟨w.heap.size, 1, none⟩ = some (.int .i64 d) := (blk_cell hT.h 1).trans rfl
  clear h
  go_enter Tryz.func143, Tryz.ntmps143
  go_wp2_with fail
  refine cc.mono ?_
  rintro e w2 ⟨rfl, hb⟩
  have hB := (hT.below hb).bel
  clear hT cc i0 i1
  go_wp2
  go_ret
  exact ⟨rfl, hB⟩
set_option maxRecDepth 100000 in
theorem rt2 (t : Int) (h0 : 0 ≤ t) (h1 : t ≤ 100000) (w : World) (ht : Tb w) : Calls Tryz.prog 147 #[.agg #[.int .i64 t]] w fun e w' => e = .returned (.string ((⟨#[119]⟩ : ByteArray) ++ itoaS t)) ∧ Below w.heap.size w w' := by
  have hu := Tryz.underlying134
  have hT : Tn2 w w.heap.size 134 #[.int .i64 t] (w.alloc (.cells #[.int .i64 t] 134)) := ⟨heap_alloc_new _ _, al w _⟩
  have cc := itoaC t h0 h1 _ (ht.at_ hT.bel)
  have i0 : (w.alloc (.cells #[.int .i64 t] 134)).cell? ⟨w.heap.size, 0, none⟩ = some (.int .i64 t) := (blk_cell hT.h 0).trans rfl
  have f1 : (9223372036854775807 < 1 + (itoaS t).size) = False := eq_false (by have := itoa_size t h0 h1; omega)
  clear h0 h1
  go_enter Tryz.func147, Tryz.ntmps147
  go_wp2_with fail
  refine cc.mono ?_
  rintro e w2 ⟨rfl, hb⟩
  have hB := (hT.below hb).bel
  clear hT cc i0
  go_wp2
  go_ret
  exact ⟨rfl, hB⟩
set_option maxRecDepth 100000 in
theorem rt3 (t : Int) (h0 : 0 ≤ t) (h1 : t ≤ 100000) (w : World) (ht : Tb w) : Calls Tryz.prog 151 #[.agg #[.int .i64 t]] w fun e w' => e = .returned (.string ((⟨#[108]⟩ : ByteArray) ++ itoaS t)) ∧ Below w.heap.size w w' := by
  have hu := Tryz.underlying135
  have hT : Tn2 w w.heap.size 135 #[.int .i64 t] (w.alloc (.cells #[.int .i64 t] 135)) := ⟨heap_alloc_new _ _, al w _⟩
  have cc := itoaC t h0 h1 _ (ht.at_ hT.bel)
  have i0 : (w.alloc (.cells #[.int .i64 t] 135)).cell? ⟨w.heap.size, 0, none⟩ = some (.int .i64 t) := (blk_cell hT.h 0).trans rfl
  have f1 : (9223372036854775807 < 1 + (itoaS t).size) = False := eq_false (by have := itoa_size t h0 h1; omega)
  clear h0 h1
  go_enter Tryz.func151, Tryz.ntmps151
  go_wp2_with fail
  refine cc.mono ?_
  rintro e w2 ⟨rfl, hb⟩
  have hB := (hT.below hb).bel
  clear hT cc i0
  go_wp2
  go_ret
  exact ⟨rfl, hB⟩
def srcM (x : S41) : ByteArray := if x.f0 = 1 then addrS x.f2.f0 x.f2.f1 else if x.f0 = 2 then (⟨#[119]⟩ : ByteArray) ++ itoaS x.f1 else (⟨#[108]⟩ : ByteArray) ++ itoaS x.f1
def srcB (x : S41) : ByteArray := if x.f3 = true then (⟨#[33]⟩ : ByteArray) ++ srcM x else srcM x
theorem sOk_in {x : S41} {n : Int} (h : sOkS x n = true) : (x.f0 = 1 ∧ aOk x.f2.f0 x.f2.f1 = true) ∨ (x.f0 = 2 ∧ 0 ≤ x.f1 ∧ x.f1 < n) ∨ (x.f0 = 3 ∧ 0 ≤ x.f1 ∧ x.f1 < n) := by
  unfold sOkS sOk inB at h
  by_cases h1 : x.f0 = 1
  · rw [if_pos h1] at h; simp only [Bool.and_eq_true] at h; exact .inl ⟨h1, h.2⟩
  · rw [if_neg h1] at h
    by_cases h2 : x.f0 = 2 ∨ x.f0 = 3
    · rw [if_pos h2] at h
      simp only [Bool.and_eq_true, decide_eq_true_eq] at h
      rcases h2 with h2 | h2
      · exact .inr (.inl ⟨h2, h.2⟩)
      · exact .inr (.inr ⟨h2, h.2⟩)
    · rw [if_neg h2] at h; cases h
theorem srcM_size {x : S41} {n : Int} (h : sOkS x n = true) (hn : n ≤ 1000) : (srcM x).size ≤ 7 := by
  unfold srcM
  rcases sOk_in h with ⟨h1, h2⟩ | ⟨h1, h2, h3⟩ | ⟨h1, h2, h3⟩
  · rw [if_pos h1]
    unfold aOk at h2; simp only [Bool.and_eq_true, decide_eq_true_eq] at h2
    exact addr_size _ _ (by omega) (by omega)
  · rw [if_neg (by omega), if_pos h1, ByteArray.size_append]
    have := itoa_size x.f1 h2 (by omega)
    have e : (⟨#[119]⟩ : ByteArray).size = 1 := rfl
    omega
  · rw [if_neg (by omega), if_neg (by omega), ByteArray.size_append]
    have := itoa_size x.f1 h2 (by omega)
    have e : (⟨#[108]⟩ : ByteArray).size = 1 := rfl
    omega
theorem srcB_size {x : S41} {n : Int} (h : sOkS x n = true) (hn : n ≤ 1000) : (srcB x).size ≤ 8 := by
  have := srcM_size h hn
  unfold srcB
  split
  · rw [ByteArray.size_append]
    have e : (⟨#[33]⟩ : ByteArray).size = 1 := rfl
    omega
  · omega
set_option maxRecDepth 100000 in
theorem srcT1 (t c d : Int) (b : Bool) (m : ByteArray) (w : World) (ht : Tb w) (hz : m.size ≤ 7)
    (rt : ∀ W, Tb W → Calls Tryz.prog 143 #[.agg #[.int .i64 c, .int .i64 d]] W fun e w' => e = .returned (.string m) ∧ Below W.heap.size W w') :
    Calls Tryz.prog 29 #[.agg #[.int .i64 1, .int .i64 t, .int .i64 c, .int .i64 d, .bool b]] w fun e w' => e = .returned (.string (if b = true then (⟨#[33]⟩ : ByteArray) ++ m else m)) ∧ Below w.heap.size w w' := by
  have hu41 := Tryz.underlying41
  have hu39 := Tryz.underlying39
  have hT : Tn2 w w.heap.size 41 #[.int .i64 1, .int .i64 t, .int .i64 c, .int .i64 d, .bool b] (w.alloc (.cells #[.int .i64 1, .int .i64 t, .int .i64 c, .int .i64 d, .bool b] 41)) := ⟨heap_alloc_new _ _, al w _⟩
  have f1 : (9223372036854775807 < 1 + m.size) = False := eq_false (by omega)
  clear hz
  go_enter Tryz.func29, Tryz.ntmps29
  go_upto_region 1 with (fail)
  generalize w.alloc (Obj.cells _ 41) = W1 at hT ⊢
  obtain ⟨g, hg⟩ : ∃ q, w.heap.size = q := ⟨_, rfl⟩
  rw [hg] at hT ⊢
  clear hg
  have j0 : W1.cell? ⟨g, 0, none⟩ = some (.int .i64 1) := (blk_cell hT.h 0).trans rfl
  have j1 : W1.cell? ⟨g, 1, none⟩ = some (.int .i64 t) := (blk_cell hT.h 1).trans rfl
  have j2 : W1.cell? ⟨g, 2, none⟩ = some (.int .i64 c) := (blk_cell hT.h 2).trans rfl
  have j3 : W1.cell? ⟨g, 3, none⟩ = some (.int .i64 d) := (blk_cell hT.h 3).trans rfl
  have j4 : W1.cell? ⟨g, 4, none⟩ = some (.bool b) := (blk_cell hT.h 4).trans rfl
  have mt := m_text1
  cases b with
  | true =>
    go_wp2_with fail
    refine (reading1 t c d _ _).mono ?_
    rintro e w2 ⟨rfl, hb⟩
    replace hT := hT.below hb
    clear hb j0 j1 j2 j3 j4
    have rt' := rt _ (ht.at_ hT.bel)
    go_wp2_with fail
    refine rt'.mono ?_
    rintro e w3 ⟨rfl, hb⟩
    replace hT := hT.below hb
    have hB := hT.bel
    clear hb rt rt' hT mt
    go_wp2
    go_ret
    exact ⟨rfl, hB⟩
  | false =>
    go_wp2_with fail
    refine (reading1 t c d _ _).mono ?_
    rintro e w2 ⟨rfl, hb⟩
    replace hT := hT.below hb
    clear hb j0 j1 j2 j3 j4
    have rt' := rt _ (ht.at_ hT.bel)
    go_wp2_with fail
    refine rt'.mono ?_
    rintro e w3 ⟨rfl, hb⟩
    replace hT := hT.below hb
    have hB := hT.bel
    clear hb rt rt' hT mt
    go_wp2
    go_ret
    exact ⟨rfl, hB⟩
set_option maxRecDepth 100000 in
theorem srcT2 (t c d : Int) (b : Bool) (m : ByteArray) (w : World) (ht : Tb w) (hz : m.size ≤ 7)
    (rt : ∀ W, Tb W → Calls Tryz.prog 147 #[.agg #[.int .i64 t]] W fun e w' => e = .returned (.string m) ∧ Below W.heap.size W w') :
    Calls Tryz.prog 29 #[.agg #[.int .i64 2, .int .i64 t, .int .i64 c, .int .i64 d, .bool b]] w fun e w' => e = .returned (.string (if b = true then (⟨#[33]⟩ : ByteArray) ++ m else m)) ∧ Below w.heap.size w w' := by
  have hu41 := Tryz.underlying41
  have hu39 := Tryz.underlying39
  have hT : Tn2 w w.heap.size 41 #[.int .i64 2, .int .i64 t, .int .i64 c, .int .i64 d, .bool b] (w.alloc (.cells #[.int .i64 2, .int .i64 t, .int .i64 c, .int .i64 d, .bool b] 41)) := ⟨heap_alloc_new _ _, al w _⟩
  have f1 : (9223372036854775807 < 1 + m.size) = False := eq_false (by omega)
  clear hz
  go_enter Tryz.func29, Tryz.ntmps29
  go_upto_region 1 with (fail)
  generalize w.alloc (Obj.cells _ 41) = W1 at hT ⊢
  obtain ⟨g, hg⟩ : ∃ q, w.heap.size = q := ⟨_, rfl⟩
  rw [hg] at hT ⊢
  clear hg
  have j0 : W1.cell? ⟨g, 0, none⟩ = some (.int .i64 2) := (blk_cell hT.h 0).trans rfl
  have j1 : W1.cell? ⟨g, 1, none⟩ = some (.int .i64 t) := (blk_cell hT.h 1).trans rfl
  have j2 : W1.cell? ⟨g, 2, none⟩ = some (.int .i64 c) := (blk_cell hT.h 2).trans rfl
  have j3 : W1.cell? ⟨g, 3, none⟩ = some (.int .i64 d) := (blk_cell hT.h 3).trans rfl
  have j4 : W1.cell? ⟨g, 4, none⟩ = some (.bool b) := (blk_cell hT.h 4).trans rfl
  have mt := m_text2
  cases b with
  | true =>
    go_wp2_with fail
    refine (reading2 t c d _ _).mono ?_
    rintro e w2 ⟨rfl, hb⟩
    replace hT := hT.below hb
    clear hb j0 j1 j2 j3 j4
    have rt' := rt _ (ht.at_ hT.bel)
    go_wp2_with fail
    refine rt'.mono ?_
    rintro e w3 ⟨rfl, hb⟩
    replace hT := hT.below hb
    have hB := hT.bel
    clear hb rt rt' hT mt
    go_wp2
    go_ret
    exact ⟨rfl, hB⟩
  | false =>
    go_wp2_with fail
    refine (reading2 t c d _ _).mono ?_
    rintro e w2 ⟨rfl, hb⟩
    replace hT := hT.below hb
    clear hb j0 j1 j2 j3 j4
    have rt' := rt _ (ht.at_ hT.bel)
    go_wp2_with fail
    refine rt'.mono ?_
    rintro e w3 ⟨rfl, hb⟩
    replace hT := hT.below hb
    have hB := hT.bel
    clear hb rt rt' hT mt
    go_wp2
    go_ret
    exact ⟨rfl, hB⟩
set_option maxRecDepth 100000 in
theorem srcT3 (t c d : Int) (b : Bool) (m : ByteArray) (w : World) (ht : Tb w) (hz : m.size ≤ 7)
    (rt : ∀ W, Tb W → Calls Tryz.prog 151 #[.agg #[.int .i64 t]] W fun e w' => e = .returned (.string m) ∧ Below W.heap.size W w') :
    Calls Tryz.prog 29 #[.agg #[.int .i64 3, .int .i64 t, .int .i64 c, .int .i64 d, .bool b]] w fun e w' => e = .returned (.string (if b = true then (⟨#[33]⟩ : ByteArray) ++ m else m)) ∧ Below w.heap.size w w' := by
  have hu41 := Tryz.underlying41
  have hu39 := Tryz.underlying39
  have hT : Tn2 w w.heap.size 41 #[.int .i64 3, .int .i64 t, .int .i64 c, .int .i64 d, .bool b] (w.alloc (.cells #[.int .i64 3, .int .i64 t, .int .i64 c, .int .i64 d, .bool b] 41)) := ⟨heap_alloc_new _ _, al w _⟩
  have f1 : (9223372036854775807 < 1 + m.size) = False := eq_false (by omega)
  clear hz
  go_enter Tryz.func29, Tryz.ntmps29
  go_upto_region 1 with (fail)
  generalize w.alloc (Obj.cells _ 41) = W1 at hT ⊢
  obtain ⟨g, hg⟩ : ∃ q, w.heap.size = q := ⟨_, rfl⟩
  rw [hg] at hT ⊢
  clear hg
  have j0 : W1.cell? ⟨g, 0, none⟩ = some (.int .i64 3) := (blk_cell hT.h 0).trans rfl
  have j1 : W1.cell? ⟨g, 1, none⟩ = some (.int .i64 t) := (blk_cell hT.h 1).trans rfl
  have j2 : W1.cell? ⟨g, 2, none⟩ = some (.int .i64 c) := (blk_cell hT.h 2).trans rfl
  have j3 : W1.cell? ⟨g, 3, none⟩ = some (.int .i64 d) := (blk_cell hT.h 3).trans rfl
  have j4 : W1.cell? ⟨g, 4, none⟩ = some (.bool b) := (blk_cell hT.h 4).trans rfl
  have mt := m_text3
  cases b with
  | true =>
    go_wp2_with fail
    refine (reading3 t c d _ _).mono ?_
    rintro e w2 ⟨rfl, hb⟩
    replace hT := hT.below hb
    clear hb j0 j1 j2 j3 j4
    have rt' := rt _ (ht.at_ hT.bel)
    go_wp2_with fail
    refine rt'.mono ?_
    rintro e w3 ⟨rfl, hb⟩
    replace hT := hT.below hb
    have hB := hT.bel
    clear hb rt rt' hT mt
    go_wp2
    go_ret
    exact ⟨rfl, hB⟩
  | false =>
    go_wp2_with fail
    refine (reading3 t c d _ _).mono ?_
    rintro e w2 ⟨rfl, hb⟩
    replace hT := hT.below hb
    clear hb j0 j1 j2 j3 j4
    have rt' := rt _ (ht.at_ hT.bel)
    go_wp2_with fail
    refine rt'.mono ?_
    rintro e w3 ⟨rfl, hb⟩
    replace hT := hT.below hb
    have hB := hT.bel
    clear hb rt rt' hT mt
    go_wp2
    go_ret
    exact ⟨rfl, hB⟩
/-- impl.Src.text of an input that is ok. -/
theorem srcTextC (x : S41) (n : Int) (h : sOkS x n = true) (hn : n ≤ 1000) (w : World) (ht : Tb w) : Calls Tryz.prog 29 #[.agg #[.int .i64 x.f0, .int .i64 x.f1, .int .i64 x.f2.f0, .int .i64 x.f2.f1, .bool x.f3]] w fun e w' => e = .returned (.string (srcB x)) ∧ Below w.heap.size w w' := by
  have hz := srcM_size h hn
  have hin := sOk_in h
  obtain ⟨a, t, ⟨c, d⟩, b⟩ := x
  simp only at hin hz ⊢
  rcases hin with ⟨rfl, h2⟩ | ⟨rfl, h2, h3⟩ | ⟨rfl, h2, h3⟩
  · have e : srcM ⟨1, t, ⟨c, d⟩, b⟩ = addrS c d := rfl
    unfold srcB; rw [e] at hz ⊢
    exact srcT1 t c d b (addrS c d) w ht hz (fun W k => rt1 c d h2 W k)
  · have e : srcM ⟨2, t, ⟨c, d⟩, b⟩ = (⟨#[119]⟩ : ByteArray) ++ itoaS t := rfl
    unfold srcB; rw [e] at hz ⊢
    exact srcT2 t c d b _ w ht hz (fun W k => rt2 t h2 (by omega) W k)
  · have e : srcM ⟨3, t, ⟨c, d⟩, b⟩ = (⟨#[108]⟩ : ByteArray) ++ itoaS t := rfl
    unfold srcB; rw [e] at hz ⊢
    exact srcT3 t c d b _ w ht hz (fun W k => rt3 t h2 (by omega) W k)
end Go.Proofs.YtphblfmjdiigkaaGreatDoor.Hl2
