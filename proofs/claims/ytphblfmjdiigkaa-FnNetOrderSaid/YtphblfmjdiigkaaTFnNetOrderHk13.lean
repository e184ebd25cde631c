/- The walk of the law FnNetOrder: it returns true for every draw of a net. No condition. -/
import Derived.Test.YtphblfmjdiigkaaTFnNetOrderHk12
import Derived.Test.YtphblfmjdiigkaaTFnNetOrderPFnNetOrderx6
import Derived.Test.YtphblfmjdiigkaaTFnNetOrderPFnNetOrderx7
import Derived.Test.YtphblfmjdiigkaaTFnNetOrderPFnNetOrderx8
import Derived.Test.YtphblfmjdiigkaaTFnNetOrderHk8
import Derived.WalkLawsBesides
import Derived.WalkSpells
import Derived.Deep.RegionHeld
import Derived.Deep.DeepCutAuto
import Derived.Deep.CutBlock
namespace Go.Proofs.Ytphblfmjdiigkaa.Hk13
open Go.RowKit Go.Proofs.Ytphblfmjdiigkaa.Hk12 Go.Proofs.Ytphblfmjdiigkaa.Hk8 Go.Proofs.Ytphblfmjdiigkaa.Hk7 Go.Proofs.Ytphblfmjdiigkaa.Hk6 Go.Proofs.Ytphblfmjdiigkaa.Hk5 Go.Proofs.Ytphblfmjdiigkaa.Hk4 Go.Proofs.Ytphblfmjdiigkaa.Hk1 Go.Proofs.Ytphblfmjdiigkaa.Hk2 Go.Proofs.Ytphblfmjdiigkaa.Hk3 Go.Proofs.Ytphblfmjdiigkaa.PFnNetOrder Go.Proofs.YtphblfmjdiigkaaW.PrintWords Go.Proofs.YtphblfmjdiigkaaW.PrintLast Go.Proofs.YtphblfmjdiigkaaW.PrintMore
set_option linter.unusedVariables false
set_option linter.unusedSimpArgs false
def pks (l : List S48) : Nat → List Bool → List Nat
  | 0, _ => []
  | f + 1, told => match pk l told l.length 0 with
    | none => []
    | some j => j :: pks l f (told.set j true)
theorem ordR_pks (l : List S48) : ∀ (f : Nat) (told : List Bool) (out : List Int), ordR l f told out = out ++ (pks l f told).map (fun j : Nat => (j : Int))
  | 0, told, out => by simp [ordR, pks]
  | f + 1, told, out => by
    rw [ordR, pks]
    cases h : pk l told l.length 0 with
    | none => simp
    | some j =>
      simp only [List.map_cons]
      rw [ordR_pks l f (told.set j true) (out ++ [(j : Int)])]
      simp
theorem pk_all (l : List S48) (told : List Bool) : ∀ (d i j : Nat), pk l told d i = some j → i ≤ j ∧ j < i + d ∧ td told (j : Int) = false ∧ wq told (rd_T48 l (j : Int)) = false ∧ ∀ k : Nat, i ≤ k → k < j → td told (k : Int) = true ∨ wq told (rd_T48 l (k : Int)) = true
  | 0, i, j, h => by cases h
  | d + 1, i, j, h => by
    rw [pk] at h
    by_cases c : td told (i : Int) = false ∧ wq told (rd_T48 l (i : Int)) = false
    · rw [if_pos c] at h
      obtain rfl := Option.some.inj h
      exact ⟨by omega, by omega, c.1, c.2, fun k h1 h2 => by omega⟩
    · rw [if_neg c] at h
      obtain ⟨h1, h2, h3, h4, h5⟩ := pk_all l told d (i + 1) j h
      refine ⟨by omega, by omega, h3, h4, fun k q1 q2 => ?_⟩
      by_cases e : k = i
      · subst e
        by_cases c1 : td told (k : Int) = true
        · exact .inl c1
        · by_cases c2 : wq told (rd_T48 l (k : Int)) = true
          · exact .inr c2
          · exact absurd ⟨by simpa using c1, by simpa using c2⟩ c
      · exact h5 k (by omega) q2
/-- The cells of the table of what is told. -/
def T8 (t : List Bool) : Array Value := #[.bool (td t 0), .bool (td t 1), .bool (td t 2), .bool (td t 3), .bool (td t 4), .bool (td t 5), .bool (td t 6), .bool (td t 7)]
theorem T8_get (t : List Bool) : ∀ (k : Nat), k < 8 → (T8 t)[k]? = some (.bool (td t (k : Int)))
  | 0, _ => rfl
  | 1, _ => rfl
  | 2, _ => rfl
  | 3, _ => rfl
  | 4, _ => rfl
  | 5, _ => rfl
  | 6, _ => rfl
  | 7, _ => rfl
  | n + 8, h => absurd h (by omega)
theorem T8_set (t : List Bool) (j : Nat) (hj : j < t.length) (h8 : j < 8) : (T8 t).setIfInBounds j (.bool true) = T8 (t.set j true) := by
  apply Array.ext_getElem?
  intro k
  by_cases hk : k < 8
  · rw [T8_get _ k hk, td_set t j (k : Int) (by omega) hj, Array.getElem?_setIfInBounds]
    by_cases e : j = k
    · subst e
      rw [if_pos rfl, if_pos (by exact h8)]
      simp
    · rw [if_neg e, T8_get t k hk, show ((k : Int) == (j : Int)) = false by simp; omega, Bool.or_false]
  · have a1 : ((T8 t).setIfInBounds j (.bool true)).size = 8 := by rw [Array.size_setIfInBounds]; rfl
    have a2 : (T8 (t.set j true)).size = 8 := rfl
    rw [Array.getElem?_eq_none (by omega), Array.getElem?_eq_none (by omega)]
theorem T8_zero (n : Nat) : T8 (List.replicate n false) = #[.bool false, .bool false, .bool false, .bool false, .bool false, .bool false, .bool false, .bool false] := by
  unfold T8; simp only [td_repl]
/-- The order read from its k-th place on is what is still picked. -/
theorem pks_step (l : List S48) (o : List Int) (k f : Nat) (told : List Bool) (hk : k < o.length) (hd : o.drop k = (pks l f told).map (fun j : Nat => (j : Int))) :
    ∃ (j g : Nat), pk l told l.length 0 = some j ∧ rd o (k : Int) = (j : Int) ∧ o.drop (k + 1) = (pks l g (told.set j true)).map (fun j : Nat => (j : Int)) := by
  rw [List.drop_eq_getElem_cons hk] at hd
  cases f with
  | zero => simp [pks] at hd; omega
  | succ f =>
    rw [pks] at hd
    cases hp : pk l told l.length 0 with
    | none => rw [hp] at hd; simp at hd; omega
    | some j =>
      rw [hp] at hd
      simp only [List.map_cons, List.cons.injEq] at hd
      refine ⟨j, f, rfl, ?_, hd.2⟩
      unfold rd; rw [Int.toNat_natCast, List.getD_eq_getElem?_getD, List.getElem?_eq_getElem hk]; exact hd.1
theorem ord_nat (u : List S48) : orD u = (pks u u.length (List.replicate u.length false)).map (fun j : Nat => (j : Int)) := by
  unfold orD; rw [ordR_pks]; simp
/-- What a wire that waits for nothing reads is told; what is not told and comes ahead of it waits. -/
theorem wq_no {t : List Bool} {x : S48} (h : wq t x = false) : (x.f2.f0 = 2 → td t x.f2.f1 = true) ∧ (x.f3.f0 = 2 → td t x.f3.f1 = true) := by
  unfold wq at h
  simp only [Bool.or_eq_false_iff, Bool.and_eq_false_iff, beq_eq_false_iff_ne, Bool.not_eq_false'] at h
  exact ⟨fun e => h.1.resolve_left (fun n => n e), fun e => h.2.resolve_left (fun n => n e)⟩
theorem wq_yes {t : List Bool} {x : S48} (h : wq t x = true) : (x.f2.f0 = 2 ∧ td t x.f2.f1 = false) ∨ (x.f3.f0 = 2 ∧ td t x.f3.f1 = false) := by
  unfold wq at h
  simp only [Bool.or_eq_true, Bool.and_eq_true, beq_iff_eq, Bool.not_eq_true'] at h
  exact h
theorem nOk_len {u : List S48} {v : List S62} (h : nOk u v = true) : (orD u).length = u.length := by
  unfold nOk at h
  simp only [Bool.and_eq_true, decide_eq_true_eq, beq_iff_eq] at h
  omega
structure Io (w6 : World) (g6 : Nat) (t : List Bool) (W : World) : Prop where
  h6 : W.heap[g6]? = some (.cells (T8 t) 42 (0, 0))
  bel : Below w6.heap.size w6 W
  ge : w6.heap.size ≤ g6
theorem Io.below {w6 W W' : World} {g6 : Nat} {t : List Bool} (h : Io w6 g6 t W) (k : Below W.heap.size W W') : Io w6 g6 t W' := ⟨blk_below h.h6 k, h.bel.trans (k.mono h.bel.size), h.ge⟩
theorem Io.alloc {w6 W : World} {g6 : Nat} {t : List Bool} (h : Io w6 g6 t W) (o : Obj) : Io w6 g6 t (W.alloc o) := h.below (al W o)
theorem Io.drew {w6 W : World} {g6 : Nat} {t : List Bool} (h : Io w6 g6 t W) : Io w6 g6 t W.drew := h.below (below_drew1 (Below.refl _ _))
theorem Io.lt {w6 W : World} {g6 : Nat} {t : List Bool} (h : Io w6 g6 t W) : g6 < W.heap.size := blk_lt h.h6
theorem Io.put {w6 W : World} {g6 : Nat} {t : List Bool} (h : Io w6 g6 t W) (j : Nat) (hj : j < t.length) (h8 : j < 8) : Io w6 g6 (t.set j true) (W.setCell ⟨g6, j, none⟩ (.bool true)) :=
  ⟨blk_put h.h6 j _ (T8_set t j hj h8), below_set h.bel h.ge, h.ge⟩
theorem Io.rd {w6 W : World} {g6 : Nat} {t : List Bool} (h : Io w6 g6 t W) (k : Nat) (hk : k < 8) : W.cell? ⟨g6, k, none⟩ = some (.bool (td t (k : Int))) := (blk_cell h.h6 k).trans (T8_get t k hk)
theorem Io.far_cell {w6 W : World} {g6 : Nat} {t : List Bool} (h : Io w6 g6 t W) {a : Addr} {v : Value} (e : w6.cell? a = some v) : W.cell? a = some v := (h.bel.cell (World.block_lt_of_cell? _ _ e)).trans e
set_option maxRecDepth 100000 in
set_option maxHeartbeats 12800000 in
theorem walk (A0 : Option Addr) (c0 : Nat) (l0 : List Int) (w : World) (hl0 : ¬ (l0.length : Int) > 1048576) (l : List S48) (m : List S62)
    (hdraw : Calls Try.prog 17 #[.slice A0 l0.length c0] w fun e w' => ∃ A c B d, e = .returned (.agg #[.slice A l.length c, .slice B m.length d]) ∧ l.length ≤ c ∧ m.length ≤ d ∧ Kd.C k48 w' A l.length l ∧ Kd.C k62 w' B m.length m ∧ Below w.heap.size w w') :
    Calls Try.prog 5 #[.slice A0 l0.length c0] w fun e w' => e = .returned (.bool true) ∧ Below w.heap.size w w' := by
  have t1 : decide (1048576 < (l0.length : Int)) = false := by simpa using hl0
  have t1' : decide ((l0.length : Int) > 1048576) = false := by simpa using hl0
  clear hl0
  have hu32 := Try.underlying32
  go_enter Try.func5, Try.ntmps5
  go_wp2_with fail
  refine hdraw.mono ?_
  rintro e W1 ⟨A, c, B, d, rfl, hlc, hmd, hC, hD, k1⟩
  clear hdraw t1 t1'
  go_upto_region 4 with (fail)
  have q3 := heap_alloc_new W1 (.cells #[.slice A l.length c, .slice B m.length d] 32)
  have hb := al W1 (.cells #[.slice A l.length c, .slice B m.length d] 32)
  replace hC := Kd.C_below hC hb
  replace hD := Kd.C_below hD hb
  replace k1 := k1.trans (hb.mono k1.size)
  clear hb
  generalize W1.alloc (Obj.cells _ 32) = W2 at hC hD q3 k1 ⊢
  obtain ⟨g3, hg3⟩ : ∃ g, W1.heap.size = g := ⟨_, rfl⟩
  rw [hg3] at q3 ⊢
  clear hg3
  have i0 : W2.cell? ⟨g3, 0, none⟩ = some (.slice A l.length c) := (blk_cell q3 0).trans rfl
  have i1 : W2.cell? ⟨g3, 1, none⟩ = some (.slice B m.length d) := (blk_cell q3 1).trans rfl
  have c9 := implOrder l m A B c d W2 hlc hmd hC hD
  have c7 := fun W hC hD => spec_NetOrder.calls 5000000 A c l B d m (ordN l m) W hC hlc hD hmd (specOrd l m)
  have c15 := fun W hC hD => spec_NetOk.calls 5000000 A c l B d m (nOk l m) W hC hlc hD hmd (netOkT l m 5000000 (by omega))
  have hol : (ordN l m).length ≤ 1048576 := ordN_len l m
  obtain ⟨o, ho⟩ : ∃ o, ordN l m = o := ⟨_, rfl⟩
  rw [ho] at c9 hol
  simp only [ho] at c7
  go_wp2_with fail
  refine c9.mono ?_
  rintro e W3 ⟨v0, rfl, hR, hb⟩
  obtain ⟨O, co, rfl, hoc, hO⟩ := Kd.R_reads hR
  replace q3 := blk_below q3 hb
  replace hC := Kd.C_below hC hb
  replace hD := Kd.C_below hD hb
  replace k1 := k1.trans (hb.mono k1.size)
  clear hb c9 i0 i1 hR
  have i0 : W3.cell? ⟨g3, 0, none⟩ = some (.slice A l.length c) := (blk_cell q3 0).trans rfl
  have i1 : W3.cell? ⟨g3, 1, none⟩ = some (.slice B m.length d) := (blk_cell q3 1).trans rfl
  have c7' := c7 _ hC hD
  clear c7
  go_wp2_with fail
  refine c7'.mono ?_
  rintro e W4 ⟨v0, rfl, hR, hb⟩
  obtain ⟨P, cp, rfl, hpc, hP⟩ := Kd.R_reads hR
  replace q3 := blk_below q3 hb
  replace hC := Kd.C_below hC hb
  replace hD := Kd.C_below hD hb
  replace hO := Kd.C_below hO hb
  replace k1 := k1.trans (hb.mono k1.size)
  clear hb c7' i0 i1 hR
  have i0 : W4.cell? ⟨g3, 0, none⟩ = some (.slice A l.length c) := (blk_cell q3 0).trans rfl
  have i1 : W4.cell? ⟨g3, 1, none⟩ = some (.slice B m.length d) := (blk_cell q3 1).trans rfl
  have c15' := c15 _ hC hD
  clear c15 hD
  obtain ⟨r, hr⟩ : ∃ r, nOk l m = r := ⟨_, rfl⟩
  rw [hr] at c15'
  have dne : ((o.length : Int) != (o.length : Int)) = false := by simp
  cases r with
  | false =>
    have ho0 : o = [] := by rw [← ho]; unfold ordN; rw [hr]; rfl
    subst ho0
    clear hr ho hC hO hP hlc hmd hol hoc hpc
    go_wp2_with fail
    refine c15'.mono ?_
    rintro e W5 ⟨rfl, hb⟩
    replace k1 := k1.trans (hb.mono k1.size)
    clear hb c15' i0 i1 q3
    go_wp2
    go_ret
    exact ⟨rfl, k1⟩
  | true =>
    obtain ⟨h8, hw⟩ := nOk_h8 hr
    have ho1 : o = (pks l l.length (List.replicate l.length false)).map (fun j : Nat => (j : Int)) := by rw [← ho]; unfold ordN; rw [if_pos hr]; exact ord_nat l
    have hlen : o.length = l.length := by rw [← ho]; unfold ordN; rw [if_pos hr]; exact nOk_len hr
    have hw' := Aside0.mk hw
    have h8' := Aside0.mk h8
    have ho' := Aside0.mk ho1
    have hlen' := Aside0.mk hlen
    clear hr ho hw h8 dne ho1 hlen
    have dne : ((o.length : Int) != (o.length : Int)) = false := by simp
    go_wp2_with fail
    refine c15'.mono ?_
    rintro e W5 ⟨rfl, hb⟩
    replace q3 := blk_below q3 hb
    replace hC := Kd.C_below hC hb
    replace hO := Kd.C_below hO hb
    replace hP := Kd.C_below hP hb
    replace k1 := k1.trans (hb.mono k1.size)
    clear hb c15' i0 i1 dne
    go_upto_region 11 with (fail)
    have hI : Io W5 W5.heap.size (List.replicate l.length false) (W5.alloc (.cells #[.bool false, .bool false, .bool false, .bool false, .bool false, .bool false, .bool false, .bool false] 42)) := ⟨by rw [T8_zero]; exact heap_alloc_new _ _, al _ _, Nat.le_refl _⟩
    generalize W5.alloc (Obj.cells _ 42) = W6 at hI ⊢
    obtain ⟨g6, hg6⟩ : ∃ g, W5.heap.size = g := ⟨_, rfl⟩
    rw [hg6] at hI ⊢
    clear hg6
    have i0 : W5.cell? ⟨g3, 0, none⟩ = some (.slice A l.length c) := (blk_cell q3 0).trans rfl
    go_wp2
    go_loopw [7] (fun i wr => ∃ (k f : Nat) (told : List Bool), k ≤ o.length ∧ i = .int .i64 (k : Int) ∧ Aside0 (o.drop k = (pks l f told).map (fun j : Nat => (j : Int))) ∧ Aside0 (told.length = l.length) ∧ Io W5 g6 told wr) (fun i _ => o.length - (intOf i).toNat)
    case atStart => exact ⟨0, l.length, _, by omega, rfl, ⟨ho'.out⟩, ⟨by simp⟩, hI⟩
    case round =>
      clear hI
      obtain ⟨k, f, told, hk, rfl, hd, ht, hI⟩ := hrel
      by_cases hlt : k < o.length
      · obtain ⟨j, g, hp, hj, hd'⟩ := pks_step l o k f told hlt hd.out
        obtain ⟨_, p2, p3, p4, p5⟩ := pk_all l told l.length 0 j hp
        have hj8 : j < 8 := by have := h8'.out; omega
        have hjl : j < l.length := by omega
        have hj8i : (j : Int) < 8 := by omega
        obtain ⟨adO, rfl, eo⟩ := Kd.at_int hO (k : Int) (by omega) (by omega)
        obtain ⟨adP, rfl, ep⟩ := Kd.at_int hP (k : Int) (by omega) (by omega)
        obtain ⟨ad, rfl, e0, e1, e2, e3, e4, e5, e6, e7, e8, e9, e10, e11⟩ := at_T48 hC (j : Int) (by omega) (by omega)
        rw [hj, Int.toNat_natCast] at eo ep
        rw [Int.toNat_natCast] at e0 e1 e2 e3 e4 e5 e6 e7 e8 e9 e10 e11
        have hx := hw'.out j hjl
        have P2 := Aside0.mk p2
        have P4 := Aside0.mk p4
        have P5 := Aside0.mk p5
        have HX := Aside0.mk hx
        have HD := Aside0.mk hd'
        have hr : Aside0 (∀ W, Io W5 g6 told W → W.cell? ⟨g6, j, none⟩ = some (.bool false)) := ⟨fun W h => by rw [h.rd j hj8, p3]⟩
        clear hp hj p2 p3 p4 p5 hx hd hd'
        have d1 : decide ((k : Int) < (o.length : Int)) = true := by simp; omega
        generalize rd_T48 l (j : Int) = x at *
        go_upto_region 14 with (fail)
        have hE := hI
        clear hI
        refine start_ (n := 17) (S := fun w' => w'.cell? (adO.add k) = some (.int .i64 (j : Int)) ∧ w'.cell? (adP.add k) = some (.int .i64 (j : Int)) ∧ w'.cell? ⟨g6, j, none⟩ = some (.bool false) ∧ Io W5 g6 told w') (ds := []) #[false, false, false, false, false, false, false, false, false, false, false, false, false, false, false, false, false] (by kernel_rfl) rfl rfl ⟨(hE.drew.far_cell eo), (hE.drew.far_cell ep), (hr.out _ hE.drew), hE.drew⟩ (fun hHeld => ?_)
        refine pure_ (i := 0) (N := some 38) (v := ?_) (a' := ?_) #[true, false, false, false, false, false, false, false, false, false, false, false, false, false, false, false, false] rfl rfl (by kernel_rfl) (fun _ _ _ h => h) (Or.inl ⟨by rfl, ?_⟩) ?_ ?_
        rotate_left
        · intro w'
          go_simp
          with_reducible rfl
        rotate_left
        · simp only [Act.put, List.setIfInBounds_toArray, List.set_cons_zero, List.set_cons_succ, i64_w, i32_w]
          rfl
        refine pure_ (i := 1) (N := some 39) (v := ?_) (a' := ?_) #[true, true, false, false, false, false, false, false, false, false, false, false, false, false, false, false, false] rfl rfl (by kernel_rfl) (fun _ _ _ h => h) (Or.inl ⟨by rfl, ?_⟩) ?_ ?_
        rotate_left
        · intro w'
          go_simp
          with_reducible rfl
        rotate_left
        · simp only [Act.put, List.setIfInBounds_toArray, List.set_cons_zero, List.set_cons_succ, i64_w, i32_w]
          rfl
        refine pure_ (i := 2) (N := some 40) (v := ?_) (a' := ?_) #[true, true, true, false, false, false, false, false, false, false, false, false, false, false, false, false, false] rfl rfl (by kernel_rfl) (fun _ _ _ h => h) (Or.inl ⟨by rfl, ?_⟩) ?_ ?_
        rotate_left
        · intro w'
          go_simp
          with_reducible rfl
        rotate_left
        · simp only [Act.put, List.setIfInBounds_toArray, List.set_cons_zero, List.set_cons_succ, i64_w, i32_w]
          rfl
        refine pure_ (i := 4) (N := some 42) (v := ?_) (a' := ?_) #[true, true, true, false, true, false, false, false, false, false, false, false, false, false, false, false, false] rfl rfl (by kernel_rfl) (fun _ _ _ h => h) (Or.inl ⟨by rfl, ?_⟩) ?_ ?_
        rotate_left
        · intro w'
          go_simp
          with_reducible rfl
        rotate_left
        · simp only [Act.put, List.setIfInBounds_toArray, List.set_cons_zero, List.set_cons_succ, i64_w, i32_w]
          rfl
        refine pure_ (i := 5) (N := some 43) (v := ?_) (a' := ?_) #[true, true, true, false, true, true, false, false, false, false, false, false, false, false, false, false, false] rfl rfl (by kernel_rfl) (fun _ _ _ h => h) (Or.inl ⟨by rfl, ?_⟩) ?_ ?_
        rotate_left
        · intro w'
          go_simp
          with_reducible rfl
        rotate_left
        · simp only [Act.put, List.setIfInBounds_toArray, List.set_cons_zero, List.set_cons_succ, i64_w, i32_w]
          rfl
        refine pure_ (i := 6) (N := some 44) (v := ?_) (a' := ?_) #[true, true, true, false, true, true, true, false, false, false, false, false, false, false, false, false, false] rfl rfl (by kernel_rfl) (fun _ _ _ h => h) (Or.inl ⟨by rfl, ?_⟩) ?_ ?_
        rotate_left
        · intro w'
          go_simp
          with_reducible rfl
        rotate_left
        · simp only [Act.put, List.setIfInBounds_toArray, List.set_cons_zero, List.set_cons_succ, i64_w, i32_w]
          rfl
        refine take_ (i := 3) (N := some 41) (v := ?_) (a' := ?_) #[true, true, true, true, true, true, true, false, false, false, false, false, false, false, false, false, false] rfl rfl (by kernel_rfl) (fun _ _ _ h => h) (Or.inl ⟨by rfl, ?_⟩) hHeld ?_ ?_
        rotate_left
        · rintro w' ⟨s0, s1, s2, s3⟩
          go_simp
          with_reducible rfl
        rotate_left
        · simp only [Act.put, List.setIfInBounds_toArray, List.set_cons_zero, List.set_cons_succ, i64_w, i32_w]
          rfl
        refine take_ (i := 7) (N := some 45) (v := ?_) (a' := ?_) #[true, true, true, true, true, true, true, true, false, false, false, false, false, false, false, false, false] rfl rfl (by kernel_rfl) (fun _ _ _ h => h) (Or.inl ⟨by rfl, ?_⟩) hHeld ?_ ?_
        rotate_left
        · rintro w' ⟨s0, s1, s2, s3⟩
          go_simp
          with_reducible rfl
        rotate_left
        · simp only [Act.put, List.setIfInBounds_toArray, List.set_cons_zero, List.set_cons_succ, i64_w, i32_w]
          rfl
        refine pure_ (i := 8) (N := some 46) (v := ?_) (a' := ?_) #[true, true, true, true, true, true, true, true, true, false, false, false, false, false, false, false, false] rfl rfl (by kernel_rfl) (fun _ _ _ h => h) (Or.inl ⟨by rfl, ?_⟩) ?_ ?_
        rotate_left
        · intro w'
          go_simp
          with_reducible rfl
        rotate_left
        · simp only [Act.put, List.setIfInBounds_toArray, List.set_cons_zero, List.set_cons_succ, i64_w, i32_w]
          rfl
        refine pure_ (i := 9) (N := some 47) (v := ?_) (a' := ?_) #[true, true, true, true, true, true, true, true, true, true, false, false, false, false, false, false, false] rfl rfl (by kernel_rfl) (fun _ _ _ h => h) (Or.inl ⟨by rfl, ?_⟩) ?_ ?_
        rotate_left
        · intro w'
          go_simp
          with_reducible rfl
        rotate_left
        · simp only [Act.put, List.setIfInBounds_toArray, List.set_cons_zero, List.set_cons_succ, i64_w, i32_w]
          rfl
        refine pure_ (i := 10) (N := some 48) (v := ?_) (a' := ?_) #[true, true, true, true, true, true, true, true, true, true, true, false, false, false, false, false, false] rfl rfl (by kernel_rfl) (fun _ _ _ h => h) (Or.inl ⟨by rfl, ?_⟩) ?_ ?_
        rotate_left
        · intro w'
          go_simp
          with_reducible rfl
        rotate_left
        · simp only [Act.put, List.setIfInBounds_toArray, List.set_cons_zero, List.set_cons_succ, i64_w, i32_w]
          rfl
        refine pure_ (i := 11) (N := some 49) (v := ?_) (a' := ?_) #[true, true, true, true, true, true, true, true, true, true, true, true, false, false, false, false, false] rfl rfl (by kernel_rfl) (fun _ _ _ h => h) (Or.inl ⟨by rfl, ?_⟩) ?_ ?_
        rotate_left
        · intro w'
          go_simp
          with_reducible rfl
        rotate_left
        · simp only [Act.put, List.setIfInBounds_toArray, List.set_cons_zero, List.set_cons_succ, i64_w, i32_w]
          rfl
        refine pure_ (i := 12) (N := some 50) (v := ?_) (a' := ?_) #[true, true, true, true, true, true, true, true, true, true, true, true, true, false, false, false, false] rfl rfl (by kernel_rfl) (fun _ _ _ h => h) (Or.inl ⟨by rfl, ?_⟩) ?_ ?_
        rotate_left
        · intro w'
          go_simp
          with_reducible rfl
        rotate_left
        · simp only [Act.put, List.setIfInBounds_toArray, List.set_cons_zero, List.set_cons_succ, i64_w, i32_w]
          rfl
        refine take_ (i := 13) (N := some 51) (v := ?_) (a' := ?_) #[true, true, true, true, true, true, true, true, true, true, true, true, true, true, false, false, false] rfl rfl (by kernel_rfl) (fun _ _ _ h => h) (Or.inl ⟨by rfl, ?_⟩) hHeld ?_ ?_
        rotate_left
        · rintro w' ⟨s0, s1, s2, s3⟩
          go_simp
          with_reducible rfl
        rotate_left
        · simp only [Act.put, List.setIfInBounds_toArray, List.set_cons_zero, List.set_cons_succ, i64_w, i32_w]
          rfl
        refine pure_ (i := 14) (N := some 52) (v := ?_) (a' := ?_) #[true, true, true, true, true, true, true, true, true, true, true, true, true, true, true, false, false] rfl rfl (by kernel_rfl) (fun _ _ _ h => h) (Or.inl ⟨by rfl, ?_⟩) ?_ ?_
        rotate_left
        · intro w'
          go_simp
          with_reducible rfl
        rotate_left
        · simp only [Act.put, List.setIfInBounds_toArray, List.set_cons_zero, List.set_cons_succ, i64_w, i32_w]
          rfl
        refine take_ (i := 15) (N := some 53) (v := ?_) (a' := ?_) #[true, true, true, true, true, true, true, true, true, true, true, true, true, true, true, true, false] rfl rfl (by kernel_rfl) (fun _ _ _ h => h) (Or.inl ⟨by rfl, ?_⟩) hHeld ?_ ?_
        rotate_left
        · rintro w' ⟨s0, s1, s2, s3⟩
          go_simp
          with_reducible rfl
        rotate_left
        · simp only [Act.put, List.setIfInBounds_toArray, List.set_cons_zero, List.set_cons_succ, i64_w, i32_w]
          rfl
        refine pure_ (i := 16) (N := some 54) (v := ?_) (a' := ?_) #[true, true, true, true, true, true, true, true, true, true, true, true, true, true, true, true, true] rfl rfl (by kernel_rfl) (fun _ _ _ h => h) (Or.inl ⟨by rfl, ?_⟩) ?_ ?_
        rotate_left
        · intro w'
          go_simp
          with_reducible rfl
        rotate_left
        · simp only [Act.put, List.setIfInBounds_toArray, List.set_cons_zero, List.set_cons_succ, i64_w, i32_w]
          rfl
        refine done_ (by kernel_rfl) ?_
        have hEd := hHeld.2.2.2
        clear hHeld hE d1
        go_upto_region 16 with (fail)
        generalize wr.drew = wv at hEd ⊢
        have hEw := hEd
        replace hEd := hEd.drew
        have hu48 := Try.underlying48
        have hu46 := Try.underlying46
        have hu44 := Try.underlying44
        refine start_ (n := 10) (S := fun w' => w'.cell? ⟨g3, 0, none⟩ = some (.slice (some ad) l.length c) ∧ w'.cell? (adO.add k) = some (.int .i64 (j : Int)) ∧ w'.cell? (ad.add (j * 12)) = some (.int .i64 x.f0) ∧ w'.cell? ⟨(ad.add (j * 12)).block, (ad.add (j * 12)).off + 1, none⟩ = some (.int .i64 x.f1) ∧ w'.cell? ⟨(ad.add (j * 12)).block, (ad.add (j * 12)).off + 2, none⟩ = some (.int .i64 x.f2.f0) ∧ w'.cell? ⟨(ad.add (j * 12)).block, (ad.add (j * 12)).off + 3, none⟩ = some (.int .i64 x.f2.f1) ∧ w'.cell? ⟨(ad.add (j * 12)).block, (ad.add (j * 12)).off + 4, none⟩ = some (.int .i64 x.f2.f2.f0) ∧ w'.cell? ⟨(ad.add (j * 12)).block, (ad.add (j * 12)).off + 5, none⟩ = some (.int .i64 x.f2.f2.f1) ∧ w'.cell? ⟨(ad.add (j * 12)).block, (ad.add (j * 12)).off + 6, none⟩ = some (.bool x.f2.f3) ∧ w'.cell? ⟨(ad.add (j * 12)).block, (ad.add (j * 12)).off + 7, none⟩ = some (.int .i64 x.f3.f0) ∧ w'.cell? ⟨(ad.add (j * 12)).block, (ad.add (j * 12)).off + 8, none⟩ = some (.int .i64 x.f3.f1) ∧ w'.cell? ⟨(ad.add (j * 12)).block, (ad.add (j * 12)).off + 9, none⟩ = some (.int .i64 x.f3.f2.f0) ∧ w'.cell? ⟨(ad.add (j * 12)).block, (ad.add (j * 12)).off + 10, none⟩ = some (.int .i64 x.f3.f2.f1) ∧ w'.cell? ⟨(ad.add (j * 12)).block, (ad.add (j * 12)).off + 11, none⟩ = some (.bool x.f3.f3) ∧ Io W5 g6 told w') (ds := [9]) #[false, false, false, false, false, false, false, false, false, false] (by kernel_rfl) rfl rfl ⟨(hEd.far_cell i0), (hEd.far_cell eo), (hEd.far_cell e0), (hEd.far_cell e1), (hEd.far_cell e2), (hEd.far_cell e3), (hEd.far_cell e4), (hEd.far_cell e5), (hEd.far_cell e6), (hEd.far_cell e7), (hEd.far_cell e8), (hEd.far_cell e9), (hEd.far_cell e10), (hEd.far_cell e11), hEd⟩ (fun hHeld => ?_)
        refine pure_ (i := 0) (N := some 55) (v := ?_) (a' := ?_) #[true, false, false, false, false, false, false, false, false, false] rfl rfl (by kernel_rfl) (fun _ _ _ h => h) (Or.inl ⟨by rfl, ?_⟩) ?_ ?_
        rotate_left
        · intro w'
          go_simp
          with_reducible rfl
        rotate_left
        · simp only [Act.put, List.setIfInBounds_toArray, List.set_cons_zero, List.set_cons_succ, i64_w, i32_w]
          rfl
        refine pure_ (i := 2) (N := some 57) (v := ?_) (a' := ?_) #[true, false, true, false, false, false, false, false, false, false] rfl rfl (by kernel_rfl) (fun _ _ _ h => h) (Or.inl ⟨by rfl, ?_⟩) ?_ ?_
        rotate_left
        · intro w'
          go_simp
          with_reducible rfl
        rotate_left
        · simp only [Act.put, List.setIfInBounds_toArray, List.set_cons_zero, List.set_cons_succ, i64_w, i32_w]
          rfl
        refine pure_ (i := 3) (N := some 58) (v := ?_) (a' := ?_) #[true, false, true, true, false, false, false, false, false, false] rfl rfl (by kernel_rfl) (fun _ _ _ h => h) (Or.inl ⟨by rfl, ?_⟩) ?_ ?_
        rotate_left
        · intro w'
          go_simp
          with_reducible rfl
        rotate_left
        · simp only [Act.put, List.setIfInBounds_toArray, List.set_cons_zero, List.set_cons_succ, i64_w, i32_w]
          rfl
        refine pure_ (i := 4) (N := some 59) (v := ?_) (a' := ?_) #[true, false, true, true, true, false, false, false, false, false] rfl rfl (by kernel_rfl) (fun _ _ _ h => h) (Or.inl ⟨by rfl, ?_⟩) ?_ ?_
        rotate_left
        · intro w'
          go_simp
          with_reducible rfl
        rotate_left
        · simp only [Act.put, List.setIfInBounds_toArray, List.set_cons_zero, List.set_cons_succ, i64_w, i32_w]
          rfl
        refine take_ (i := 1) (N := some 56) (v := ?_) (a' := ?_) #[true, true, true, true, true, false, false, false, false, false] rfl rfl (by kernel_rfl) (fun _ _ _ h => h) (Or.inl ⟨by rfl, ?_⟩) hHeld ?_ ?_
        rotate_left
        · rintro w' ⟨s0, s1, s2, s3, s4, s5, s6, s7, s8, s9, s10, s11, s12, s13, s14⟩
          go_simp
          with_reducible rfl
        rotate_left
        · simp only [Act.put, List.setIfInBounds_toArray, List.set_cons_zero, List.set_cons_succ, i64_w, i32_w]
          rfl
        refine take_ (i := 5) (N := some 60) (v := ?_) (a' := ?_) #[true, true, true, true, true, true, false, false, false, false] rfl rfl (by kernel_rfl) (fun _ _ _ h => h) (Or.inl ⟨by rfl, ?_⟩) hHeld ?_ ?_
        rotate_left
        · rintro w' ⟨s0, s1, s2, s3, s4, s5, s6, s7, s8, s9, s10, s11, s12, s13, s14⟩
          go_simp
          with_reducible rfl
        rotate_left
        · simp only [Act.put, List.setIfInBounds_toArray, List.set_cons_zero, List.set_cons_succ, i64_w, i32_w]
          rfl
        refine pure_ (i := 6) (N := some 61) (v := ?_) (a' := ?_) #[true, true, true, true, true, true, true, false, false, false] rfl rfl (by kernel_rfl) (fun _ _ _ h => h) (Or.inl ⟨by rfl, ?_⟩) ?_ ?_
        rotate_left
        · intro w'
          go_simp
          with_reducible rfl
        rotate_left
        · simp only [Act.put, List.setIfInBounds_toArray, List.set_cons_zero, List.set_cons_succ, i64_w, i32_w]
          rfl
        refine take_ (i := 7) (N := some 62) (v := ?_) (a' := ?_) #[true, true, true, true, true, true, true, true, false, false] rfl rfl (by kernel_rfl) (fun _ _ _ h => h) (Or.inl ⟨by rfl, ?_⟩) hHeld ?_ ?_
        rotate_left
        · rintro w' ⟨s0, s1, s2, s3, s4, s5, s6, s7, s8, s9, s10, s11, s12, s13, s14⟩
          go_simp
          with_reducible rfl
        rotate_left
        · simp only [Act.put, List.setIfInBounds_toArray, List.set_cons_zero, List.set_cons_succ, i64_w, i32_w]
          rfl
        refine one_ (i := 8) (N := some 8) #[true, true, true, true, true, true, true, true, true, false] rfl rfl (by kernel_rfl) (by decide) (fun K hK => ?_)
        refine value_ (w1 := ?_) (v := ?_) (by rfl) rfl ?_ ?_
        rotate_left 2
        · go_simp
          constructor
          · rfl
          · rfl
        refine hK.out _ _ ⟨((hHeld.2.2.2.2.2.2.2.2.2.2.2.2.2.2.alloc _).far_cell i0), ((hHeld.2.2.2.2.2.2.2.2.2.2.2.2.2.2.alloc _).far_cell eo), ((hHeld.2.2.2.2.2.2.2.2.2.2.2.2.2.2.alloc _).far_cell e0), ((hHeld.2.2.2.2.2.2.2.2.2.2.2.2.2.2.alloc _).far_cell e1), ((hHeld.2.2.2.2.2.2.2.2.2.2.2.2.2.2.alloc _).far_cell e2), ((hHeld.2.2.2.2.2.2.2.2.2.2.2.2.2.2.alloc _).far_cell e3), ((hHeld.2.2.2.2.2.2.2.2.2.2.2.2.2.2.alloc _).far_cell e4), ((hHeld.2.2.2.2.2.2.2.2.2.2.2.2.2.2.alloc _).far_cell e5), ((hHeld.2.2.2.2.2.2.2.2.2.2.2.2.2.2.alloc _).far_cell e6), ((hHeld.2.2.2.2.2.2.2.2.2.2.2.2.2.2.alloc _).far_cell e7), ((hHeld.2.2.2.2.2.2.2.2.2.2.2.2.2.2.alloc _).far_cell e8), ((hHeld.2.2.2.2.2.2.2.2.2.2.2.2.2.2.alloc _).far_cell e9), ((hHeld.2.2.2.2.2.2.2.2.2.2.2.2.2.2.alloc _).far_cell e10), ((hHeld.2.2.2.2.2.2.2.2.2.2.2.2.2.2.alloc _).far_cell e11), (hHeld.2.2.2.2.2.2.2.2.2.2.2.2.2.2.alloc _)⟩ (fun hHeld => ?_)
        clear hK K
        refine norm_ (a' := ?_) ?_ ?_
        rotate_left
        · show Act.put _ (some 8) _ = _
          simp only [Act.put, List.setIfInBounds_toArray, List.set_cons_zero, List.set_cons_succ, i64_w, i32_w]
          rfl
        refine last_ (i := 9) (N := none) #[true, true, true, true, true, true, true, true, true, true] rfl rfl (by kernel_rfl) (by decide) (fun K hK => ?_)
        have hZ : (wv.drew.alloc (.cells #[.int .i64 0, .int .i64 0, .int .i64 0, .int .i64 0, .int .i64 0, .int .i64 0, .bool false, .int .i64 0, .int .i64 0, .int .i64 0, .int .i64 0, .bool false] 48)).heap[wv.drew.heap.size]? = some (.cells #[.int .i64 0, .int .i64 0, .int .i64 0, .int .i64 0, .int .i64 0, .int .i64 0, .bool false, .int .i64 0, .int .i64 0, .int .i64 0, .int .i64 0, .bool false] 48 (0, 0)) := heap_alloc_new _ _
        have hEz := hHeld.2.2.2.2.2.2.2.2.2.2.2.2.2.2
        have hgz := hEd.lt
        generalize wv.drew.alloc (Obj.cells _ 48) = wz at hZ hEz hHeld ⊢
        generalize wv.drew.heap.size = gz at hZ hgz ⊢
        have j0 := (blk_cell hZ 0).trans rfl
        have j1 := (blk_cell hZ 1).trans rfl
        have j2 := (blk_cell hZ 2).trans rfl
        have j3 := (blk_cell hZ 3).trans rfl
        have j4 := (blk_cell hZ 4).trans rfl
        have j5 := (blk_cell hZ 5).trans rfl
        have j6 := (blk_cell hZ 6).trans rfl
        have j7 := (blk_cell hZ 7).trans rfl
        have j8 := (blk_cell hZ 8).trans rfl
        have j9 := (blk_cell hZ 9).trans rfl
        have j10 := (blk_cell hZ 10).trans rfl
        have j11 := (blk_cell hZ 11).trans rfl
        have q0 := blk_frozen hZ 0
        have q1 := blk_frozen hZ 1
        have q2 := blk_frozen hZ 2
        have q3 := blk_frozen hZ 3
        have q4 := blk_frozen hZ 4
        have q5 := blk_frozen hZ 5
        have q6 := blk_frozen hZ 6
        have q7 := blk_frozen hZ 7
        have q8 := blk_frozen hZ 8
        have q9 := blk_frozen hZ 9
        have q10 := blk_frozen hZ 10
        have q11 := blk_frozen hZ 11
        refine skip_ (w1 := ?_) (by rfl) rfl ?_ ?_
        rotate_left
        · go_simp
          rfl
        refine hK.out _ _ ?_
        clear hK K
        refine done_ (by kernel_rfl) ?_
        clear hHeld
        try clear hHeld
        have hE := (hEw.alloc (.cells #[.int .i64 x.f0, .int .i64 x.f1, .int .i64 x.f2.f0, .int .i64 x.f2.f1, .int .i64 x.f2.f2.f0, .int .i64 x.f2.f2.f1, .bool x.f2.f3, .int .i64 x.f3.f0, .int .i64 x.f3.f1, .int .i64 x.f3.f2.f0, .int .i64 x.f3.f2.f1, .bool x.f3.f3] 48)).drew
        have hZ : (wv.alloc (.cells #[.int .i64 x.f0, .int .i64 x.f1, .int .i64 x.f2.f0, .int .i64 x.f2.f1, .int .i64 x.f2.f2.f0, .int .i64 x.f2.f2.f1, .bool x.f2.f3, .int .i64 x.f3.f0, .int .i64 x.f3.f1, .int .i64 x.f3.f2.f0, .int .i64 x.f3.f2.f1, .bool x.f3.f3] 48)).drew.heap[wv.heap.size]? = some (.cells #[.int .i64 x.f0, .int .i64 x.f1, .int .i64 x.f2.f0, .int .i64 x.f2.f1, .int .i64 x.f2.f2.f0, .int .i64 x.f2.f2.f1, .bool x.f2.f3, .int .i64 x.f3.f0, .int .i64 x.f3.f1, .int .i64 x.f3.f2.f0, .int .i64 x.f3.f2.f1, .bool x.f3.f3] 48 (0, 0)) := heap_alloc_new wv _
        have hgz := hEw.lt
        clear hEw hEd
        generalize (wv.alloc (Obj.cells _ 48)).drew = w8 at hE hZ ⊢
        obtain ⟨gz, hgz'⟩ : ∃ g, wv.heap.size = g := ⟨_, rfl⟩
        rw [hgz'] at hZ hgz ⊢
        clear hgz'
        clear e0 e1 e2 e3 e4 e5 e6 e7 e8 e9 e10 e11
        have j2 : w8.cell? ⟨gz, 2, none⟩ = some (.int .i64 x.f2.f0) := (blk_cell hZ 2).trans rfl
        have j3 : w8.cell? ⟨gz, 3, none⟩ = some (.int .i64 x.f2.f1) := (blk_cell hZ 3).trans rfl
        have j7 : w8.cell? ⟨gz, 7, none⟩ = some (.int .i64 x.f3.f0) := (blk_cell hZ 7).trans rfl
        have j8 : w8.cell? ⟨gz, 8, none⟩ = some (.int .i64 x.f3.f1) := (blk_cell hZ 8).trans rfl
        have hno := wq_no P4.out
        have hrx := HX.out
        clear hZ P4 HX hgz
        by_cases ea : x.f2.f0 = 2
        · obtain ⟨ra0, ra1⟩ := hrx.1 ea
          obtain ⟨na, hna⟩ := Int.eq_ofNat_of_zero_le ra0
          have na8 : (na : Int) < 8 := by have := h8'.out; omega
          have ta := hno.1 ea
          rw [hna] at ta j3
          rw [ea] at j2
          have ra := hE.rd na (by omega)
          rw [ta] at ra
          clear ra0 ra1 ta hna ea
          by_cases eb : x.f3.f0 = 2
          · obtain ⟨rb0, rb1⟩ := hrx.2.1 eb
            obtain ⟨nb, hnb⟩ := Int.eq_ofNat_of_zero_le rb0
            have nb8 : (nb : Int) < 8 := by have := h8'.out; omega
            have tb := hno.2 eb
            rw [hnb] at tb j8
            rw [eb] at j7
            have rb := hE.rd nb (by omega)
            rw [tb] at rb
            clear rb0 rb1 tb hnb eb
            go_upto_region 19 with (fail)
            try clear fa
            try clear fb
            try clear ra na8
            try clear rb nb8
            clear j2 j3 j7 j8 hno hrx
            go_wp2
            go_loopw [9] (fun i wr => ∃ (q : Nat), q ≤ j ∧ i = .int .i64 (q : Int) ∧ Io W5 g6 told wr) (fun i _ => j - (intOf i).toNat)
            case atStart => exact ⟨0, by omega, rfl, hE⟩
            case round =>
              clear hE
              obtain ⟨q, hq, rfl, hE⟩ := hrel
              by_cases hqj : q < j
              · have eo' := hE.far_cell eo
                have i0' := hE.far_cell i0
                have d1 : decide ((q : Int) < (j : Int)) = true := by simp; omega
                obtain ⟨ad', had, e0, e1, e2, e3, e4, e5, e6, e7, e8, e9, e10, e11⟩ := at_T48 (Kd.C_below hC hE.bel) (q : Int) (by omega) (by omega)
                injection had with had
                subst had
                rw [Int.toNat_natCast] at e0 e1 e2 e3 e4 e5 e6 e7 e8 e9 e10 e11
                have hry := hw'.out q (by omega)
                have hyes := P5.out q (Nat.zero_le _) hqj
                have hq8 : (q : Int) < 8 := by omega
                have hql : (q : Int) < (l.length : Int) := by omega
                have rq := hE.rd q (by omega)
                generalize rd_T48 l (q : Int) = y at *
                have hry' := Aside0.mk hry
                have hyes' := Aside0.mk hyes
                clear hry hyes
                go_upto_region 23 with (fail)
                have hZ : (wr.alloc (.cells #[.int .i64 y.f0, .int .i64 y.f1, .int .i64 y.f2.f0, .int .i64 y.f2.f1, .int .i64 y.f2.f2.f0, .int .i64 y.f2.f2.f1, .bool y.f2.f3, .int .i64 y.f3.f0, .int .i64 y.f3.f1, .int .i64 y.f3.f2.f0, .int .i64 y.f3.f2.f1, .bool y.f3.f3] 48)).heap[wr.heap.size]? = some (.cells #[.int .i64 y.f0, .int .i64 y.f1, .int .i64 y.f2.f0, .int .i64 y.f2.f1, .int .i64 y.f2.f2.f0, .int .i64 y.f2.f2.f1, .bool y.f2.f3, .int .i64 y.f3.f0, .int .i64 y.f3.f1, .int .i64 y.f3.f2.f0, .int .i64 y.f3.f2.f1, .bool y.f3.f3] 48 (0, 0)) := heap_alloc_new wr _
                replace hE := hE.alloc (.cells #[.int .i64 y.f0, .int .i64 y.f1, .int .i64 y.f2.f0, .int .i64 y.f2.f1, .int .i64 y.f2.f2.f0, .int .i64 y.f2.f2.f1, .bool y.f2.f3, .int .i64 y.f3.f0, .int .i64 y.f3.f1, .int .i64 y.f3.f2.f0, .int .i64 y.f3.f2.f1, .bool y.f3.f3] 48)
                clear rq e0 e1 e2 e3 e4 e5 e6 e7 e8 e9 e10 e11
                generalize wr.alloc (Obj.cells _ 48) = w9 at hE hZ ⊢
                obtain ⟨gy, hgy⟩ : ∃ g, wr.heap.size = g := ⟨_, rfl⟩
                rw [hgy] at hZ ⊢
                clear hgy eo' i0'
                have j2 : w9.cell? ⟨gy, 2, none⟩ = some (.int .i64 y.f2.f0) := (blk_cell hZ 2).trans rfl
                have j3 : w9.cell? ⟨gy, 3, none⟩ = some (.int .i64 y.f2.f1) := (blk_cell hZ 3).trans rfl
                have j7 : w9.cell? ⟨gy, 7, none⟩ = some (.int .i64 y.f3.f0) := (blk_cell hZ 7).trans rfl
                have j8 : w9.cell? ⟨gy, 8, none⟩ = some (.int .i64 y.f3.f1) := (blk_cell hZ 8).trans rfl
                have rq := hE.rd q (by omega)
                clear hZ
                by_cases tq : td told (q : Int) = true
                · rw [tq] at rq
                  clear tq
                  go_wp2
                  go_roundw
                  case rel => exact ⟨q + 1, by omega, by go_num, hE⟩
                  case measure => simp [intOf]; omega
                · rw [show td told (q : Int) = false by simpa using tq] at rq
                  have hwy : wq told y = true := hyes'.out.resolve_left tq
                  clear tq
                  have hwy' := wq_yes hwy
                  clear hwy
                  by_cases ea : y.f2.f0 = 2
                  · by_cases ta : td told y.f2.f1 = false
                    · clear hwy'
                      obtain ⟨ra0, ra1⟩ := hry'.out.1 ea
                      obtain ⟨na, hna⟩ := Int.eq_ofNat_of_zero_le ra0
                      have na8 : (na : Int) < 8 := by have := h8'.out; omega
                      rw [hna] at ta j3
                      rw [ea] at j2
                      have ra := hE.rd na (by omega)
                      rw [ta] at ra
                      clear ra0 ra1 ta hna ea
                      go_wp2
                      go_roundw
                      case rel => exact ⟨q + 1, by omega, by go_num, hE⟩
                      case measure => simp [intOf]; omega
                    · have tb : td told y.f3.f1 = false ∧ y.f3.f0 = 2 := by
                        rcases hwy' with h | h
                        · exact absurd h.2 ta
                        · exact ⟨h.2, h.1⟩
                      obtain ⟨tb, eb⟩ := tb
                      replace ta : td told y.f2.f1 = true := by simpa using ta
                      clear hwy'
                      obtain ⟨ra0, ra1⟩ := hry'.out.1 ea
                      obtain ⟨na, hna⟩ := Int.eq_ofNat_of_zero_le ra0
                      have na8 : (na : Int) < 8 := by have := h8'.out; omega
                      rw [hna] at ta j3
                      rw [ea] at j2
                      have ra := hE.rd na (by omega)
                      rw [ta] at ra
                      clear ra0 ra1 ta hna ea
                      obtain ⟨rb0, rb1⟩ := hry'.out.2.1 eb
                      obtain ⟨nb, hnb⟩ := Int.eq_ofNat_of_zero_le rb0
                      have nb8 : (nb : Int) < 8 := by have := h8'.out; omega
                      rw [hnb] at tb j8
                      rw [eb] at j7
                      have rb := hE.rd nb (by omega)
                      rw [tb] at rb
                      clear rb0 rb1 tb hnb eb
                      go_wp2
                      go_roundw
                      case rel => exact ⟨q + 1, by omega, by go_num, hE⟩
                      case measure => simp [intOf]; omega
                  · have tb : td told y.f3.f1 = false ∧ y.f3.f0 = 2 := by
                      rcases hwy' with h | h
                      · exact absurd h.1 ea
                      · exact ⟨h.2, h.1⟩
                    obtain ⟨tb, eb⟩ := tb
                    have fa : (y.f2.f0 == 2) = false := by simpa using ea
                    clear hwy' ea
                    obtain ⟨rb0, rb1⟩ := hry'.out.2.1 eb
                    obtain ⟨nb, hnb⟩ := Int.eq_ofNat_of_zero_le rb0
                    have nb8 : (nb : Int) < 8 := by have := h8'.out; omega
                    rw [hnb] at tb j8
                    rw [eb] at j7
                    have rb := hE.rd nb (by omega)
                    rw [tb] at rb
                    clear rb0 rb1 tb hnb eb
                    go_wp2
                    go_roundw
                    case rel => exact ⟨q + 1, by omega, by go_num, hE⟩
                    case measure => simp [intOf]; omega
              · have hqe : q = j := by omega
                subst hqe
                have d2 : decide ((q : Int) < (q : Int)) = false := by simp
                have eo' := hE.far_cell eo
                have rq := hE.rd q hj8
                have hfz := blk_frozen hE.h6 q
                go_wp2
                go_roundw
                case rel => exact ⟨k + 1, g, told.set q true, by omega, by go_num, HD, ⟨by rw [List.length_set]; exact ht.out⟩, hE.put q (by have := ht.out; omega) hj8⟩
                case measure => simp [intOf]; omega
          · have fb : (x.f3.f0 == 2) = false := by simpa using eb
            clear eb
            go_upto_region 19 with (fail)
            try clear fa
            try clear fb
            try clear ra na8
            try clear rb nb8
            clear j2 j3 j7 j8 hno hrx
            go_wp2
            go_loopw [9] (fun i wr => ∃ (q : Nat), q ≤ j ∧ i = .int .i64 (q : Int) ∧ Io W5 g6 told wr) (fun i _ => j - (intOf i).toNat)
            case atStart => exact ⟨0, by omega, rfl, hE⟩
            case round =>
              clear hE
              obtain ⟨q, hq, rfl, hE⟩ := hrel
              by_cases hqj : q < j
              · have eo' := hE.far_cell eo
                have i0' := hE.far_cell i0
                have d1 : decide ((q : Int) < (j : Int)) = true := by simp; omega
                obtain ⟨ad', had, e0, e1, e2, e3, e4, e5, e6, e7, e8, e9, e10, e11⟩ := at_T48 (Kd.C_below hC hE.bel) (q : Int) (by omega) (by omega)
                injection had with had
                subst had
                rw [Int.toNat_natCast] at e0 e1 e2 e3 e4 e5 e6 e7 e8 e9 e10 e11
                have hry := hw'.out q (by omega)
                have hyes := P5.out q (Nat.zero_le _) hqj
                have hq8 : (q : Int) < 8 := by omega
                have hql : (q : Int) < (l.length : Int) := by omega
                have rq := hE.rd q (by omega)
                generalize rd_T48 l (q : Int) = y at *
                have hry' := Aside0.mk hry
                have hyes' := Aside0.mk hyes
                clear hry hyes
                go_upto_region 23 with (fail)
                have hZ : (wr.alloc (.cells #[.int .i64 y.f0, .int .i64 y.f1, .int .i64 y.f2.f0, .int .i64 y.f2.f1, .int .i64 y.f2.f2.f0, .int .i64 y.f2.f2.f1, .bool y.f2.f3, .int .i64 y.f3.f0, .int .i64 y.f3.f1, .int .i64 y.f3.f2.f0, .int .i64 y.f3.f2.f1, .bool y.f3.f3] 48)).heap[wr.heap.size]? = some (.cells #[.int .i64 y.f0, .int .i64 y.f1, .int .i64 y.f2.f0, .int .i64 y.f2.f1, .int .i64 y.f2.f2.f0, .int .i64 y.f2.f2.f1, .bool y.f2.f3, .int .i64 y.f3.f0, .int .i64 y.f3.f1, .int .i64 y.f3.f2.f0, .int .i64 y.f3.f2.f1, .bool y.f3.f3] 48 (0, 0)) := heap_alloc_new wr _
                replace hE := hE.alloc (.cells #[.int .i64 y.f0, .int .i64 y.f1, .int .i64 y.f2.f0, .int .i64 y.f2.f1, .int .i64 y.f2.f2.f0, .int .i64 y.f2.f2.f1, .bool y.f2.f3, .int .i64 y.f3.f0, .int .i64 y.f3.f1, .int .i64 y.f3.f2.f0, .int .i64 y.f3.f2.f1, .bool y.f3.f3] 48)
                clear rq e0 e1 e2 e3 e4 e5 e6 e7 e8 e9 e10 e11
                generalize wr.alloc (Obj.cells _ 48) = w9 at hE hZ ⊢
                obtain ⟨gy, hgy⟩ : ∃ g, wr.heap.size = g := ⟨_, rfl⟩
                rw [hgy] at hZ ⊢
                clear hgy eo' i0'
                have j2 : w9.cell? ⟨gy, 2, none⟩ = some (.int .i64 y.f2.f0) := (blk_cell hZ 2).trans rfl
                have j3 : w9.cell? ⟨gy, 3, none⟩ = some (.int .i64 y.f2.f1) := (blk_cell hZ 3).trans rfl
                have j7 : w9.cell? ⟨gy, 7, none⟩ = some (.int .i64 y.f3.f0) := (blk_cell hZ 7).trans rfl
                have j8 : w9.cell? ⟨gy, 8, none⟩ = some (.int .i64 y.f3.f1) := (blk_cell hZ 8).trans rfl
                have rq := hE.rd q (by omega)
                clear hZ
                by_cases tq : td told (q : Int) = true
                · rw [tq] at rq
                  clear tq
                  go_wp2
                  go_roundw
                  case rel => exact ⟨q + 1, by omega, by go_num, hE⟩
                  case measure => simp [intOf]; omega
                · rw [show td told (q : Int) = false by simpa using tq] at rq
                  have hwy : wq told y = true := hyes'.out.resolve_left tq
                  clear tq
                  have hwy' := wq_yes hwy
                  clear hwy
                  by_cases ea : y.f2.f0 = 2
                  · by_cases ta : td told y.f2.f1 = false
                    · clear hwy'
                      obtain ⟨ra0, ra1⟩ := hry'.out.1 ea
                      obtain ⟨na, hna⟩ := Int.eq_ofNat_of_zero_le ra0
                      have na8 : (na : Int) < 8 := by have := h8'.out; omega
                      rw [hna] at ta j3
                      rw [ea] at j2
                      have ra := hE.rd na (by omega)
                      rw [ta] at ra
                      clear ra0 ra1 ta hna ea
                      go_wp2
                      go_roundw
                      case rel => exact ⟨q + 1, by omega, by go_num, hE⟩
                      case measure => simp [intOf]; omega
                    · have tb : td told y.f3.f1 = false ∧ y.f3.f0 = 2 := by
                        rcases hwy' with h | h
                        · exact absurd h.2 ta
                        · exact ⟨h.2, h.1⟩
                      obtain ⟨tb, eb⟩ := tb
                      replace ta : td told y.f2.f1 = true := by simpa using ta
                      clear hwy'
                      obtain ⟨ra0, ra1⟩ := hry'.out.1 ea
                      obtain ⟨na, hna⟩ := Int.eq_ofNat_of_zero_le ra0
                      have na8 : (na : Int) < 8 := by have := h8'.out; omega
                      rw [hna] at ta j3
                      rw [ea] at j2
                      have ra := hE.rd na (by omega)
                      rw [ta] at ra
                      clear ra0 ra1 ta hna ea
                      obtain ⟨rb0, rb1⟩ := hry'.out.2.1 eb
                      obtain ⟨nb, hnb⟩ := Int.eq_ofNat_of_zero_le rb0
                      have nb8 : (nb : Int) < 8 := by have := h8'.out; omega
                      rw [hnb] at tb j8
                      rw [eb] at j7
                      have rb := hE.rd nb (by omega)
                      rw [tb] at rb
                      clear rb0 rb1 tb hnb eb
                      go_wp2
                      go_roundw
                      case rel => exact ⟨q + 1, by omega, by go_num, hE⟩
                      case measure => simp [intOf]; omega
                  · have tb : td told y.f3.f1 = false ∧ y.f3.f0 = 2 := by
                      rcases hwy' with h | h
                      · exact absurd h.1 ea
                      · exact ⟨h.2, h.1⟩
                    obtain ⟨tb, eb⟩ := tb
                    have fa : (y.f2.f0 == 2) = false := by simpa using ea
                    clear hwy' ea
                    obtain ⟨rb0, rb1⟩ := hry'.out.2.1 eb
                    obtain ⟨nb, hnb⟩ := Int.eq_ofNat_of_zero_le rb0
                    have nb8 : (nb : Int) < 8 := by have := h8'.out; omega
                    rw [hnb] at tb j8
                    rw [eb] at j7
                    have rb := hE.rd nb (by omega)
                    rw [tb] at rb
                    clear rb0 rb1 tb hnb eb
                    go_wp2
                    go_roundw
                    case rel => exact ⟨q + 1, by omega, by go_num, hE⟩
                    case measure => simp [intOf]; omega
              · have hqe : q = j := by omega
                subst hqe
                have d2 : decide ((q : Int) < (q : Int)) = false := by simp
                have eo' := hE.far_cell eo
                have rq := hE.rd q hj8
                have hfz := blk_frozen hE.h6 q
                go_wp2
                go_roundw
                case rel => exact ⟨k + 1, g, told.set q true, by omega, by go_num, HD, ⟨by rw [List.length_set]; exact ht.out⟩, hE.put q (by have := ht.out; omega) hj8⟩
                case measure => simp [intOf]; omega
        · have fa : (x.f2.f0 == 2) = false := by simpa using ea
          clear ea
          by_cases eb : x.f3.f0 = 2
          · obtain ⟨rb0, rb1⟩ := hrx.2.1 eb
            obtain ⟨nb, hnb⟩ := Int.eq_ofNat_of_zero_le rb0
            have nb8 : (nb : Int) < 8 := by have := h8'.out; omega
            have tb := hno.2 eb
            rw [hnb] at tb j8
            rw [eb] at j7
            have rb := hE.rd nb (by omega)
            rw [tb] at rb
            clear rb0 rb1 tb hnb eb
            go_upto_region 19 with (fail)
            try clear fa
            try clear fb
            try clear ra na8
            try clear rb nb8
            clear j2 j3 j7 j8 hno hrx
            go_wp2
            go_loopw [9] (fun i wr => ∃ (q : Nat), q ≤ j ∧ i = .int .i64 (q : Int) ∧ Io W5 g6 told wr) (fun i _ => j - (intOf i).toNat)
            case atStart => exact ⟨0, by omega, rfl, hE⟩
            case round =>
              clear hE
              obtain ⟨q, hq, rfl, hE⟩ := hrel
              by_cases hqj : q < j
              · have eo' := hE.far_cell eo
                have i0' := hE.far_cell i0
                have d1 : decide ((q : Int) < (j : Int)) = true := by simp; omega
                obtain ⟨ad', had, e0, e1, e2, e3, e4, e5, e6, e7, e8, e9, e10, e11⟩ := at_T48 (Kd.C_below hC hE.bel) (q : Int) (by omega) (by omega)
                injection had with had
                subst had
                rw [Int.toNat_natCast] at e0 e1 e2 e3 e4 e5 e6 e7 e8 e9 e10 e11
                have hry := hw'.out q (by omega)
                have hyes := P5.out q (Nat.zero_le _) hqj
                have hq8 : (q : Int) < 8 := by omega
                have hql : (q : Int) < (l.length : Int) := by omega
                have rq := hE.rd q (by omega)
                generalize rd_T48 l (q : Int) = y at *
                have hry' := Aside0.mk hry
                have hyes' := Aside0.mk hyes
                clear hry hyes
                go_upto_region 23 with (fail)
                have hZ : (wr.alloc (.cells #[.int .i64 y.f0, .int .i64 y.f1, .int .i64 y.f2.f0, .int .i64 y.f2.f1, .int .i64 y.f2.f2.f0, .int .i64 y.f2.f2.f1, .bool y.f2.f3, .int .i64 y.f3.f0, .int .i64 y.f3.f1, .int .i64 y.f3.f2.f0, .int .i64 y.f3.f2.f1, .bool y.f3.f3] 48)).heap[wr.heap.size]? = some (.cells #[.int .i64 y.f0, .int .i64 y.f1, .int .i64 y.f2.f0, .int .i64 y.f2.f1, .int .i64 y.f2.f2.f0, .int .i64 y.f2.f2.f1, .bool y.f2.f3, .int .i64 y.f3.f0, .int .i64 y.f3.f1, .int .i64 y.f3.f2.f0, .int .i64 y.f3.f2.f1, .bool y.f3.f3] 48 (0, 0)) := heap_alloc_new wr _
                replace hE := hE.alloc (.cells #[.int .i64 y.f0, .int .i64 y.f1, .int .i64 y.f2.f0, .int .i64 y.f2.f1, .int .i64 y.f2.f2.f0, .int .i64 y.f2.f2.f1, .bool y.f2.f3, .int .i64 y.f3.f0, .int .i64 y.f3.f1, .int .i64 y.f3.f2.f0, .int .i64 y.f3.f2.f1, .bool y.f3.f3] 48)
                clear rq e0 e1 e2 e3 e4 e5 e6 e7 e8 e9 e10 e11
                generalize wr.alloc (Obj.cells _ 48) = w9 at hE hZ ⊢
                obtain ⟨gy, hgy⟩ : ∃ g, wr.heap.size = g := ⟨_, rfl⟩
                rw [hgy] at hZ ⊢
                clear hgy eo' i0'
                have j2 : w9.cell? ⟨gy, 2, none⟩ = some (.int .i64 y.f2.f0) := (blk_cell hZ 2).trans rfl
                have j3 : w9.cell? ⟨gy, 3, none⟩ = some (.int .i64 y.f2.f1) := (blk_cell hZ 3).trans rfl
                have j7 : w9.cell? ⟨gy, 7, none⟩ = some (.int .i64 y.f3.f0) := (blk_cell hZ 7).trans rfl
                have j8 : w9.cell? ⟨gy, 8, none⟩ = some (.int .i64 y.f3.f1) := (blk_cell hZ 8).trans rfl
                have rq := hE.rd q (by omega)
                clear hZ
                by_cases tq : td told (q : Int) = true
                · rw [tq] at rq
                  clear tq
                  go_wp2
                  go_roundw
                  case rel => exact ⟨q + 1, by omega, by go_num, hE⟩
                  case measure => simp [intOf]; omega
                · rw [show td told (q : Int) = false by simpa using tq] at rq
                  have hwy : wq told y = true := hyes'.out.resolve_left tq
                  clear tq
                  have hwy' := wq_yes hwy
                  clear hwy
                  by_cases ea : y.f2.f0 = 2
                  · by_cases ta : td told y.f2.f1 = false
                    · clear hwy'
                      obtain ⟨ra0, ra1⟩ := hry'.out.1 ea
                      obtain ⟨na, hna⟩ := Int.eq_ofNat_of_zero_le ra0
                      have na8 : (na : Int) < 8 := by have := h8'.out; omega
                      rw [hna] at ta j3
                      rw [ea] at j2
                      have ra := hE.rd na (by omega)
                      rw [ta] at ra
                      clear ra0 ra1 ta hna ea
                      go_wp2
                      go_roundw
                      case rel => exact ⟨q + 1, by omega, by go_num, hE⟩
                      case measure => simp [intOf]; omega
                    · have tb : td told y.f3.f1 = false ∧ y.f3.f0 = 2 := by
                        rcases hwy' with h | h
                        · exact absurd h.2 ta
                        · exact ⟨h.2, h.1⟩
                      obtain ⟨tb, eb⟩ := tb
                      replace ta : td told y.f2.f1 = true := by simpa using ta
                      clear hwy'
                      obtain ⟨ra0, ra1⟩ := hry'.out.1 ea
                      obtain ⟨na, hna⟩ := Int.eq_ofNat_of_zero_le ra0
                      have na8 : (na : Int) < 8 := by have := h8'.out; omega
                      rw [hna] at ta j3
                      rw [ea] at j2
                      have ra := hE.rd na (by omega)
                      rw [ta] at ra
                      clear ra0 ra1 ta hna ea
                      obtain ⟨rb0, rb1⟩ := hry'.out.2.1 eb
                      obtain ⟨nb, hnb⟩ := Int.eq_ofNat_of_zero_le rb0
                      have nb8 : (nb : Int) < 8 := by have := h8'.out; omega
                      rw [hnb] at tb j8
                      rw [eb] at j7
                      have rb := hE.rd nb (by omega)
                      rw [tb] at rb
                      clear rb0 rb1 tb hnb eb
                      go_wp2
                      go_roundw
                      case rel => exact ⟨q + 1, by omega, by go_num, hE⟩
                      case measure => simp [intOf]; omega
                  · have tb : td told y.f3.f1 = false ∧ y.f3.f0 = 2 := by
                      rcases hwy' with h | h
                      · exact absurd h.1 ea
                      · exact ⟨h.2, h.1⟩
                    obtain ⟨tb, eb⟩ := tb
                    have fa : (y.f2.f0 == 2) = false := by simpa using ea
                    clear hwy' ea
                    obtain ⟨rb0, rb1⟩ := hry'.out.2.1 eb
                    obtain ⟨nb, hnb⟩ := Int.eq_ofNat_of_zero_le rb0
                    have nb8 : (nb : Int) < 8 := by have := h8'.out; omega
                    rw [hnb] at tb j8
                    rw [eb] at j7
                    have rb := hE.rd nb (by omega)
                    rw [tb] at rb
                    clear rb0 rb1 tb hnb eb
                    go_wp2
                    go_roundw
                    case rel => exact ⟨q + 1, by omega, by go_num, hE⟩
                    case measure => simp [intOf]; omega
              · have hqe : q = j := by omega
                subst hqe
                have d2 : decide ((q : Int) < (q : Int)) = false := by simp
                have eo' := hE.far_cell eo
                have rq := hE.rd q hj8
                have hfz := blk_frozen hE.h6 q
                go_wp2
                go_roundw
                case rel => exact ⟨k + 1, g, told.set q true, by omega, by go_num, HD, ⟨by rw [List.length_set]; exact ht.out⟩, hE.put q (by have := ht.out; omega) hj8⟩
                case measure => simp [intOf]; omega
          · have fb : (x.f3.f0 == 2) = false := by simpa using eb
            clear eb
            go_upto_region 19 with (fail)
            try clear fa
            try clear fb
            try clear ra na8
            try clear rb nb8
            clear j2 j3 j7 j8 hno hrx
            go_wp2
            go_loopw [9] (fun i wr => ∃ (q : Nat), q ≤ j ∧ i = .int .i64 (q : Int) ∧ Io W5 g6 told wr) (fun i _ => j - (intOf i).toNat)
            case atStart => exact ⟨0, by omega, rfl, hE⟩
            case round =>
              clear hE
              obtain ⟨q, hq, rfl, hE⟩ := hrel
              by_cases hqj : q < j
              · have eo' := hE.far_cell eo
                have i0' := hE.far_cell i0
                have d1 : decide ((q : Int) < (j : Int)) = true := by simp; omega
                obtain ⟨ad', had, e0, e1, e2, e3, e4, e5, e6, e7, e8, e9, e10, e11⟩ := at_T48 (Kd.C_below hC hE.bel) (q : Int) (by omega) (by omega)
                injection had with had
                subst had
                rw [Int.toNat_natCast] at e0 e1 e2 e3 e4 e5 e6 e7 e8 e9 e10 e11
                have hry := hw'.out q (by omega)
                have hyes := P5.out q (Nat.zero_le _) hqj
                have hq8 : (q : Int) < 8 := by omega
                have hql : (q : Int) < (l.length : Int) := by omega
                have rq := hE.rd q (by omega)
                generalize rd_T48 l (q : Int) = y at *
                have hry' := Aside0.mk hry
                have hyes' := Aside0.mk hyes
                clear hry hyes
                go_upto_region 23 with (fail)
                have hZ : (wr.alloc (.cells #[.int .i64 y.f0, .int .i64 y.f1, .int .i64 y.f2.f0, .int .i64 y.f2.f1, .int .i64 y.f2.f2.f0, .int .i64 y.f2.f2.f1, .bool y.f2.f3, .int .i64 y.f3.f0, .int .i64 y.f3.f1, .int .i64 y.f3.f2.f0, .int .i64 y.f3.f2.f1, .bool y.f3.f3] 48)).heap[wr.heap.size]? = some (.cells #[.int .i64 y.f0, .int .i64 y.f1, .int .i64 y.f2.f0, .int .i64 y.f2.f1, .int .i64 y.f2.f2.f0, .int .i64 y.f2.f2.f1, .bool y.f2.f3, .int .i64 y.f3.f0, .int .i64 y.f3.f1, .int .i64 y.f3.f2.f0, .int .i64 y.f3.f2.f1, .bool y.f3.f3] 48 (0, 0)) := heap_alloc_new wr _
                replace hE := hE.alloc (.cells #[.int .i64 y.f0, .int .i64 y.f1, .int .i64 y.f2.f0, .int .i64 y.f2.f1, .int .i64 y.f2.f2.f0, .int .i64 y.f2.f2.f1, .bool y.f2.f3, .int .i64 y.f3.f0, .int .i64 y.f3.f1, .int .i64 y.f3.f2.f0, .int .i64 y.f3.f2.f1, .bool y.f3.f3] 48)
                clear rq e0 e1 e2 e3 e4 e5 e6 e7 e8 e9 e10 e11
                generalize wr.alloc (Obj.cells _ 48) = w9 at hE hZ ⊢
                obtain ⟨gy, hgy⟩ : ∃ g, wr.heap.size = g := ⟨_, rfl⟩
                rw [hgy] at hZ ⊢
                clear hgy eo' i0'
                have j2 : w9.cell? ⟨gy, 2, none⟩ = some (.int .i64 y.f2.f0) := (blk_cell hZ 2).trans rfl
                have j3 : w9.cell? ⟨gy, 3, none⟩ = some (.int .i64 y.f2.f1) := (blk_cell hZ 3).trans rfl
                have j7 : w9.cell? ⟨gy, 7, none⟩ = some (.int .i64 y.f3.f0) := (blk_cell hZ 7).trans rfl
                have j8 : w9.cell? ⟨gy, 8, none⟩ = some (.int .i64 y.f3.f1) := (blk_cell hZ 8).trans rfl
                have rq := hE.rd q (by omega)
                clear hZ
                by_cases tq : td told (q : Int) = true
                · rw [tq] at rq
                  clear tq
                  go_wp2
                  go_roundw
                  case rel => exact ⟨q + 1, by omega, by go_num, hE⟩
                  case measure => simp [intOf]; omega
                · rw [show td told (q : Int) = false by simpa using tq] at rq
                  have hwy : wq told y = true := hyes'.out.resolve_left tq
                  clear tq
                  have hwy' := wq_yes hwy
                  clear hwy
                  by_cases ea : y.f2.f0 = 2
                  · by_cases ta : td told y.f2.f1 = false
                    · clear hwy'
                      obtain ⟨ra0, ra1⟩ := hry'.out.1 ea
                      obtain ⟨na, hna⟩ := Int.eq_ofNat_of_zero_le ra0
                      have na8 : (na : Int) < 8 := by have := h8'.out; omega
                      rw [hna] at ta j3
                      rw [ea] at j2
                      have ra := hE.rd na (by omega)
                      rw [ta] at ra
                      clear ra0 ra1 ta hna ea
                      go_wp2
                      go_roundw
                      case rel => exact ⟨q + 1, by omega, by go_num, hE⟩
                      case measure => simp [intOf]; omega
                    · have tb : td told y.f3.f1 = false ∧ y.f3.f0 = 2 := by
                        rcases hwy' with h | h
                        · exact absurd h.2 ta
                        · exact ⟨h.2, h.1⟩
                      obtain ⟨tb, eb⟩ := tb
                      replace ta : td told y.f2.f1 = true := by simpa using ta
                      clear hwy'
                      obtain ⟨ra0, ra1⟩ := hry'.out.1 ea
                      obtain ⟨na, hna⟩ := Int.eq_ofNat_of_zero_le ra0
                      have na8 : (na : Int) < 8 := by have := h8'.out; omega
                      rw [hna] at ta j3
                      rw [ea] at j2
                      have ra := hE.rd na (by omega)
                      rw [ta] at ra
                      clear ra0 ra1 ta hna ea
                      obtain ⟨rb0, rb1⟩ := hry'.out.2.1 eb
                      obtain ⟨nb, hnb⟩ := Int.eq_ofNat_of_zero_le rb0
                      have nb8 : (nb : Int) < 8 := by have := h8'.out; omega
                      rw [hnb] at tb j8
                      rw [eb] at j7
                      have rb := hE.rd nb (by omega)
                      rw [tb] at rb
                      clear rb0 rb1 tb hnb eb
                      go_wp2
                      go_roundw
                      case rel => exact ⟨q + 1, by omega, by go_num, hE⟩
                      case measure => simp [intOf]; omega
                  · have tb : td told y.f3.f1 = false ∧ y.f3.f0 = 2 := by
                      rcases hwy' with h | h
                      · exact absurd h.1 ea
                      · exact ⟨h.2, h.1⟩
                    obtain ⟨tb, eb⟩ := tb
                    have fa : (y.f2.f0 == 2) = false := by simpa using ea
                    clear hwy' ea
                    obtain ⟨rb0, rb1⟩ := hry'.out.2.1 eb
                    obtain ⟨nb, hnb⟩ := Int.eq_ofNat_of_zero_le rb0
                    have nb8 : (nb : Int) < 8 := by have := h8'.out; omega
                    rw [hnb] at tb j8
                    rw [eb] at j7
                    have rb := hE.rd nb (by omega)
                    rw [tb] at rb
                    clear rb0 rb1 tb hnb eb
                    go_wp2
                    go_roundw
                    case rel => exact ⟨q + 1, by omega, by go_num, hE⟩
                    case measure => simp [intOf]; omega
              · have hqe : q = j := by omega
                subst hqe
                have d2 : decide ((q : Int) < (q : Int)) = false := by simp
                have eo' := hE.far_cell eo
                have rq := hE.rd q hj8
                have hfz := blk_frozen hE.h6 q
                go_wp2
                go_roundw
                case rel => exact ⟨k + 1, g, told.set q true, by omega, by go_num, HD, ⟨by rw [List.length_set]; exact ht.out⟩, hE.put q (by have := ht.out; omega) hj8⟩
                case measure => simp [intOf]; omega
      · have hkn : k = o.length := by omega
        subst hkn
        have d3 : decide ((o.length : Int) < (o.length : Int)) = false := by simp
        have i0 := hI.far_cell i0
        have hle : ((o.length : Int) == (l.length : Int)) = true := by rw [hlen'.out]; simp
        have hB := k1.trans (hI.bel.mono k1.size)
        clear hI hO hP hC
        go_wp2
        go_ret
        exact ⟨rfl, hB⟩
end Go.Proofs.Ytphblfmjdiigkaa.Hk13
