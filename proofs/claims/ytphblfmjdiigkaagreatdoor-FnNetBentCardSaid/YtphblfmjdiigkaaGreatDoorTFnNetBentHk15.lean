/- The walk of the law FnNetBent: it returns true, if the plain law holds of the net that is drawn. -/
import Derived.Test.YtphblfmjdiigkaaGreatDoorTFnNetBentHk9
import Derived.Test.YtphblfmjdiigkaaGreatDoorTFnNetBentHk8
import Derived.Test.YtphblfmjdiigkaaGreatDoorTFnNetBentHk7
import Derived.Test.YtphblfmjdiigkaaGreatDoorTFnNetBentHk6
import Derived.Test.YtphblfmjdiigkaaGreatDoorTFnNetBentHk5
import Derived.Test.YtphblfmjdiigkaaGreatDoorTFnNetBentHFnNetBentx4
import Derived.Test.YtphblfmjdiigkaaGreatDoorTFnNetBentHFnNetBentx6
import Derived.Test.YtphblfmjdiigkaaGreatDoorTFnNetBentHFnNetBentx7
import Derived.Test.YtphblfmjdiigkaaGreatDoorTFnNetBentHFnNetBentx8
import Derived.Test.YtphblfmjdiigkaaGreatDoorTFnNetBentHFnNetBentx9
import Derived.Test.YtphblfmjdiigkaaGreatDoorTFnNetBentHFnNetBentx12
import Derived.WalkLawsBesides
import Derived.WalkSpells
import Derived.Deep.RegionHeld
import Derived.Deep.DeepCutAuto
import Derived.Deep.CutBlock
namespace Go.Proofs.YtphblfmjdiigkaaGreatDoor.Hk15
open Go.RowKit Go.Proofs.YtphblfmjdiigkaaGreatDoor.Hk9 Go.Proofs.YtphblfmjdiigkaaGreatDoor.Hk8 Go.Proofs.YtphblfmjdiigkaaGreatDoor.Hb Go.Proofs.YtphblfmjdiigkaaGreatDoor.Hk1 Go.Proofs.YtphblfmjdiigkaaGreatDoor.Hk2 Go.Proofs.YtphblfmjdiigkaaGreatDoor.Hk3 Go.Proofs.YtphblfmjdiigkaaGreatDoor.Hk4 Go.Proofs.YtphblfmjdiigkaaGreatDoor.Hk5 Go.Proofs.YtphblfmjdiigkaaGreatDoor.Hk6 Go.Proofs.YtphblfmjdiigkaaGreatDoor.Hk7 Go.Proofs.YtphblfmjdiigkaaGreatDoor.HFnNetBent Go.Proofs.YtphblfmjdiigkaaGreatDoorW.PrintWords Go.Proofs.YtphblfmjdiigkaaGreatDoorW.PrintLast Go.Proofs.YtphblfmjdiigkaaGreatDoorW.PrintMore
set_option linter.unusedVariables false
set_option linter.unusedSimpArgs false
/-- A box of a net: two rows, each read as a list. -/
structure Bx (g : Nat) (A : Option Addr) (c : Nat) (l : List S43) (B : Option Addr) (d : Nat) (m : List S66) (W : World) : Prop where
  h : W.heap[g]? = some (.cells #[.slice A l.length c, .slice B m.length d] 31 (0, 0))
  hC : Kd.C k43 W A l.length l
  hD : Kd.C k66 W B m.length m
  lc : l.length ≤ c
  ld : m.length ≤ d
theorem Bx.below {g : Nat} {A : Option Addr} {c : Nat} {l : List S43} {B : Option Addr} {d : Nat} {m : List S66} {W W' : World} (h : Bx g A c l B d m W) (k : Below W.heap.size W W') : Bx g A c l B d m W' := ⟨blk_below h.h k, Kd.C_below h.hC k, Kd.C_below h.hD k, h.lc, h.ld⟩
theorem k43E : k43.E = [] := rfl
theorem k66E : k66.E = [] := rfl
def xA (n : Nat) : S43 := ⟨4, 0, ⟨2, (n : Int), ⟨0, 0⟩, false⟩, ⟨0, 0, ⟨0, 0⟩, false⟩⟩
def xB (n : Nat) : S43 := ⟨4, 0, ⟨3, wrap64 ((n : Int) + 1), ⟨0, 0⟩, false⟩, ⟨0, 0, ⟨0, 0⟩, false⟩⟩
def xC (n : Nat) : S43 := ⟨4, 0, ⟨3, (n : Int), ⟨0, 0⟩, false⟩, ⟨0, 0, ⟨0, 0⟩, false⟩⟩
set_option maxRecDepth 100000 in
set_option maxHeartbeats 25600000 in
theorem walk (A0 : Option Addr) (c0 : Nat) (l0 : List Int) (w : World) (hl0 : ¬ (l0.length : Int) > 1048576) (l : List S43) (m : List S66)
    (hdraw : Calls Tryz.prog 11 #[.slice A0 l0.length c0] w fun e w' => ∃ A c B d, e = .returned (.agg #[.slice A l.length c, .slice B m.length d]) ∧ l.length ≤ c ∧ m.length ≤ d ∧ Kd.C k43 w' A l.length l ∧ Kd.C k66 w' B m.length m ∧ Below w.heap.size w w')
    (hlaw : nOk l m = true → nOk (l ++ [xA l.length]) [] = false ∧ nOk (l ++ [xB l.length]) [] = false ∧ nOk (l ++ [xC l.length]) [] = decide ((l.length : Int) < 8) ∧ nOk l (m ++ m) = ((m.length : Int) == 0)) (hsz : nOk l m = true → l.length ≤ 8 ∧ m.length ≤ 4) :
    Calls Tryz.prog 4 #[.slice A0 l0.length c0] w fun e w' => e = .returned (.bool true) ∧ Below w.heap.size w w' := by
  have t1 : decide (1048576 < (l0.length : Int)) = false := by simpa using hl0
  have t1' : decide ((l0.length : Int) > 1048576) = false := by simpa using hl0
  clear hl0
  have hu31 := Tryz.underlying31
  have hu43 := Tryz.underlying43
  have hu41 := Tryz.underlying41
  have hu39 := Tryz.underlying39
  have hu66 := Tryz.underlying66
  go_enter Tryz.func4, Tryz.ntmps4
  go_wp2_with fail
  refine hdraw.mono ?_
  rintro e W1 ⟨A, c, B, d, rfl, hlc, hmd, hC, hD, k1⟩
  clear hdraw t1 t1'
  go_upto_region 4 with (fail)
  have hb := al W1 (.cells #[.slice A l.length c, .slice B m.length d] 31)
  have hX : Bx W1.heap.size A c l B d m (W1.alloc (.cells #[.slice A l.length c, .slice B m.length d] 31)) := ⟨heap_alloc_new W1 _, Kd.C_below hC hb, Kd.C_below hD hb, hlc, hmd⟩
  replace k1 := k1.trans (hb.mono k1.size)
  clear hb hC hD hlc hmd
  generalize W1.alloc (Obj.cells _ 31) = W2 at hX k1 ⊢
  obtain ⟨g3, hg3⟩ : ∃ g, W1.heap.size = g := ⟨_, rfl⟩
  rw [hg3] at hX ⊢
  clear hg3
  have c12 := fun W (h : Bx g3 A c l B d m W) => implOk l m A B c d W h.lc h.ld h.hC h.hD
  have c13 := fun W (h : Bx g3 A c l B d m W) => spec_NetOk.calls 5000000 A c l B d m (nOk l m) W h.hC h.lc h.hD h.ld (netOkT l m 5000000 (by omega))
  have c9 := fun (hq : nOk l m = false) W (h : Bx g3 A c l B d m W) => textNo l m A B c d W h.lc h.ld h.hC h.hD hq
  obtain ⟨r, hr⟩ : ∃ r, nOk l m = r := ⟨_, rfl⟩
  rw [hr] at c12 c13 c9
  cases r with
  | false =>
    replace c9 := c9 rfl
    clear hlaw hsz hr
    have bne : (false != false) = false := rfl
    have beq : (false == false) = true := rfl
    have hXd := hX.below (below_drew1 (Below.refl _ _))
    have k1d := below_drew1 k1
    clear hX k1
    refine start_ (n := 10) (S := fun w' => w'.cell? ⟨g3, 0, none⟩ = some (.slice A l.length c) ∧ w'.cell? ⟨g3, 1, none⟩ = some (.slice B m.length d) ∧ Bx g3 A c l B d m w' ∧ Below w.heap.size w w') (ds := []) #[false, false, false, false, false, false, false, false, false, false] (by kernel_rfl) rfl rfl ⟨(blk_cell hXd.h 0).trans rfl, (blk_cell hXd.h 1).trans rfl, hXd, k1d⟩ (fun hHeld => ?_)
    refine take_ (i := 0) (N := some 13) (v := ?_) (a' := ?_) #[true, false, false, false, false, false, false, false, false, false] rfl rfl (by kernel_rfl) (fun _ _ _ h => h) (Or.inl ⟨by rfl, ?_⟩) hHeld ?_ ?_
    rotate_left
    · rintro w' ⟨s0, s1, s2, s3⟩
      go_simp
      with_reducible rfl
    rotate_left
    · simp only [Act.put, List.setIfInBounds_toArray, List.set_cons_zero, List.set_cons_succ, i64_w, i32_w]
      rfl
    refine take_ (i := 2) (N := some 15) (v := ?_) (a' := ?_) #[true, false, true, false, false, false, false, false, false, false] rfl rfl (by kernel_rfl) (fun _ _ _ h => h) (Or.inl ⟨by rfl, ?_⟩) hHeld ?_ ?_
    rotate_left
    · rintro w' ⟨s0, s1, s2, s3⟩
      go_simp
      with_reducible rfl
    rotate_left
    · simp only [Act.put, List.setIfInBounds_toArray, List.set_cons_zero, List.set_cons_succ, i64_w, i32_w]
      rfl
    refine one_ (i := 1) (N := some 14) #[true, true, true, false, false, false, false, false, false, false] rfl rfl (by kernel_rfl) (by decide) (fun K hK => ?_)
    refine goes_ Tryz.func12 (by kernel_rfl) rfl #[.agg #[.slice A l.length c, .slice B m.length d]] (by rfl) rfl rfl (by simp only [List.map_toArray, List.map_cons, List.map_nil]; rfl) ?_
    with_reducible refine (c12 _ hHeld.2.2.1).mono ?_
    rintro e wq ⟨rfl, hb⟩
    refine ⟨_, rfl, ?_⟩
    have hXq := hHeld.2.2.1.below hb
    have kq := hHeld.2.2.2.trans (hb.mono hHeld.2.2.2.size)
    refine hK.out _ _ ⟨(blk_cell hXq.h 0).trans rfl, (blk_cell hXq.h 1).trans rfl, hXq, kq⟩ (fun hHeld => ?_)
    clear hK K
    refine norm_ (a' := ?_) ?_ ?_
    rotate_left
    · show Act.put _ (some 14) _ = _
      simp only [Act.put, List.setIfInBounds_toArray, List.set_cons_zero, List.set_cons_succ, i64_w, i32_w]
      rfl
    refine one_ (i := 3) (N := some 16) #[true, true, true, true, false, false, false, false, false, false] rfl rfl (by kernel_rfl) (by decide) (fun K hK => ?_)
    refine goes_ Tryz.func13 (by kernel_rfl) rfl #[.agg #[.slice A l.length c, .slice B m.length d]] (by rfl) rfl rfl (by simp only [List.map_toArray, List.map_cons, List.map_nil]; rfl) ?_
    with_reducible refine (c13 _ hHeld.2.2.1).mono ?_
    rintro e wq ⟨rfl, hb⟩
    refine ⟨_, rfl, ?_⟩
    have hXq := hHeld.2.2.1.below hb
    have kq := hHeld.2.2.2.trans (hb.mono hHeld.2.2.2.size)
    refine hK.out _ _ ⟨(blk_cell hXq.h 0).trans rfl, (blk_cell hXq.h 1).trans rfl, hXq, kq⟩ (fun hHeld => ?_)
    clear hK K
    refine norm_ (a' := ?_) ?_ ?_
    rotate_left
    · show Act.put _ (some 16) _ = _
      simp only [Act.put, List.setIfInBounds_toArray, List.set_cons_zero, List.set_cons_succ, i64_w, i32_w]
      rfl
    refine pure_ (i := 4) (N := some 17) (v := ?_) (a' := ?_) #[true, true, true, true, true, false, false, false, false, false] rfl rfl (by kernel_rfl) (fun _ _ _ h => h) (Or.inl ⟨by rfl, ?_⟩) ?_ ?_
    rotate_left
    · intro w'
      go_simp
      with_reducible rfl
    rotate_left
    · simp only [Act.put, List.setIfInBounds_toArray, List.set_cons_zero, List.set_cons_succ, i64_w, i32_w]
      rfl
    refine pure_ (i := 5) (N := some 18) (v := ?_) (a' := ?_) #[true, true, true, true, true, true, false, false, false, false] rfl rfl (by kernel_rfl) (fun _ _ _ h => h) (Or.inl ⟨by rfl, ?_⟩) ?_ ?_
    rotate_left
    · intro w'
      go_simp
      with_reducible rfl
    rotate_left
    · simp only [Act.put, List.setIfInBounds_toArray, List.set_cons_zero, List.set_cons_succ, i64_w, i32_w]
      rfl
    refine take_ (i := 6) (N := some 19) (v := ?_) (a' := ?_) #[true, true, true, true, true, true, true, false, false, false] rfl rfl (by kernel_rfl) (fun _ _ _ h => h) (Or.inl ⟨by rfl, ?_⟩) hHeld ?_ ?_
    rotate_left
    · rintro w' ⟨s0, s1, s2, s3⟩
      go_simp
      with_reducible rfl
    rotate_left
    · simp only [Act.put, List.setIfInBounds_toArray, List.set_cons_zero, List.set_cons_succ, i64_w, i32_w]
      rfl
    refine one_ (i := 7) (N := some 20) #[true, true, true, true, true, true, true, true, false, false] rfl rfl (by kernel_rfl) (by decide) (fun K hK => ?_)
    refine goes_ Tryz.func13 (by kernel_rfl) rfl #[.agg #[.slice A l.length c, .slice B m.length d]] (by rfl) rfl rfl (by simp only [List.map_toArray, List.map_cons, List.map_nil]; rfl) ?_
    with_reducible refine (c13 _ hHeld.2.2.1).mono ?_
    rintro e wq ⟨rfl, hb⟩
    refine ⟨_, rfl, ?_⟩
    have hXq := hHeld.2.2.1.below hb
    have kq := hHeld.2.2.2.trans (hb.mono hHeld.2.2.2.size)
    refine hK.out _ _ ⟨(blk_cell hXq.h 0).trans rfl, (blk_cell hXq.h 1).trans rfl, hXq, kq⟩ (fun hHeld => ?_)
    clear hK K
    refine norm_ (a' := ?_) ?_ ?_
    rotate_left
    · show Act.put _ (some 20) _ = _
      simp only [Act.put, List.setIfInBounds_toArray, List.set_cons_zero, List.set_cons_succ, i64_w, i32_w]
      rfl
    refine pure_ (i := 8) (N := some 21) (v := ?_) (a' := ?_) #[true, true, true, true, true, true, true, true, true, false] rfl rfl (by kernel_rfl) (fun _ _ _ h => h) (Or.inl ⟨by rfl, ?_⟩) ?_ ?_
    rotate_left
    · intro w'
      go_simp
      with_reducible rfl
    rotate_left
    · simp only [Act.put, List.setIfInBounds_toArray, List.set_cons_zero, List.set_cons_succ, i64_w, i32_w]
      rfl
    refine pure_ (i := 9) (N := some 22) (v := ?_) (a' := ?_) #[true, true, true, true, true, true, true, true, true, true] rfl rfl (by kernel_rfl) (fun _ _ _ h => h) (Or.inl ⟨by rfl, ?_⟩) ?_ ?_
    rotate_left
    · intro w'
      go_simp
      with_reducible rfl
    rotate_left
    · simp only [Act.put, List.setIfInBounds_toArray, List.set_cons_zero, List.set_cons_succ, i64_w, i32_w]
      rfl
    refine done_ (by kernel_rfl) ?_
    have hX := hHeld.2.2.1
    have k1 := hHeld.2.2.2
    clear hHeld
    try clear hHeld
    go_upto_region 5 with (fail)
    have hXd := hX.below (below_drew1 (Below.refl _ _))
    have k1d := below_drew1 k1
    clear hX k1
    refine start_ (n := 15) (S := fun w' => w'.cell? ⟨g3, 0, none⟩ = some (.slice A l.length c) ∧ w'.cell? ⟨g3, 1, none⟩ = some (.slice B m.length d) ∧ Bx g3 A c l B d m w' ∧ Below w.heap.size w w') (ds := []) #[false, false, false, false, false, false, false, false, false, false, false, false, false, false, false] (by kernel_rfl) rfl rfl ⟨(blk_cell hXd.h 0).trans rfl, (blk_cell hXd.h 1).trans rfl, hXd, k1d⟩ (fun hHeld => ?_)
    refine take_ (i := 0) (N := some 23) (v := ?_) (a' := ?_) #[true, false, false, false, false, false, false, false, false, false, false, false, false, false, false] rfl rfl (by kernel_rfl) (fun _ _ _ h => h) (Or.inl ⟨by rfl, ?_⟩) hHeld ?_ ?_
    rotate_left
    · rintro w' ⟨s0, s1, s2, s3⟩
      go_simp
      with_reducible rfl
    rotate_left
    · simp only [Act.put, List.setIfInBounds_toArray, List.set_cons_zero, List.set_cons_succ, i64_w, i32_w]
      rfl
    refine take_ (i := 2) (N := some 25) (v := ?_) (a' := ?_) #[true, false, true, false, false, false, false, false, false, false, false, false, false, false, false] rfl rfl (by kernel_rfl) (fun _ _ _ h => h) (Or.inl ⟨by rfl, ?_⟩) hHeld ?_ ?_
    rotate_left
    · rintro w' ⟨s0, s1, s2, s3⟩
      go_simp
      with_reducible rfl
    rotate_left
    · simp only [Act.put, List.setIfInBounds_toArray, List.set_cons_zero, List.set_cons_succ, i64_w, i32_w]
      rfl
    refine one_ (i := 1) (N := some 24) #[true, true, true, false, false, false, false, false, false, false, false, false, false, false, false] rfl rfl (by kernel_rfl) (by decide) (fun K hK => ?_)
    refine goes_ Tryz.func12 (by kernel_rfl) rfl #[.agg #[.slice A l.length c, .slice B m.length d]] (by rfl) rfl rfl (by simp only [List.map_toArray, List.map_cons, List.map_nil]; rfl) ?_
    with_reducible refine (c12 _ hHeld.2.2.1).mono ?_
    rintro e wq ⟨rfl, hb⟩
    refine ⟨_, rfl, ?_⟩
    have hXq := hHeld.2.2.1.below hb
    have kq := hHeld.2.2.2.trans (hb.mono hHeld.2.2.2.size)
    refine hK.out _ _ ⟨(blk_cell hXq.h 0).trans rfl, (blk_cell hXq.h 1).trans rfl, hXq, kq⟩ (fun hHeld => ?_)
    clear hK K
    refine norm_ (a' := ?_) ?_ ?_
    rotate_left
    · show Act.put _ (some 24) _ = _
      simp only [Act.put, List.setIfInBounds_toArray, List.set_cons_zero, List.set_cons_succ, i64_w, i32_w]
      rfl
    refine one_ (i := 3) (N := some 26) #[true, true, true, true, false, false, false, false, false, false, false, false, false, false, false] rfl rfl (by kernel_rfl) (by decide) (fun K hK => ?_)
    refine goes_ Tryz.func13 (by kernel_rfl) rfl #[.agg #[.slice A l.length c, .slice B m.length d]] (by rfl) rfl rfl (by simp only [List.map_toArray, List.map_cons, List.map_nil]; rfl) ?_
    with_reducible refine (c13 _ hHeld.2.2.1).mono ?_
    rintro e wq ⟨rfl, hb⟩
    refine ⟨_, rfl, ?_⟩
    have hXq := hHeld.2.2.1.below hb
    have kq := hHeld.2.2.2.trans (hb.mono hHeld.2.2.2.size)
    refine hK.out _ _ ⟨(blk_cell hXq.h 0).trans rfl, (blk_cell hXq.h 1).trans rfl, hXq, kq⟩ (fun hHeld => ?_)
    clear hK K
    refine norm_ (a' := ?_) ?_ ?_
    rotate_left
    · show Act.put _ (some 26) _ = _
      simp only [Act.put, List.setIfInBounds_toArray, List.set_cons_zero, List.set_cons_succ, i64_w, i32_w]
      rfl
    refine pure_ (i := 4) (N := some 27) (v := ?_) (a' := ?_) #[true, true, true, true, true, false, false, false, false, false, false, false, false, false, false] rfl rfl (by kernel_rfl) (fun _ _ _ h => h) (Or.inl ⟨by rfl, ?_⟩) ?_ ?_
    rotate_left
    · intro w'
      go_simp
      with_reducible rfl
    rotate_left
    · simp only [Act.put, List.setIfInBounds_toArray, List.set_cons_zero, List.set_cons_succ, i64_w, i32_w]
      rfl
    refine pure_ (i := 5) (N := some 28) (v := ?_) (a' := ?_) #[true, true, true, true, true, true, false, false, false, false, false, false, false, false, false] rfl rfl (by kernel_rfl) (fun _ _ _ h => h) (Or.inl ⟨by rfl, ?_⟩) ?_ ?_
    rotate_left
    · intro w'
      go_simp
      with_reducible rfl
    rotate_left
    · simp only [Act.put, List.setIfInBounds_toArray, List.set_cons_zero, List.set_cons_succ, i64_w, i32_w]
      rfl
    refine take_ (i := 6) (N := some 29) (v := ?_) (a' := ?_) #[true, true, true, true, true, true, true, false, false, false, false, false, false, false, false] rfl rfl (by kernel_rfl) (fun _ _ _ h => h) (Or.inl ⟨by rfl, ?_⟩) hHeld ?_ ?_
    rotate_left
    · rintro w' ⟨s0, s1, s2, s3⟩
      go_simp
      with_reducible rfl
    rotate_left
    · simp only [Act.put, List.setIfInBounds_toArray, List.set_cons_zero, List.set_cons_succ, i64_w, i32_w]
      rfl
    refine one_ (i := 7) (N := some 30) #[true, true, true, true, true, true, true, true, false, false, false, false, false, false, false] rfl rfl (by kernel_rfl) (by decide) (fun K hK => ?_)
    refine goes_ Tryz.func13 (by kernel_rfl) rfl #[.agg #[.slice A l.length c, .slice B m.length d]] (by rfl) rfl rfl (by simp only [List.map_toArray, List.map_cons, List.map_nil]; rfl) ?_
    with_reducible refine (c13 _ hHeld.2.2.1).mono ?_
    rintro e wq ⟨rfl, hb⟩
    refine ⟨_, rfl, ?_⟩
    have hXq := hHeld.2.2.1.below hb
    have kq := hHeld.2.2.2.trans (hb.mono hHeld.2.2.2.size)
    refine hK.out _ _ ⟨(blk_cell hXq.h 0).trans rfl, (blk_cell hXq.h 1).trans rfl, hXq, kq⟩ (fun hHeld => ?_)
    clear hK K
    refine norm_ (a' := ?_) ?_ ?_
    rotate_left
    · show Act.put _ (some 30) _ = _
      simp only [Act.put, List.setIfInBounds_toArray, List.set_cons_zero, List.set_cons_succ, i64_w, i32_w]
      rfl
    refine pure_ (i := 8) (N := some 31) (v := ?_) (a' := ?_) #[true, true, true, true, true, true, true, true, true, false, false, false, false, false, false] rfl rfl (by kernel_rfl) (fun _ _ _ h => h) (Or.inl ⟨by rfl, ?_⟩) ?_ ?_
    rotate_left
    · intro w'
      go_simp
      with_reducible rfl
    rotate_left
    · simp only [Act.put, List.setIfInBounds_toArray, List.set_cons_zero, List.set_cons_succ, i64_w, i32_w]
      rfl
    refine take_ (i := 9) (N := some 32) (v := ?_) (a' := ?_) #[true, true, true, true, true, true, true, true, true, true, false, false, false, false, false] rfl rfl (by kernel_rfl) (fun _ _ _ h => h) (Or.inl ⟨by rfl, ?_⟩) hHeld ?_ ?_
    rotate_left
    · rintro w' ⟨s0, s1, s2, s3⟩
      go_simp
      with_reducible rfl
    rotate_left
    · simp only [Act.put, List.setIfInBounds_toArray, List.set_cons_zero, List.set_cons_succ, i64_w, i32_w]
      rfl
    refine one_ (i := 10) (N := some 33) #[true, true, true, true, true, true, true, true, true, true, true, false, false, false, false] rfl rfl (by kernel_rfl) (by decide) (fun K hK => ?_)
    refine goes_ Tryz.func9 (by kernel_rfl) rfl #[.agg #[.slice A l.length c, .slice B m.length d]] (by rfl) rfl rfl (by simp only [List.map_toArray, List.map_cons, List.map_nil]; rfl) ?_
    with_reducible refine (c9 _ hHeld.2.2.1).mono ?_
    rintro e wq ⟨rfl, hb⟩
    refine ⟨_, rfl, ?_⟩
    have hXq := hHeld.2.2.1.below hb
    have kq := hHeld.2.2.2.trans (hb.mono hHeld.2.2.2.size)
    refine hK.out _ _ ⟨(blk_cell hXq.h 0).trans rfl, (blk_cell hXq.h 1).trans rfl, hXq, kq⟩ (fun hHeld => ?_)
    clear hK K
    refine norm_ (a' := ?_) ?_ ?_
    rotate_left
    · show Act.put _ (some 33) _ = _
      simp only [Act.put, List.setIfInBounds_toArray, List.set_cons_zero, List.set_cons_succ, i64_w, i32_w]
      rfl
    refine pure_ (i := 11) (N := some 34) (v := ?_) (a' := ?_) #[true, true, true, true, true, true, true, true, true, true, true, true, false, false, false] rfl rfl (by kernel_rfl) (fun _ _ _ h => h) (Or.inl ⟨by rfl, ?_⟩) ?_ ?_
    rotate_left
    · intro w'
      go_simp
      with_reducible rfl
    rotate_left
    · simp only [Act.put, List.setIfInBounds_toArray, List.set_cons_zero, List.set_cons_succ, i64_w, i32_w]
      rfl
    refine pure_ (i := 12) (N := some 35) (v := ?_) (a' := ?_) #[true, true, true, true, true, true, true, true, true, true, true, true, true, false, false] rfl rfl (by kernel_rfl) (fun _ _ _ h => h) (Or.inl ⟨by rfl, ?_⟩) ?_ ?_
    rotate_left
    · intro w'
      go_simp
      with_reducible rfl
    rotate_left
    · simp only [Act.put, List.setIfInBounds_toArray, List.set_cons_zero, List.set_cons_succ, i64_w, i32_w]
      rfl
    refine pure_ (i := 13) (N := some 36) (v := ?_) (a' := ?_) #[true, true, true, true, true, true, true, true, true, true, true, true, true, true, false] rfl rfl (by kernel_rfl) (fun _ _ _ h => h) (Or.inl ⟨by rfl, ?_⟩) ?_ ?_
    rotate_left
    · intro w'
      go_simp
      with_reducible rfl
    rotate_left
    · simp only [Act.put, List.setIfInBounds_toArray, List.set_cons_zero, List.set_cons_succ, i64_w, i32_w]
      rfl
    refine pure_ (i := 14) (N := some 2) (v := ?_) (a' := ?_) #[true, true, true, true, true, true, true, true, true, true, true, true, true, true, true] rfl rfl (by kernel_rfl) (fun _ _ _ h => h) (Or.inl ⟨by rfl, ?_⟩) ?_ ?_
    rotate_left
    · intro w'
      go_simp
      with_reducible rfl
    rotate_left
    · simp only [Act.put, List.setIfInBounds_toArray, List.set_cons_zero, List.set_cons_succ, i64_w, i32_w]
      rfl
    refine done_ (by kernel_rfl) ?_
    have k1 := hHeld.2.2.2
    clear hHeld
    try clear hHeld
    go_wp2
    go_ret
    exact ⟨rfl, k1⟩
  | true =>
    obtain ⟨law1, law2, law3, law4⟩ := hlaw hr
    have HSZ := Aside0.mk (hsz hr)
    clear c9 hlaw hsz hr
    have bne : (true != true) = false := rfl
    have hXd := hX.below (below_drew1 (Below.refl _ _))
    have k1d := below_drew1 k1
    clear hX k1
    refine start_ (n := 10) (S := fun w' => w'.cell? ⟨g3, 0, none⟩ = some (.slice A l.length c) ∧ w'.cell? ⟨g3, 1, none⟩ = some (.slice B m.length d) ∧ Bx g3 A c l B d m w' ∧ Below w.heap.size w w') (ds := []) #[false, false, false, false, false, false, false, false, false, false] (by kernel_rfl) rfl rfl ⟨(blk_cell hXd.h 0).trans rfl, (blk_cell hXd.h 1).trans rfl, hXd, k1d⟩ (fun hHeld => ?_)
    refine take_ (i := 0) (N := some 13) (v := ?_) (a' := ?_) #[true, false, false, false, false, false, false, false, false, false] rfl rfl (by kernel_rfl) (fun _ _ _ h => h) (Or.inl ⟨by rfl, ?_⟩) hHeld ?_ ?_
    rotate_left
    · rintro w' ⟨s0, s1, s2, s3⟩
      go_simp
      with_reducible rfl
    rotate_left
    · simp only [Act.put, List.setIfInBounds_toArray, List.set_cons_zero, List.set_cons_succ, i64_w, i32_w]
      rfl
    refine take_ (i := 2) (N := some 15) (v := ?_) (a' := ?_) #[true, false, true, false, false, false, false, false, false, false] rfl rfl (by kernel_rfl) (fun _ _ _ h => h) (Or.inl ⟨by rfl, ?_⟩) hHeld ?_ ?_
    rotate_left
    · rintro w' ⟨s0, s1, s2, s3⟩
      go_simp
      with_reducible rfl
    rotate_left
    · simp only [Act.put, List.setIfInBounds_toArray, List.set_cons_zero, List.set_cons_succ, i64_w, i32_w]
      rfl
    refine one_ (i := 1) (N := some 14) #[true, true, true, false, false, false, false, false, false, false] rfl rfl (by kernel_rfl) (by decide) (fun K hK => ?_)
    refine goes_ Tryz.func12 (by kernel_rfl) rfl #[.agg #[.slice A l.length c, .slice B m.length d]] (by rfl) rfl rfl (by simp only [List.map_toArray, List.map_cons, List.map_nil]; rfl) ?_
    with_reducible refine (c12 _ hHeld.2.2.1).mono ?_
    rintro e wq ⟨rfl, hb⟩
    refine ⟨_, rfl, ?_⟩
    have hXq := hHeld.2.2.1.below hb
    have kq := hHeld.2.2.2.trans (hb.mono hHeld.2.2.2.size)
    refine hK.out _ _ ⟨(blk_cell hXq.h 0).trans rfl, (blk_cell hXq.h 1).trans rfl, hXq, kq⟩ (fun hHeld => ?_)
    clear hK K
    refine norm_ (a' := ?_) ?_ ?_
    rotate_left
    · show Act.put _ (some 14) _ = _
      simp only [Act.put, List.setIfInBounds_toArray, List.set_cons_zero, List.set_cons_succ, i64_w, i32_w]
      rfl
    refine one_ (i := 3) (N := some 16) #[true, true, true, true, false, false, false, false, false, false] rfl rfl (by kernel_rfl) (by decide) (fun K hK => ?_)
    refine goes_ Tryz.func13 (by kernel_rfl) rfl #[.agg #[.slice A l.length c, .slice B m.length d]] (by rfl) rfl rfl (by simp only [List.map_toArray, List.map_cons, List.map_nil]; rfl) ?_
    with_reducible refine (c13 _ hHeld.2.2.1).mono ?_
    rintro e wq ⟨rfl, hb⟩
    refine ⟨_, rfl, ?_⟩
    have hXq := hHeld.2.2.1.below hb
    have kq := hHeld.2.2.2.trans (hb.mono hHeld.2.2.2.size)
    refine hK.out _ _ ⟨(blk_cell hXq.h 0).trans rfl, (blk_cell hXq.h 1).trans rfl, hXq, kq⟩ (fun hHeld => ?_)
    clear hK K
    refine norm_ (a' := ?_) ?_ ?_
    rotate_left
    · show Act.put _ (some 16) _ = _
      simp only [Act.put, List.setIfInBounds_toArray, List.set_cons_zero, List.set_cons_succ, i64_w, i32_w]
      rfl
    refine pure_ (i := 4) (N := some 17) (v := ?_) (a' := ?_) #[true, true, true, true, true, false, false, false, false, false] rfl rfl (by kernel_rfl) (fun _ _ _ h => h) (Or.inl ⟨by rfl, ?_⟩) ?_ ?_
    rotate_left
    · intro w'
      go_simp
      with_reducible rfl
    rotate_left
    · simp only [Act.put, List.setIfInBounds_toArray, List.set_cons_zero, List.set_cons_succ, i64_w, i32_w]
      rfl
    refine pure_ (i := 5) (N := some 18) (v := ?_) (a' := ?_) #[true, true, true, true, true, true, false, false, false, false] rfl rfl (by kernel_rfl) (fun _ _ _ h => h) (Or.inl ⟨by rfl, ?_⟩) ?_ ?_
    rotate_left
    · intro w'
      go_simp
      with_reducible rfl
    rotate_left
    · simp only [Act.put, List.setIfInBounds_toArray, List.set_cons_zero, List.set_cons_succ, i64_w, i32_w]
      rfl
    refine take_ (i := 6) (N := some 19) (v := ?_) (a' := ?_) #[true, true, true, true, true, true, true, false, false, false] rfl rfl (by kernel_rfl) (fun _ _ _ h => h) (Or.inl ⟨by rfl, ?_⟩) hHeld ?_ ?_
    rotate_left
    · rintro w' ⟨s0, s1, s2, s3⟩
      go_simp
      with_reducible rfl
    rotate_left
    · simp only [Act.put, List.setIfInBounds_toArray, List.set_cons_zero, List.set_cons_succ, i64_w, i32_w]
      rfl
    refine one_ (i := 7) (N := some 20) #[true, true, true, true, true, true, true, true, false, false] rfl rfl (by kernel_rfl) (by decide) (fun K hK => ?_)
    refine goes_ Tryz.func13 (by kernel_rfl) rfl #[.agg #[.slice A l.length c, .slice B m.length d]] (by rfl) rfl rfl (by simp only [List.map_toArray, List.map_cons, List.map_nil]; rfl) ?_
    with_reducible refine (c13 _ hHeld.2.2.1).mono ?_
    rintro e wq ⟨rfl, hb⟩
    refine ⟨_, rfl, ?_⟩
    have hXq := hHeld.2.2.1.below hb
    have kq := hHeld.2.2.2.trans (hb.mono hHeld.2.2.2.size)
    refine hK.out _ _ ⟨(blk_cell hXq.h 0).trans rfl, (blk_cell hXq.h 1).trans rfl, hXq, kq⟩ (fun hHeld => ?_)
    clear hK K
    refine norm_ (a' := ?_) ?_ ?_
    rotate_left
    · show Act.put _ (some 20) _ = _
      simp only [Act.put, List.setIfInBounds_toArray, List.set_cons_zero, List.set_cons_succ, i64_w, i32_w]
      rfl
    refine pure_ (i := 8) (N := some 21) (v := ?_) (a' := ?_) #[true, true, true, true, true, true, true, true, true, false] rfl rfl (by kernel_rfl) (fun _ _ _ h => h) (Or.inl ⟨by rfl, ?_⟩) ?_ ?_
    rotate_left
    · intro w'
      go_simp
      with_reducible rfl
    rotate_left
    · simp only [Act.put, List.setIfInBounds_toArray, List.set_cons_zero, List.set_cons_succ, i64_w, i32_w]
      rfl
    refine pure_ (i := 9) (N := some 22) (v := ?_) (a' := ?_) #[true, true, true, true, true, true, true, true, true, true] rfl rfl (by kernel_rfl) (fun _ _ _ h => h) (Or.inl ⟨by rfl, ?_⟩) ?_ ?_
    rotate_left
    · intro w'
      go_simp
      with_reducible rfl
    rotate_left
    · simp only [Act.put, List.setIfInBounds_toArray, List.set_cons_zero, List.set_cons_succ, i64_w, i32_w]
      rfl
    refine done_ (by kernel_rfl) ?_
    have hX := hHeld.2.2.1
    have k1 := hHeld.2.2.2
    clear hHeld
    try clear hHeld
    try clear hHeld
    clear hXd k1d bne c13 c12
    try clear hXq
    try clear hXq
    try clear hXq
    try clear kq
    try clear kq
    try clear kq
    obtain ⟨V0, hV0⟩ : ∃ q, wq = q := ⟨_, rfl⟩
    rw [hV0] at hX k1 ⊢
    clear hV0
    obtain ⟨lA, hlA⟩ : ∃ q, l ++ [xA l.length] = q := ⟨_, rfl⟩
    obtain ⟨lB, hlB⟩ : ∃ q, l ++ [xB l.length] = q := ⟨_, rfl⟩
    obtain ⟨lC, hlC⟩ : ∃ q, l ++ [xC l.length] = q := ⟨_, rfl⟩
    rw [hlA] at law1
    rw [hlB] at law2
    rw [hlC] at law3
    have HLA := Aside0.mk hlA
    have HLB := Aside0.mk hlB
    have HLC := Aside0.mk hlC
    have LAW := Aside0.mk (And.intro law1 (And.intro law2 (And.intro law3 law4)))
    clear hlA hlB hlC law1 law2 law3 law4
    have i0 : V0.cell? ⟨g3, 0, none⟩ = some (.slice A l.length c) := (blk_cell hX.h 0).trans rfl
    go_upto_region 7 with (first | ((with_reducible refine gate_dst (N := 37) rfl ?_); refine Kd.R_lit k43 (w0 := V0) V0.heap.size 43 ?hg (N := 37) ?hd (xs := ([] : List S43)) (inner := []) (ok := fun _ => True) (okp := fun _ => True) ?hr ?hp (fun _ hk => hk) trivial (Below.refl _ _) (Nat.le_refl _) (by simp) ?_; (case hd => rfl); (case hg => rfl); (case hr => first | (go_simp; done) | (go_simp; rfl)); (case hp => exact (Reps.none _ _)); intro v1 s1 ho hb hg_ hnew_; clear hg_ hnew_ i0; have hX1 := hX.below hb; have i0 : s1.cell? ⟨g3, 0, none⟩ = some (.slice A l.length c) := (blk_cell hX1.h 0).trans rfl; have HO1 := Aside0.mk ho; have HB1 := Aside0.mk hb; clear ho hb) | ((with_reducible refine gate_dst (N := 40) rfl ?_); refine Kd.R_append_rows k43 (w0 := V0) V0.heap.size rfl (.tmp 37) (.tmp 39) 28 43 (.agg #[(.int .i64 0), (.int .i64 0), (.int .i64 0), (.int .i64 0), (.int .i64 0), (.int .i64 0), (.bool false), (.int .i64 0), (.int .i64 0), (.int .i64 0), (.int .i64 0), (.bool false)]) 96 rfl Tryz.underlying28 info43 rfl (by decide) (by omega) v1 ([] : List S43) l _ _ _ (fun _ => True) (fun _ => False) rfl rfl ?aO ?aR (fun _ _ h => h) (fun _ h => h.elim) ?aF ?aB ?aS ?aL ?_; (case aR => exact hX1.hC); (case aB => exact HB1.out); (case aF => exact fun _ _ => trivial); (case aO => exact HO1.out); (case aS => exact HB1.out.size); (case aL => have := HSZ.out; simp only [List.length_nil]; omega); intro v2 s2 ho hb hg hat; rw [List.nil_append] at ho; clear hX1 HO1 HB1 i0 hg hat; have HO2 := Aside0.mk ho; have HB2 := Aside0.mk hb; clear ho hb; obtain ⟨A2, c2, eo⟩ := Kd.R_slice HO2.out; subst eo))
    have hG : (s2.alloc (.cells #[.slice A2 l.length c2, .slice none 0 0] 31)).heap[s2.heap.size]? = some (.cells #[.slice A2 l.length c2, .slice none 0 0] 31 (0, 0)) := heap_alloc_new s2 _
    have hge := HB2.out.size
    have hb3 := HB2.out.trans ((al s2 (.cells #[.slice A2 l.length c2, .slice none 0 0] 31)).mono HB2.out.size)
    have hR3 := Kd.R_below HO2.out (al s2 (.cells #[.slice A2 l.length c2, .slice none 0 0] 31))
    clear HO2 HB2
    generalize s2.alloc (Obj.cells _ 31) = s3 at hG hb3 hR3 ⊢
    obtain ⟨g4, hg4⟩ : ∃ q, s2.heap.size = q := ⟨_, rfl⟩
    rw [hg4] at hG hge ⊢
    clear hg4
    have k0 : s3.cell? ⟨g4, 0, none⟩ = some (.slice A2 l.length c2) := (blk_cell hG 0).trans rfl
    have i0 : s3.cell? ⟨g3, 0, none⟩ = some (.slice A l.length c) := (blk_cell (hX.below hb3).h 0).trans rfl
    have HR3 := Aside0.mk hR3
    have HB3 := Aside0.mk hb3
    have HG := Aside0.mk hG
    clear hR3 hb3 hG
    go_upto_region 8 with (((with_reducible refine gate_dst (N := 50) rfl ?_); refine Kd.R_append k43 (w0 := V0) V0.heap.size rfl (.tmp 43) (.tmp 49) 28 43 (.agg #[(.int .i64 0), (.int .i64 0), (.int .i64 0), (.int .i64 0), (.int .i64 0), (.int .i64 0), (.bool false), (.int .i64 0), (.int .i64 0), (.int .i64 0), (.int .i64 0), (.bool false)]) 96 rfl Tryz.underlying28 info43 rfl (by decide) (by omega) (.slice A2 l.length c2) l (xA l.length) [.int .i64 4, .int .i64 0, .int .i64 2, .int .i64 ((l.length : Int)), .int .i64 0, .int .i64 0, .bool false, .int .i64 0, .int .i64 0, .int .i64 0, .int .i64 0, .bool false] (fun _ => True) (fun _ => False) rfl (by first | (go_simp; done) | (go_simp; rfl)) ?aP (fun _ hk => hk.elim) ?aF ?aO ?aB ?aS ?aL ?_; (case aP => exact k43_mkM _ _ _ (xA l.length)); (case aF => exact fun _ _ => trivial); (case aO => exact HR3.out); (case aB => exact HB3.out); (case aS => exact HB3.out.size); (case aL => have := HSZ.out; omega); intro v3 s4 ho hb hg hat; rw [HLA.out] at ho; have HG4 := Aside0.mk (blk_grown HG.out hg (tu_own HR3.out HG.out (by decide))); clear HG HR3 HB3 k0 i0 hg hat; have HO4 := Aside0.mk ho; have HB4 := Aside0.mk hb; clear ho hb; obtain ⟨A3, c3, eo⟩ := Kd.R_slice HO4.out; subst eo; have k0 := (blk_cell HG4.out 0).trans rfl; have q0 := blk_frozen HG4.out 0))
    have hR5 := tu_put k43E HO4.out HG4.out (by decide) 0 (.slice A3 lA.length c3)
    have hG5 := blk_put HG4.out 0 (.slice A3 lA.length c3) rfl
    have hb5 : Below V0.heap.size V0 (s4.setCell ⟨g4, 0, none⟩ (.slice A3 lA.length c3)) := below_set HB4.out hge
    clear HO4 HG4 HB4 k0 q0 hge
    generalize World.setCell s4 _ _ = V1 at hR5 hG5 hb5 ⊢
    have hX4 : Bx g4 A3 c3 lA none 0 [] V1 := ⟨hG5, (Kd.R_reads' hR5).2.2, Kd.C_nil k66 _, (Kd.R_reads' hR5).2.1, Nat.le_refl _⟩
    clear hR5 hG5
    replace hX := hX.below hb5
    replace k1 := k1.trans (hb5.mono k1.size)
    clear hb5
    obtain ⟨A4, hA_⟩ : ∃ q, A3 = q := ⟨_, rfl⟩
    obtain ⟨c4, hc_⟩ : ∃ q, c3 = q := ⟨_, rfl⟩
    rw [hA_, hc_] at hX4
    clear hA_ hc_
    have i0 : V1.cell? ⟨g3, 0, none⟩ = some (.slice A l.length c) := (blk_cell hX.h 0).trans rfl
    go_upto_region 9 with (first | ((with_reducible refine gate_dst (N := 52) rfl ?_); refine Kd.R_lit k43 (w0 := V1) V1.heap.size 43 ?hg (N := 52) ?hd (xs := ([] : List S43)) (inner := []) (ok := fun _ => True) (okp := fun _ => True) ?hr ?hp (fun _ hk => hk) trivial (Below.refl _ _) (Nat.le_refl _) (by simp) ?_; (case hd => rfl); (case hg => rfl); (case hr => first | (go_simp; done) | (go_simp; rfl)); (case hp => exact (Reps.none _ _)); intro v1 s1 ho hb hg_ hnew_; clear hg_ hnew_ i0; have hX1 := hX.below hb; have i0 : s1.cell? ⟨g3, 0, none⟩ = some (.slice A l.length c) := (blk_cell hX1.h 0).trans rfl; have HO1 := Aside0.mk ho; have HB1 := Aside0.mk hb; clear ho hb) | ((with_reducible refine gate_dst (N := 55) rfl ?_); refine Kd.R_append_rows k43 (w0 := V1) V1.heap.size rfl (.tmp 52) (.tmp 54) 28 43 (.agg #[(.int .i64 0), (.int .i64 0), (.int .i64 0), (.int .i64 0), (.int .i64 0), (.int .i64 0), (.bool false), (.int .i64 0), (.int .i64 0), (.int .i64 0), (.int .i64 0), (.bool false)]) 96 rfl Tryz.underlying28 info43 rfl (by decide) (by omega) v1 ([] : List S43) l _ _ _ (fun _ => True) (fun _ => False) rfl rfl ?aO ?aR (fun _ _ h => h) (fun _ h => h.elim) ?aF ?aB ?aS ?aL ?_; (case aR => exact hX1.hC); (case aB => exact HB1.out); (case aF => exact fun _ _ => trivial); (case aO => exact HO1.out); (case aS => exact HB1.out.size); (case aL => have := HSZ.out; simp only [List.length_nil]; omega); intro v2 s2 ho hb hg hat; rw [List.nil_append] at ho; clear hX1 HO1 HB1 i0 hg hat; have HO2 := Aside0.mk ho; have HB2 := Aside0.mk hb; clear ho hb; obtain ⟨A2, c2, eo⟩ := Kd.R_slice HO2.out; subst eo))
    have hG : (s2.alloc (.cells #[.slice A2 l.length c2, .slice none 0 0] 31)).heap[s2.heap.size]? = some (.cells #[.slice A2 l.length c2, .slice none 0 0] 31 (0, 0)) := heap_alloc_new s2 _
    have hge := HB2.out.size
    have hb3 := HB2.out.trans ((al s2 (.cells #[.slice A2 l.length c2, .slice none 0 0] 31)).mono HB2.out.size)
    have hR3 := Kd.R_below HO2.out (al s2 (.cells #[.slice A2 l.length c2, .slice none 0 0] 31))
    clear HO2 HB2
    generalize s2.alloc (Obj.cells _ 31) = s3 at hG hb3 hR3 ⊢
    obtain ⟨g5, hg4⟩ : ∃ q, s2.heap.size = q := ⟨_, rfl⟩
    rw [hg4] at hG hge ⊢
    clear hg4
    have k0 : s3.cell? ⟨g5, 0, none⟩ = some (.slice A2 l.length c2) := (blk_cell hG 0).trans rfl
    have i0 : s3.cell? ⟨g3, 0, none⟩ = some (.slice A l.length c) := (blk_cell (hX.below hb3).h 0).trans rfl
    have HR3 := Aside0.mk hR3
    have HB3 := Aside0.mk hb3
    have HG := Aside0.mk hG
    clear hR3 hb3 hG
    go_upto_region 10 with (((with_reducible refine gate_dst (N := 66) rfl ?_); refine Kd.R_append k43 (w0 := V1) V1.heap.size rfl (.tmp 58) (.tmp 65) 28 43 (.agg #[(.int .i64 0), (.int .i64 0), (.int .i64 0), (.int .i64 0), (.int .i64 0), (.int .i64 0), (.bool false), (.int .i64 0), (.int .i64 0), (.int .i64 0), (.int .i64 0), (.bool false)]) 96 rfl Tryz.underlying28 info43 rfl (by decide) (by omega) (.slice A2 l.length c2) l (xB l.length) [.int .i64 4, .int .i64 0, .int .i64 3, .int .i64 (wrap64 ((l.length : Int) + 1)), .int .i64 0, .int .i64 0, .bool false, .int .i64 0, .int .i64 0, .int .i64 0, .int .i64 0, .bool false] (fun _ => True) (fun _ => False) rfl (by first | (go_simp; done) | (go_simp; rfl)) ?aP (fun _ hk => hk.elim) ?aF ?aO ?aB ?aS ?aL ?_; (case aP => exact k43_mkM _ _ _ (xB l.length)); (case aF => exact fun _ _ => trivial); (case aO => exact HR3.out); (case aB => exact HB3.out); (case aS => exact HB3.out.size); (case aL => have := HSZ.out; omega); intro v3 s4 ho hb hg hat; rw [HLB.out] at ho; have HG4 := Aside0.mk (blk_grown HG.out hg (tu_own HR3.out HG.out (by decide))); clear HG HR3 HB3 k0 i0 hg hat; have HO4 := Aside0.mk ho; have HB4 := Aside0.mk hb; clear ho hb; obtain ⟨A3, c3, eo⟩ := Kd.R_slice HO4.out; subst eo; have k0 := (blk_cell HG4.out 0).trans rfl; have q0 := blk_frozen HG4.out 0))
    have hR5 := tu_put k43E HO4.out HG4.out (by decide) 0 (.slice A3 lB.length c3)
    have hG5 := blk_put HG4.out 0 (.slice A3 lB.length c3) rfl
    have hb5 : Below V1.heap.size V1 (s4.setCell ⟨g5, 0, none⟩ (.slice A3 lB.length c3)) := below_set HB4.out hge
    clear HO4 HG4 HB4 k0 q0 hge
    generalize World.setCell s4 _ _ = V2 at hR5 hG5 hb5 ⊢
    have hX5 : Bx g5 A3 c3 lB none 0 [] V2 := ⟨hG5, (Kd.R_reads' hR5).2.2, Kd.C_nil k66 _, (Kd.R_reads' hR5).2.1, Nat.le_refl _⟩
    clear hR5 hG5
    replace hX := hX.below hb5
    replace hX4 := hX4.below hb5
    replace k1 := k1.trans (hb5.mono k1.size)
    clear hb5
    obtain ⟨A5, hA_⟩ : ∃ q, A3 = q := ⟨_, rfl⟩
    obtain ⟨c5, hc_⟩ : ∃ q, c3 = q := ⟨_, rfl⟩
    rw [hA_, hc_] at hX5
    clear hA_ hc_
    have i0 : V2.cell? ⟨g3, 0, none⟩ = some (.slice A l.length c) := (blk_cell hX.h 0).trans rfl
    go_upto_region 11 with (first | ((with_reducible refine gate_dst (N := 68) rfl ?_); refine Kd.R_lit k43 (w0 := V2) V2.heap.size 43 ?hg (N := 68) ?hd (xs := ([] : List S43)) (inner := []) (ok := fun _ => True) (okp := fun _ => True) ?hr ?hp (fun _ hk => hk) trivial (Below.refl _ _) (Nat.le_refl _) (by simp) ?_; (case hd => rfl); (case hg => rfl); (case hr => first | (go_simp; done) | (go_simp; rfl)); (case hp => exact (Reps.none _ _)); intro v1 s1 ho hb hg_ hnew_; clear hg_ hnew_ i0; have hX1 := hX.below hb; have i0 : s1.cell? ⟨g3, 0, none⟩ = some (.slice A l.length c) := (blk_cell hX1.h 0).trans rfl; have HO1 := Aside0.mk ho; have HB1 := Aside0.mk hb; clear ho hb) | ((with_reducible refine gate_dst (N := 71) rfl ?_); refine Kd.R_append_rows k43 (w0 := V2) V2.heap.size rfl (.tmp 68) (.tmp 70) 28 43 (.agg #[(.int .i64 0), (.int .i64 0), (.int .i64 0), (.int .i64 0), (.int .i64 0), (.int .i64 0), (.bool false), (.int .i64 0), (.int .i64 0), (.int .i64 0), (.int .i64 0), (.bool false)]) 96 rfl Tryz.underlying28 info43 rfl (by decide) (by omega) v1 ([] : List S43) l _ _ _ (fun _ => True) (fun _ => False) rfl rfl ?aO ?aR (fun _ _ h => h) (fun _ h => h.elim) ?aF ?aB ?aS ?aL ?_; (case aR => exact hX1.hC); (case aB => exact HB1.out); (case aF => exact fun _ _ => trivial); (case aO => exact HO1.out); (case aS => exact HB1.out.size); (case aL => have := HSZ.out; simp only [List.length_nil]; omega); intro v2 s2 ho hb hg hat; rw [List.nil_append] at ho; clear hX1 HO1 HB1 i0 hg hat; have HO2 := Aside0.mk ho; have HB2 := Aside0.mk hb; clear ho hb; obtain ⟨A2, c2, eo⟩ := Kd.R_slice HO2.out; subst eo))
    have hG : (s2.alloc (.cells #[.slice A2 l.length c2, .slice none 0 0] 31)).heap[s2.heap.size]? = some (.cells #[.slice A2 l.length c2, .slice none 0 0] 31 (0, 0)) := heap_alloc_new s2 _
    have hge := HB2.out.size
    have hb3 := HB2.out.trans ((al s2 (.cells #[.slice A2 l.length c2, .slice none 0 0] 31)).mono HB2.out.size)
    have hR3 := Kd.R_below HO2.out (al s2 (.cells #[.slice A2 l.length c2, .slice none 0 0] 31))
    clear HO2 HB2
    generalize s2.alloc (Obj.cells _ 31) = s3 at hG hb3 hR3 ⊢
    obtain ⟨g6, hg4⟩ : ∃ q, s2.heap.size = q := ⟨_, rfl⟩
    rw [hg4] at hG hge ⊢
    clear hg4
    have k0 : s3.cell? ⟨g6, 0, none⟩ = some (.slice A2 l.length c2) := (blk_cell hG 0).trans rfl
    have i0 : s3.cell? ⟨g3, 0, none⟩ = some (.slice A l.length c) := (blk_cell (hX.below hb3).h 0).trans rfl
    have HR3 := Aside0.mk hR3
    have HB3 := Aside0.mk hb3
    have HG := Aside0.mk hG
    clear hR3 hb3 hG
    go_upto_region 12 with (((with_reducible refine gate_dst (N := 81) rfl ?_); refine Kd.R_append k43 (w0 := V2) V2.heap.size rfl (.tmp 74) (.tmp 80) 28 43 (.agg #[(.int .i64 0), (.int .i64 0), (.int .i64 0), (.int .i64 0), (.int .i64 0), (.int .i64 0), (.bool false), (.int .i64 0), (.int .i64 0), (.int .i64 0), (.int .i64 0), (.bool false)]) 96 rfl Tryz.underlying28 info43 rfl (by decide) (by omega) (.slice A2 l.length c2) l (xC l.length) [.int .i64 4, .int .i64 0, .int .i64 3, .int .i64 ((l.length : Int)), .int .i64 0, .int .i64 0, .bool false, .int .i64 0, .int .i64 0, .int .i64 0, .int .i64 0, .bool false] (fun _ => True) (fun _ => False) rfl (by first | (go_simp; done) | (go_simp; rfl)) ?aP (fun _ hk => hk.elim) ?aF ?aO ?aB ?aS ?aL ?_; (case aP => exact k43_mkM _ _ _ (xC l.length)); (case aF => exact fun _ _ => trivial); (case aO => exact HR3.out); (case aB => exact HB3.out); (case aS => exact HB3.out.size); (case aL => have := HSZ.out; omega); intro v3 s4 ho hb hg hat; rw [HLC.out] at ho; have HG4 := Aside0.mk (blk_grown HG.out hg (tu_own HR3.out HG.out (by decide))); clear HG HR3 HB3 k0 i0 hg hat; have HO4 := Aside0.mk ho; have HB4 := Aside0.mk hb; clear ho hb; obtain ⟨A3, c3, eo⟩ := Kd.R_slice HO4.out; subst eo; have k0 := (blk_cell HG4.out 0).trans rfl; have q0 := blk_frozen HG4.out 0))
    have hR5 := tu_put k43E HO4.out HG4.out (by decide) 0 (.slice A3 lC.length c3)
    have hG5 := blk_put HG4.out 0 (.slice A3 lC.length c3) rfl
    have hb5 : Below V2.heap.size V2 (s4.setCell ⟨g6, 0, none⟩ (.slice A3 lC.length c3)) := below_set HB4.out hge
    clear HO4 HG4 HB4 k0 q0 hge
    generalize World.setCell s4 _ _ = V3 at hR5 hG5 hb5 ⊢
    have hX6 : Bx g6 A3 c3 lC none 0 [] V3 := ⟨hG5, (Kd.R_reads' hR5).2.2, Kd.C_nil k66 _, (Kd.R_reads' hR5).2.1, Nat.le_refl _⟩
    clear hR5 hG5
    replace hX := hX.below hb5
    replace hX4 := hX4.below hb5
    replace hX5 := hX5.below hb5
    replace k1 := k1.trans (hb5.mono k1.size)
    clear hb5
    obtain ⟨A6, hA_⟩ : ∃ q, A3 = q := ⟨_, rfl⟩
    obtain ⟨c6, hc_⟩ : ∃ q, c3 = q := ⟨_, rfl⟩
    rw [hA_, hc_] at hX6
    clear hA_ hc_
    have i0 : V3.cell? ⟨g3, 0, none⟩ = some (.slice A l.length c) := (blk_cell hX.h 0).trans rfl
    go_upto_region 13 with (fail)
    have Y3 := hX
    have Y4 := hX4
    have Y5 := hX5
    have Y6 := hX6
    have hb := al V3 (.cells #[.slice A l.length c, .slice none 0 0] 31)
    have kb := hb
    have hG : (V3.alloc (.cells #[.slice A l.length c, .slice none 0 0] 31)).heap[V3.heap.size]? = some (.cells #[.slice A l.length c, .slice none 0 0] 31 (0, 0)) := heap_alloc_new V3 _
    replace hX := hX.below hb
    have k0_ := k1
    clear hb i0 hX4 hX5 hX6
    generalize V3.alloc (Obj.cells _ 31) = V4 at hG hX k1 kb ⊢
    obtain ⟨g7, hg7⟩ : ∃ q, V3.heap.size = q := ⟨_, rfl⟩
    rw [hg7] at hG ⊢
    have hge7 := Aside0.mk (show V3.heap.size ≤ g7 by omega)
    clear hg7
    have hdr := below_drew1 (Below.refl V4.heap.size V4)
    replace hX := hX.below hdr
    replace kb := kb.trans (hdr.mono kb.size)
    replace hG := blk_below hG hdr
    clear hdr
    refine start_ (n := 9) (S := fun w' => w'.cell? ⟨g3, 1, none⟩ = some (.slice B m.length d)) (ds := [8]) #[false, false, false, false, false, false, false, false, false] (by kernel_rfl) rfl rfl ((blk_cell hX.h 1).trans rfl) (fun hHeld => ?_)
    refine pure_ (i := 1) (N := some 87) (v := ?_) (a' := ?_) #[false, true, false, false, false, false, false, false, false] rfl rfl (by kernel_rfl) (fun _ _ _ h => h) (Or.inl ⟨by rfl, ?_⟩) ?_ ?_
    rotate_left
    · intro w'
      go_simp
      with_reducible rfl
    rotate_left
    · simp only [Act.put, List.setIfInBounds_toArray, List.set_cons_zero, List.set_cons_succ, i64_w, i32_w]
      rfl
    refine pure_ (i := 4) (N := some 90) (v := ?_) (a' := ?_) #[false, true, false, false, true, false, false, false, false] rfl rfl (by kernel_rfl) (fun _ _ _ h => h) (Or.inl ⟨by rfl, ?_⟩) ?_ ?_
    rotate_left
    · intro w'
      go_simp
      with_reducible rfl
    rotate_left
    · simp only [Act.put, List.setIfInBounds_toArray, List.set_cons_zero, List.set_cons_succ, i64_w, i32_w]
      rfl
    refine take_ (i := 2) (N := some 88) (v := ?_) (a' := ?_) #[false, true, true, false, true, false, false, false, false] rfl rfl (by kernel_rfl) (fun _ _ _ h => h) (Or.inl ⟨by rfl, ?_⟩) hHeld ?_ ?_
    rotate_left
    · intro w' s0
      go_simp
      with_reducible rfl
    rotate_left
    · simp only [Act.put, List.setIfInBounds_toArray, List.set_cons_zero, List.set_cons_succ, i64_w, i32_w]
      rfl
    refine take_ (i := 5) (N := some 91) (v := ?_) (a' := ?_) #[false, true, true, false, true, true, false, false, false] rfl rfl (by kernel_rfl) (fun _ _ _ h => h) (Or.inl ⟨by rfl, ?_⟩) hHeld ?_ ?_
    rotate_left
    · intro w' s0
      go_simp
      with_reducible rfl
    rotate_left
    · simp only [Act.put, List.setIfInBounds_toArray, List.set_cons_zero, List.set_cons_succ, i64_w, i32_w]
      rfl
    refine one_ (i := 0) (N := some 86) #[true, true, true, false, true, true, false, false, false] rfl rfl (by kernel_rfl) (by decide) (fun K hK => ?_)
    generalize V4.drew = V5 at hX hG kb hHeld ⊢
    refine Kd.R_lit_step k66 (w0 := V5) V5.heap.size 66 (by rfl) (N := 86) rfl (xs := ([] : List S66)) (inner := []) (ok := fun _ => True) (okp := fun _ => True) ?hr ?hp (fun _ hk => hk) trivial (Below.refl _ _) (Nat.le_refl _) (by simp) ?_
    (case hr => first | (go_simp; done) | (go_simp; rfl))
    (case hp => exact (Reps.none _ _))
    intro v1 s1 ho hb1 hg_ hnew_
    clear hg_ hnew_
    refine hK.out _ _ ((blk_cell (hX.below hb1).h 1).trans rfl) (fun hHeld => ?_)
    clear hK K
    refine norm_ (a' := ?_) ?_ ?_
    rotate_left
    · show Act.put _ (some 86) _ = _
      simp only [Act.put, List.setIfInBounds_toArray, List.set_cons_zero, List.set_cons_succ, i64_w, i32_w]
      rfl
    refine one_ (i := 3) (N := some 89) #[true, true, true, true, true, true, false, false, false] rfl rfl (by kernel_rfl) (by decide) (fun K hK => ?_)
    refine Kd.R_append_rows_step k66 (w0 := V5) V5.heap.size (by rfl) (.tmp 86) (.tmp 88) 29 66 (.agg #[(.int .i64 0), (.int .i64 0), (.int .i64 0)]) 24 rfl Tryz.underlying29 info66 rfl (by decide) (by omega) v1 ([] : List S66) m _ _ _ (fun _ => True) (fun _ => False) rfl rfl ?aO ?aR (fun _ _ h => h) (fun _ h => h.elim) ?aF ?aB ?aS ?aL ?_
    (case aR => exact (hX.below hb1).hD)
    (case aB => exact hb1)
    (case aF => exact fun _ _ => trivial)
    (case aO => exact ho)
    (case aS => exact hb1.size)
    (case aL => have := HSZ.out; simp only [List.length_nil]; omega)
    intro v2 s2 ho2 hb2 hg hat
    rw [List.nil_append] at ho2
    clear hg hat
    refine hK.out _ _ ((blk_cell (hX.below hb2).h 1).trans rfl) (fun hHeld => ?_)
    clear hK K
    refine norm_ (a' := ?_) ?_ ?_
    rotate_left
    · show Act.put _ (some 89) _ = _
      simp only [Act.put, List.setIfInBounds_toArray, List.set_cons_zero, List.set_cons_succ, i64_w, i32_w]
      rfl
    refine one_ (i := 6) (N := some 92) #[true, true, true, true, true, true, true, false, false] rfl rfl (by kernel_rfl) (by decide) (fun K hK => ?_)
    refine Kd.R_append_rows_step k66 (w0 := V5) V5.heap.size (by rfl) (.tmp 89) (.tmp 91) 29 66 (.agg #[(.int .i64 0), (.int .i64 0), (.int .i64 0)]) 24 rfl Tryz.underlying29 info66 rfl (by decide) (by omega) v2 m m _ _ _ (fun _ => True) (fun _ => False) rfl rfl ?aO ?aR (fun _ _ h => h) (fun _ h => h.elim) ?aF ?aB ?aS ?aL ?_
    (case aR => exact (hX.below hb2).hD)
    (case aB => exact hb2)
    (case aF => exact fun _ _ => trivial)
    (case aO => exact ho2)
    (case aS => exact hb2.size)
    (case aL => have := HSZ.out; omega)
    intro v3 s3 ho3 hb3 hg hat
    clear hg hat
    obtain ⟨A3, c3, eo⟩ := Kd.R_slice ho3
    obtain ⟨mm, hmm⟩ : ∃ q, m ++ m = q := ⟨_, rfl⟩
    rw [hmm] at ho3 eo
    subst eo
    refine hK.out _ _ ((blk_cell (hX.below hb3).h 1).trans rfl) (fun hHeld => ?_)
    clear hK K
    refine norm_ (a' := ?_) ?_ ?_
    rotate_left
    · show Act.put _ (some 92) _ = _
      simp only [Act.put, List.setIfInBounds_toArray, List.set_cons_zero, List.set_cons_succ, i64_w, i32_w]
      rfl
    refine pure_ (i := 7) (N := some 93) (v := ?_) (a' := ?_) #[true, true, true, true, true, true, true, true, false] rfl rfl (by kernel_rfl) (fun _ _ _ h => h) (Or.inl ⟨by rfl, ?_⟩) ?_ ?_
    rotate_left
    · intro w'
      go_simp
      with_reducible rfl
    rotate_left
    · simp only [Act.put, List.setIfInBounds_toArray, List.set_cons_zero, List.set_cons_succ, i64_w, i32_w]
      rfl
    refine last_ (i := 8) (N := none) #[true, true, true, true, true, true, true, true, true] rfl rfl (by kernel_rfl) (by decide) (fun K hK => ?_)
    have hG3 := blk_below hG hb3
    have k0 : s3.cell? ⟨g7, 1, none⟩ = some (.slice none 0 0) := (blk_cell hG3 1).trans rfl
    have q0 := blk_frozen hG3 1
    refine skip_ (w1 := ?_) (by rfl) rfl ?_ ?_
    rotate_left
    · go_simp
      rfl
    refine hK.out _ _ ?_
    clear hK K
    refine done_ (by kernel_rfl) ?_
    have hG7 := blk_put hG3 1 (.slice A3 mm.length c3) rfl
    have hR7 := tu_put k66E ho3 hG3 (by decide) 1 (.slice A3 mm.length c3)
    have kb7 : Below V3.heap.size V3 (s3.setCell ⟨g7, 1, none⟩ (.slice A3 mm.length c3)) := below_set (kb.trans (hb3.mono kb.size)) hge7.out
    clear hHeld
    try clear hHeld
    try clear hHeld
    try clear hHeld
    clear ho3 hG3 hb3 k0 q0 hX hG kb
    generalize World.setCell s3 _ _ = V6 at hG7 hR7 kb7 ⊢
    replace k1 := k0_.trans (kb7.mono k0_.size)
    replace Y3 := Y3.below kb7
    replace Y4 := Y4.below kb7
    replace Y5 := Y5.below kb7
    replace Y6 := Y6.below kb7
    have Y7 : Bx g7 A c l A3 c3 mm V6 := ⟨hG7, Y3.hC, (Kd.R_reads' hR7).2.2, Y3.lc, (Kd.R_reads' hR7).2.1⟩
    rw [hmm] at LAW
    clear hG7 hR7 kb7 k0_ hmm
    obtain ⟨b8, hb8⟩ : ∃ b, decide ((l.length : Int) < 8) = b := ⟨_, rfl⟩
    obtain ⟨b0, hb0⟩ : ∃ b, ((m.length : Int) == 0) = b := ⟨_, rfl⟩
    rw [hb8, hb0] at LAW
    have q8 : (b8 == b8) = true := by simp
    have q0 : (b0 == b0) = true := by simp
    have d4 : ∀ W, Bx g4 A4 c4 lA none 0 [] W → Calls Tryz.prog 12 #[.agg #[.slice A4 lA.length c4, .slice none 0 0]] W fun e w' => e = .returned (.bool false) ∧ Below W.heap.size W w' := fun W h => by
      have := implOk lA [] A4 none c4 0 W h.lc h.ld h.hC h.hD; rw [LAW.out.1] at this; exact this
    have d5 : ∀ W, Bx g5 A5 c5 lB none 0 [] W → Calls Tryz.prog 12 #[.agg #[.slice A5 lB.length c5, .slice none 0 0]] W fun e w' => e = .returned (.bool false) ∧ Below W.heap.size W w' := fun W h => by
      have := implOk lB [] A5 none c5 0 W h.lc h.ld h.hC h.hD; rw [LAW.out.2.1] at this; exact this
    have d6 : ∀ W, Bx g6 A6 c6 lC none 0 [] W → Calls Tryz.prog 12 #[.agg #[.slice A6 lC.length c6, .slice none 0 0]] W fun e w' => e = .returned (.bool b8) ∧ Below W.heap.size W w' := fun W h => by
      have := implOk lC [] A6 none c6 0 W h.lc h.ld h.hC h.hD; rw [LAW.out.2.2.1] at this; exact this
    have d7 : ∀ W, Bx g7 A c l A3 c3 mm W → Calls Tryz.prog 12 #[.agg #[.slice A l.length c, .slice A3 mm.length c3]] W fun e w' => e = .returned (.bool b0) ∧ Below W.heap.size W w' := fun W h => by
      have := implOk l mm A A3 c c3 W h.lc h.ld h.hC h.hD; rw [LAW.out.2.2.2] at this; exact this
    have hdr := below_drew1 (Below.refl V6.heap.size V6)
    replace Y3 := Y3.below hdr
    replace Y4 := Y4.below hdr
    replace Y5 := Y5.below hdr
    replace Y6 := Y6.below hdr
    replace Y7 := Y7.below hdr
    replace k1 := k1.trans (hdr.mono k1.size)
    clear hdr
    go_upto_region 14 with (fail)
    refine start_ (n := 27) (S := fun w' => w'.cell? ⟨g4, 0, none⟩ = some (.slice A4 lA.length c4) ∧ w'.cell? ⟨g4, 1, none⟩ = some (.slice none 0 0) ∧ w'.cell? ⟨g5, 0, none⟩ = some (.slice A5 lB.length c5) ∧ w'.cell? ⟨g5, 1, none⟩ = some (.slice none 0 0) ∧ w'.cell? ⟨g6, 0, none⟩ = some (.slice A6 lC.length c6) ∧ w'.cell? ⟨g6, 1, none⟩ = some (.slice none 0 0) ∧ w'.cell? ⟨g7, 0, none⟩ = some (.slice A l.length c) ∧ w'.cell? ⟨g7, 1, none⟩ = some (.slice A3 mm.length c3) ∧ w'.cell? ⟨g3, 0, none⟩ = some (.slice A l.length c) ∧ w'.cell? ⟨g3, 1, none⟩ = some (.slice B m.length d) ∧ Bx g4 A4 c4 lA none 0 [] w' ∧ Bx g5 A5 c5 lB none 0 [] w' ∧ Bx g6 A6 c6 lC none 0 [] w' ∧ Bx g7 A c l A3 c3 mm w' ∧ Bx g3 A c l B d m w' ∧ Below w.heap.size w w') (ds := []) #[false, false, false, false, false, false, false, false, false, false, false, false, false, false, false, false, false, false, false, false, false, false, false, false, false, false, false] (by kernel_rfl) rfl rfl ⟨(blk_cell Y4.h 0).trans rfl, (blk_cell Y4.h 1).trans rfl, (blk_cell Y5.h 0).trans rfl, (blk_cell Y5.h 1).trans rfl, (blk_cell Y6.h 0).trans rfl, (blk_cell Y6.h 1).trans rfl, (blk_cell Y7.h 0).trans rfl, (blk_cell Y7.h 1).trans rfl, (blk_cell Y3.h 0).trans rfl, (blk_cell Y3.h 1).trans rfl, Y4, Y5, Y6, Y7, Y3, k1⟩ (fun hHeld => ?_)
    refine take_ (i := 0) (N := some 94) (v := ?_) (a' := ?_) #[true, false, false, false, false, false, false, false, false, false, false, false, false, false, false, false, false, false, false, false, false, false, false, false, false, false, false] rfl rfl (by kernel_rfl) (fun _ _ _ h => h) (Or.inl ⟨by rfl, ?_⟩) hHeld ?_ ?_
    rotate_left
    · rintro w' ⟨s0, s1, s2, s3, s4, s5, s6, s7, s8, s9, s10, s11, s12, s13, s14, s15⟩
      go_simp
      with_reducible rfl
    rotate_left
    · simp only [Act.put, List.setIfInBounds_toArray, List.set_cons_zero, List.set_cons_succ, i64_w, i32_w]
      rfl
    refine one_ (i := 1) (N := some 95) #[true, true, false, false, false, false, false, false, false, false, false, false, false, false, false, false, false, false, false, false, false, false, false, false, false, false, false] rfl rfl (by kernel_rfl) (by decide) (fun K hK => ?_)
    refine goes_ Tryz.func12 (by kernel_rfl) rfl #[.agg #[.slice A4 lA.length c4, .slice none 0 0]] (by rfl) rfl rfl (by simp only [List.map_toArray, List.map_cons, List.map_nil]; rfl) ?_
    with_reducible refine (d4 _ hHeld.2.2.2.2.2.2.2.2.2.2.1).mono ?_
    rintro e wq ⟨rfl, hb⟩
    refine ⟨_, rfl, ?_⟩
    have z0 := hHeld.2.2.2.2.2.2.2.2.2.2.1.below hb
    have z1 := hHeld.2.2.2.2.2.2.2.2.2.2.2.1.below hb
    have z2 := hHeld.2.2.2.2.2.2.2.2.2.2.2.2.1.below hb
    have z3 := hHeld.2.2.2.2.2.2.2.2.2.2.2.2.2.1.below hb
    have z4 := hHeld.2.2.2.2.2.2.2.2.2.2.2.2.2.2.1.below hb
    have kz := hHeld.2.2.2.2.2.2.2.2.2.2.2.2.2.2.2.trans (hb.mono hHeld.2.2.2.2.2.2.2.2.2.2.2.2.2.2.2.size)
    refine hK.out _ _ ⟨(blk_cell z0.h 0).trans rfl, (blk_cell z0.h 1).trans rfl, (blk_cell z1.h 0).trans rfl, (blk_cell z1.h 1).trans rfl, (blk_cell z2.h 0).trans rfl, (blk_cell z2.h 1).trans rfl, (blk_cell z3.h 0).trans rfl, (blk_cell z3.h 1).trans rfl, (blk_cell z4.h 0).trans rfl, (blk_cell z4.h 1).trans rfl, z0, z1, z2, z3, z4, kz⟩ (fun hHeld => ?_)
    clear hK K
    refine norm_ (a' := ?_) ?_ ?_
    rotate_left
    · show Act.put _ (some 95) _ = _
      simp only [Act.put, List.setIfInBounds_toArray, List.set_cons_zero, List.set_cons_succ, i64_w, i32_w]
      rfl
    refine pure_ (i := 2) (N := some 96) (v := ?_) (a' := ?_) #[true, true, true, false, false, false, false, false, false, false, false, false, false, false, false, false, false, false, false, false, false, false, false, false, false, false, false] rfl rfl (by kernel_rfl) (fun _ _ _ h => h) (Or.inl ⟨by rfl, ?_⟩) ?_ ?_
    rotate_left
    · intro w'
      go_simp
      with_reducible rfl
    rotate_left
    · simp only [Act.put, List.setIfInBounds_toArray, List.set_cons_zero, List.set_cons_succ, i64_w, i32_w]
      rfl
    refine pure_ (i := 3) (N := some 97) (v := ?_) (a' := ?_) #[true, true, true, true, false, false, false, false, false, false, false, false, false, false, false, false, false, false, false, false, false, false, false, false, false, false, false] rfl rfl (by kernel_rfl) (fun _ _ _ h => h) (Or.inl ⟨by rfl, ?_⟩) ?_ ?_
    rotate_left
    · intro w'
      go_simp
      with_reducible rfl
    rotate_left
    · simp only [Act.put, List.setIfInBounds_toArray, List.set_cons_zero, List.set_cons_succ, i64_w, i32_w]
      rfl
    refine take_ (i := 4) (N := some 98) (v := ?_) (a' := ?_) #[true, true, true, true, true, false, false, false, false, false, false, false, false, false, false, false, false, false, false, false, false, false, false, false, false, false, false] rfl rfl (by kernel_rfl) (fun _ _ _ h => h) (Or.inl ⟨by rfl, ?_⟩) hHeld ?_ ?_
    rotate_left
    · rintro w' ⟨s0, s1, s2, s3, s4, s5, s6, s7, s8, s9, s10, s11, s12, s13, s14, s15⟩
      go_simp
      with_reducible rfl
    rotate_left
    · simp only [Act.put, List.setIfInBounds_toArray, List.set_cons_zero, List.set_cons_succ, i64_w, i32_w]
      rfl
    refine one_ (i := 5) (N := some 99) #[true, true, true, true, true, true, false, false, false, false, false, false, false, false, false, false, false, false, false, false, false, false, false, false, false, false, false] rfl rfl (by kernel_rfl) (by decide) (fun K hK => ?_)
    refine goes_ Tryz.func12 (by kernel_rfl) rfl #[.agg #[.slice A5 lB.length c5, .slice none 0 0]] (by rfl) rfl rfl (by simp only [List.map_toArray, List.map_cons, List.map_nil]; rfl) ?_
    with_reducible refine (d5 _ hHeld.2.2.2.2.2.2.2.2.2.2.2.1).mono ?_
    rintro e wq ⟨rfl, hb⟩
    refine ⟨_, rfl, ?_⟩
    have z0 := hHeld.2.2.2.2.2.2.2.2.2.2.1.below hb
    have z1 := hHeld.2.2.2.2.2.2.2.2.2.2.2.1.below hb
    have z2 := hHeld.2.2.2.2.2.2.2.2.2.2.2.2.1.below hb
    have z3 := hHeld.2.2.2.2.2.2.2.2.2.2.2.2.2.1.below hb
    have z4 := hHeld.2.2.2.2.2.2.2.2.2.2.2.2.2.2.1.below hb
    have kz := hHeld.2.2.2.2.2.2.2.2.2.2.2.2.2.2.2.trans (hb.mono hHeld.2.2.2.2.2.2.2.2.2.2.2.2.2.2.2.size)
    refine hK.out _ _ ⟨(blk_cell z0.h 0).trans rfl, (blk_cell z0.h 1).trans rfl, (blk_cell z1.h 0).trans rfl, (blk_cell z1.h 1).trans rfl, (blk_cell z2.h 0).trans rfl, (blk_cell z2.h 1).trans rfl, (blk_cell z3.h 0).trans rfl, (blk_cell z3.h 1).trans rfl, (blk_cell z4.h 0).trans rfl, (blk_cell z4.h 1).trans rfl, z0, z1, z2, z3, z4, kz⟩ (fun hHeld => ?_)
    clear hK K
    refine norm_ (a' := ?_) ?_ ?_
    rotate_left
    · show Act.put _ (some 99) _ = _
      simp only [Act.put, List.setIfInBounds_toArray, List.set_cons_zero, List.set_cons_succ, i64_w, i32_w]
      rfl
    refine pure_ (i := 6) (N := some 100) (v := ?_) (a' := ?_) #[true, true, true, true, true, true, true, false, false, false, false, false, false, false, false, false, false, false, false, false, false, false, false, false, false, false, false] rfl rfl (by kernel_rfl) (fun _ _ _ h => h) (Or.inl ⟨by rfl, ?_⟩) ?_ ?_
    rotate_left
    · intro w'
      go_simp
      with_reducible rfl
    rotate_left
    · simp only [Act.put, List.setIfInBounds_toArray, List.set_cons_zero, List.set_cons_succ, i64_w, i32_w]
      rfl
    refine pure_ (i := 7) (N := some 101) (v := ?_) (a' := ?_) #[true, true, true, true, true, true, true, true, false, false, false, false, false, false, false, false, false, false, false, false, false, false, false, false, false, false, false] rfl rfl (by kernel_rfl) (fun _ _ _ h => h) (Or.inl ⟨by rfl, ?_⟩) ?_ ?_
    rotate_left
    · intro w'
      go_simp
      with_reducible rfl
    rotate_left
    · simp only [Act.put, List.setIfInBounds_toArray, List.set_cons_zero, List.set_cons_succ, i64_w, i32_w]
      rfl
    refine pure_ (i := 8) (N := some 102) (v := ?_) (a' := ?_) #[true, true, true, true, true, true, true, true, true, false, false, false, false, false, false, false, false, false, false, false, false, false, false, false, false, false, false] rfl rfl (by kernel_rfl) (fun _ _ _ h => h) (Or.inl ⟨by rfl, ?_⟩) ?_ ?_
    rotate_left
    · intro w'
      go_simp
      with_reducible rfl
    rotate_left
    · simp only [Act.put, List.setIfInBounds_toArray, List.set_cons_zero, List.set_cons_succ, i64_w, i32_w]
      rfl
    refine pure_ (i := 11) (N := some 105) (v := ?_) (a' := ?_) #[true, true, true, true, true, true, true, true, true, false, false, true, false, false, false, false, false, false, false, false, false, false, false, false, false, false, false] rfl rfl (by kernel_rfl) (fun _ _ _ h => h) (Or.inl ⟨by rfl, ?_⟩) ?_ ?_
    rotate_left
    · intro w'
      go_simp
      with_reducible rfl
    rotate_left
    · simp only [Act.put, List.setIfInBounds_toArray, List.set_cons_zero, List.set_cons_succ, i64_w, i32_w]
      rfl
    refine take_ (i := 9) (N := some 103) (v := ?_) (a' := ?_) #[true, true, true, true, true, true, true, true, true, true, false, true, false, false, false, false, false, false, false, false, false, false, false, false, false, false, false] rfl rfl (by kernel_rfl) (fun _ _ _ h => h) (Or.inl ⟨by rfl, ?_⟩) hHeld ?_ ?_
    rotate_left
    · rintro w' ⟨s0, s1, s2, s3, s4, s5, s6, s7, s8, s9, s10, s11, s12, s13, s14, s15⟩
      go_simp
      with_reducible rfl
    rotate_left
    · simp only [Act.put, List.setIfInBounds_toArray, List.set_cons_zero, List.set_cons_succ, i64_w, i32_w]
      rfl
    refine take_ (i := 12) (N := some 106) (v := ?_) (a' := ?_) #[true, true, true, true, true, true, true, true, true, true, false, true, true, false, false, false, false, false, false, false, false, false, false, false, false, false, false] rfl rfl (by kernel_rfl) (fun _ _ _ h => h) (Or.inl ⟨by rfl, ?_⟩) hHeld ?_ ?_
    rotate_left
    · rintro w' ⟨s0, s1, s2, s3, s4, s5, s6, s7, s8, s9, s10, s11, s12, s13, s14, s15⟩
      go_simp
      with_reducible rfl
    rotate_left
    · simp only [Act.put, List.setIfInBounds_toArray, List.set_cons_zero, List.set_cons_succ, i64_w, i32_w]
      rfl
    refine pure_ (i := 13) (N := some 107) (v := ?_) (a' := ?_) #[true, true, true, true, true, true, true, true, true, true, false, true, true, true, false, false, false, false, false, false, false, false, false, false, false, false, false] rfl rfl (by kernel_rfl) (fun _ _ _ h => h) (Or.inl ⟨by rfl, ?_⟩) ?_ ?_
    rotate_left
    · intro w'
      go_simp
      with_reducible rfl
    rotate_left
    · simp only [Act.put, List.setIfInBounds_toArray, List.set_cons_zero, List.set_cons_succ, i64_w, i32_w]
      rfl
    refine pure_ (i := 14) (N := some 108) (v := ?_) (a' := ?_) #[true, true, true, true, true, true, true, true, true, true, false, true, true, true, true, false, false, false, false, false, false, false, false, false, false, false, false] rfl rfl (by kernel_rfl) (fun _ _ _ h => h) (Or.inl ⟨by rfl, ?_⟩) ?_ ?_
    rotate_left
    · intro w'
      go_simp
      with_reducible rfl
    rotate_left
    · simp only [Act.put, List.setIfInBounds_toArray, List.set_cons_zero, List.set_cons_succ, i64_w, i32_w]
      rfl
    refine one_ (i := 10) (N := some 104) #[true, true, true, true, true, true, true, true, true, true, true, true, true, true, true, false, false, false, false, false, false, false, false, false, false, false, false] rfl rfl (by kernel_rfl) (by decide) (fun K hK => ?_)
    refine goes_ Tryz.func12 (by kernel_rfl) rfl #[.agg #[.slice A6 lC.length c6, .slice none 0 0]] (by rfl) rfl rfl (by simp only [List.map_toArray, List.map_cons, List.map_nil]; rfl) ?_
    with_reducible refine (d6 _ hHeld.2.2.2.2.2.2.2.2.2.2.2.2.1).mono ?_
    rintro e wq ⟨rfl, hb⟩
    refine ⟨_, rfl, ?_⟩
    have z0 := hHeld.2.2.2.2.2.2.2.2.2.2.1.below hb
    have z1 := hHeld.2.2.2.2.2.2.2.2.2.2.2.1.below hb
    have z2 := hHeld.2.2.2.2.2.2.2.2.2.2.2.2.1.below hb
    have z3 := hHeld.2.2.2.2.2.2.2.2.2.2.2.2.2.1.below hb
    have z4 := hHeld.2.2.2.2.2.2.2.2.2.2.2.2.2.2.1.below hb
    have kz := hHeld.2.2.2.2.2.2.2.2.2.2.2.2.2.2.2.trans (hb.mono hHeld.2.2.2.2.2.2.2.2.2.2.2.2.2.2.2.size)
    refine hK.out _ _ ⟨(blk_cell z0.h 0).trans rfl, (blk_cell z0.h 1).trans rfl, (blk_cell z1.h 0).trans rfl, (blk_cell z1.h 1).trans rfl, (blk_cell z2.h 0).trans rfl, (blk_cell z2.h 1).trans rfl, (blk_cell z3.h 0).trans rfl, (blk_cell z3.h 1).trans rfl, (blk_cell z4.h 0).trans rfl, (blk_cell z4.h 1).trans rfl, z0, z1, z2, z3, z4, kz⟩ (fun hHeld => ?_)
    clear hK K
    refine norm_ (a' := ?_) ?_ ?_
    rotate_left
    · show Act.put _ (some 104) _ = _
      simp only [Act.put, List.setIfInBounds_toArray, List.set_cons_zero, List.set_cons_succ, i64_w, i32_w]
      rfl
    refine pure_ (i := 15) (N := some 109) (v := ?_) (a' := ?_) #[true, true, true, true, true, true, true, true, true, true, true, true, true, true, true, true, false, false, false, false, false, false, false, false, false, false, false] rfl rfl (by kernel_rfl) (fun _ _ _ h => h) (Or.inl ⟨by rfl, ?_⟩) ?_ ?_
    rotate_left
    · intro w'
      go_simp
      with_reducible rfl
    rotate_left
    · simp only [Act.put, List.setIfInBounds_toArray, List.set_cons_zero, List.set_cons_succ, i64_w, i32_w]
      rfl
    refine pure_ (i := 16) (N := some 110) (v := ?_) (a' := ?_) #[true, true, true, true, true, true, true, true, true, true, true, true, true, true, true, true, true, false, false, false, false, false, false, false, false, false, false] rfl rfl (by kernel_rfl) (fun _ _ _ h => h) (Or.inl ⟨by rfl, ?_⟩) ?_ ?_
    rotate_left
    · intro w'
      go_simp
      with_reducible rfl
    rotate_left
    · simp only [Act.put, List.setIfInBounds_toArray, List.set_cons_zero, List.set_cons_succ, i64_w, i32_w]
      rfl
    refine pure_ (i := 17) (N := some 111) (v := ?_) (a' := ?_) #[true, true, true, true, true, true, true, true, true, true, true, true, true, true, true, true, true, true, false, false, false, false, false, false, false, false, false] rfl rfl (by kernel_rfl) (fun _ _ _ h => h) (Or.inl ⟨by rfl, ?_⟩) ?_ ?_
    rotate_left
    · intro w'
      go_simp
      with_reducible rfl
    rotate_left
    · simp only [Act.put, List.setIfInBounds_toArray, List.set_cons_zero, List.set_cons_succ, i64_w, i32_w]
      rfl
    refine pure_ (i := 20) (N := some 114) (v := ?_) (a' := ?_) #[true, true, true, true, true, true, true, true, true, true, true, true, true, true, true, true, true, true, false, false, true, false, false, false, false, false, false] rfl rfl (by kernel_rfl) (fun _ _ _ h => h) (Or.inl ⟨by rfl, ?_⟩) ?_ ?_
    rotate_left
    · intro w'
      go_simp
      with_reducible rfl
    rotate_left
    · simp only [Act.put, List.setIfInBounds_toArray, List.set_cons_zero, List.set_cons_succ, i64_w, i32_w]
      rfl
    refine take_ (i := 18) (N := some 112) (v := ?_) (a' := ?_) #[true, true, true, true, true, true, true, true, true, true, true, true, true, true, true, true, true, true, true, false, true, false, false, false, false, false, false] rfl rfl (by kernel_rfl) (fun _ _ _ h => h) (Or.inl ⟨by rfl, ?_⟩) hHeld ?_ ?_
    rotate_left
    · rintro w' ⟨s0, s1, s2, s3, s4, s5, s6, s7, s8, s9, s10, s11, s12, s13, s14, s15⟩
      go_simp
      with_reducible rfl
    rotate_left
    · simp only [Act.put, List.setIfInBounds_toArray, List.set_cons_zero, List.set_cons_succ, i64_w, i32_w]
      rfl
    refine take_ (i := 21) (N := some 115) (v := ?_) (a' := ?_) #[true, true, true, true, true, true, true, true, true, true, true, true, true, true, true, true, true, true, true, false, true, true, false, false, false, false, false] rfl rfl (by kernel_rfl) (fun _ _ _ h => h) (Or.inl ⟨by rfl, ?_⟩) hHeld ?_ ?_
    rotate_left
    · rintro w' ⟨s0, s1, s2, s3, s4, s5, s6, s7, s8, s9, s10, s11, s12, s13, s14, s15⟩
      go_simp
      with_reducible rfl
    rotate_left
    · simp only [Act.put, List.setIfInBounds_toArray, List.set_cons_zero, List.set_cons_succ, i64_w, i32_w]
      rfl
    refine pure_ (i := 22) (N := some 116) (v := ?_) (a' := ?_) #[true, true, true, true, true, true, true, true, true, true, true, true, true, true, true, true, true, true, true, false, true, true, true, false, false, false, false] rfl rfl (by kernel_rfl) (fun _ _ _ h => h) (Or.inl ⟨by rfl, ?_⟩) ?_ ?_
    rotate_left
    · intro w'
      go_simp
      with_reducible rfl
    rotate_left
    · simp only [Act.put, List.setIfInBounds_toArray, List.set_cons_zero, List.set_cons_succ, i64_w, i32_w]
      rfl
    refine pure_ (i := 23) (N := some 117) (v := ?_) (a' := ?_) #[true, true, true, true, true, true, true, true, true, true, true, true, true, true, true, true, true, true, true, false, true, true, true, true, false, false, false] rfl rfl (by kernel_rfl) (fun _ _ _ h => h) (Or.inl ⟨by rfl, ?_⟩) ?_ ?_
    rotate_left
    · intro w'
      go_simp
      with_reducible rfl
    rotate_left
    · simp only [Act.put, List.setIfInBounds_toArray, List.set_cons_zero, List.set_cons_succ, i64_w, i32_w]
      rfl
    refine one_ (i := 19) (N := some 113) #[true, true, true, true, true, true, true, true, true, true, true, true, true, true, true, true, true, true, true, true, true, true, true, true, false, false, false] rfl rfl (by kernel_rfl) (by decide) (fun K hK => ?_)
    refine goes_ Tryz.func12 (by kernel_rfl) rfl #[.agg #[.slice A l.length c, .slice A3 mm.length c3]] (by rfl) rfl rfl (by simp only [List.map_toArray, List.map_cons, List.map_nil]; rfl) ?_
    with_reducible refine (d7 _ hHeld.2.2.2.2.2.2.2.2.2.2.2.2.2.1).mono ?_
    rintro e wq ⟨rfl, hb⟩
    refine ⟨_, rfl, ?_⟩
    have z0 := hHeld.2.2.2.2.2.2.2.2.2.2.1.below hb
    have z1 := hHeld.2.2.2.2.2.2.2.2.2.2.2.1.below hb
    have z2 := hHeld.2.2.2.2.2.2.2.2.2.2.2.2.1.below hb
    have z3 := hHeld.2.2.2.2.2.2.2.2.2.2.2.2.2.1.below hb
    have z4 := hHeld.2.2.2.2.2.2.2.2.2.2.2.2.2.2.1.below hb
    have kz := hHeld.2.2.2.2.2.2.2.2.2.2.2.2.2.2.2.trans (hb.mono hHeld.2.2.2.2.2.2.2.2.2.2.2.2.2.2.2.size)
    refine hK.out _ _ ⟨(blk_cell z0.h 0).trans rfl, (blk_cell z0.h 1).trans rfl, (blk_cell z1.h 0).trans rfl, (blk_cell z1.h 1).trans rfl, (blk_cell z2.h 0).trans rfl, (blk_cell z2.h 1).trans rfl, (blk_cell z3.h 0).trans rfl, (blk_cell z3.h 1).trans rfl, (blk_cell z4.h 0).trans rfl, (blk_cell z4.h 1).trans rfl, z0, z1, z2, z3, z4, kz⟩ (fun hHeld => ?_)
    clear hK K
    refine norm_ (a' := ?_) ?_ ?_
    rotate_left
    · show Act.put _ (some 113) _ = _
      simp only [Act.put, List.setIfInBounds_toArray, List.set_cons_zero, List.set_cons_succ, i64_w, i32_w]
      rfl
    refine pure_ (i := 24) (N := some 118) (v := ?_) (a' := ?_) #[true, true, true, true, true, true, true, true, true, true, true, true, true, true, true, true, true, true, true, true, true, true, true, true, true, false, false] rfl rfl (by kernel_rfl) (fun _ _ _ h => h) (Or.inl ⟨by rfl, ?_⟩) ?_ ?_
    rotate_left
    · intro w'
      go_simp
      with_reducible rfl
    rotate_left
    · simp only [Act.put, List.setIfInBounds_toArray, List.set_cons_zero, List.set_cons_succ, i64_w, i32_w]
      rfl
    refine pure_ (i := 25) (N := some 119) (v := ?_) (a' := ?_) #[true, true, true, true, true, true, true, true, true, true, true, true, true, true, true, true, true, true, true, true, true, true, true, true, true, true, false] rfl rfl (by kernel_rfl) (fun _ _ _ h => h) (Or.inl ⟨by rfl, ?_⟩) ?_ ?_
    rotate_left
    · intro w'
      go_simp
      with_reducible rfl
    rotate_left
    · simp only [Act.put, List.setIfInBounds_toArray, List.set_cons_zero, List.set_cons_succ, i64_w, i32_w]
      rfl
    refine pure_ (i := 26) (N := some 2) (v := ?_) (a' := ?_) #[true, true, true, true, true, true, true, true, true, true, true, true, true, true, true, true, true, true, true, true, true, true, true, true, true, true, true] rfl rfl (by kernel_rfl) (fun _ _ _ h => h) (Or.inl ⟨by rfl, ?_⟩) ?_ ?_
    rotate_left
    · intro w'
      go_simp
      with_reducible rfl
    rotate_left
    · simp only [Act.put, List.setIfInBounds_toArray, List.set_cons_zero, List.set_cons_succ, i64_w, i32_w]
      rfl
    refine done_ (by kernel_rfl) ?_
    have k1 := hHeld.2.2.2.2.2.2.2.2.2.2.2.2.2.2.2
    clear hHeld
    go_wp2
    go_ret
    exact ⟨rfl, k1⟩
end Go.Proofs.YtphblfmjdiigkaaGreatDoor.Hk15
