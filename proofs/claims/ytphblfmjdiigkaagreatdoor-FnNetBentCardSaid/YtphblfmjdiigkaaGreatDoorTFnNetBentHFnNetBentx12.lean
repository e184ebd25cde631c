-- Made by a program of this session (hp.py) over the kit's print: functions told by hand stand beside printed ones. Lean checks it.
import Derived.Test.YtphblfmjdiigkaaGreatDoorTFnNetBentHFnNetBentx0
import Derived.Test.YtphblfmjdiigkaaGreatDoorTFnNetBentHFnNetBentx1
import Derived.Test.YtphblfmjdiigkaaGreatDoorTFnNetBentHFnNetBentx9
import Derived.Test.YtphblfmjdiigkaaGreatDoorTFnNetBentHFnNetBentx10
import Derived.Test.YtphblfmjdiigkaaGreatDoorTFnNetBentHFnNetBentx11
namespace Go.Proofs.YtphblfmjdiigkaaGreatDoor.HFnNetBent
open Go.RowKit Go.Proofs.YtphblfmjdiigkaaGreatDoorW.PrintWords Go.Proofs.YtphblfmjdiigkaaGreatDoorW.PrintLast Go.Proofs.YtphblfmjdiigkaaGreatDoorW.PrintMore
attribute [local go_sem] max2_int min2_int max_two min_two max_three min_three max_four min_four   -- for this text's walks alone
set_option linter.unusedVariables false
set_option linter.unusedSimpArgs false

attribute [local go_sem high] eqA39
/-! ### spec_NetOk: function 13 -/
mutual
def spec_NetOk.j0 : Nat → Bool → List (S43) → List (S66) → Option (Bool)
  | 0, _, _, _ => none
  | k + 1, x16, x355000, x355001 => if x16 = true then (some false) else (spec_NetOk.l0 k 0 x355000 x355001)
def spec_NetOk.l0 : Nat → Int → List (S43) → List (S66) → Option (Bool)
  | 0, _, _, _ => none
  | k + 1, x3, x355000, x355001 => if x3 < (x355000.length : Int) then (if 0 ≤ x3 then ((spec_l7Wire.f k ((rd_T43 x355000 x3).f0) ((rd_T43 x355000 x3).f1) ((rd_T43 x355000 x3).f2.f0) ((rd_T43 x355000 x3).f2.f1) ((rd_T43 x355000 x3).f2.f2.f0) ((rd_T43 x355000 x3).f2.f2.f1) ((rd_T43 x355000 x3).f2.f3) ((rd_T43 x355000 x3).f3.f0) ((rd_T43 x355000 x3).f3.f1) ((rd_T43 x355000 x3).f3.f2.f0) ((rd_T43 x355000 x3).f3.f2.f1) ((rd_T43 x355000 x3).f3.f3) (x355000.length : Int)).bind fun t356 => (if t356 = true then (spec_NetOk.l0 k (wrap64 (x3 + 1)) x355000 x355001) else (some false))) else (none)) else (spec_NetOk.l1 k 0 x355000 x355001)
def spec_NetOk.l1 : Nat → Int → List (S43) → List (S66) → Option (Bool)
  | 0, _, _, _ => none
  | k + 1, x4, x355000, x355001 => if x4 < (x355001.length : Int) then (if 0 ≤ x4 then ((spec_AddrOk.f ((rd_T66 x355001 x4).f0.f0) ((rd_T66 x355001 x4).f0.f1)).bind fun t362 => (if t362 = true then (if ((rd_T66 x355001 x4).f0.f0) = 1 then (spec_NetOk.j3 k x4 true x355000 x355001 ((rd_T66 x355001 x4).f0.f0) ((rd_T66 x355001 x4).f0.f1) ((rd_T66 x355001 x4).f1)) else (if ((rd_T66 x355001 x4).f1) < 0 then (spec_NetOk.j3 k x4 true x355000 x355001 ((rd_T66 x355001 x4).f0.f0) ((rd_T66 x355001 x4).f0.f1) ((rd_T66 x355001 x4).f1)) else (spec_NetOk.j3 k x4 (decide (((rd_T66 x355001 x4).f1) ≥ (x355000.length : Int))) x355000 x355001 ((rd_T66 x355001 x4).f0.f0) ((rd_T66 x355001 x4).f0.f1) ((rd_T66 x355001 x4).f1)))) else (spec_NetOk.j3 k x4 true x355000 x355001 ((rd_T66 x355001 x4).f0.f0) ((rd_T66 x355001 x4).f0.f1) ((rd_T66 x355001 x4).f1)))) else (none)) else ((spec_l7Order.f k x355000).bind fun t357 => (some ((t357.length : Int) == (x355000.length : Int))))
def spec_NetOk.j3 : Nat → Int → Bool → List (S43) → List (S66) → Int → Int → Int → Option (Bool)
  | 0, _, _, _, _, _, _, _ => none
  | k + 1, x4, x68, x355000, x355001, x362000, x362001, x362002 => if x68 = true then (some false) else (spec_NetOk.l2 k x4 0 x355000 x355001 x362000 x362001 x362002)
def spec_NetOk.l2 : Nat → Int → Int → List (S43) → List (S66) → Int → Int → Int → Option (Bool)
  | 0, _, _, _, _, _, _, _ => none
  | k + 1, x4, x6, x355000, x355001, x362000, x362001, x362002 => if x6 < x4 then (if 0 ≤ x6 then (if x6 < (x355001.length : Int) then (if (((rd_T66 x355001 x6).f0.f0) == x362000 && (((rd_T66 x355001 x6).f0.f1) == x362001)) = true then (some false) else (spec_NetOk.l2 k x4 (wrap64 (x6 + 1)) x355000 x355001 x362000 x362001 x362002)) else (none)) else (none)) else (spec_NetOk.l1 k (wrap64 (x4 + 1)) x355000 x355001)
end
def spec_NetOk.f (k : Nat) (l0_0 : List (S43)) (l0_1 : List (S66)) : Option (Bool) := if (l0_0.length : Int) > 8 then (spec_NetOk.j0 k true l0_0 l0_1) else (spec_NetOk.j0 k (decide ((l0_1.length : Int) > 4)) l0_0 l0_1)
def spec_NetOk.T6 : Bool × List (List Nat × List Nat) := (true, [([], []), ([0], [0]), ([], []), ([1, 2], [1, 2]), ([3], [3]), ([], []), ([5], [5]), ([6], [6]), ([4, 7], [4, 7]), ([8], [8])])
def spec_NetOk.B6 : List Nat := [0, 1, 0, 7, 15, 0, 32, 96, 255, 511]
theorem spec_NetOk.tab6 : rtab .any (opsOf Tryz.f13 6) = spec_NetOk.T6 := by kernel_rfl
theorem spec_NetOk.bits6 : waitsOk spec_NetOk.T6.2 spec_NetOk.B6 = true := by kernel_rfl
def spec_NetOk.T17 : Bool × List (List Nat × List Nat) := (true, [([], []), ([0], [0]), ([], []), ([1, 2], [1, 2]), ([3], [3]), ([4], [4]), ([], []), ([6], [6]), ([5, 7], [5, 7])])
def spec_NetOk.B17 : List Nat := [0, 1, 0, 7, 15, 31, 0, 64, 255]
theorem spec_NetOk.tab17 : rtab .any (opsOf Tryz.f13 17) = spec_NetOk.T17 := by kernel_rfl
theorem spec_NetOk.bits17 : waitsOk spec_NetOk.T17.2 spec_NetOk.B17 = true := by kernel_rfl
def spec_NetOk.T19 : Bool × List (List Nat × List Nat) := (true, [([], []), ([0], [0]), ([1], [1]), ([2], [2]), ([], []), ([4], [4]), ([5], [5]), ([3, 6], [3, 6]), ([7, 2, 0, 1, 2, 3, 4, 5, 6, 7], [7])])
def spec_NetOk.B19 : List Nat := [0, 1, 3, 7, 0, 16, 48, 127, 255]
theorem spec_NetOk.tab19 : rtab .any (opsOf Tryz.f13 19) = spec_NetOk.T19 := by kernel_rfl
theorem spec_NetOk.bits19 : waitsOk spec_NetOk.T19.2 spec_NetOk.B19 = true := by kernel_rfl
set_option maxHeartbeats 8000000 in
set_option maxRecDepth 100000 in
theorem spec_NetOk.calls (k : Nat) (A0_0 : Option Addr) (c0_0 : Nat) (l0_0 : List (S43)) (A0_1 : Option Addr) (c0_1 : Nat) (l0_1 : List (S66)) (r : Bool) (w : World) (hr0_0 : Kd.C k43 w A0_0 l0_0.length l0_0) (hc0_0 : l0_0.length ≤ c0_0) (hr0_1 : Kd.C k66 w A0_1 l0_1.length l0_1) (hc0_1 : l0_1.length ≤ c0_1) (h : spec_NetOk.f k l0_0 l0_1 = some r) :
    Calls Tryz.prog 13 #[.agg #[.slice A0_0 l0_0.length c0_0, .slice A0_1 l0_1.length c0_1]] w fun e w' => e = .returned (.bool r) ∧ Below w.heap.size w w' := by
 have hu31 := Tryz.underlying31
 have hu43 := Tryz.underlying43
 have hu66 := Tryz.underlying66
 have hu39 := Tryz.underlying39
 have HR0_0 := Aside0.mk hr0_0
 have HC0_0 := Aside0.mk hc0_0
 clear hr0_0 hc0_0
 have HR0_1 := Aside0.mk hr0_1
 have HC0_1 := Aside0.mk hc0_1
 clear hr0_1 hc0_1
 have HB := Aside0.mk (Below.refl w.heap.size w)
 have H : (if (l0_0.length : Int) > 8 then (spec_NetOk.j0 k true l0_0 l0_1) else (spec_NetOk.j0 k (decide ((l0_1.length : Int) > 4)) l0_0 l0_1)) = some r := h
 clear h
 have HC2 := Aside0.mk H
 clear H
 go_enter Tryz.func13, Tryz.ntmps13
 go_upto_region 1 with (first | ((with_reducible refine gate_dst (N := 1) rfl ?_); (try (refine gate_guard (by rfl) ?_; dsimp only)); refine box_event ?hg (N := 1) ?hd (cs := #[.slice A0_0 l0_0.length c0_0, .slice A0_1 l0_1.length c0_1]) (t := 31) ?hr ?_; (case hd => rfl); (case hg => rfl); (case hr => first | (go_simp; done) | (go_simp; rfl)); intro gb354 hg w3 hbox hb; have n0_ := Aside0.mk (below_step (by repeat (first | (with_reducible first | exact HB.out | apply below_alloc | apply pw_below_drewN | apply below_drew1) | exact HB.out)) hb); have n1_ := Aside0.mk (hbox); have n2_ := Aside0.mk ((by rw [hg]; exact (below_size (by repeat (first | (with_reducible first | exact HB.out | apply below_alloc | apply pw_below_drewN | apply below_drew1) | exact HB.out))) : w.heap.size ≤ gb354)); have n3_ := Aside0.mk ((by rw [hg]; exact (below_size (by repeat (first | (with_reducible first | exact HB.out | apply below_alloc | apply pw_below_drewN | apply below_drew1) | exact HB.out))) : w.heap.size ≤ gb354)); clear HB; have HB := n0_; have BK354 := n1_; have GW354 := n2_; have GE354 := n3_; clear n0_ n1_ n2_ n3_; clear hb hbox hg))
 (try simp only [Act.put, List.setIfInBounds_toArray, List.set_cons_zero, List.set_cons_succ])
 go_cut [16] (fun v16 wc => ∃ (kq : Nat) (x16_1 : Bool), v16 = .bool x16_1 ∧ Aside0 (spec_NetOk.j0 kq x16_1 l0_0 l0_1 = some r) ∧ Aside0 (kq ≤ k) ∧ Aside0 (wc.heap[gb354]? = some (.cells #[(.slice A0_0 l0_0.length c0_0), (.slice A0_1 l0_1.length c0_1)] 31 (0, 0))) ∧ Aside0 (Below w.heap.size w wc))
 case first =>
  have H := HC2.out
  clear HC2
  by_cases c4 : (l0_0.length : Int) > 8
  · rw [if_pos c4] at H
    have c4b0 : decide (8 < (l0_0.length : Int)) = true := decide_eq_true c4
    have c4b1 : decide (8 < l0_0.length) = true := decide_eq_true (by omega)
    clear c4
    (first | rw [c4b0] | (simp only [i64_w, i32_w]; rw [c4b0]) | skip)
    have H' := Aside0.mk H
    clear H
    have hcz5_0 : w3.cell? ⟨gb354, 0, none⟩ = some (.slice A0_0 l0_0.length c0_0) := (blk_cell BK354.out 0).trans rfl
    have hcz5_1 : w3.cell? ⟨gb354, 1, none⟩ = some (.slice A0_1 l0_1.length c0_1) := (blk_cell BK354.out 1).trans rfl
    have hfz5_0 := blk_frozen BK354.out 0
    have hfz5_1 := blk_frozen BK354.out 1
    go_wp2
    go_meet
    case rel => exact ⟨_, (true), (by first | rfl | (simp; done) | (simp [*]; done)), H', ⟨by first | omega | exact Nat.le_refl _⟩, ⟨by (with_reducible repeat (first | refine blk_drewN ?_ _ | refine blk_drew ?_ | refine blk_alloc ?_ _)); exact BK354.out⟩, ⟨by repeat (first | (with_reducible first | exact HB.out | apply below_alloc | apply pw_below_drewN | apply below_drew1 | refine below_set ?_ GE354.out) | exact HB.out)⟩⟩
  rw [if_neg c4] at H
  have c4b0 : decide (8 < (l0_0.length : Int)) = false := decide_eq_false c4
  have c4b1 : decide (8 < l0_0.length) = false := decide_eq_false (by omega)
  clear c4
  (first | rw [c4b0] | (simp only [i64_w, i32_w]; rw [c4b0]) | skip)
  have H' := Aside0.mk H
  clear H
  have hcz6_0 : w3.cell? ⟨gb354, 0, none⟩ = some (.slice A0_0 l0_0.length c0_0) := (blk_cell BK354.out 0).trans rfl
  have hcz6_1 : w3.cell? ⟨gb354, 1, none⟩ = some (.slice A0_1 l0_1.length c0_1) := (blk_cell BK354.out 1).trans rfl
  have hfz6_0 := blk_frozen BK354.out 0
  have hfz6_1 := blk_frozen BK354.out 1
  go_wp2
  go_meet
  case rel => exact ⟨_, (decide ((l0_1.length : Int) > 4)), (by first | rfl | (simp; done) | (simp [*]; done)), H', ⟨by first | omega | exact Nat.le_refl _⟩, ⟨by (with_reducible repeat (first | refine blk_drewN ?_ _ | refine blk_drew ?_ | refine blk_alloc ?_ _)); exact BK354.out⟩, ⟨by repeat (first | (with_reducible first | exact HB.out | apply below_alloc | apply pw_below_drewN | apply below_drew1 | refine below_set ?_ GE354.out) | exact HB.out)⟩⟩
 case rest =>
  clear HC2
  try clear c1
  try clear p2
  try clear c4
  try clear c4b0
  try clear c4b1
  try clear hcz5_0
  try clear hcz5_1
  try clear hcz6_0
  try clear hcz6_1
  try clear hfz5_0
  try clear hfz5_1
  try clear hfz6_0
  try clear hfz6_1
  obtain ⟨kq, x16_1, rfl, HA, HJ1, BK354, HB⟩ := hcut
  cases kq with
  | zero => exact absurd HA.out (by simp [spec_NetOk.j0])
  | succ kj1 =>
   have H := HA.out
   clear HA
   simp only [spec_NetOk.j0] at H
   by_cases c7 : x16_1 = true
   · subst c7
     have H1 : (some false) = some r := by rw [if_pos rfl] at H; exact H
     clear H
     have H := H1
     clear H1
     obtain rfl := Option.some.inj H
     go_wp2
     go_ret
     exact ⟨by first | rfl | (simp [errW_none, errW_some] <;> rfl) | (simp [*, errW_none, errW_some] <;> rfl), by repeat (first | (with_reducible first | exact HB.out | apply below_alloc | apply pw_below_drewN | apply below_drew1 | refine below_set ?_ GE354.out) | exact HB.out)⟩
   replace c7 := Bool.eq_false_iff.mpr c7
   subst c7
   have H1 : (spec_NetOk.l0 kj1 0 l0_0 l0_1) = some r := by rw [if_neg (show ¬ (false = true) by decide)] at H; exact H
   clear H
   have H := H1
   clear H1
   have H' := Aside0.mk H
   clear H
   go_wp2
   go_loopg [3] kj1 (fun kq v3 w' => ∃ (x3_2 : Int), v3 = .int .i64 x3_2 ∧ Aside0 (spec_NetOk.l0 kq x3_2 l0_0 l0_1 = some r) ∧ Aside0 (kq ≤ kj1) ∧ Aside0 (w'.heap[gb354]? = some (.cells #[(.slice A0_0 l0_0.length c0_0), (.slice A0_1 l0_1.length c0_1)] 31 (0, 0))) ∧ Aside0 (Below w.heap.size w w'))
   case atStart => exact ⟨(0), (by first | rfl | (simp; done) | (simp [*]; done)), H', ⟨Nat.le_refl _⟩, ⟨by (with_reducible repeat (first | refine blk_drewN ?_ _ | refine blk_drew ?_ | refine blk_alloc ?_ _)); exact BK354.out⟩, ⟨by repeat (first | (with_reducible first | exact HB.out | apply below_alloc | apply pw_below_drewN | apply below_drew1 | refine below_set ?_ GE354.out) | exact HB.out)⟩⟩
   case round =>
    clear H'
    try clear c1
    try clear p2
    try clear c4
    try clear c4b0
    try clear c4b1
    try clear c7
    try clear hcz5_0
    try clear hcz5_1
    try clear hcz6_0
    try clear hcz6_1
    try clear hfz5_0
    try clear hfz5_1
    try clear hfz6_0
    try clear hfz6_1
    try clear p2
    obtain ⟨x3_2, rfl, HA, HK2, BK354, HB⟩ := hrel
    cases gk with
    | zero => exact absurd HA.out (by simp [spec_NetOk.l0])
    | succ k2 =>
     have H := HA.out
     clear HA
     simp only [spec_NetOk.l0] at H
     by_cases c8 : x3_2 < (l0_0.length : Int)
     · rw [if_pos c8] at H
       have c8b0 : decide (x3_2 < (l0_0.length : Int)) = true := decide_eq_true c8
       clear c8
       by_cases c9 : 0 ≤ x3_2
       rotate_left
       · rw [if_neg c9] at H
         exact absurd H (by simp)
       rw [if_pos c9] at H
       have c9b0 : decide (0 ≤ x3_2) = true := decide_eq_true c9
       clear c9
       replace H := Option.bind_eq_some_iff.mp H
       obtain ⟨t356, A100, H⟩ := H
       replace H : (if t356 = true then (spec_NetOk.l0 k2 (wrap64 (x3_2 + 1)) l0_0 l0_1) else (some false)) = some r := H
       have A10 := Aside0.mk A100
       clear A100
       by_cases c11 : t356 = true
       rotate_left
       · replace c11 := Bool.eq_false_iff.mpr c11
         subst c11
         have H1 : (some false) = some r := by rw [if_neg (show ¬ (false = true) by decide)] at H; exact H
         clear H
         have H := H1
         clear H1
         obtain rfl := Option.some.inj H
         have hcz15_0 : wr.cell? ⟨gb354, 0, none⟩ = some (.slice A0_0 l0_0.length c0_0) := (blk_cell BK354.out 0).trans rfl
         have hcz15_1 : wr.cell? ⟨gb354, 1, none⟩ = some (.slice A0_1 l0_1.length c0_1) := (blk_cell BK354.out 1).trans rfl
         have hfz15_0 := blk_frozen BK354.out 0
         have hfz15_1 := blk_frozen BK354.out 1
         try go_wp2
         have n0_ := Aside0.mk (blk_drew BK354.out)
         have n1_ := Aside0.mk (below_drew1 HB.out)
         clear BK354
         clear HB
         have BK354 := n0_
         have HB := n1_
         clear n0_ n1_
         have p355 : 0 ≤ (x3_2 : Int) := of_decide_eq_true (by first | (with_reducible assumption) | assumption)
         have q355 : x3_2 < (l0_0.length : Int) := of_decide_eq_true (by first | (with_reducible assumption) | assumption)
         obtain ⟨ad355, e355, hx355_0, hx355_1, hx355_2, hx355_3, hx355_4, hx355_5, hx355_6, hx355_7, hx355_8, hx355_9, hx355_10, hx355_11⟩ := at_T43 HR0_0.out x3_2 p355 q355
         have hw355_11 := hx355_11
         have hw355_10 := hx355_10
         have hw355_9 := hx355_9
         have hw355_8 := hx355_8
         have hw355_7 := hx355_7
         have hw355_6 := hx355_6
         have hw355_5 := hx355_5
         have hw355_4 := hx355_4
         have hw355_3 := hx355_3
         have hw355_2 := hx355_2
         have hw355_1 := hx355_1
         have hw355_0 := hx355_0
         cases e355
         replace hx355_0 := (HB.out.cell (World.block_lt_of_cell? w _ hx355_0)).trans hx355_0
         replace hx355_1 := (HB.out.cell (World.block_lt_of_cell? w _ hx355_1)).trans hx355_1
         replace hx355_2 := (HB.out.cell (World.block_lt_of_cell? w _ hx355_2)).trans hx355_2
         replace hx355_3 := (HB.out.cell (World.block_lt_of_cell? w _ hx355_3)).trans hx355_3
         replace hx355_4 := (HB.out.cell (World.block_lt_of_cell? w _ hx355_4)).trans hx355_4
         replace hx355_5 := (HB.out.cell (World.block_lt_of_cell? w _ hx355_5)).trans hx355_5
         replace hx355_6 := (HB.out.cell (World.block_lt_of_cell? w _ hx355_6)).trans hx355_6
         replace hx355_7 := (HB.out.cell (World.block_lt_of_cell? w _ hx355_7)).trans hx355_7
         replace hx355_8 := (HB.out.cell (World.block_lt_of_cell? w _ hx355_8)).trans hx355_8
         replace hx355_9 := (HB.out.cell (World.block_lt_of_cell? w _ hx355_9)).trans hx355_9
         replace hx355_10 := (HB.out.cell (World.block_lt_of_cell? w _ hx355_10)).trans hx355_10
         replace hx355_11 := (HB.out.cell (World.block_lt_of_cell? w _ hx355_11)).trans hx355_11
         replace p355 := eq_true p355
         replace q355 := eq_true q355
         refine start_ (n := 10) (S := fun w' => w'.cell? ⟨gb354, 0, none⟩ = some (.slice (some ad355) l0_0.length c0_0) ∧ w'.cell? ⟨gb354, 1, none⟩ = some (.slice A0_1 l0_1.length c0_1) ∧ w'.cell? (ad355.add ((x3_2).toNat * 12)) = some (.int .i64 ((rd_T43 l0_0 x3_2).f0)) ∧ w'.cell? ⟨(ad355.add ((x3_2).toNat * 12)).block, (ad355.add ((x3_2).toNat * 12)).off + 1, none⟩ = some (.int .i64 ((rd_T43 l0_0 x3_2).f1)) ∧ w'.cell? ⟨(ad355.add ((x3_2).toNat * 12)).block, (ad355.add ((x3_2).toNat * 12)).off + 2, none⟩ = some (.int .i64 ((rd_T43 l0_0 x3_2).f2.f0)) ∧ w'.cell? ⟨(ad355.add ((x3_2).toNat * 12)).block, (ad355.add ((x3_2).toNat * 12)).off + 3, none⟩ = some (.int .i64 ((rd_T43 l0_0 x3_2).f2.f1)) ∧ w'.cell? ⟨(ad355.add ((x3_2).toNat * 12)).block, (ad355.add ((x3_2).toNat * 12)).off + 4, none⟩ = some (.int .i64 ((rd_T43 l0_0 x3_2).f2.f2.f0)) ∧ w'.cell? ⟨(ad355.add ((x3_2).toNat * 12)).block, (ad355.add ((x3_2).toNat * 12)).off + 5, none⟩ = some (.int .i64 ((rd_T43 l0_0 x3_2).f2.f2.f1)) ∧ w'.cell? ⟨(ad355.add ((x3_2).toNat * 12)).block, (ad355.add ((x3_2).toNat * 12)).off + 6, none⟩ = some (.bool ((rd_T43 l0_0 x3_2).f2.f3)) ∧ w'.cell? ⟨(ad355.add ((x3_2).toNat * 12)).block, (ad355.add ((x3_2).toNat * 12)).off + 7, none⟩ = some (.int .i64 ((rd_T43 l0_0 x3_2).f3.f0)) ∧ w'.cell? ⟨(ad355.add ((x3_2).toNat * 12)).block, (ad355.add ((x3_2).toNat * 12)).off + 8, none⟩ = some (.int .i64 ((rd_T43 l0_0 x3_2).f3.f1)) ∧ w'.cell? ⟨(ad355.add ((x3_2).toNat * 12)).block, (ad355.add ((x3_2).toNat * 12)).off + 9, none⟩ = some (.int .i64 ((rd_T43 l0_0 x3_2).f3.f2.f0)) ∧ w'.cell? ⟨(ad355.add ((x3_2).toNat * 12)).block, (ad355.add ((x3_2).toNat * 12)).off + 10, none⟩ = some (.int .i64 ((rd_T43 l0_0 x3_2).f3.f2.f1)) ∧ w'.cell? ⟨(ad355.add ((x3_2).toNat * 12)).block, (ad355.add ((x3_2).toNat * 12)).off + 11, none⟩ = some (.bool ((rd_T43 l0_0 x3_2).f3.f3))) (ds := []) #[false, false, false, false, false, false, false, false, false, false] (by kernel_rfl) rfl rfl ⟨(blk_cell BK354.out 0).trans rfl, (blk_cell BK354.out 1).trans rfl, ((HB.out.cell (World.block_lt_of_cell? w _ hw355_0)).trans hw355_0), ((HB.out.cell (World.block_lt_of_cell? w _ hw355_1)).trans hw355_1), ((HB.out.cell (World.block_lt_of_cell? w _ hw355_2)).trans hw355_2), ((HB.out.cell (World.block_lt_of_cell? w _ hw355_3)).trans hw355_3), ((HB.out.cell (World.block_lt_of_cell? w _ hw355_4)).trans hw355_4), ((HB.out.cell (World.block_lt_of_cell? w _ hw355_5)).trans hw355_5), ((HB.out.cell (World.block_lt_of_cell? w _ hw355_6)).trans hw355_6), ((HB.out.cell (World.block_lt_of_cell? w _ hw355_7)).trans hw355_7), ((HB.out.cell (World.block_lt_of_cell? w _ hw355_8)).trans hw355_8), ((HB.out.cell (World.block_lt_of_cell? w _ hw355_9)).trans hw355_9), ((HB.out.cell (World.block_lt_of_cell? w _ hw355_10)).trans hw355_10), ((HB.out.cell (World.block_lt_of_cell? w _ hw355_11)).trans hw355_11)⟩ (fun hHeld => ?_); refine with_tabW spec_NetOk.tab6 spec_NetOk.bits6 (fun HT_ HW_ => ?_)
         generalize wr.drew = w16 at BK354 HB hx355_0 hx355_1 hx355_10 hx355_11 hx355_2 hx355_3 hx355_4 hx355_5 hx355_6 hx355_7 hx355_8 hx355_9 hHeld ⊢
         refine pure_ (i := 0) (N := some 24) (v := ?_) (a' := ?_) #[true, false, false, false, false, false, false, false, false, false] rfl rfl (any_of HT_.out (by kernel_rfl)) (fun _ _ _ h => h) (Or.inl ⟨by rfl, ?_⟩) ?_ ?_
         rotate_left
         · intro w'
           go_simp
           with_reducible rfl
         rotate_left
         · simp only [Act.put, List.setIfInBounds_toArray, List.set_cons_zero, List.set_cons_succ, i64_w, i32_w]
           rfl
         refine pure_ (i := 2) (N := some 26) (v := ?_) (a' := ?_) #[true, false, true, false, false, false, false, false, false, false] rfl rfl (any_of HT_.out (by kernel_rfl)) (fun _ _ _ h => h) (Or.inl ⟨by rfl, ?_⟩) ?_ ?_
         rotate_left
         · intro w'
           go_simp
           with_reducible rfl
         rotate_left
         · simp only [Act.put, List.setIfInBounds_toArray, List.set_cons_zero, List.set_cons_succ, i64_w, i32_w]
           rfl
         refine pure_ (i := 5) (N := some 29) (v := ?_) (a' := ?_) #[true, false, true, false, false, true, false, false, false, false] rfl rfl (any_of HT_.out (by kernel_rfl)) (fun _ _ _ h => h) (Or.inl ⟨by rfl, ?_⟩) ?_ ?_
         rotate_left
         · intro w'
           go_simp
           with_reducible rfl
         rotate_left
         · simp only [Act.put, List.setIfInBounds_toArray, List.set_cons_zero, List.set_cons_succ, i64_w, i32_w]
           rfl
         refine take_ (i := 1) (N := some 25) (v := ?_) (a' := ?_) #[true, true, true, false, false, true, false, false, false, false] rfl rfl (take_ofW HT_.out HW_.out (by kernel_rfl)) (fun _ _ _ h => h) (Or.inl ⟨by rfl, ?_⟩) hHeld ?_ ?_
         rotate_left
         · rintro w' ⟨s0, s1, s2, s3, s4, s5, s6, s7, s8, s9, s10, s11, s12, s13⟩
           go_simp
           with_reducible rfl
         rotate_left
         · simp only [Act.put, List.setIfInBounds_toArray, List.set_cons_zero, List.set_cons_succ, i64_w, i32_w]
           rfl
         refine pure_ (i := 3) (N := some 27) (v := ?_) (a' := ?_) #[true, true, true, true, false, true, false, false, false, false] rfl rfl (any_of HT_.out (by kernel_rfl)) (fun _ _ _ h => h) (Or.inl ⟨by rfl, ?_⟩) ?_ ?_
         rotate_left
         · intro w'
           go_simp
           with_reducible rfl
         rotate_left
         · simp only [Act.put, List.setIfInBounds_toArray, List.set_cons_zero, List.set_cons_succ, i64_w, i32_w]
           rfl
         refine take_ (i := 4) (N := some 28) (v := ?_) (a' := ?_) #[true, true, true, true, true, true, false, false, false, false] rfl rfl (take_ofW HT_.out HW_.out (by kernel_rfl)) (fun _ _ _ h => h) (Or.inl ⟨by rfl, ?_⟩) hHeld ?_ ?_
         rotate_left
         · rintro w' ⟨s0, s1, s2, s3, s4, s5, s6, s7, s8, s9, s10, s11, s12, s13⟩
           go_simp
           with_reducible rfl
         rotate_left
         · simp only [Act.put, List.setIfInBounds_toArray, List.set_cons_zero, List.set_cons_succ, i64_w, i32_w]
           rfl
         refine take_ (i := 6) (N := some 30) (v := ?_) (a' := ?_) #[true, true, true, true, true, true, true, false, false, false] rfl rfl (take_ofW HT_.out HW_.out (by kernel_rfl)) (fun _ _ _ h => h) (Or.inl ⟨by rfl, ?_⟩) hHeld ?_ ?_
         rotate_left
         · rintro w' ⟨s0, s1, s2, s3, s4, s5, s6, s7, s8, s9, s10, s11, s12, s13⟩
           go_simp
           with_reducible rfl
         rotate_left
         · simp only [Act.put, List.setIfInBounds_toArray, List.set_cons_zero, List.set_cons_succ, i64_w, i32_w]
           rfl
         refine pure_ (i := 7) (N := some 31) (v := ?_) (a' := ?_) #[true, true, true, true, true, true, true, true, false, false] rfl rfl (any_of HT_.out (by kernel_rfl)) (fun _ _ _ h => h) (Or.inl ⟨by rfl, ?_⟩) ?_ ?_
         rotate_left
         · intro w'
           go_simp
           with_reducible rfl
         rotate_left
         · simp only [Act.put, List.setIfInBounds_toArray, List.set_cons_zero, List.set_cons_succ, i64_w, i32_w]
           rfl
         refine one_ (i := 8) (N := some 32) #[true, true, true, true, true, true, true, true, true, false] rfl rfl (one_of HT_.out (by kernel_rfl)) (by decide) (fun K hK => ?_)
         refine goes_ Tryz.func36 (by kernel_rfl) rfl #[.agg #[.int .i64 ((rd_T43 l0_0 x3_2).f0), .int .i64 ((rd_T43 l0_0 x3_2).f1), .int .i64 ((rd_T43 l0_0 x3_2).f2.f0), .int .i64 ((rd_T43 l0_0 x3_2).f2.f1), .int .i64 ((rd_T43 l0_0 x3_2).f2.f2.f0), .int .i64 ((rd_T43 l0_0 x3_2).f2.f2.f1), .bool ((rd_T43 l0_0 x3_2).f2.f3), .int .i64 ((rd_T43 l0_0 x3_2).f3.f0), .int .i64 ((rd_T43 l0_0 x3_2).f3.f1), .int .i64 ((rd_T43 l0_0 x3_2).f3.f2.f0), .int .i64 ((rd_T43 l0_0 x3_2).f3.f2.f1), .bool ((rd_T43 l0_0 x3_2).f3.f3)], .int .i64 (l0_0.length : Int)] (by rfl) rfl rfl (by (try simp only [List.map_toArray, List.map_cons, List.map_nil]); first | done | rfl | (simp only [List.length_drop, List.length_take]; rfl)) ?_
         with_reducible refine (spec_l7Wire.calls k2 ((rd_T43 l0_0 x3_2).f0) ((rd_T43 l0_0 x3_2).f1) ((rd_T43 l0_0 x3_2).f2.f0) ((rd_T43 l0_0 x3_2).f2.f1) ((rd_T43 l0_0 x3_2).f2.f2.f0) ((rd_T43 l0_0 x3_2).f2.f2.f1) ((rd_T43 l0_0 x3_2).f2.f3) ((rd_T43 l0_0 x3_2).f3.f0) ((rd_T43 l0_0 x3_2).f3.f1) ((rd_T43 l0_0 x3_2).f3.f2.f0) ((rd_T43 l0_0 x3_2).f3.f2.f1) ((rd_T43 l0_0 x3_2).f3.f3) (l0_0.length : Int) false _ A10.out).mono ?_
         rintro e w17 ⟨rfl, hb⟩
         refine ⟨_, rfl, ?_⟩
         have n0_ := Aside0.mk (blk_below (g := gb354) (o := .cells #[.slice (some ad355) l0_0.length c0_0, .slice A0_1 l0_1.length c0_1] 31 (0, 0)) (by (with_reducible repeat (first | refine blk_drewN ?_ _ | refine blk_drew ?_ | refine blk_alloc ?_ _)); exact BK354.out) hb)
         have n1_ := Aside0.mk (below_step (by repeat (first | (with_reducible first | exact HB.out | apply below_alloc | apply pw_below_drewN | apply below_drew1 | refine below_set ?_ GE354.out) | exact HB.out)) hb)
         clear BK354
         clear HB
         have BK354 := n0_
         have HB := n1_
         clear n0_ n1_
         (try clear hb)
         (try clear hb2)
         (try clear hk)
         (try clear hi)
         refine hK.out _ _ ⟨(blk_cell BK354.out 0).trans rfl, (blk_cell BK354.out 1).trans rfl, ((HB.out.cell (World.block_lt_of_cell? w _ hw355_0)).trans hw355_0), ((HB.out.cell (World.block_lt_of_cell? w _ hw355_1)).trans hw355_1), ((HB.out.cell (World.block_lt_of_cell? w _ hw355_2)).trans hw355_2), ((HB.out.cell (World.block_lt_of_cell? w _ hw355_3)).trans hw355_3), ((HB.out.cell (World.block_lt_of_cell? w _ hw355_4)).trans hw355_4), ((HB.out.cell (World.block_lt_of_cell? w _ hw355_5)).trans hw355_5), ((HB.out.cell (World.block_lt_of_cell? w _ hw355_6)).trans hw355_6), ((HB.out.cell (World.block_lt_of_cell? w _ hw355_7)).trans hw355_7), ((HB.out.cell (World.block_lt_of_cell? w _ hw355_8)).trans hw355_8), ((HB.out.cell (World.block_lt_of_cell? w _ hw355_9)).trans hw355_9), ((HB.out.cell (World.block_lt_of_cell? w _ hw355_10)).trans hw355_10), ((HB.out.cell (World.block_lt_of_cell? w _ hw355_11)).trans hw355_11)⟩ (fun hHeld => ?_)
         clear hK K
         refine norm_ (a' := ?_) ?_ ?_
         rotate_left
         · show Act.put _ (some 32) _ = _
           simp only [Act.put, List.setIfInBounds_toArray, List.set_cons_zero, List.set_cons_succ, i64_w, i32_w]
           rfl
         refine pure_ (i := 9) (N := some 33) (v := ?_) (a' := ?_) #[true, true, true, true, true, true, true, true, true, true] rfl rfl (any_of HT_.out (by kernel_rfl)) (fun _ _ _ h => h) (Or.inl ⟨by rfl, ?_⟩) ?_ ?_
         rotate_left
         · intro w'
           go_simp
           with_reducible rfl
         rotate_left
         · simp only [Act.put, List.setIfInBounds_toArray, List.set_cons_zero, List.set_cons_succ, i64_w, i32_w]
           rfl
         refine done_ (done_of HT_.out (by kernel_rfl)) ?_
         try go_wp2
         go_ret
         exact ⟨by first | rfl | (simp [errW_none, errW_some] <;> rfl) | (simp [*, errW_none, errW_some] <;> rfl), by repeat (first | (with_reducible first | exact HB.out | apply below_alloc | apply pw_below_drewN | apply below_drew1 | refine below_set ?_ GE354.out) | exact HB.out)⟩
       subst c11
       have H1 : (spec_NetOk.l0 k2 (wrap64 (x3_2 + 1)) l0_0 l0_1) = some r := by rw [if_pos rfl] at H; exact H
       clear H
       have H := H1
       clear H1
       have H' := Aside0.mk H
       clear H
       have hcz12_0 : wr.cell? ⟨gb354, 0, none⟩ = some (.slice A0_0 l0_0.length c0_0) := (blk_cell BK354.out 0).trans rfl
       have hcz12_1 : wr.cell? ⟨gb354, 1, none⟩ = some (.slice A0_1 l0_1.length c0_1) := (blk_cell BK354.out 1).trans rfl
       have hfz12_0 := blk_frozen BK354.out 0
       have hfz12_1 := blk_frozen BK354.out 1
       try go_wp2
       have n0_ := Aside0.mk (blk_drew BK354.out)
       have n1_ := Aside0.mk (below_drew1 HB.out)
       clear BK354
       clear HB
       have BK354 := n0_
       have HB := n1_
       clear n0_ n1_
       have p355 : 0 ≤ (x3_2 : Int) := of_decide_eq_true (by first | (with_reducible assumption) | assumption)
       have q355 : x3_2 < (l0_0.length : Int) := of_decide_eq_true (by first | (with_reducible assumption) | assumption)
       obtain ⟨ad355, e355, hx355_0, hx355_1, hx355_2, hx355_3, hx355_4, hx355_5, hx355_6, hx355_7, hx355_8, hx355_9, hx355_10, hx355_11⟩ := at_T43 HR0_0.out x3_2 p355 q355
       have hw355_11 := hx355_11
       have hw355_10 := hx355_10
       have hw355_9 := hx355_9
       have hw355_8 := hx355_8
       have hw355_7 := hx355_7
       have hw355_6 := hx355_6
       have hw355_5 := hx355_5
       have hw355_4 := hx355_4
       have hw355_3 := hx355_3
       have hw355_2 := hx355_2
       have hw355_1 := hx355_1
       have hw355_0 := hx355_0
       cases e355
       replace hx355_0 := (HB.out.cell (World.block_lt_of_cell? w _ hx355_0)).trans hx355_0
       replace hx355_1 := (HB.out.cell (World.block_lt_of_cell? w _ hx355_1)).trans hx355_1
       replace hx355_2 := (HB.out.cell (World.block_lt_of_cell? w _ hx355_2)).trans hx355_2
       replace hx355_3 := (HB.out.cell (World.block_lt_of_cell? w _ hx355_3)).trans hx355_3
       replace hx355_4 := (HB.out.cell (World.block_lt_of_cell? w _ hx355_4)).trans hx355_4
       replace hx355_5 := (HB.out.cell (World.block_lt_of_cell? w _ hx355_5)).trans hx355_5
       replace hx355_6 := (HB.out.cell (World.block_lt_of_cell? w _ hx355_6)).trans hx355_6
       replace hx355_7 := (HB.out.cell (World.block_lt_of_cell? w _ hx355_7)).trans hx355_7
       replace hx355_8 := (HB.out.cell (World.block_lt_of_cell? w _ hx355_8)).trans hx355_8
       replace hx355_9 := (HB.out.cell (World.block_lt_of_cell? w _ hx355_9)).trans hx355_9
       replace hx355_10 := (HB.out.cell (World.block_lt_of_cell? w _ hx355_10)).trans hx355_10
       replace hx355_11 := (HB.out.cell (World.block_lt_of_cell? w _ hx355_11)).trans hx355_11
       replace p355 := eq_true p355
       replace q355 := eq_true q355
       refine start_ (n := 10) (S := fun w' => w'.cell? ⟨gb354, 0, none⟩ = some (.slice (some ad355) l0_0.length c0_0) ∧ w'.cell? ⟨gb354, 1, none⟩ = some (.slice A0_1 l0_1.length c0_1) ∧ w'.cell? (ad355.add ((x3_2).toNat * 12)) = some (.int .i64 ((rd_T43 l0_0 x3_2).f0)) ∧ w'.cell? ⟨(ad355.add ((x3_2).toNat * 12)).block, (ad355.add ((x3_2).toNat * 12)).off + 1, none⟩ = some (.int .i64 ((rd_T43 l0_0 x3_2).f1)) ∧ w'.cell? ⟨(ad355.add ((x3_2).toNat * 12)).block, (ad355.add ((x3_2).toNat * 12)).off + 2, none⟩ = some (.int .i64 ((rd_T43 l0_0 x3_2).f2.f0)) ∧ w'.cell? ⟨(ad355.add ((x3_2).toNat * 12)).block, (ad355.add ((x3_2).toNat * 12)).off + 3, none⟩ = some (.int .i64 ((rd_T43 l0_0 x3_2).f2.f1)) ∧ w'.cell? ⟨(ad355.add ((x3_2).toNat * 12)).block, (ad355.add ((x3_2).toNat * 12)).off + 4, none⟩ = some (.int .i64 ((rd_T43 l0_0 x3_2).f2.f2.f0)) ∧ w'.cell? ⟨(ad355.add ((x3_2).toNat * 12)).block, (ad355.add ((x3_2).toNat * 12)).off + 5, none⟩ = some (.int .i64 ((rd_T43 l0_0 x3_2).f2.f2.f1)) ∧ w'.cell? ⟨(ad355.add ((x3_2).toNat * 12)).block, (ad355.add ((x3_2).toNat * 12)).off + 6, none⟩ = some (.bool ((rd_T43 l0_0 x3_2).f2.f3)) ∧ w'.cell? ⟨(ad355.add ((x3_2).toNat * 12)).block, (ad355.add ((x3_2).toNat * 12)).off + 7, none⟩ = some (.int .i64 ((rd_T43 l0_0 x3_2).f3.f0)) ∧ w'.cell? ⟨(ad355.add ((x3_2).toNat * 12)).block, (ad355.add ((x3_2).toNat * 12)).off + 8, none⟩ = some (.int .i64 ((rd_T43 l0_0 x3_2).f3.f1)) ∧ w'.cell? ⟨(ad355.add ((x3_2).toNat * 12)).block, (ad355.add ((x3_2).toNat * 12)).off + 9, none⟩ = some (.int .i64 ((rd_T43 l0_0 x3_2).f3.f2.f0)) ∧ w'.cell? ⟨(ad355.add ((x3_2).toNat * 12)).block, (ad355.add ((x3_2).toNat * 12)).off + 10, none⟩ = some (.int .i64 ((rd_T43 l0_0 x3_2).f3.f2.f1)) ∧ w'.cell? ⟨(ad355.add ((x3_2).toNat * 12)).block, (ad355.add ((x3_2).toNat * 12)).off + 11, none⟩ = some (.bool ((rd_T43 l0_0 x3_2).f3.f3))) (ds := []) #[false, false, false, false, false, false, false, false, false, false] (by kernel_rfl) rfl rfl ⟨(blk_cell BK354.out 0).trans rfl, (blk_cell BK354.out 1).trans rfl, ((HB.out.cell (World.block_lt_of_cell? w _ hw355_0)).trans hw355_0), ((HB.out.cell (World.block_lt_of_cell? w _ hw355_1)).trans hw355_1), ((HB.out.cell (World.block_lt_of_cell? w _ hw355_2)).trans hw355_2), ((HB.out.cell (World.block_lt_of_cell? w _ hw355_3)).trans hw355_3), ((HB.out.cell (World.block_lt_of_cell? w _ hw355_4)).trans hw355_4), ((HB.out.cell (World.block_lt_of_cell? w _ hw355_5)).trans hw355_5), ((HB.out.cell (World.block_lt_of_cell? w _ hw355_6)).trans hw355_6), ((HB.out.cell (World.block_lt_of_cell? w _ hw355_7)).trans hw355_7), ((HB.out.cell (World.block_lt_of_cell? w _ hw355_8)).trans hw355_8), ((HB.out.cell (World.block_lt_of_cell? w _ hw355_9)).trans hw355_9), ((HB.out.cell (World.block_lt_of_cell? w _ hw355_10)).trans hw355_10), ((HB.out.cell (World.block_lt_of_cell? w _ hw355_11)).trans hw355_11)⟩ (fun hHeld => ?_); refine with_tabW spec_NetOk.tab6 spec_NetOk.bits6 (fun HT_ HW_ => ?_)
       generalize wr.drew = w13 at BK354 HB hx355_0 hx355_1 hx355_10 hx355_11 hx355_2 hx355_3 hx355_4 hx355_5 hx355_6 hx355_7 hx355_8 hx355_9 hHeld ⊢
       refine pure_ (i := 0) (N := some 24) (v := ?_) (a' := ?_) #[true, false, false, false, false, false, false, false, false, false] rfl rfl (any_of HT_.out (by kernel_rfl)) (fun _ _ _ h => h) (Or.inl ⟨by rfl, ?_⟩) ?_ ?_
       rotate_left
       · intro w'
         go_simp
         with_reducible rfl
       rotate_left
       · simp only [Act.put, List.setIfInBounds_toArray, List.set_cons_zero, List.set_cons_succ, i64_w, i32_w]
         rfl
       refine pure_ (i := 2) (N := some 26) (v := ?_) (a' := ?_) #[true, false, true, false, false, false, false, false, false, false] rfl rfl (any_of HT_.out (by kernel_rfl)) (fun _ _ _ h => h) (Or.inl ⟨by rfl, ?_⟩) ?_ ?_
       rotate_left
       · intro w'
         go_simp
         with_reducible rfl
       rotate_left
       · simp only [Act.put, List.setIfInBounds_toArray, List.set_cons_zero, List.set_cons_succ, i64_w, i32_w]
         rfl
       refine pure_ (i := 5) (N := some 29) (v := ?_) (a' := ?_) #[true, false, true, false, false, true, false, false, false, false] rfl rfl (any_of HT_.out (by kernel_rfl)) (fun _ _ _ h => h) (Or.inl ⟨by rfl, ?_⟩) ?_ ?_
       rotate_left
       · intro w'
         go_simp
         with_reducible rfl
       rotate_left
       · simp only [Act.put, List.setIfInBounds_toArray, List.set_cons_zero, List.set_cons_succ, i64_w, i32_w]
         rfl
       refine take_ (i := 1) (N := some 25) (v := ?_) (a' := ?_) #[true, true, true, false, false, true, false, false, false, false] rfl rfl (take_ofW HT_.out HW_.out (by kernel_rfl)) (fun _ _ _ h => h) (Or.inl ⟨by rfl, ?_⟩) hHeld ?_ ?_
       rotate_left
       · rintro w' ⟨s0, s1, s2, s3, s4, s5, s6, s7, s8, s9, s10, s11, s12, s13⟩
         go_simp
         with_reducible rfl
       rotate_left
       · simp only [Act.put, List.setIfInBounds_toArray, List.set_cons_zero, List.set_cons_succ, i64_w, i32_w]
         rfl
       refine pure_ (i := 3) (N := some 27) (v := ?_) (a' := ?_) #[true, true, true, true, false, true, false, false, false, false] rfl rfl (any_of HT_.out (by kernel_rfl)) (fun _ _ _ h => h) (Or.inl ⟨by rfl, ?_⟩) ?_ ?_
       rotate_left
       · intro w'
         go_simp
         with_reducible rfl
       rotate_left
       · simp only [Act.put, List.setIfInBounds_toArray, List.set_cons_zero, List.set_cons_succ, i64_w, i32_w]
         rfl
       refine take_ (i := 4) (N := some 28) (v := ?_) (a' := ?_) #[true, true, true, true, true, true, false, false, false, false] rfl rfl (take_ofW HT_.out HW_.out (by kernel_rfl)) (fun _ _ _ h => h) (Or.inl ⟨by rfl, ?_⟩) hHeld ?_ ?_
       rotate_left
       · rintro w' ⟨s0, s1, s2, s3, s4, s5, s6, s7, s8, s9, s10, s11, s12, s13⟩
         go_simp
         with_reducible rfl
       rotate_left
       · simp only [Act.put, List.setIfInBounds_toArray, List.set_cons_zero, List.set_cons_succ, i64_w, i32_w]
         rfl
       refine take_ (i := 6) (N := some 30) (v := ?_) (a' := ?_) #[true, true, true, true, true, true, true, false, false, false] rfl rfl (take_ofW HT_.out HW_.out (by kernel_rfl)) (fun _ _ _ h => h) (Or.inl ⟨by rfl, ?_⟩) hHeld ?_ ?_
       rotate_left
       · rintro w' ⟨s0, s1, s2, s3, s4, s5, s6, s7, s8, s9, s10, s11, s12, s13⟩
         go_simp
         with_reducible rfl
       rotate_left
       · simp only [Act.put, List.setIfInBounds_toArray, List.set_cons_zero, List.set_cons_succ, i64_w, i32_w]
         rfl
       refine pure_ (i := 7) (N := some 31) (v := ?_) (a' := ?_) #[true, true, true, true, true, true, true, true, false, false] rfl rfl (any_of HT_.out (by kernel_rfl)) (fun _ _ _ h => h) (Or.inl ⟨by rfl, ?_⟩) ?_ ?_
       rotate_left
       · intro w'
         go_simp
         with_reducible rfl
       rotate_left
       · simp only [Act.put, List.setIfInBounds_toArray, List.set_cons_zero, List.set_cons_succ, i64_w, i32_w]
         rfl
       refine one_ (i := 8) (N := some 32) #[true, true, true, true, true, true, true, true, true, false] rfl rfl (one_of HT_.out (by kernel_rfl)) (by decide) (fun K hK => ?_)
       refine goes_ Tryz.func36 (by kernel_rfl) rfl #[.agg #[.int .i64 ((rd_T43 l0_0 x3_2).f0), .int .i64 ((rd_T43 l0_0 x3_2).f1), .int .i64 ((rd_T43 l0_0 x3_2).f2.f0), .int .i64 ((rd_T43 l0_0 x3_2).f2.f1), .int .i64 ((rd_T43 l0_0 x3_2).f2.f2.f0), .int .i64 ((rd_T43 l0_0 x3_2).f2.f2.f1), .bool ((rd_T43 l0_0 x3_2).f2.f3), .int .i64 ((rd_T43 l0_0 x3_2).f3.f0), .int .i64 ((rd_T43 l0_0 x3_2).f3.f1), .int .i64 ((rd_T43 l0_0 x3_2).f3.f2.f0), .int .i64 ((rd_T43 l0_0 x3_2).f3.f2.f1), .bool ((rd_T43 l0_0 x3_2).f3.f3)], .int .i64 (l0_0.length : Int)] (by rfl) rfl rfl (by (try simp only [List.map_toArray, List.map_cons, List.map_nil]); first | done | rfl | (simp only [List.length_drop, List.length_take]; rfl)) ?_
       with_reducible refine (spec_l7Wire.calls k2 ((rd_T43 l0_0 x3_2).f0) ((rd_T43 l0_0 x3_2).f1) ((rd_T43 l0_0 x3_2).f2.f0) ((rd_T43 l0_0 x3_2).f2.f1) ((rd_T43 l0_0 x3_2).f2.f2.f0) ((rd_T43 l0_0 x3_2).f2.f2.f1) ((rd_T43 l0_0 x3_2).f2.f3) ((rd_T43 l0_0 x3_2).f3.f0) ((rd_T43 l0_0 x3_2).f3.f1) ((rd_T43 l0_0 x3_2).f3.f2.f0) ((rd_T43 l0_0 x3_2).f3.f2.f1) ((rd_T43 l0_0 x3_2).f3.f3) (l0_0.length : Int) true _ A10.out).mono ?_
       rintro e w14 ⟨rfl, hb⟩
       refine ⟨_, rfl, ?_⟩
       have n0_ := Aside0.mk (blk_below (g := gb354) (o := .cells #[.slice (some ad355) l0_0.length c0_0, .slice A0_1 l0_1.length c0_1] 31 (0, 0)) (by (with_reducible repeat (first | refine blk_drewN ?_ _ | refine blk_drew ?_ | refine blk_alloc ?_ _)); exact BK354.out) hb)
       have n1_ := Aside0.mk (below_step (by repeat (first | (with_reducible first | exact HB.out | apply below_alloc | apply pw_below_drewN | apply below_drew1 | refine below_set ?_ GE354.out) | exact HB.out)) hb)
       clear BK354
       clear HB
       have BK354 := n0_
       have HB := n1_
       clear n0_ n1_
       (try clear hb)
       (try clear hb2)
       (try clear hk)
       (try clear hi)
       refine hK.out _ _ ⟨(blk_cell BK354.out 0).trans rfl, (blk_cell BK354.out 1).trans rfl, ((HB.out.cell (World.block_lt_of_cell? w _ hw355_0)).trans hw355_0), ((HB.out.cell (World.block_lt_of_cell? w _ hw355_1)).trans hw355_1), ((HB.out.cell (World.block_lt_of_cell? w _ hw355_2)).trans hw355_2), ((HB.out.cell (World.block_lt_of_cell? w _ hw355_3)).trans hw355_3), ((HB.out.cell (World.block_lt_of_cell? w _ hw355_4)).trans hw355_4), ((HB.out.cell (World.block_lt_of_cell? w _ hw355_5)).trans hw355_5), ((HB.out.cell (World.block_lt_of_cell? w _ hw355_6)).trans hw355_6), ((HB.out.cell (World.block_lt_of_cell? w _ hw355_7)).trans hw355_7), ((HB.out.cell (World.block_lt_of_cell? w _ hw355_8)).trans hw355_8), ((HB.out.cell (World.block_lt_of_cell? w _ hw355_9)).trans hw355_9), ((HB.out.cell (World.block_lt_of_cell? w _ hw355_10)).trans hw355_10), ((HB.out.cell (World.block_lt_of_cell? w _ hw355_11)).trans hw355_11)⟩ (fun hHeld => ?_)
       clear hK K
       refine norm_ (a' := ?_) ?_ ?_
       rotate_left
       · show Act.put _ (some 32) _ = _
         simp only [Act.put, List.setIfInBounds_toArray, List.set_cons_zero, List.set_cons_succ, i64_w, i32_w]
         rfl
       refine pure_ (i := 9) (N := some 33) (v := ?_) (a' := ?_) #[true, true, true, true, true, true, true, true, true, true] rfl rfl (any_of HT_.out (by kernel_rfl)) (fun _ _ _ h => h) (Or.inl ⟨by rfl, ?_⟩) ?_ ?_
       rotate_left
       · intro w'
         go_simp
         with_reducible rfl
       rotate_left
       · simp only [Act.put, List.setIfInBounds_toArray, List.set_cons_zero, List.set_cons_succ, i64_w, i32_w]
         rfl
       refine done_ (done_of HT_.out (by kernel_rfl)) ?_
       try go_wp2
       go_roundg k2
       case measure => have := HJ1.out; have := HK2.out; omega
       case rel => exact ⟨(wrap64 (x3_2 + 1)), (by first | rfl | (simp; done) | (simp [*]; done)), H', ⟨by have := HJ1.out; have := HK2.out; omega⟩, ⟨by (with_reducible repeat (first | refine blk_drewN ?_ _ | refine blk_drew ?_ | refine blk_alloc ?_ _)); exact BK354.out⟩, ⟨by repeat (first | (with_reducible first | exact HB.out | apply below_alloc | apply pw_below_drewN | apply below_drew1 | refine below_set ?_ GE354.out) | exact HB.out)⟩⟩
     rw [if_neg c8] at H
     have c8b0 : decide (x3_2 < (l0_0.length : Int)) = false := decide_eq_false c8
     clear c8
     have H' := Aside0.mk H
     clear H
     have hcz18_0 : wr.cell? ⟨gb354, 0, none⟩ = some (.slice A0_0 l0_0.length c0_0) := (blk_cell BK354.out 0).trans rfl
     have hcz18_1 : wr.cell? ⟨gb354, 1, none⟩ = some (.slice A0_1 l0_1.length c0_1) := (blk_cell BK354.out 1).trans rfl
     have hfz18_0 := blk_frozen BK354.out 0
     have hfz18_1 := blk_frozen BK354.out 1
     go_wp2
     go_loopg [4] k2 (fun kq v4 w' => ∃ (x4_3 : Int), v4 = .int .i64 x4_3 ∧ Aside0 (spec_NetOk.l1 kq x4_3 l0_0 l0_1 = some r) ∧ Aside0 (kq ≤ k2) ∧ Aside0 (w'.heap[gb354]? = some (.cells #[(.slice A0_0 l0_0.length c0_0), (.slice A0_1 l0_1.length c0_1)] 31 (0, 0))) ∧ Aside0 (Below w.heap.size w w'))
     case atStart => exact ⟨(0), (by first | rfl | (simp; done) | (simp [*]; done)), H', ⟨Nat.le_refl _⟩, ⟨by (with_reducible repeat (first | refine blk_drewN ?_ _ | refine blk_drew ?_ | refine blk_alloc ?_ _)); exact BK354.out⟩, ⟨by repeat (first | (with_reducible first | exact HB.out | apply below_alloc | apply pw_below_drewN | apply below_drew1 | refine below_set ?_ GE354.out) | exact HB.out)⟩⟩
     case round =>
      clear H'
      try clear c1
      try clear p2
      try clear c3
      try clear p3
      try clear q3
      try clear hx3
      try clear c4
      try clear c4b0
      try clear c4b1
      try clear p6
      try clear c7
      try clear c8
      try clear c8b0
      try clear c9
      try clear c9b0
      try clear c11
      try clear c13
      try clear hcz12_0
      try clear hcz12_1
      try clear hcz15_0
      try clear hcz15_1
      try clear hcz18_0
      try clear hcz18_1
      try clear hcz5_0
      try clear hcz5_1
      try clear hcz6_0
      try clear hcz6_1
      try clear hfz12_0
      try clear hfz12_1
      try clear hfz15_0
      try clear hfz15_1
      try clear hfz18_0
      try clear hfz18_1
      try clear hfz5_0
      try clear hfz5_1
      try clear hfz6_0
      try clear hfz6_1
      try clear hx355_0
      try clear hx355_1
      try clear hx355_10
      try clear hx355_11
      try clear hx355_2
      try clear hx355_3
      try clear hx355_4
      try clear hx355_5
      try clear hx355_6
      try clear hx355_7
      try clear hx355_8
      try clear hx355_9
      try clear p2
      try clear p355
      try clear q355
      obtain ⟨x4_3, rfl, HA, HK3, BK354, HB⟩ := hrel
      cases gk with
      | zero => exact absurd HA.out (by simp [spec_NetOk.l1])
      | succ k3 =>
       have H := HA.out
       clear HA
       simp only [spec_NetOk.l1] at H
       by_cases c19 : x4_3 < (l0_1.length : Int)
       rotate_left
       · rw [if_neg c19] at H
         have c19b0 : decide (x4_3 < (l0_1.length : Int)) = false := decide_eq_false c19
         clear c19
         replace H := Option.bind_eq_some_iff.mp H
         obtain ⟨t357, A530, H⟩ := H
         replace H : (some ((t357.length : Int) == (l0_0.length : Int))) = some r := H
         have A53 := Aside0.mk A530
         clear A530
         obtain rfl := Option.some.inj H
         have hcz54_0 : wr.cell? ⟨gb354, 0, none⟩ = some (.slice A0_0 l0_0.length c0_0) := (blk_cell BK354.out 0).trans rfl
         have hcz54_1 : wr.cell? ⟨gb354, 1, none⟩ = some (.slice A0_1 l0_1.length c0_1) := (blk_cell BK354.out 1).trans rfl
         have hfz54_0 := blk_frozen BK354.out 0
         have hfz54_1 := blk_frozen BK354.out 1
         try go_wp2
         have n0_ := Aside0.mk (blk_drew BK354.out)
         have n1_ := Aside0.mk (below_drew1 HB.out)
         clear BK354
         clear HB
         have BK354 := n0_
         have HB := n1_
         clear n0_ n1_
         refine start_ (n := 9) (S := fun w' => w'.cell? ⟨gb354, 0, none⟩ = some (.slice A0_0 l0_0.length c0_0) ∧ w'.cell? ⟨gb354, 1, none⟩ = some (.slice A0_1 l0_1.length c0_1)) (ds := []) #[false, false, false, false, false, false, false, false, false] (by kernel_rfl) rfl rfl ⟨(blk_cell BK354.out 0).trans rfl, (blk_cell BK354.out 1).trans rfl⟩ (fun hHeld => ?_); refine with_tabW spec_NetOk.tab19 spec_NetOk.bits19 (fun HT_ HW_ => ?_)
         generalize wr.drew = w55 at BK354 HB hHeld ⊢
         refine pure_ (i := 0) (N := some 83) (v := ?_) (a' := ?_) #[true, false, false, false, false, false, false, false, false] rfl rfl (any_of HT_.out (by kernel_rfl)) (fun _ _ _ h => h) (Or.inl ⟨by rfl, ?_⟩) ?_ ?_
         rotate_left
         · intro w'
           go_simp
           with_reducible rfl
         rotate_left
         · simp only [Act.put, List.setIfInBounds_toArray, List.set_cons_zero, List.set_cons_succ, i64_w, i32_w]
           rfl
         refine pure_ (i := 4) (N := some 87) (v := ?_) (a' := ?_) #[true, false, false, false, true, false, false, false, false] rfl rfl (any_of HT_.out (by kernel_rfl)) (fun _ _ _ h => h) (Or.inl ⟨by rfl, ?_⟩) ?_ ?_
         rotate_left
         · intro w'
           go_simp
           with_reducible rfl
         rotate_left
         · simp only [Act.put, List.setIfInBounds_toArray, List.set_cons_zero, List.set_cons_succ, i64_w, i32_w]
           rfl
         refine take_ (i := 1) (N := some 84) (v := ?_) (a' := ?_) #[true, true, false, false, true, false, false, false, false] rfl rfl (take_ofW HT_.out HW_.out (by kernel_rfl)) (fun _ _ _ h => h) (Or.inl ⟨by rfl, ?_⟩) hHeld ?_ ?_
         rotate_left
         · rintro w' ⟨s0, s1⟩
           go_simp
           with_reducible rfl
         rotate_left
         · simp only [Act.put, List.setIfInBounds_toArray, List.set_cons_zero, List.set_cons_succ, i64_w, i32_w]
           rfl
         refine take_ (i := 5) (N := some 88) (v := ?_) (a' := ?_) #[true, true, false, false, true, true, false, false, false] rfl rfl (take_ofW HT_.out HW_.out (by kernel_rfl)) (fun _ _ _ h => h) (Or.inl ⟨by rfl, ?_⟩) hHeld ?_ ?_
         rotate_left
         · rintro w' ⟨s0, s1⟩
           go_simp
           with_reducible rfl
         rotate_left
         · simp only [Act.put, List.setIfInBounds_toArray, List.set_cons_zero, List.set_cons_succ, i64_w, i32_w]
           rfl
         refine pure_ (i := 6) (N := some 89) (v := ?_) (a' := ?_) #[true, true, false, false, true, true, true, false, false] rfl rfl (any_of HT_.out (by kernel_rfl)) (fun _ _ _ h => h) (Or.inl ⟨by rfl, ?_⟩) ?_ ?_
         rotate_left
         · intro w'
           go_simp
           with_reducible rfl
         rotate_left
         · simp only [Act.put, List.setIfInBounds_toArray, List.set_cons_zero, List.set_cons_succ, i64_w, i32_w]
           rfl
         refine one_ (i := 2) (N := some 85) #[true, true, true, false, true, true, true, false, false] rfl rfl (one_of HT_.out (by kernel_rfl)) (by decide) (fun K hK => ?_)
         refine goes_ Tryz.func38 (by kernel_rfl) rfl #[.slice A0_0 l0_0.length c0_0] (by rfl) rfl rfl (by (try simp only [List.map_toArray, List.map_cons, List.map_nil]); first | done | rfl | (simp only [List.length_drop, List.length_take]; rfl)) ?_
         with_reducible refine (spec_l7Order.calls k3 _ _ l0_0 t357 _ ?side1 ?side2 A53.out).mono ?_
         (case side1 => repeat (first | exact (Kd.C_below HR0_0.out HB.out) | (with_reducible refine Kd.C_alloc ?_ _) | (with_reducible refine Kd.C_drewN ?_ _) | (with_reducible refine Kd.C_drew ?_)))
         (case side2 => exact HC0_0.out)
         rintro e w56 ⟨v358, rfl, ho0, hb⟩
         refine ⟨_, rfl, ?_⟩
         have n0_ := Aside0.mk (Kd.R_lower ho0 (below_size (by repeat (first | (with_reducible first | exact HB.out | apply below_alloc | apply pw_below_drewN | apply below_drew1 | refine below_set ?_ GE354.out) | exact HB.out))))
         have n1_ := Aside0.mk (blk_below (g := gb354) (o := .cells #[.slice A0_0 l0_0.length c0_0, .slice A0_1 l0_1.length c0_1] 31 (0, 0)) (by (with_reducible repeat (first | refine blk_drewN ?_ _ | refine blk_drew ?_ | refine blk_alloc ?_ _)); exact BK354.out) hb)
         have n2_ := Aside0.mk (below_step (by repeat (first | (with_reducible first | exact HB.out | apply below_alloc | apply pw_below_drewN | apply below_drew1 | refine below_set ?_ GE354.out) | exact HB.out)) hb)
         clear BK354
         clear HB
         have HO359 := n0_
         have BK354 := n1_
         have HB := n2_
         clear n0_ n1_ n2_
         (try clear hb)
         (try clear hb2)
         (try clear hk)
         (try clear hi)
         (try clear ho0)
         obtain ⟨Ao57, co57, eo57⟩ := Kd.R_slice HO359.out
         (first | subst eo57 | (injection eo57 with f1_ f2_ f3_; have f4_ := f1_.symm; have f5_ := f3_.symm; clear f1_ f2_ f3_; subst f4_; subst f5_))
         refine hK.out _ _ ⟨(blk_cell BK354.out 0).trans rfl, (blk_cell BK354.out 1).trans rfl⟩ (fun hHeld => ?_)
         clear hK K
         refine norm_ (a' := ?_) ?_ ?_
         rotate_left
         · show Act.put _ (some 85) _ = _
           simp only [Act.put, List.setIfInBounds_toArray, List.set_cons_zero, List.set_cons_succ, i64_w, i32_w]
           rfl
         refine pure_ (i := 3) (N := some 86) (v := ?_) (a' := ?_) #[true, true, true, true, true, true, true, false, false] rfl rfl (any_of HT_.out (by kernel_rfl)) (fun _ _ _ h => h) (Or.inl ⟨by rfl, ?_⟩) ?_ ?_
         rotate_left
         · intro w'
           go_simp
           with_reducible rfl
         rotate_left
         · simp only [Act.put, List.setIfInBounds_toArray, List.set_cons_zero, List.set_cons_succ, i64_w, i32_w]
           rfl
         refine pure_ (i := 7) (N := some 90) (v := ?_) (a' := ?_) #[true, true, true, true, true, true, true, true, false] rfl rfl (any_of HT_.out (by kernel_rfl)) (fun _ _ _ h => h) (Or.inl ⟨by rfl, ?_⟩) ?_ ?_
         rotate_left
         · intro w'
           go_simp
           with_reducible rfl
         rotate_left
         · simp only [Act.put, List.setIfInBounds_toArray, List.set_cons_zero, List.set_cons_succ, i64_w, i32_w]
           rfl
         refine pure_ (i := 8) (N := some 2) (v := ?_) (a' := ?_) #[true, true, true, true, true, true, true, true, true] rfl rfl (any_of HT_.out (by kernel_rfl)) (fun _ _ _ h => h) (Or.inl ⟨by rfl, ?_⟩) ?_ ?_
         rotate_left
         · intro w'
           go_simp
           with_reducible rfl
         rotate_left
         · simp only [Act.put, List.setIfInBounds_toArray, List.set_cons_zero, List.set_cons_succ, i64_w, i32_w]
           rfl
         refine done_ (done_of HT_.out (by kernel_rfl)) ?_
         try go_wp2
         go_ret
         exact ⟨by first | rfl | (simp [errW_none, errW_some] <;> rfl) | (simp [*, errW_none, errW_some] <;> rfl), by repeat (first | (with_reducible first | exact HB.out | apply below_alloc | apply pw_below_drewN | apply below_drew1 | refine below_set ?_ GE354.out) | exact HB.out)⟩
       rw [if_pos c19] at H
       have c19b0 : decide (x4_3 < (l0_1.length : Int)) = true := decide_eq_true c19
       clear c19
       by_cases c20 : 0 ≤ x4_3
       rotate_left
       · rw [if_neg c20] at H
         exact absurd H (by simp)
       rw [if_pos c20] at H
       have c20b0 : decide (0 ≤ x4_3) = true := decide_eq_true c20
       clear c20
       have HC21 := Aside0.mk H
       clear H
       have hcz22_0 : wr.cell? ⟨gb354, 0, none⟩ = some (.slice A0_0 l0_0.length c0_0) := (blk_cell BK354.out 0).trans rfl
       have hcz22_1 : wr.cell? ⟨gb354, 1, none⟩ = some (.slice A0_1 l0_1.length c0_1) := (blk_cell BK354.out 1).trans rfl
       have hfz22_0 := blk_frozen BK354.out 0
       have hfz22_1 := blk_frozen BK354.out 1
       have p360 : 0 ≤ (x4_3 : Int) := of_decide_eq_true (by first | (with_reducible assumption) | assumption)
       have q360 : x4_3 < (l0_1.length : Int) := of_decide_eq_true (by first | (with_reducible assumption) | assumption)
       obtain ⟨ad360, e360, hx360_0, hx360_1, hx360_2⟩ := at_T66 HR0_1.out x4_3 p360 q360
       cases e360
       replace hx360_0 := (HB.out.cell (World.block_lt_of_cell? w _ hx360_0)).trans hx360_0
       replace hx360_1 := (HB.out.cell (World.block_lt_of_cell? w _ hx360_1)).trans hx360_1
       replace hx360_2 := (HB.out.cell (World.block_lt_of_cell? w _ hx360_2)).trans hx360_2
       replace p360 := eq_true p360
       replace q360 := eq_true q360
       go_upto_region 12 with (first | ((with_reducible refine gate_dst (N := 5) rfl ?_); (try (refine gate_guard (by rfl) ?_; dsimp only)); refine box_event ?hg (N := 5) ?hd (cs := #[.int .i64 0, .int .i64 0, .int .i64 0]) (t := 66) ?hr ?_; (case hd => rfl); (case hg => rfl); (case hr => first | (go_simp; done) | (go_simp; rfl)); intro gb361 hg w23 hbox hb; have n0_ := Aside0.mk (blk_below (g := gb354) (o := .cells #[.slice A0_0 l0_0.length c0_0, .slice (some ad360) l0_1.length c0_1] 31 (0, 0)) (by (with_reducible repeat (first | refine blk_drewN ?_ _ | refine blk_drew ?_ | refine blk_alloc ?_ _)); exact BK354.out) hb); have n1_ := Aside0.mk (below_step (by repeat (first | (with_reducible first | exact HB.out | apply below_alloc | apply pw_below_drewN | apply below_drew1 | refine below_set ?_ GE354.out) | exact HB.out)) hb); have n2_ := Aside0.mk (hbox); have n3_ := Aside0.mk ((by rw [hg]; exact (below_size (by repeat (first | (with_reducible first | exact HB.out | apply below_alloc | apply pw_below_drewN | apply below_drew1 | refine below_set ?_ GE354.out) | exact HB.out))) : w.heap.size ≤ gb361)); have n4_ := Aside0.mk ((by rw [hg]; exact (below_size (by repeat (first | (with_reducible first | exact HB.out | apply below_alloc | apply pw_below_drewN | apply below_drew1 | refine below_set ?_ GE354.out) | exact HB.out))) : w.heap.size ≤ gb361)); have n5_ := Aside0.mk ((by rw [hg]; exact Nat.ne_of_lt (blk_lt (g := gb354) (o := .cells #[.slice A0_0 l0_0.length c0_0, .slice (some ad360) l0_1.length c0_1] 31 (0, 0)) (by (with_reducible repeat (first | refine blk_drewN ?_ _ | refine blk_drew ?_ | refine blk_alloc ?_ _)); exact BK354.out)) : gb354 ≠ gb361)); have n6_ := Aside0.mk ((by rw [hg]; exact Nat.ne_of_gt (blk_lt (g := gb354) (o := .cells #[.slice A0_0 l0_0.length c0_0, .slice (some ad360) l0_1.length c0_1] 31 (0, 0)) (by (with_reducible repeat (first | refine blk_drewN ?_ _ | refine blk_drew ?_ | refine blk_alloc ?_ _)); exact BK354.out)) : gb361 ≠ gb354)); clear BK354; clear HB; have BK354 := n0_; have HB := n1_; have BK361 := n2_; have GW361 := n3_; have GE361 := n4_; have NB354_361 := n5_; have NB361_354 := n6_; clear n0_ n1_ n2_ n3_ n4_ n5_ n6_; clear hb hbox hg; have hnb24 := NB361_354.out; have hnc24 := NB354_361.out; have hcz25_0 : w23.cell? ⟨gb361, 0, none⟩ = some (.int .i64 0) := (blk_cell BK361.out 0).trans rfl; have hcz25_1 : w23.cell? ⟨gb361, 1, none⟩ = some (.int .i64 0) := (blk_cell BK361.out 1).trans rfl; have hcz25_2 : w23.cell? ⟨gb361, 2, none⟩ = some (.int .i64 0) := (blk_cell BK361.out 2).trans rfl; have hfz25_0 := blk_frozen BK361.out 0; have hfz25_1 := blk_frozen BK361.out 1; have hfz25_2 := blk_frozen BK361.out 2))
       (try simp only [Act.put, List.setIfInBounds_toArray, List.set_cons_zero, List.set_cons_succ])
       go_cut [68] (fun v68 wc => ∃ (kq : Nat) (x68_20 : Bool), v68 = .bool x68_20 ∧ Aside0 (spec_NetOk.j3 kq x4_3 x68_20 l0_0 l0_1 ((rd_T66 l0_1 x4_3).f0.f0) ((rd_T66 l0_1 x4_3).f0.f1) ((rd_T66 l0_1 x4_3).f1) = some r) ∧ Aside0 (kq ≤ k3) ∧ Aside0 (wc.heap[gb354]? = some (.cells #[(.slice A0_0 l0_0.length c0_0), (.slice (some ad360) l0_1.length c0_1)] 31 (0, 0))) ∧ Aside0 (wc.heap[gb361]? = some (.cells #[.int .i64 ((rd_T66 l0_1 x4_3).f0.f0), .int .i64 ((rd_T66 l0_1 x4_3).f0.f1), .int .i64 ((rd_T66 l0_1 x4_3).f1)] 66 (0, 0))) ∧ Aside0 (Below w.heap.size w wc))
       case first =>
        have H := HC21.out
        clear HC21
        replace H := Option.bind_eq_some_iff.mp H
        obtain ⟨t362, A260, H⟩ := H
        replace H : (if t362 = true then (if ((rd_T66 l0_1 x4_3).f0.f0) = 1 then (spec_NetOk.j3 k3 x4_3 true l0_0 l0_1 ((rd_T66 l0_1 x4_3).f0.f0) ((rd_T66 l0_1 x4_3).f0.f1) ((rd_T66 l0_1 x4_3).f1)) else (if ((rd_T66 l0_1 x4_3).f1) < 0 then (spec_NetOk.j3 k3 x4_3 true l0_0 l0_1 ((rd_T66 l0_1 x4_3).f0.f0) ((rd_T66 l0_1 x4_3).f0.f1) ((rd_T66 l0_1 x4_3).f1)) else (spec_NetOk.j3 k3 x4_3 (decide (((rd_T66 l0_1 x4_3).f1) ≥ (l0_0.length : Int))) l0_0 l0_1 ((rd_T66 l0_1 x4_3).f0.f0) ((rd_T66 l0_1 x4_3).f0.f1) ((rd_T66 l0_1 x4_3).f1)))) else (spec_NetOk.j3 k3 x4_3 true l0_0 l0_1 ((rd_T66 l0_1 x4_3).f0.f0) ((rd_T66 l0_1 x4_3).f0.f1) ((rd_T66 l0_1 x4_3).f1))) = some r := H
        have A26 := Aside0.mk A260
        clear A260
        by_cases c27 : t362 = true
        rotate_left
        · replace c27 := Bool.eq_false_iff.mpr c27
          subst c27
          have H1 : (spec_NetOk.j3 k3 x4_3 true l0_0 l0_1 ((rd_T66 l0_1 x4_3).f0.f0) ((rd_T66 l0_1 x4_3).f0.f1) ((rd_T66 l0_1 x4_3).f1)) = some r := by rw [if_neg (show ¬ (false = true) by decide)] at H; exact H
          clear H
          have H := H1
          clear H1
          have H' := Aside0.mk H
          clear H
          have hnb43 := NB361_354.out
          have hnc43 := NB354_361.out
          have hcz44_0 : w23.cell? ⟨gb361, 0, none⟩ = some (.int .i64 0) := (blk_cell BK361.out 0).trans rfl
          have hcz44_1 : w23.cell? ⟨gb361, 1, none⟩ = some (.int .i64 0) := (blk_cell BK361.out 1).trans rfl
          have hcz44_2 : w23.cell? ⟨gb361, 2, none⟩ = some (.int .i64 0) := (blk_cell BK361.out 2).trans rfl
          have hfz44_0 := blk_frozen BK361.out 0
          have hfz44_1 := blk_frozen BK361.out 1
          have hfz44_2 := blk_frozen BK361.out 2
          go_wp2_with (first | ((with_reducible refine gate_callee (f := 37) rfl ?_); refine goesL_ (some 48) rfl rfl Tryz.func37 (by kernel_rfl) rfl #[.agg #[.int .i64 ((rd_T66 l0_1 x4_3).f0.f0), .int .i64 ((rd_T66 l0_1 x4_3).f0.f1)]] rfl (by (try simp only [List.map_toArray, List.map_cons, List.map_nil]); first | done | rfl | (simp only [List.length_drop, List.length_take]; rfl)) ?_; (with_reducible refine (spec_AddrOk.calls ((rd_T66 l0_1 x4_3).f0.f0) ((rd_T66 l0_1 x4_3).f0.f1) false _ A26.out).mono ?_); rintro e w45 ⟨rfl, hb⟩; refine ⟨_, rfl, ?_⟩; have n0_ := Aside0.mk (blk_below (g := gb354) (o := .cells #[.slice A0_0 l0_0.length c0_0, .slice (some ad360) l0_1.length c0_1] 31 (0, 0)) (by (with_reducible repeat (first | refine blk_drewN ?_ _ | refine blk_drew ?_ | refine blk_alloc ?_ _)); refine blk_far ?_ NB354_361.out _; (with_reducible repeat (first | refine blk_drewN ?_ _ | refine blk_drew ?_ | refine blk_alloc ?_ _)); refine blk_far ?_ NB354_361.out _; (with_reducible repeat (first | refine blk_drewN ?_ _ | refine blk_drew ?_ | refine blk_alloc ?_ _)); refine blk_far ?_ NB354_361.out _; (with_reducible repeat (first | refine blk_drewN ?_ _ | refine blk_drew ?_ | refine blk_alloc ?_ _)); exact BK354.out) hb); have n1_ := Aside0.mk (blk_below (g := gb361) (o := .cells #[.int .i64 ((rd_T66 l0_1 x4_3).f0.f0), .int .i64 ((rd_T66 l0_1 x4_3).f0.f1), .int .i64 ((rd_T66 l0_1 x4_3).f1)] 66 (0, 0)) (by (with_reducible repeat (first | refine blk_drewN ?_ _ | refine blk_drew ?_ | refine blk_alloc ?_ _)); refine blk_put (cs := #[.int .i64 ((rd_T66 l0_1 x4_3).f0.f0), .int .i64 ((rd_T66 l0_1 x4_3).f0.f1), .int .i64 0]) ?_ 2 _ rfl; (with_reducible repeat (first | refine blk_drewN ?_ _ | refine blk_drew ?_ | refine blk_alloc ?_ _)); refine blk_put (cs := #[.int .i64 ((rd_T66 l0_1 x4_3).f0.f0), .int .i64 0, .int .i64 0]) ?_ 1 _ rfl; (with_reducible repeat (first | refine blk_drewN ?_ _ | refine blk_drew ?_ | refine blk_alloc ?_ _)); refine blk_put (cs := #[.int .i64 0, .int .i64 0, .int .i64 0]) ?_ 0 _ rfl; (with_reducible repeat (first | refine blk_drewN ?_ _ | refine blk_drew ?_ | refine blk_alloc ?_ _)); exact BK361.out) hb); have n2_ := Aside0.mk (below_step (by repeat (first | (with_reducible first | exact HB.out | apply below_alloc | apply pw_below_drewN | apply below_drew1 | refine below_set ?_ GE354.out | refine below_set ?_ GE361.out) | exact HB.out)) hb); clear BK354; clear BK361; clear HB; have BK354 := n0_; have BK361 := n1_; have HB := n2_; clear n0_ n1_ n2_; (try clear hb); (try clear hb2); (try clear hk); (try clear hi)))
          go_meet
          case rel => exact ⟨_, (true), (by first | rfl | (simp; done) | (simp [*]; done)), H', ⟨by have := HJ1.out; have := HK2.out; have := HK3.out; first | omega | exact Nat.le_refl _⟩, ⟨by (with_reducible repeat (first | refine blk_drewN ?_ _ | refine blk_drew ?_ | refine blk_alloc ?_ _)); exact BK354.out⟩, ⟨by (with_reducible repeat (first | refine blk_drewN ?_ _ | refine blk_drew ?_ | refine blk_alloc ?_ _)); exact BK361.out⟩, ⟨by repeat (first | (with_reducible first | exact HB.out | apply below_alloc | apply pw_below_drewN | apply below_drew1 | refine below_set ?_ GE354.out | refine below_set ?_ GE361.out) | exact HB.out)⟩⟩
        subst c27
        have H1 : (if ((rd_T66 l0_1 x4_3).f0.f0) = 1 then (spec_NetOk.j3 k3 x4_3 true l0_0 l0_1 ((rd_T66 l0_1 x4_3).f0.f0) ((rd_T66 l0_1 x4_3).f0.f1) ((rd_T66 l0_1 x4_3).f1)) else (if ((rd_T66 l0_1 x4_3).f1) < 0 then (spec_NetOk.j3 k3 x4_3 true l0_0 l0_1 ((rd_T66 l0_1 x4_3).f0.f0) ((rd_T66 l0_1 x4_3).f0.f1) ((rd_T66 l0_1 x4_3).f1)) else (spec_NetOk.j3 k3 x4_3 (decide (((rd_T66 l0_1 x4_3).f1) ≥ (l0_0.length : Int))) l0_0 l0_1 ((rd_T66 l0_1 x4_3).f0.f0) ((rd_T66 l0_1 x4_3).f0.f1) ((rd_T66 l0_1 x4_3).f1)))) = some r := by rw [if_pos rfl] at H; exact H
        clear H
        have H := H1
        clear H1
        by_cases c28 : ((rd_T66 l0_1 x4_3).f0.f0) = 1
        · rw [if_pos c28] at H
          have c28b0 : (((rd_T66 l0_1 x4_3).f0.f0) == 1) = true := beq_iff_eq.mpr c28
          have c28b1 : (((rd_T66 l0_1 x4_3).f0.f0) != 1) = false := bne_eq_false_iff_eq.mpr c28
          clear c28
          (first | rw [c28b0] | (simp only [i64_w, i32_w]; rw [c28b0]) | skip)
          have H' := Aside0.mk H
          clear H
          have hnb29 := NB361_354.out
          have hnc29 := NB354_361.out
          have hcz30_0 : w23.cell? ⟨gb361, 0, none⟩ = some (.int .i64 0) := (blk_cell BK361.out 0).trans rfl
          have hcz30_1 : w23.cell? ⟨gb361, 1, none⟩ = some (.int .i64 0) := (blk_cell BK361.out 1).trans rfl
          have hcz30_2 : w23.cell? ⟨gb361, 2, none⟩ = some (.int .i64 0) := (blk_cell BK361.out 2).trans rfl
          have hfz30_0 := blk_frozen BK361.out 0
          have hfz30_1 := blk_frozen BK361.out 1
          have hfz30_2 := blk_frozen BK361.out 2
          go_wp2_with (first | ((with_reducible refine gate_callee (f := 37) rfl ?_); refine goesL_ (some 48) rfl rfl Tryz.func37 (by kernel_rfl) rfl #[.agg #[.int .i64 ((rd_T66 l0_1 x4_3).f0.f0), .int .i64 ((rd_T66 l0_1 x4_3).f0.f1)]] rfl (by (try simp only [List.map_toArray, List.map_cons, List.map_nil]); first | done | rfl | (simp only [List.length_drop, List.length_take]; rfl)) ?_; (with_reducible refine (spec_AddrOk.calls ((rd_T66 l0_1 x4_3).f0.f0) ((rd_T66 l0_1 x4_3).f0.f1) true _ A26.out).mono ?_); rintro e w31 ⟨rfl, hb⟩; refine ⟨_, rfl, ?_⟩; have n0_ := Aside0.mk (blk_below (g := gb354) (o := .cells #[.slice A0_0 l0_0.length c0_0, .slice (some ad360) l0_1.length c0_1] 31 (0, 0)) (by (with_reducible repeat (first | refine blk_drewN ?_ _ | refine blk_drew ?_ | refine blk_alloc ?_ _)); refine blk_far ?_ NB354_361.out _; (with_reducible repeat (first | refine blk_drewN ?_ _ | refine blk_drew ?_ | refine blk_alloc ?_ _)); refine blk_far ?_ NB354_361.out _; (with_reducible repeat (first | refine blk_drewN ?_ _ | refine blk_drew ?_ | refine blk_alloc ?_ _)); refine blk_far ?_ NB354_361.out _; (with_reducible repeat (first | refine blk_drewN ?_ _ | refine blk_drew ?_ | refine blk_alloc ?_ _)); exact BK354.out) hb); have n1_ := Aside0.mk (blk_below (g := gb361) (o := .cells #[.int .i64 ((rd_T66 l0_1 x4_3).f0.f0), .int .i64 ((rd_T66 l0_1 x4_3).f0.f1), .int .i64 ((rd_T66 l0_1 x4_3).f1)] 66 (0, 0)) (by (with_reducible repeat (first | refine blk_drewN ?_ _ | refine blk_drew ?_ | refine blk_alloc ?_ _)); refine blk_put (cs := #[.int .i64 ((rd_T66 l0_1 x4_3).f0.f0), .int .i64 ((rd_T66 l0_1 x4_3).f0.f1), .int .i64 0]) ?_ 2 _ rfl; (with_reducible repeat (first | refine blk_drewN ?_ _ | refine blk_drew ?_ | refine blk_alloc ?_ _)); refine blk_put (cs := #[.int .i64 ((rd_T66 l0_1 x4_3).f0.f0), .int .i64 0, .int .i64 0]) ?_ 1 _ rfl; (with_reducible repeat (first | refine blk_drewN ?_ _ | refine blk_drew ?_ | refine blk_alloc ?_ _)); refine blk_put (cs := #[.int .i64 0, .int .i64 0, .int .i64 0]) ?_ 0 _ rfl; (with_reducible repeat (first | refine blk_drewN ?_ _ | refine blk_drew ?_ | refine blk_alloc ?_ _)); exact BK361.out) hb); have n2_ := Aside0.mk (below_step (by repeat (first | (with_reducible first | exact HB.out | apply below_alloc | apply pw_below_drewN | apply below_drew1 | refine below_set ?_ GE354.out | refine below_set ?_ GE361.out) | exact HB.out)) hb); clear BK354; clear BK361; clear HB; have BK354 := n0_; have BK361 := n1_; have HB := n2_; clear n0_ n1_ n2_; (try clear hb); (try clear hb2); (try clear hk); (try clear hi); have hcz32_0 : w31.cell? ⟨gb361, 0, none⟩ = some (.int .i64 ((rd_T66 l0_1 x4_3).f0.f0)) := (blk_cell BK361.out 0).trans rfl; have hcz32_1 : w31.cell? ⟨gb361, 1, none⟩ = some (.int .i64 ((rd_T66 l0_1 x4_3).f0.f1)) := (blk_cell BK361.out 1).trans rfl; have hcz32_2 : w31.cell? ⟨gb361, 2, none⟩ = some (.int .i64 ((rd_T66 l0_1 x4_3).f1)) := (blk_cell BK361.out 2).trans rfl; have hfz32_0 := blk_frozen BK361.out 0; have hfz32_1 := blk_frozen BK361.out 1; have hfz32_2 := blk_frozen BK361.out 2))
          go_meet
          case rel => exact ⟨_, (true), (by first | rfl | (simp; done) | (simp [*]; done)), H', ⟨by have := HJ1.out; have := HK2.out; have := HK3.out; first | omega | exact Nat.le_refl _⟩, ⟨by (with_reducible repeat (first | refine blk_drewN ?_ _ | refine blk_drew ?_ | refine blk_alloc ?_ _)); exact BK354.out⟩, ⟨by (with_reducible repeat (first | refine blk_drewN ?_ _ | refine blk_drew ?_ | refine blk_alloc ?_ _)); exact BK361.out⟩, ⟨by repeat (first | (with_reducible first | exact HB.out | apply below_alloc | apply pw_below_drewN | apply below_drew1 | refine below_set ?_ GE354.out | refine below_set ?_ GE361.out) | exact HB.out)⟩⟩
        rw [if_neg c28] at H
        have c28b0 : (((rd_T66 l0_1 x4_3).f0.f0) == 1) = false := beq_eq_false_iff_ne.mpr c28
        have c28b1 : (((rd_T66 l0_1 x4_3).f0.f0) != 1) = true := bne_iff_ne.mpr c28
        (first | rw [c28b0] | (simp only [i64_w, i32_w]; rw [c28b0]) | skip)
        by_cases c33 : ((rd_T66 l0_1 x4_3).f1) < 0
        · rw [if_pos c33] at H
          have c33b0 : decide (((rd_T66 l0_1 x4_3).f1) < 0) = true := decide_eq_true c33
          clear c33
          have H' := Aside0.mk H
          clear H
          have hnb34 := NB361_354.out
          have hnc34 := NB354_361.out
          have hcz35_0 : w23.cell? ⟨gb361, 0, none⟩ = some (.int .i64 0) := (blk_cell BK361.out 0).trans rfl
          have hcz35_1 : w23.cell? ⟨gb361, 1, none⟩ = some (.int .i64 0) := (blk_cell BK361.out 1).trans rfl
          have hcz35_2 : w23.cell? ⟨gb361, 2, none⟩ = some (.int .i64 0) := (blk_cell BK361.out 2).trans rfl
          have hfz35_0 := blk_frozen BK361.out 0
          have hfz35_1 := blk_frozen BK361.out 1
          have hfz35_2 := blk_frozen BK361.out 2
          go_wp2_with (first | ((with_reducible refine gate_callee (f := 37) rfl ?_); refine goesL_ (some 48) rfl rfl Tryz.func37 (by kernel_rfl) rfl #[.agg #[.int .i64 ((rd_T66 l0_1 x4_3).f0.f0), .int .i64 ((rd_T66 l0_1 x4_3).f0.f1)]] rfl (by (try simp only [List.map_toArray, List.map_cons, List.map_nil]); first | done | rfl | (simp only [List.length_drop, List.length_take]; rfl)) ?_; (with_reducible refine (spec_AddrOk.calls ((rd_T66 l0_1 x4_3).f0.f0) ((rd_T66 l0_1 x4_3).f0.f1) true _ A26.out).mono ?_); rintro e w36 ⟨rfl, hb⟩; refine ⟨_, rfl, ?_⟩; have n0_ := Aside0.mk (blk_below (g := gb354) (o := .cells #[.slice A0_0 l0_0.length c0_0, .slice (some ad360) l0_1.length c0_1] 31 (0, 0)) (by (with_reducible repeat (first | refine blk_drewN ?_ _ | refine blk_drew ?_ | refine blk_alloc ?_ _)); refine blk_far ?_ NB354_361.out _; (with_reducible repeat (first | refine blk_drewN ?_ _ | refine blk_drew ?_ | refine blk_alloc ?_ _)); refine blk_far ?_ NB354_361.out _; (with_reducible repeat (first | refine blk_drewN ?_ _ | refine blk_drew ?_ | refine blk_alloc ?_ _)); refine blk_far ?_ NB354_361.out _; (with_reducible repeat (first | refine blk_drewN ?_ _ | refine blk_drew ?_ | refine blk_alloc ?_ _)); exact BK354.out) hb); have n1_ := Aside0.mk (blk_below (g := gb361) (o := .cells #[.int .i64 ((rd_T66 l0_1 x4_3).f0.f0), .int .i64 ((rd_T66 l0_1 x4_3).f0.f1), .int .i64 ((rd_T66 l0_1 x4_3).f1)] 66 (0, 0)) (by (with_reducible repeat (first | refine blk_drewN ?_ _ | refine blk_drew ?_ | refine blk_alloc ?_ _)); refine blk_put (cs := #[.int .i64 ((rd_T66 l0_1 x4_3).f0.f0), .int .i64 ((rd_T66 l0_1 x4_3).f0.f1), .int .i64 0]) ?_ 2 _ rfl; (with_reducible repeat (first | refine blk_drewN ?_ _ | refine blk_drew ?_ | refine blk_alloc ?_ _)); refine blk_put (cs := #[.int .i64 ((rd_T66 l0_1 x4_3).f0.f0), .int .i64 0, .int .i64 0]) ?_ 1 _ rfl; (with_reducible repeat (first | refine blk_drewN ?_ _ | refine blk_drew ?_ | refine blk_alloc ?_ _)); refine blk_put (cs := #[.int .i64 0, .int .i64 0, .int .i64 0]) ?_ 0 _ rfl; (with_reducible repeat (first | refine blk_drewN ?_ _ | refine blk_drew ?_ | refine blk_alloc ?_ _)); exact BK361.out) hb); have n2_ := Aside0.mk (below_step (by repeat (first | (with_reducible first | exact HB.out | apply below_alloc | apply pw_below_drewN | apply below_drew1 | refine below_set ?_ GE354.out | refine below_set ?_ GE361.out) | exact HB.out)) hb); clear BK354; clear BK361; clear HB; have BK354 := n0_; have BK361 := n1_; have HB := n2_; clear n0_ n1_ n2_; (try clear hb); (try clear hb2); (try clear hk); (try clear hi); have hcz37_0 : w36.cell? ⟨gb361, 0, none⟩ = some (.int .i64 ((rd_T66 l0_1 x4_3).f0.f0)) := (blk_cell BK361.out 0).trans rfl; have hcz37_1 : w36.cell? ⟨gb361, 1, none⟩ = some (.int .i64 ((rd_T66 l0_1 x4_3).f0.f1)) := (blk_cell BK361.out 1).trans rfl; have hcz37_2 : w36.cell? ⟨gb361, 2, none⟩ = some (.int .i64 ((rd_T66 l0_1 x4_3).f1)) := (blk_cell BK361.out 2).trans rfl; have hfz37_0 := blk_frozen BK361.out 0; have hfz37_1 := blk_frozen BK361.out 1; have hfz37_2 := blk_frozen BK361.out 2))
          go_meet
          case rel => exact ⟨_, (true), (by first | rfl | (simp; done) | (simp [*]; done)), H', ⟨by have := HJ1.out; have := HK2.out; have := HK3.out; first | omega | exact Nat.le_refl _⟩, ⟨by (with_reducible repeat (first | refine blk_drewN ?_ _ | refine blk_drew ?_ | refine blk_alloc ?_ _)); exact BK354.out⟩, ⟨by (with_reducible repeat (first | refine blk_drewN ?_ _ | refine blk_drew ?_ | refine blk_alloc ?_ _)); exact BK361.out⟩, ⟨by repeat (first | (with_reducible first | exact HB.out | apply below_alloc | apply pw_below_drewN | apply below_drew1 | refine below_set ?_ GE354.out | refine below_set ?_ GE361.out) | exact HB.out)⟩⟩
        rw [if_neg c33] at H
        have c33b0 : decide (((rd_T66 l0_1 x4_3).f1) < 0) = false := decide_eq_false c33
        clear c33
        have H' := Aside0.mk H
        clear H
        have hnb38 := NB361_354.out
        have hnc38 := NB354_361.out
        have hcz39_0 : w23.cell? ⟨gb361, 0, none⟩ = some (.int .i64 0) := (blk_cell BK361.out 0).trans rfl
        have hcz39_1 : w23.cell? ⟨gb361, 1, none⟩ = some (.int .i64 0) := (blk_cell BK361.out 1).trans rfl
        have hcz39_2 : w23.cell? ⟨gb361, 2, none⟩ = some (.int .i64 0) := (blk_cell BK361.out 2).trans rfl
        have hfz39_0 := blk_frozen BK361.out 0
        have hfz39_1 := blk_frozen BK361.out 1
        have hfz39_2 := blk_frozen BK361.out 2
        go_wp2_with (first | ((with_reducible refine gate_callee (f := 37) rfl ?_); refine goesL_ (some 48) rfl rfl Tryz.func37 (by kernel_rfl) rfl #[.agg #[.int .i64 ((rd_T66 l0_1 x4_3).f0.f0), .int .i64 ((rd_T66 l0_1 x4_3).f0.f1)]] rfl (by (try simp only [List.map_toArray, List.map_cons, List.map_nil]); first | done | rfl | (simp only [List.length_drop, List.length_take]; rfl)) ?_; (with_reducible refine (spec_AddrOk.calls ((rd_T66 l0_1 x4_3).f0.f0) ((rd_T66 l0_1 x4_3).f0.f1) true _ A26.out).mono ?_); rintro e w40 ⟨rfl, hb⟩; refine ⟨_, rfl, ?_⟩; have n0_ := Aside0.mk (blk_below (g := gb354) (o := .cells #[.slice A0_0 l0_0.length c0_0, .slice (some ad360) l0_1.length c0_1] 31 (0, 0)) (by (with_reducible repeat (first | refine blk_drewN ?_ _ | refine blk_drew ?_ | refine blk_alloc ?_ _)); refine blk_far ?_ NB354_361.out _; (with_reducible repeat (first | refine blk_drewN ?_ _ | refine blk_drew ?_ | refine blk_alloc ?_ _)); refine blk_far ?_ NB354_361.out _; (with_reducible repeat (first | refine blk_drewN ?_ _ | refine blk_drew ?_ | refine blk_alloc ?_ _)); refine blk_far ?_ NB354_361.out _; (with_reducible repeat (first | refine blk_drewN ?_ _ | refine blk_drew ?_ | refine blk_alloc ?_ _)); exact BK354.out) hb); have n1_ := Aside0.mk (blk_below (g := gb361) (o := .cells #[.int .i64 ((rd_T66 l0_1 x4_3).f0.f0), .int .i64 ((rd_T66 l0_1 x4_3).f0.f1), .int .i64 ((rd_T66 l0_1 x4_3).f1)] 66 (0, 0)) (by (with_reducible repeat (first | refine blk_drewN ?_ _ | refine blk_drew ?_ | refine blk_alloc ?_ _)); refine blk_put (cs := #[.int .i64 ((rd_T66 l0_1 x4_3).f0.f0), .int .i64 ((rd_T66 l0_1 x4_3).f0.f1), .int .i64 0]) ?_ 2 _ rfl; (with_reducible repeat (first | refine blk_drewN ?_ _ | refine blk_drew ?_ | refine blk_alloc ?_ _)); refine blk_put (cs := #[.int .i64 ((rd_T66 l0_1 x4_3).f0.f0), .int .i64 0, .int .i64 0]) ?_ 1 _ rfl; (with_reducible repeat (first | refine blk_drewN ?_ _ | refine blk_drew ?_ | refine blk_alloc ?_ _)); refine blk_put (cs := #[.int .i64 0, .int .i64 0, .int .i64 0]) ?_ 0 _ rfl; (with_reducible repeat (first | refine blk_drewN ?_ _ | refine blk_drew ?_ | refine blk_alloc ?_ _)); exact BK361.out) hb); have n2_ := Aside0.mk (below_step (by repeat (first | (with_reducible first | exact HB.out | apply below_alloc | apply pw_below_drewN | apply below_drew1 | refine below_set ?_ GE354.out | refine below_set ?_ GE361.out) | exact HB.out)) hb); clear BK354; clear BK361; clear HB; have BK354 := n0_; have BK361 := n1_; have HB := n2_; clear n0_ n1_ n2_; (try clear hb); (try clear hb2); (try clear hk); (try clear hi); have hcz41_0 : w40.cell? ⟨gb361, 0, none⟩ = some (.int .i64 ((rd_T66 l0_1 x4_3).f0.f0)) := (blk_cell BK361.out 0).trans rfl; have hcz41_1 : w40.cell? ⟨gb361, 1, none⟩ = some (.int .i64 ((rd_T66 l0_1 x4_3).f0.f1)) := (blk_cell BK361.out 1).trans rfl; have hcz41_2 : w40.cell? ⟨gb361, 2, none⟩ = some (.int .i64 ((rd_T66 l0_1 x4_3).f1)) := (blk_cell BK361.out 2).trans rfl; have hfz41_0 := blk_frozen BK361.out 0; have hfz41_1 := blk_frozen BK361.out 1; have hfz41_2 := blk_frozen BK361.out 2; have hcz42_0 : w40.cell? ⟨gb354, 0, none⟩ = some (.slice A0_0 l0_0.length c0_0) := (blk_cell BK354.out 0).trans rfl; have hcz42_1 : w40.cell? ⟨gb354, 1, none⟩ = some (.slice (some ad360) l0_1.length c0_1) := (blk_cell BK354.out 1).trans rfl; have hfz42_0 := blk_frozen BK354.out 0; have hfz42_1 := blk_frozen BK354.out 1))
        go_meet
        case rel => exact ⟨_, (decide (((rd_T66 l0_1 x4_3).f1) ≥ (l0_0.length : Int))), (by first | rfl | (simp; done) | (simp [*]; done)), H', ⟨by have := HJ1.out; have := HK2.out; have := HK3.out; first | omega | exact Nat.le_refl _⟩, ⟨by (with_reducible repeat (first | refine blk_drewN ?_ _ | refine blk_drew ?_ | refine blk_alloc ?_ _)); exact BK354.out⟩, ⟨by (with_reducible repeat (first | refine blk_drewN ?_ _ | refine blk_drew ?_ | refine blk_alloc ?_ _)); exact BK361.out⟩, ⟨by repeat (first | (with_reducible first | exact HB.out | apply below_alloc | apply pw_below_drewN | apply below_drew1 | refine below_set ?_ GE354.out | refine below_set ?_ GE361.out) | exact HB.out)⟩⟩
       case rest =>
        clear HC21
        try clear c1
        try clear c2
        try clear p2
        try clear c3
        try clear p3
        try clear q3
        try clear hx3
        try clear c4
        try clear c4b0
        try clear c4b1
        try clear p6
        try clear c7
        try clear c8
        try clear c8b0
        try clear c9
        try clear c9b0
        try clear c11
        try clear c13
        try clear c19
        try clear c19b0
        try clear c20
        try clear c20b0
        try clear c24
        try clear c27
        try clear c28
        try clear c28b0
        try clear c28b1
        try clear c29
        try clear c33
        try clear c33b0
        try clear c34
        try clear p35
        try clear q35
        try clear hx35
        try clear c36
        try clear p36
        try clear q36
        try clear hx36
        try clear c37
        try clear c38
        try clear c43
        try clear hcz12_0
        try clear hcz12_1
        try clear hcz15_0
        try clear hcz15_1
        try clear hcz18_0
        try clear hcz18_1
        try clear hcz22_0
        try clear hcz22_1
        try clear hcz25_0
        try clear hcz25_1
        try clear hcz25_2
        try clear hcz30_0
        try clear hcz30_1
        try clear hcz30_2
        try clear hcz32_0
        try clear hcz32_1
        try clear hcz32_2
        try clear hcz35_0
        try clear hcz35_1
        try clear hcz35_2
        try clear hcz37_0
        try clear hcz37_1
        try clear hcz37_2
        try clear hcz39_0
        try clear hcz39_1
        try clear hcz39_2
        try clear hcz41_0
        try clear hcz41_1
        try clear hcz41_2
        try clear hcz42_0
        try clear hcz42_1
        try clear hcz44_0
        try clear hcz44_1
        try clear hcz44_2
        try clear hcz5_0
        try clear hcz5_1
        try clear hcz6_0
        try clear hcz6_1
        try clear hfz12_0
        try clear hfz12_1
        try clear hfz15_0
        try clear hfz15_1
        try clear hfz18_0
        try clear hfz18_1
        try clear hfz22_0
        try clear hfz22_1
        try clear hfz25_0
        try clear hfz25_1
        try clear hfz25_2
        try clear hfz30_0
        try clear hfz30_1
        try clear hfz30_2
        try clear hfz32_0
        try clear hfz32_1
        try clear hfz32_2
        try clear hfz35_0
        try clear hfz35_1
        try clear hfz35_2
        try clear hfz37_0
        try clear hfz37_1
        try clear hfz37_2
        try clear hfz39_0
        try clear hfz39_1
        try clear hfz39_2
        try clear hfz41_0
        try clear hfz41_1
        try clear hfz41_2
        try clear hfz42_0
        try clear hfz42_1
        try clear hfz44_0
        try clear hfz44_1
        try clear hfz44_2
        try clear hfz5_0
        try clear hfz5_1
        try clear hfz6_0
        try clear hfz6_1
        try clear hx355_0
        try clear hx355_1
        try clear hx355_10
        try clear hx355_11
        try clear hx355_2
        try clear hx355_3
        try clear hx355_4
        try clear hx355_5
        try clear hx355_6
        try clear hx355_7
        try clear hx355_8
        try clear hx355_9
        try clear hx360_0
        try clear hx360_1
        try clear hx360_2
        try clear p2
        try clear p3
        try clear p355
        try clear p360
        try clear p6
        try clear q3
        try clear q355
        try clear q360
        obtain ⟨kq, x68_20, rfl, HA, HJ20, BK354, BK361, HB⟩ := hcut
        cases kq with
        | zero => exact absurd HA.out (by simp [spec_NetOk.j3])
        | succ kj20 =>
         have H := HA.out
         clear HA
         simp only [spec_NetOk.j3] at H
         by_cases c46 : x68_20 = true
         · subst c46
           have H1 : (some false) = some r := by rw [if_pos rfl] at H; exact H
           clear H
           have H := H1
           clear H1
           obtain rfl := Option.some.inj H
           go_wp2
           go_ret
           exact ⟨by first | rfl | (simp [errW_none, errW_some] <;> rfl) | (simp [*, errW_none, errW_some] <;> rfl), by repeat (first | (with_reducible first | exact HB.out | apply below_alloc | apply pw_below_drewN | apply below_drew1 | refine below_set ?_ GE354.out | refine below_set ?_ GE361.out) | exact HB.out)⟩
         replace c46 := Bool.eq_false_iff.mpr c46
         subst c46
         have H1 : (spec_NetOk.l2 kj20 x4_3 0 l0_0 l0_1 ((rd_T66 l0_1 x4_3).f0.f0) ((rd_T66 l0_1 x4_3).f0.f1) ((rd_T66 l0_1 x4_3).f1)) = some r := by rw [if_neg (show ¬ (false = true) by decide)] at H; exact H
         clear H
         have H := H1
         clear H1
         have H' := Aside0.mk H
         clear H
         go_wp2
         go_loopg [6] kj20 (fun kq v6 w' => ∃ (x6_5 : Int), v6 = .int .i64 x6_5 ∧ Aside0 (spec_NetOk.l2 kq x4_3 x6_5 l0_0 l0_1 ((rd_T66 l0_1 x4_3).f0.f0) ((rd_T66 l0_1 x4_3).f0.f1) ((rd_T66 l0_1 x4_3).f1) = some r) ∧ Aside0 (kq ≤ kj20) ∧ Aside0 (w'.heap[gb354]? = some (.cells #[(.slice A0_0 l0_0.length c0_0), (.slice (some ad360) l0_1.length c0_1)] 31 (0, 0))) ∧ Aside0 (w'.heap[gb361]? = some (.cells #[.int .i64 ((rd_T66 l0_1 x4_3).f0.f0), .int .i64 ((rd_T66 l0_1 x4_3).f0.f1), .int .i64 ((rd_T66 l0_1 x4_3).f1)] 66 (0, 0))) ∧ Aside0 (Below w.heap.size w w'))
         case atStart => exact ⟨(0), (by first | rfl | (simp; done) | (simp [*]; done)), H', ⟨Nat.le_refl _⟩, ⟨by (with_reducible repeat (first | refine blk_drewN ?_ _ | refine blk_drew ?_ | refine blk_alloc ?_ _)); exact BK354.out⟩, ⟨by (with_reducible repeat (first | refine blk_drewN ?_ _ | refine blk_drew ?_ | refine blk_alloc ?_ _)); exact BK361.out⟩, ⟨by repeat (first | (with_reducible first | exact HB.out | apply below_alloc | apply pw_below_drewN | apply below_drew1 | refine below_set ?_ GE354.out | refine below_set ?_ GE361.out) | exact HB.out)⟩⟩
         case round =>
          clear H'
          try clear c1
          try clear c2
          try clear p2
          try clear c3
          try clear p3
          try clear q3
          try clear hx3
          try clear c4
          try clear c4b0
          try clear c4b1
          try clear p6
          try clear c7
          try clear c8
          try clear c8b0
          try clear c9
          try clear c9b0
          try clear c11
          try clear c13
          try clear c19
          try clear c19b0
          try clear c20
          try clear c20b0
          try clear c24
          try clear c27
          try clear c28
          try clear c28b0
          try clear c28b1
          try clear c29
          try clear c33
          try clear c33b0
          try clear c34
          try clear p35
          try clear q35
          try clear hx35
          try clear c36
          try clear p36
          try clear q36
          try clear hx36
          try clear c37
          try clear c38
          try clear c43
          try clear c46
          try clear hcz12_0
          try clear hcz12_1
          try clear hcz15_0
          try clear hcz15_1
          try clear hcz18_0
          try clear hcz18_1
          try clear hcz22_0
          try clear hcz22_1
          try clear hcz25_0
          try clear hcz25_1
          try clear hcz25_2
          try clear hcz30_0
          try clear hcz30_1
          try clear hcz30_2
          try clear hcz32_0
          try clear hcz32_1
          try clear hcz32_2
          try clear hcz35_0
          try clear hcz35_1
          try clear hcz35_2
          try clear hcz37_0
          try clear hcz37_1
          try clear hcz37_2
          try clear hcz39_0
          try clear hcz39_1
          try clear hcz39_2
          try clear hcz41_0
          try clear hcz41_1
          try clear hcz41_2
          try clear hcz42_0
          try clear hcz42_1
          try clear hcz44_0
          try clear hcz44_1
          try clear hcz44_2
          try clear hcz5_0
          try clear hcz5_1
          try clear hcz6_0
          try clear hcz6_1
          try clear hfz12_0
          try clear hfz12_1
          try clear hfz15_0
          try clear hfz15_1
          try clear hfz18_0
          try clear hfz18_1
          try clear hfz22_0
          try clear hfz22_1
          try clear hfz25_0
          try clear hfz25_1
          try clear hfz25_2
          try clear hfz30_0
          try clear hfz30_1
          try clear hfz30_2
          try clear hfz32_0
          try clear hfz32_1
          try clear hfz32_2
          try clear hfz35_0
          try clear hfz35_1
          try clear hfz35_2
          try clear hfz37_0
          try clear hfz37_1
          try clear hfz37_2
          try clear hfz39_0
          try clear hfz39_1
          try clear hfz39_2
          try clear hfz41_0
          try clear hfz41_1
          try clear hfz41_2
          try clear hfz42_0
          try clear hfz42_1
          try clear hfz44_0
          try clear hfz44_1
          try clear hfz44_2
          try clear hfz5_0
          try clear hfz5_1
          try clear hfz6_0
          try clear hfz6_1
          try clear hx355_0
          try clear hx355_1
          try clear hx355_10
          try clear hx355_11
          try clear hx355_2
          try clear hx355_3
          try clear hx355_4
          try clear hx355_5
          try clear hx355_6
          try clear hx355_7
          try clear hx355_8
          try clear hx355_9
          try clear hx360_0
          try clear hx360_1
          try clear hx360_2
          try clear p2
          try clear p3
          try clear p35
          try clear p355
          try clear p36
          try clear p360
          try clear p6
          try clear q3
          try clear q35
          try clear q355
          try clear q36
          try clear q360
          obtain ⟨x6_5, rfl, HA, HK5, BK354, BK361, HB⟩ := hrel
          cases gk with
          | zero => exact absurd HA.out (by simp [spec_NetOk.l2])
          | succ k5 =>
           have H := HA.out
           clear HA
           simp only [spec_NetOk.l2] at H
           by_cases c47 : x6_5 < x4_3
           rotate_left
           · rw [if_neg c47] at H
             have c47b0 : decide (x6_5 < x4_3) = false := decide_eq_false c47
             clear c47
             have H' := Aside0.mk H
             clear H
             go_wp2
             go_roundg k5
             case measure => have := HJ1.out; have := HK2.out; have := HK3.out; have := HJ20.out; have := HK5.out; omega
             case rel => exact ⟨(wrap64 (x4_3 + 1)), (by first | rfl | (simp; done) | (simp [*]; done)), H', ⟨by have := HJ1.out; have := HK2.out; have := HK3.out; have := HJ20.out; have := HK5.out; omega⟩, ⟨by (with_reducible repeat (first | refine blk_drewN ?_ _ | refine blk_drew ?_ | refine blk_alloc ?_ _)); exact BK354.out⟩, ⟨by repeat (first | (with_reducible first | exact HB.out | apply below_alloc | apply pw_below_drewN | apply below_drew1 | refine below_set ?_ GE354.out | refine below_set ?_ GE361.out) | exact HB.out)⟩⟩
           rw [if_pos c47] at H
           have c47b0 : decide (x6_5 < x4_3) = true := decide_eq_true c47
           clear c47
           by_cases c48 : 0 ≤ x6_5
           rotate_left
           · rw [if_neg c48] at H
             exact absurd H (by simp)
           rw [if_pos c48] at H
           have c48b0 : decide (0 ≤ x6_5) = true := decide_eq_true c48
           clear c48
           by_cases c49 : x6_5 < (l0_1.length : Int)
           rotate_left
           · rw [if_neg c49] at H
             exact absurd H (by simp)
           rw [if_pos c49] at H
           have c49b0 : decide (x6_5 < (l0_1.length : Int)) = true := decide_eq_true c49
           clear c49
           by_cases c50 : (((rd_T66 l0_1 x6_5).f0.f0) == ((rd_T66 l0_1 x4_3).f0.f0) && (((rd_T66 l0_1 x6_5).f0.f1) == ((rd_T66 l0_1 x4_3).f0.f1))) = true
           · rw [if_pos c50] at H
             have c50b0 : (((rd_T66 l0_1 x6_5).f0.f0) == ((rd_T66 l0_1 x4_3).f0.f0) && (((rd_T66 l0_1 x6_5).f0.f1) == ((rd_T66 l0_1 x4_3).f0.f1))) = true := c50
             (try (have c50b1 : decide (((rd_T66 l0_1 x6_5).f0.f0) = ((rd_T66 l0_1 x4_3).f0.f0) && (((rd_T66 l0_1 x6_5).f0.f1) == ((rd_T66 l0_1 x4_3).f0.f1))) = true := by simpa using c50))
             (try (have c50b2 : (((rd_T66 l0_1 x6_5).f0.f0) == ((rd_T66 l0_1 x4_3).f0.f0) && (((rd_T66 l0_1 x6_5).f0.f1) == ((rd_T66 l0_1 x4_3).f0.f1))) = true := by simpa using c50))
             clear c50
             obtain rfl := Option.some.inj H
             try go_wp2
             have n0_ := Aside0.mk (blk_drew BK354.out)
             have n1_ := Aside0.mk (blk_drew BK361.out)
             have n2_ := Aside0.mk (below_drew1 HB.out)
             clear BK354
             clear BK361
             clear HB
             have BK354 := n0_
             have BK361 := n1_
             have HB := n2_
             clear n0_ n1_ n2_
             have p363 : 0 ≤ (x6_5 : Int) := of_decide_eq_true (by first | (with_reducible assumption) | assumption)
             have q363 : x6_5 < (l0_1.length : Int) := of_decide_eq_true (by first | (with_reducible assumption) | assumption)
             obtain ⟨ad363, e363, hx363_0, hx363_1, hx363_2⟩ := at_T66 HR0_1.out x6_5 p363 q363
             have hw363_2 := hx363_2
             have hw363_1 := hx363_1
             have hw363_0 := hx363_0
             obtain rfl : ad360 = ad363 := (by injection e363)
             replace hx363_0 := (HB.out.cell (World.block_lt_of_cell? w _ hx363_0)).trans hx363_0
             replace hx363_1 := (HB.out.cell (World.block_lt_of_cell? w _ hx363_1)).trans hx363_1
             replace hx363_2 := (HB.out.cell (World.block_lt_of_cell? w _ hx363_2)).trans hx363_2
             replace p363 := eq_true p363
             replace q363 := eq_true q363
             refine start_ (n := 9) (S := fun w' => w'.cell? ⟨gb354, 0, none⟩ = some (.slice A0_0 l0_0.length c0_0) ∧ w'.cell? ⟨gb354, 1, none⟩ = some (.slice (some ad360) l0_1.length c0_1) ∧ w'.cell? ⟨gb361, 0, none⟩ = some (.int .i64 ((rd_T66 l0_1 x4_3).f0.f0)) ∧ w'.cell? ⟨gb361, 1, none⟩ = some (.int .i64 ((rd_T66 l0_1 x4_3).f0.f1)) ∧ w'.cell? ⟨gb361, 2, none⟩ = some (.int .i64 ((rd_T66 l0_1 x4_3).f1)) ∧ w'.cell? (ad360.add ((x6_5).toNat * 3)) = some (.int .i64 ((rd_T66 l0_1 x6_5).f0.f0)) ∧ w'.cell? ⟨(ad360.add ((x6_5).toNat * 3)).block, (ad360.add ((x6_5).toNat * 3)).off + 1, none⟩ = some (.int .i64 ((rd_T66 l0_1 x6_5).f0.f1)) ∧ w'.cell? ⟨(ad360.add ((x6_5).toNat * 3)).block, (ad360.add ((x6_5).toNat * 3)).off + 2, none⟩ = some (.int .i64 ((rd_T66 l0_1 x6_5).f1))) (ds := []) #[false, false, false, false, false, false, false, false, false] (by kernel_rfl) rfl rfl ⟨(blk_cell BK354.out 0).trans rfl, (blk_cell BK354.out 1).trans rfl, (blk_cell BK361.out 0).trans rfl, (blk_cell BK361.out 1).trans rfl, (blk_cell BK361.out 2).trans rfl, ((HB.out.cell (World.block_lt_of_cell? w _ hw363_0)).trans hw363_0), ((HB.out.cell (World.block_lt_of_cell? w _ hw363_1)).trans hw363_1), ((HB.out.cell (World.block_lt_of_cell? w _ hw363_2)).trans hw363_2)⟩ (fun hHeld => ?_); refine with_tabW spec_NetOk.tab17 spec_NetOk.bits17 (fun HT_ HW_ => ?_)
             generalize wr.drew = w51 at BK354 BK361 HB hx363_0 hx363_1 hx363_2 hHeld ⊢
             refine pure_ (i := 0) (N := some 74) (v := ?_) (a' := ?_) #[true, false, false, false, false, false, false, false, false] rfl rfl (any_of HT_.out (by kernel_rfl)) (fun _ _ _ h => h) (Or.inl ⟨by rfl, ?_⟩) ?_ ?_
             rotate_left
             · intro w'
               go_simp
               with_reducible rfl
             rotate_left
             · simp only [Act.put, List.setIfInBounds_toArray, List.set_cons_zero, List.set_cons_succ, i64_w, i32_w]
               rfl
             refine pure_ (i := 2) (N := some 76) (v := ?_) (a' := ?_) #[true, false, true, false, false, false, false, false, false] rfl rfl (any_of HT_.out (by kernel_rfl)) (fun _ _ _ h => h) (Or.inl ⟨by rfl, ?_⟩) ?_ ?_
             rotate_left
             · intro w'
               go_simp
               with_reducible rfl
             rotate_left
             · simp only [Act.put, List.setIfInBounds_toArray, List.set_cons_zero, List.set_cons_succ, i64_w, i32_w]
               rfl
             refine pure_ (i := 6) (N := some 80) (v := ?_) (a' := ?_) #[true, false, true, false, false, false, true, false, false] rfl rfl (any_of HT_.out (by kernel_rfl)) (fun _ _ _ h => h) (Or.inl ⟨by rfl, ?_⟩) ?_ ?_
             rotate_left
             · intro w'
               go_simp
               with_reducible rfl
             rotate_left
             · simp only [Act.put, List.setIfInBounds_toArray, List.set_cons_zero, List.set_cons_succ, i64_w, i32_w]
               rfl
             refine take_ (i := 1) (N := some 75) (v := ?_) (a' := ?_) #[true, true, true, false, false, false, true, false, false] rfl rfl (take_ofW HT_.out HW_.out (by kernel_rfl)) (fun _ _ _ h => h) (Or.inl ⟨by rfl, ?_⟩) hHeld ?_ ?_
             rotate_left
             · rintro w' ⟨s0, s1, s2, s3, s4, s5, s6, s7⟩
               go_simp
               with_reducible rfl
             rotate_left
             · simp only [Act.put, List.setIfInBounds_toArray, List.set_cons_zero, List.set_cons_succ, i64_w, i32_w]
               rfl
             refine pure_ (i := 3) (N := some 77) (v := ?_) (a' := ?_) #[true, true, true, true, false, false, true, false, false] rfl rfl (any_of HT_.out (by kernel_rfl)) (fun _ _ _ h => h) (Or.inl ⟨by rfl, ?_⟩) ?_ ?_
             rotate_left
             · intro w'
               go_simp
               with_reducible rfl
             rotate_left
             · simp only [Act.put, List.setIfInBounds_toArray, List.set_cons_zero, List.set_cons_succ, i64_w, i32_w]
               rfl
             refine pure_ (i := 4) (N := some 78) (v := ?_) (a' := ?_) #[true, true, true, true, true, false, true, false, false] rfl rfl (any_of HT_.out (by kernel_rfl)) (fun _ _ _ h => h) (Or.inl ⟨by rfl, ?_⟩) ?_ ?_
             rotate_left
             · intro w'
               go_simp
               with_reducible rfl
             rotate_left
             · simp only [Act.put, List.setIfInBounds_toArray, List.set_cons_zero, List.set_cons_succ, i64_w, i32_w]
               rfl
             refine take_ (i := 5) (N := some 79) (v := ?_) (a' := ?_) #[true, true, true, true, true, true, true, false, false] rfl rfl (take_ofW HT_.out HW_.out (by kernel_rfl)) (fun _ _ _ h => h) (Or.inl ⟨by rfl, ?_⟩) hHeld ?_ ?_
             rotate_left
             · rintro w' ⟨s0, s1, s2, s3, s4, s5, s6, s7⟩
               go_simp
               with_reducible rfl
             rotate_left
             · simp only [Act.put, List.setIfInBounds_toArray, List.set_cons_zero, List.set_cons_succ, i64_w, i32_w]
               rfl
             refine take_ (i := 7) (N := some 81) (v := ?_) (a' := ?_) #[true, true, true, true, true, true, true, true, false] rfl rfl (take_ofW HT_.out HW_.out (by kernel_rfl)) (fun _ _ _ h => h) (Or.inl ⟨by rfl, ?_⟩) hHeld ?_ ?_
             rotate_left
             · rintro w' ⟨s0, s1, s2, s3, s4, s5, s6, s7⟩
               go_simp
               with_reducible rfl
             rotate_left
             · simp only [Act.put, List.setIfInBounds_toArray, List.set_cons_zero, List.set_cons_succ, i64_w, i32_w]
               rfl
             refine pure_ (i := 8) (N := some 82) (v := ?_) (a' := ?_) #[true, true, true, true, true, true, true, true, true] rfl rfl (any_of HT_.out (by kernel_rfl)) (fun _ _ _ h => h) (Or.inl ⟨by rfl, ?_⟩) ?_ ?_
             rotate_left
             · intro w'
               go_simp
               with_reducible rfl
             rotate_left
             · simp only [Act.put, List.setIfInBounds_toArray, List.set_cons_zero, List.set_cons_succ, i64_w, i32_w]
               rfl
             refine done_ (done_of HT_.out (by kernel_rfl)) ?_
             try go_wp2
             go_ret
             exact ⟨by first | rfl | (simp [errW_none, errW_some] <;> rfl) | (simp [*, errW_none, errW_some] <;> rfl), by repeat (first | (with_reducible first | exact HB.out | apply below_alloc | apply pw_below_drewN | apply below_drew1 | refine below_set ?_ GE354.out | refine below_set ?_ GE361.out) | exact HB.out)⟩
           rw [if_neg c50] at H
           have c50b0 : (((rd_T66 l0_1 x6_5).f0.f0) == ((rd_T66 l0_1 x4_3).f0.f0) && (((rd_T66 l0_1 x6_5).f0.f1) == ((rd_T66 l0_1 x4_3).f0.f1))) = false := by simpa using c50
           (try (have c50b1 : decide (((rd_T66 l0_1 x6_5).f0.f0) = ((rd_T66 l0_1 x4_3).f0.f0) && (((rd_T66 l0_1 x6_5).f0.f1) == ((rd_T66 l0_1 x4_3).f0.f1))) = false := by simpa using c50))
           (try (have c50b2 : (((rd_T66 l0_1 x6_5).f0.f0) == ((rd_T66 l0_1 x4_3).f0.f0) && (((rd_T66 l0_1 x6_5).f0.f1) == ((rd_T66 l0_1 x4_3).f0.f1))) = false := by simpa using c50))
           (try (have c50b3 : ¬ (((rd_T66 l0_1 x6_5).f0.f0) = ((rd_T66 l0_1 x4_3).f0.f0) && (((rd_T66 l0_1 x6_5).f0.f1) == ((rd_T66 l0_1 x4_3).f0.f1))) := by simpa using c50))
           clear c50
           have H' := Aside0.mk H
           clear H
           try go_wp2
           have n0_ := Aside0.mk (blk_drew BK354.out)
           have n1_ := Aside0.mk (blk_drew BK361.out)
           have n2_ := Aside0.mk (below_drew1 HB.out)
           clear BK354
           clear BK361
           clear HB
           have BK354 := n0_
           have BK361 := n1_
           have HB := n2_
           clear n0_ n1_ n2_
           have p363 : 0 ≤ (x6_5 : Int) := of_decide_eq_true (by first | (with_reducible assumption) | assumption)
           have q363 : x6_5 < (l0_1.length : Int) := of_decide_eq_true (by first | (with_reducible assumption) | assumption)
           obtain ⟨ad363, e363, hx363_0, hx363_1, hx363_2⟩ := at_T66 HR0_1.out x6_5 p363 q363
           have hw363_2 := hx363_2
           have hw363_1 := hx363_1
           have hw363_0 := hx363_0
           obtain rfl : ad360 = ad363 := (by injection e363)
           replace hx363_0 := (HB.out.cell (World.block_lt_of_cell? w _ hx363_0)).trans hx363_0
           replace hx363_1 := (HB.out.cell (World.block_lt_of_cell? w _ hx363_1)).trans hx363_1
           replace hx363_2 := (HB.out.cell (World.block_lt_of_cell? w _ hx363_2)).trans hx363_2
           replace p363 := eq_true p363
           replace q363 := eq_true q363
           refine start_ (n := 9) (S := fun w' => w'.cell? ⟨gb354, 0, none⟩ = some (.slice A0_0 l0_0.length c0_0) ∧ w'.cell? ⟨gb354, 1, none⟩ = some (.slice (some ad360) l0_1.length c0_1) ∧ w'.cell? ⟨gb361, 0, none⟩ = some (.int .i64 ((rd_T66 l0_1 x4_3).f0.f0)) ∧ w'.cell? ⟨gb361, 1, none⟩ = some (.int .i64 ((rd_T66 l0_1 x4_3).f0.f1)) ∧ w'.cell? ⟨gb361, 2, none⟩ = some (.int .i64 ((rd_T66 l0_1 x4_3).f1)) ∧ w'.cell? (ad360.add ((x6_5).toNat * 3)) = some (.int .i64 ((rd_T66 l0_1 x6_5).f0.f0)) ∧ w'.cell? ⟨(ad360.add ((x6_5).toNat * 3)).block, (ad360.add ((x6_5).toNat * 3)).off + 1, none⟩ = some (.int .i64 ((rd_T66 l0_1 x6_5).f0.f1)) ∧ w'.cell? ⟨(ad360.add ((x6_5).toNat * 3)).block, (ad360.add ((x6_5).toNat * 3)).off + 2, none⟩ = some (.int .i64 ((rd_T66 l0_1 x6_5).f1))) (ds := []) #[false, false, false, false, false, false, false, false, false] (by kernel_rfl) rfl rfl ⟨(blk_cell BK354.out 0).trans rfl, (blk_cell BK354.out 1).trans rfl, (blk_cell BK361.out 0).trans rfl, (blk_cell BK361.out 1).trans rfl, (blk_cell BK361.out 2).trans rfl, ((HB.out.cell (World.block_lt_of_cell? w _ hw363_0)).trans hw363_0), ((HB.out.cell (World.block_lt_of_cell? w _ hw363_1)).trans hw363_1), ((HB.out.cell (World.block_lt_of_cell? w _ hw363_2)).trans hw363_2)⟩ (fun hHeld => ?_); refine with_tabW spec_NetOk.tab17 spec_NetOk.bits17 (fun HT_ HW_ => ?_)
           generalize wr.drew = w52 at BK354 BK361 HB hx363_0 hx363_1 hx363_2 hHeld ⊢
           refine pure_ (i := 0) (N := some 74) (v := ?_) (a' := ?_) #[true, false, false, false, false, false, false, false, false] rfl rfl (any_of HT_.out (by kernel_rfl)) (fun _ _ _ h => h) (Or.inl ⟨by rfl, ?_⟩) ?_ ?_
           rotate_left
           · intro w'
             go_simp
             with_reducible rfl
           rotate_left
           · simp only [Act.put, List.setIfInBounds_toArray, List.set_cons_zero, List.set_cons_succ, i64_w, i32_w]
             rfl
           refine pure_ (i := 2) (N := some 76) (v := ?_) (a' := ?_) #[true, false, true, false, false, false, false, false, false] rfl rfl (any_of HT_.out (by kernel_rfl)) (fun _ _ _ h => h) (Or.inl ⟨by rfl, ?_⟩) ?_ ?_
           rotate_left
           · intro w'
             go_simp
             with_reducible rfl
           rotate_left
           · simp only [Act.put, List.setIfInBounds_toArray, List.set_cons_zero, List.set_cons_succ, i64_w, i32_w]
             rfl
           refine pure_ (i := 6) (N := some 80) (v := ?_) (a' := ?_) #[true, false, true, false, false, false, true, false, false] rfl rfl (any_of HT_.out (by kernel_rfl)) (fun _ _ _ h => h) (Or.inl ⟨by rfl, ?_⟩) ?_ ?_
           rotate_left
           · intro w'
             go_simp
             with_reducible rfl
           rotate_left
           · simp only [Act.put, List.setIfInBounds_toArray, List.set_cons_zero, List.set_cons_succ, i64_w, i32_w]
             rfl
           refine take_ (i := 1) (N := some 75) (v := ?_) (a' := ?_) #[true, true, true, false, false, false, true, false, false] rfl rfl (take_ofW HT_.out HW_.out (by kernel_rfl)) (fun _ _ _ h => h) (Or.inl ⟨by rfl, ?_⟩) hHeld ?_ ?_
           rotate_left
           · rintro w' ⟨s0, s1, s2, s3, s4, s5, s6, s7⟩
             go_simp
             with_reducible rfl
           rotate_left
           · simp only [Act.put, List.setIfInBounds_toArray, List.set_cons_zero, List.set_cons_succ, i64_w, i32_w]
             rfl
           refine pure_ (i := 3) (N := some 77) (v := ?_) (a' := ?_) #[true, true, true, true, false, false, true, false, false] rfl rfl (any_of HT_.out (by kernel_rfl)) (fun _ _ _ h => h) (Or.inl ⟨by rfl, ?_⟩) ?_ ?_
           rotate_left
           · intro w'
             go_simp
             with_reducible rfl
           rotate_left
           · simp only [Act.put, List.setIfInBounds_toArray, List.set_cons_zero, List.set_cons_succ, i64_w, i32_w]
             rfl
           refine pure_ (i := 4) (N := some 78) (v := ?_) (a' := ?_) #[true, true, true, true, true, false, true, false, false] rfl rfl (any_of HT_.out (by kernel_rfl)) (fun _ _ _ h => h) (Or.inl ⟨by rfl, ?_⟩) ?_ ?_
           rotate_left
           · intro w'
             go_simp
             with_reducible rfl
           rotate_left
           · simp only [Act.put, List.setIfInBounds_toArray, List.set_cons_zero, List.set_cons_succ, i64_w, i32_w]
             rfl
           refine take_ (i := 5) (N := some 79) (v := ?_) (a' := ?_) #[true, true, true, true, true, true, true, false, false] rfl rfl (take_ofW HT_.out HW_.out (by kernel_rfl)) (fun _ _ _ h => h) (Or.inl ⟨by rfl, ?_⟩) hHeld ?_ ?_
           rotate_left
           · rintro w' ⟨s0, s1, s2, s3, s4, s5, s6, s7⟩
             go_simp
             with_reducible rfl
           rotate_left
           · simp only [Act.put, List.setIfInBounds_toArray, List.set_cons_zero, List.set_cons_succ, i64_w, i32_w]
             rfl
           refine take_ (i := 7) (N := some 81) (v := ?_) (a' := ?_) #[true, true, true, true, true, true, true, true, false] rfl rfl (take_ofW HT_.out HW_.out (by kernel_rfl)) (fun _ _ _ h => h) (Or.inl ⟨by rfl, ?_⟩) hHeld ?_ ?_
           rotate_left
           · rintro w' ⟨s0, s1, s2, s3, s4, s5, s6, s7⟩
             go_simp
             with_reducible rfl
           rotate_left
           · simp only [Act.put, List.setIfInBounds_toArray, List.set_cons_zero, List.set_cons_succ, i64_w, i32_w]
             rfl
           refine pure_ (i := 8) (N := some 82) (v := ?_) (a' := ?_) #[true, true, true, true, true, true, true, true, true] rfl rfl (any_of HT_.out (by kernel_rfl)) (fun _ _ _ h => h) (Or.inl ⟨by rfl, ?_⟩) ?_ ?_
           rotate_left
           · intro w'
             go_simp
             with_reducible rfl
           rotate_left
           · simp only [Act.put, List.setIfInBounds_toArray, List.set_cons_zero, List.set_cons_succ, i64_w, i32_w]
             rfl
           refine done_ (done_of HT_.out (by kernel_rfl)) ?_
           try go_wp2
           go_roundg k5
           case measure => have := HJ1.out; have := HK2.out; have := HK3.out; have := HJ20.out; have := HK5.out; omega
           case rel => exact ⟨(wrap64 (x6_5 + 1)), (by first | rfl | (simp; done) | (simp [*]; done)), H', ⟨by have := HJ1.out; have := HK2.out; have := HK3.out; have := HJ20.out; have := HK5.out; omega⟩, ⟨by (with_reducible repeat (first | refine blk_drewN ?_ _ | refine blk_drew ?_ | refine blk_alloc ?_ _)); exact BK354.out⟩, ⟨by (with_reducible repeat (first | refine blk_drewN ?_ _ | refine blk_drew ?_ | refine blk_alloc ?_ _)); exact BK361.out⟩, ⟨by repeat (first | (with_reducible first | exact HB.out | apply below_alloc | apply pw_below_drewN | apply below_drew1 | refine below_set ?_ GE354.out | refine below_set ?_ GE361.out) | exact HB.out)⟩⟩

end Go.Proofs.YtphblfmjdiigkaaGreatDoor.HFnNetBent
