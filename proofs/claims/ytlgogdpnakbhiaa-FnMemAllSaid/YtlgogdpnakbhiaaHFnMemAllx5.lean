-- Made by a program of this session (hp.py) over the kit's print: functions told by hand stand beside printed ones. Lean checks it.
import Derived.Test.YtlgogdpnakbhiaaHFnMemAllx0
import Derived.Test.YtlgogdpnakbhiaaHFnMemAllx1
import Derived.Test.YtlgogdpnakbhiaaHFnMemAllx2
import Derived.Test.YtlgogdpnakbhiaaHFnMemAllx4
namespace Go.Proofs.Ytlgogdpnakbhiaa.HFnMemAll
open Go.RowKit Go.Proofs.YtlgogdpnakbhiaaW.PrintWords Go.Proofs.YtlgogdpnakbhiaaW.PrintLast Go.Proofs.YtlgogdpnakbhiaaW.PrintMore
attribute [local go_sem] max2_int min2_int max_two min_two max_three min_three max_four min_four   -- for this text's walks alone
set_option linter.unusedVariables false
set_option linter.unusedSimpArgs false

/-! ### laws_FnMemAll: function 8 -/
mutual
def laws_FnMemAll.j0 : Nat → Bool → List Int → List Int → List Int → Option (Bool)
  | 0, _, _, _, _ => none
  | k + 1, x29, x210000, x210001, x210002 => if x29 = true then ((impl_MemOk.f x210000 x210001 x210002).bind fun t232 => ((spec_MemOk.f k x210000 x210001 x210002).bind fun t233 => (if (t232 == t233) = true then ((impl_MemOpen.f).bind fun bt234 => ((spec_MemOpen.f).bind fun bt243 => ((impl_MemSame.f k bt234.1 bt234.2.1 bt234.2.2 bt243.1 bt243.2.1 bt243.2.2).bind fun t252 => (some t252)))) else (some false)))) else ((impl_MemOpen.f).bind fun bt253 => (laws_FnMemAll.l0 k 1 x210000 x210001 x210002 bt253.1 bt253.2.1 bt253.2.2))
def laws_FnMemAll.l0 : Nat → Int → List Int → List Int → List Int → List Int → List Int → List Int → Option (Bool)
  | 0, _, _, _, _, _, _, _ => none
  | k + 1, x5, x210000, x210001, x210002, x263000, x263001, x263002 => if x5 ≤ 3 then (laws_FnMemAll.l1 k x5 0 x210000 x210001 x210002 x263000 x263001 x263002) else (laws_FnMemAll.l2 k 0 x210000 x210001 x210002 x263000 x263001 x263002)
def laws_FnMemAll.l1 : Nat → Int → Int → List Int → List Int → List Int → List Int → List Int → List Int → Option (Bool)
  | 0, _, _, _, _, _, _, _, _ => none
  | k + 1, x5, x6, x210000, x210001, x210002, x263000, x263001, x263002 => if x6 < 6 then ((impl_MemGet.f x210000 x210001 x210002 x5 x6).bind fun t264 => ((impl_MemPut.f x263000 x263001 x263002 x5 x6 t264).bind fun bt265 => (laws_FnMemAll.l1 k x5 (wrap64 (x6 + 1)) x210000 x210001 x210002 bt265.1 bt265.2.1 bt265.2.2))) else (laws_FnMemAll.l0 k (wrap64 (x5 + 1)) x210000 x210001 x210002 x263000 x263001 x263002)
def laws_FnMemAll.l2 : Nat → Int → List Int → List Int → List Int → List Int → List Int → List Int → Option (Bool)
  | 0, _, _, _, _, _, _, _ => none
  | k + 1, x8, x210000, x210001, x210002, x263000, x263001, x263002 => if x8 < 6 then (if 0 ≤ x8 then (if x8 < (x263001.length : Int) then (if x8 < (x210001.length : Int) then (if (rd x263001 x8) = (rd x210001 x8) then (if x8 < (x263002.length : Int) then (if x8 < (x210002.length : Int) then (if (rd x263002 x8) = (rd x210002 x8) then (if x8 < (x263000.length : Int) then (if (rd x263000 x8) = 0 then (laws_FnMemAll.l2 k (wrap64 (x8 + 1)) x210000 x210001 x210002 x263000 x263001 x263002) else (some false)) else (none)) else (some false)) else (none)) else (none)) else (some false)) else (none)) else (none)) else (none)) else ((impl_MemOk.f x263000 x263001 x263002).bind fun t279 => (some t279))
end
def laws_FnMemAll.f (k : Nat) (l0 : List Int) : Option (Bool) := if (l0.length : Int) > 1048576 then (some true) else ((spec_DrawMemOk.f k l0).bind fun bt200 => ((impl_MemOk.f bt200.1 bt200.2.1 bt200.2.2).bind fun t210 => ((spec_MemOk.f k bt200.1 bt200.2.1 bt200.2.2).bind fun t211 => (if (t210 != t211) = true then (laws_FnMemAll.j0 k true bt200.1 bt200.2.1 bt200.2.2) else ((impl_MemOpen.f).bind fun bt212 => ((spec_MemOpen.f).bind fun bt221 => ((impl_MemSame.f k bt212.1 bt212.2.1 bt212.2.2 bt221.1 bt221.2.1 bt221.2.2).bind fun t230 => (if t230 = true then ((spec_MemOk.f k bt200.1 bt200.2.1 bt200.2.2).bind fun t231 => (laws_FnMemAll.j0 k (!t231) bt200.1 bt200.2.1 bt200.2.2)) else (laws_FnMemAll.j0 k true bt200.1 bt200.2.1 bt200.2.2)))))))))
theorem laws_FnMemAll.mono_l : ∀ k, (∀ y0 y1 y2 y3, LeO (laws_FnMemAll.j0 k y0 y1 y2 y3) (laws_FnMemAll.j0 (k + 1) y0 y1 y2 y3)) ∧ (∀ y0 y1 y2 y3 y4 y5 y6, LeO (laws_FnMemAll.l0 k y0 y1 y2 y3 y4 y5 y6) (laws_FnMemAll.l0 (k + 1) y0 y1 y2 y3 y4 y5 y6)) ∧ (∀ y0 y1 y2 y3 y4 y5 y6 y7, LeO (laws_FnMemAll.l1 k y0 y1 y2 y3 y4 y5 y6 y7) (laws_FnMemAll.l1 (k + 1) y0 y1 y2 y3 y4 y5 y6 y7)) ∧ (∀ y0 y1 y2 y3 y4 y5 y6, LeO (laws_FnMemAll.l2 k y0 y1 y2 y3 y4 y5 y6) (laws_FnMemAll.l2 (k + 1) y0 y1 y2 y3 y4 y5 y6))
  | 0 => ⟨fun _ _ _ _ r h => by simp [laws_FnMemAll.j0] at h, fun _ _ _ _ _ _ _ r h => by simp [laws_FnMemAll.l0] at h, fun _ _ _ _ _ _ _ _ r h => by simp [laws_FnMemAll.l1] at h, fun _ _ _ _ _ _ _ r h => by simp [laws_FnMemAll.l2] at h⟩
  | k + 1 => by
    obtain ⟨ih0, ih1, ih2, ih3⟩ := laws_FnMemAll.mono_l k
    refine ⟨?_, ?_, ?_, ?_⟩
    · intro y0 y1 y2 y3
      unfold laws_FnMemAll.j0
      repeat' first
      | (with_reducible exact ih0 _ _ _ _)
      | (with_reducible exact ih1 _ _ _ _ _ _ _)
      | (with_reducible exact ih2 _ _ _ _ _ _ _ _)
      | (with_reducible exact ih3 _ _ _ _ _ _ _)
      | (with_reducible exact impl_MemSame.mono _ _ _ _ _ _ _)
      | (with_reducible exact spec_DrawMemOk.mono _ _)
      | (with_reducible exact spec_MemOk.mono _ _ _ _)
      | (with_reducible exact LeO.refl _)
      | (with_reducible exact LeO.none _)
      | (with_reducible refine LeO.ite ?_ ?_)
      | (with_reducible refine LeO.bind ?_ (fun _ => ?_))
      | exact ih0 _ _ _ _
      | exact ih1 _ _ _ _ _ _ _
      | exact ih2 _ _ _ _ _ _ _ _
      | exact ih3 _ _ _ _ _ _ _
      | exact impl_MemSame.mono _ _ _ _ _ _ _
      | exact spec_DrawMemOk.mono _ _
      | exact spec_MemOk.mono _ _ _ _
      | exact LeO.none _
      | refine LeO.ite ?_ ?_
      | refine LeO.bind ?_ (fun _ => ?_)
    · intro y0 y1 y2 y3 y4 y5 y6
      unfold laws_FnMemAll.l0
      repeat' first
      | (with_reducible exact ih0 _ _ _ _)
      | (with_reducible exact ih1 _ _ _ _ _ _ _)
      | (with_reducible exact ih2 _ _ _ _ _ _ _ _)
      | (with_reducible exact ih3 _ _ _ _ _ _ _)
      | (with_reducible exact impl_MemSame.mono _ _ _ _ _ _ _)
      | (with_reducible exact spec_DrawMemOk.mono _ _)
      | (with_reducible exact spec_MemOk.mono _ _ _ _)
      | (with_reducible exact LeO.refl _)
      | (with_reducible exact LeO.none _)
      | (with_reducible refine LeO.ite ?_ ?_)
      | (with_reducible refine LeO.bind ?_ (fun _ => ?_))
      | exact ih0 _ _ _ _
      | exact ih1 _ _ _ _ _ _ _
      | exact ih2 _ _ _ _ _ _ _ _
      | exact ih3 _ _ _ _ _ _ _
      | exact impl_MemSame.mono _ _ _ _ _ _ _
      | exact spec_DrawMemOk.mono _ _
      | exact spec_MemOk.mono _ _ _ _
      | exact LeO.none _
      | refine LeO.ite ?_ ?_
      | refine LeO.bind ?_ (fun _ => ?_)
    · intro y0 y1 y2 y3 y4 y5 y6 y7
      unfold laws_FnMemAll.l1
      repeat' first
      | (with_reducible exact ih0 _ _ _ _)
      | (with_reducible exact ih1 _ _ _ _ _ _ _)
      | (with_reducible exact ih2 _ _ _ _ _ _ _ _)
      | (with_reducible exact ih3 _ _ _ _ _ _ _)
      | (with_reducible exact impl_MemSame.mono _ _ _ _ _ _ _)
      | (with_reducible exact spec_DrawMemOk.mono _ _)
      | (with_reducible exact spec_MemOk.mono _ _ _ _)
      | (with_reducible exact LeO.refl _)
      | (with_reducible exact LeO.none _)
      | (with_reducible refine LeO.ite ?_ ?_)
      | (with_reducible refine LeO.bind ?_ (fun _ => ?_))
      | exact ih0 _ _ _ _
      | exact ih1 _ _ _ _ _ _ _
      | exact ih2 _ _ _ _ _ _ _ _
      | exact ih3 _ _ _ _ _ _ _
      | exact impl_MemSame.mono _ _ _ _ _ _ _
      | exact spec_DrawMemOk.mono _ _
      | exact spec_MemOk.mono _ _ _ _
      | exact LeO.none _
      | refine LeO.ite ?_ ?_
      | refine LeO.bind ?_ (fun _ => ?_)
    · intro y0 y1 y2 y3 y4 y5 y6
      unfold laws_FnMemAll.l2
      repeat' first
      | (with_reducible exact ih0 _ _ _ _)
      | (with_reducible exact ih1 _ _ _ _ _ _ _)
      | (with_reducible exact ih2 _ _ _ _ _ _ _ _)
      | (with_reducible exact ih3 _ _ _ _ _ _ _)
      | (with_reducible exact impl_MemSame.mono _ _ _ _ _ _ _)
      | (with_reducible exact spec_DrawMemOk.mono _ _)
      | (with_reducible exact spec_MemOk.mono _ _ _ _)
      | (with_reducible exact LeO.refl _)
      | (with_reducible exact LeO.none _)
      | (with_reducible refine LeO.ite ?_ ?_)
      | (with_reducible refine LeO.bind ?_ (fun _ => ?_))
      | exact ih0 _ _ _ _
      | exact ih1 _ _ _ _ _ _ _
      | exact ih2 _ _ _ _ _ _ _ _
      | exact ih3 _ _ _ _ _ _ _
      | exact impl_MemSame.mono _ _ _ _ _ _ _
      | exact spec_DrawMemOk.mono _ _
      | exact spec_MemOk.mono _ _ _ _
      | exact LeO.none _
      | refine LeO.ite ?_ ?_
      | refine LeO.bind ?_ (fun _ => ?_)
theorem laws_FnMemAll.mono : ∀ a0 k, LeO (laws_FnMemAll.f k a0) (laws_FnMemAll.f (k + 1) a0) := by
  intro a0 k
  obtain ⟨ih0, ih1, ih2, ih3⟩ := laws_FnMemAll.mono_l k
  unfold laws_FnMemAll.f
  repeat' first
      | (with_reducible exact ih0 _ _ _ _)
      | (with_reducible exact ih1 _ _ _ _ _ _ _)
      | (with_reducible exact ih2 _ _ _ _ _ _ _ _)
      | (with_reducible exact ih3 _ _ _ _ _ _ _)
      | (with_reducible exact impl_MemSame.mono _ _ _ _ _ _ _)
      | (with_reducible exact spec_DrawMemOk.mono _ _)
      | (with_reducible exact spec_MemOk.mono _ _ _ _)
      | (with_reducible exact LeO.refl _)
      | (with_reducible exact LeO.none _)
      | (with_reducible refine LeO.ite ?_ ?_)
      | (with_reducible refine LeO.bind ?_ (fun _ => ?_))
      | exact ih0 _ _ _ _
      | exact ih1 _ _ _ _ _ _ _
      | exact ih2 _ _ _ _ _ _ _ _
      | exact ih3 _ _ _ _ _ _ _
      | exact impl_MemSame.mono _ _ _ _ _ _ _
      | exact spec_DrawMemOk.mono _ _
      | exact spec_MemOk.mono _ _ _ _
      | exact LeO.none _
      | refine LeO.ite ?_ ?_
      | refine LeO.bind ?_ (fun _ => ?_)
def laws_FnMemAll.T4 : Bool × List (List Nat × List Nat) := (true, [([], []), ([0], [0]), ([], []), ([2, 1], [2]), ([1, 3], [1, 3]), ([4, 3], [4]), ([5, 5], [5]), ([6, 5], [5]), ([6, 7, 7, 5], [5, 6, 7]), ([8, 5], [5, 8]), ([5, 9], [5, 9]), ([10, 8], [10]), ([11], [11]), ([12, 11, 11], [11, 12]), ([13, 11], [11, 13]), ([11, 14], [11, 14])])
def laws_FnMemAll.B4 : List Nat := [0, 1, 0, 7, 15, 31, 63, 127, 255, 511, 1023, 2047, 4095, 8191, 16383, 32767]
theorem laws_FnMemAll.tab4 : rtab .any (opsOf Try.f8 4) = laws_FnMemAll.T4 := by kernel_rfl
theorem laws_FnMemAll.bits4 : waitsOk laws_FnMemAll.T4.2 laws_FnMemAll.B4 = true := by kernel_rfl
def laws_FnMemAll.T5 : Bool × List (List Nat × List Nat) := (true, [([], []), ([0], [0]), ([], []), ([2, 1], [2]), ([1, 3], [1, 3]), ([4, 3], [4]), ([5, 5], [5]), ([6, 5], [5]), ([6, 7, 7, 5], [5, 6, 7]), ([5, 8], [5, 8]), ([9, 8, 0, 1, 2, 3, 4, 5, 6, 7, 8, 9], [9])])
def laws_FnMemAll.B5 : List Nat := [0, 1, 0, 7, 15, 31, 63, 127, 255, 511, 1023]
theorem laws_FnMemAll.tab5 : rtab .any (opsOf Try.f8 5) = laws_FnMemAll.T5 := by kernel_rfl
theorem laws_FnMemAll.bits5 : waitsOk laws_FnMemAll.T5.2 laws_FnMemAll.B5 = true := by kernel_rfl
def laws_FnMemAll.T18 : Bool × List (List Nat × List Nat) := (true, [([], []), ([0], [0]), ([], []), ([1, 2], [1, 2]), ([3], [3]), ([], []), ([5], [5]), ([], []), ([6, 7], [6, 7]), ([8], [8]), ([4, 9], [4, 9]), ([10], [10]), ([11], [11]), ([12, 11], [11, 12]), ([11], [11]), ([13, 14, 11], [11, 13, 14]), ([15, 11], [11, 15]), ([11], [11]), ([17, 11], [11, 17]), ([11], [11]), ([18, 19, 11], [11, 18, 19]), ([20, 11], [11, 20]), ([16, 21, 11], [11, 16, 21]), ([11, 22], [11, 22]), ([23, 11], [23]), ([24], [24]), ([25, 24], [24, 25]), ([24], [24]), ([26, 27, 24], [24, 26, 27]), ([28, 24], [24, 28]), ([29, 24], [24, 29]), ([24, 30], [24, 30])])
def laws_FnMemAll.B18 : List Nat := [0, 1, 0, 7, 15, 0, 32, 0, 224, 480, 1023, 2047, 4095, 8191, 4095, 32767, 65535, 4095, 135167, 4095, 921599, 1970175, 4194303, 8388607, 16777215, 33554431, 67108863, 33554431, 268435455, 536870911, 1073741823, 2147483647]
theorem laws_FnMemAll.tab18 : rtab .any (opsOf Try.f8 18) = laws_FnMemAll.T18 := by kernel_rfl
theorem laws_FnMemAll.bits18 : waitsOk laws_FnMemAll.T18.2 laws_FnMemAll.B18 = true := by kernel_rfl
/-- the one pure statement of the law -/
def laws_FnMemAll.Pure : Prop := ∀ (l0 : List Int), l0.length ≤ maxLen → l0.length * 1 ≤ 140737488351232 → (∀ x ∈ l0, (Lit.int .u8 x).wf = true) → ∃ k, laws_FnMemAll.f k l0 = some true
theorem qa {α : Type _} {l : List α} {i : Nat} {a : α} : l.toArray.setIfInBounds i a = (l.set i a).toArray := List.setIfInBounds_toArray ..
theorem qb {α : Type _} {a b : α} {l : List α} : (a :: l).set 0 b = b :: l := List.set_cons_zero ..
theorem qc {α : Type _} {a b : α} {l : List α} {n : Nat} : (a :: l).set (n + 1) b = a :: l.set n b := List.set_cons_succ ..
theorem pN {w : World} {g : Nat} {o : Obj} (h : w.heap[g]? = some o) (n : Nat) : (w.drewN n).heap[g]? = some o := blk_drewN h n
theorem pD {w : World} {g : Nat} {o : Obj} (h : w.heap[g]? = some o) : w.drew.heap[g]? = some o := blk_drew h
theorem pA {w : World} {g : Nat} {o : Obj} (h : w.heap[g]? = some o) (o' : Obj) : (w.alloc o').heap[g]? = some o := blk_alloc h o'
section
variable {α : Type} {d : Kd α} {e base : Nat} {w : World} {ok : Nat → Prop} {v : Value} {xs : List α} {A : Option Addr} {n : Nat}
theorem rA (h : d.R e w base ok v xs) (o : Obj) : d.R e (w.alloc o) base ok v xs := Kd.R_alloc h o
theorem rN (h : d.R e w base ok v xs) (m : Nat) : d.R e (w.drewN m) base ok v xs := Kd.R_drewN h m
theorem rD (h : d.R e w base ok v xs) : d.R e w.drew base ok v xs := Kd.R_drew h
theorem vA (h : Kd.V d e w base ok v xs) (o : Obj) : Kd.V d e (w.alloc o) base ok v xs := Kd.V_alloc h o
theorem vN (h : Kd.V d e w base ok v xs) (m : Nat) : Kd.V d e (w.drewN m) base ok v xs := Kd.V_drewN h m
theorem vD (h : Kd.V d e w base ok v xs) : Kd.V d e w.drew base ok v xs := Kd.V_drew h
theorem cA (h : d.C w A n xs) (o : Obj) : d.C (w.alloc o) A n xs := Kd.C_alloc h o
theorem cN (h : d.C w A n xs) (m : Nat) : d.C (w.drewN m) A n xs := Kd.C_drewN h m
theorem cD (h : d.C w A n xs) : d.C w.drew A n xs := Kd.C_drew h
end
theorem bA {w W : World} (h : Below w.heap.size w W) (o : Obj) : Below w.heap.size w (W.alloc o) := below_alloc h o
theorem bN {B : Nat} {w W : World} (h : Below B w W) (n : Nat) : Below B w (W.drewN n) := pw_below_drewN h n
theorem bD {base : Nat} {w W : World} (h : Below base w W) : Below base w W.drew := below_drew1 h
theorem bS {w W : World} {g j : Nat} {v : Value} (h : Below w.heap.size w W) (hg : w.heap.size ≤ g) : Below w.heap.size w (W.setCell ⟨g, j, none⟩ v) := below_set h hg
theorem mk0 {p : Prop} (out : p) : Aside0 p := ⟨out⟩
end Go.Proofs.Ytlgogdpnakbhiaa.HFnMemAll
