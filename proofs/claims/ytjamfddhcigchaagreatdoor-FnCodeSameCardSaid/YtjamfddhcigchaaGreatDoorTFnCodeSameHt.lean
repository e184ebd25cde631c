/- The closure 'tell' of impl.depths: what it leaves in the row and what it answers. No condition beyond its reach. -/
import Derived.Test.YtjamfddhcigchaaGreatDoorTFnCodeSameHFnCodeSamex14
import Derived.Test.YtjamfddhcigchaaGreatDoorTFnCodeSameHFnCodeSamex15
import Derived.WalkLawsBesides
import Derived.WalkSpells
import Derived.Deep.RegionHeld
namespace Go.Proofs.YtjamfddhcigchaaGreatDoor.Ht
open Go.RowKit Go.Proofs.YtjamfddhcigchaaGreatDoor.HFnCodeSame Go.Proofs.YtjamfddhcigchaaGreatDoorW.PrintWords Go.Proofs.YtjamfddhcigchaaGreatDoorW.PrintLast Go.Proofs.YtjamfddhcigchaaGreatDoorW.PrintMore
set_option linter.unusedVariables false
set_option linter.unusedSimpArgs false
attribute [local go_sem] max2_int min2_int max_two min_two
abbrev RR (B : Nat) (W : World) (g N c : Nat) (xs : List Int) : Prop := Kd.R (Kd.int .i64) 3 W B (fun _ => True) (.slice (some ⟨g, 0, none⟩) N c) xs
def tell (l : List Int) (at_ n : Int) : List Int := if rd l at_ = -1 then l.set at_.toNat n else l
def told (l : List Int) (at_ n : Int) : Bool := rd (tell l at_ n) at_ == n
theorem tell_length (l : List Int) (a n : Int) : (tell l a n).length = l.length := by unfold tell; split <;> simp
set_option maxRecDepth 100000 in
set_option maxHeartbeats 1600000 in
theorem tell_any (g4 g N c : Nat) (l : List Int) (j : Nat) (n : Int) (B : Nat) (W : World) (h4 : W.heap[g4]? = some (.cells #[.slice (some ⟨g, 0, none⟩) N c] 31 (0, 0))) (ne : g4 ≠ g) (hR : RR B W g N c l) (hj : j < N) :
  Calls Tryz.prog 67 #[.int .i64 (j : Int), .int .i64 n, .pointer (some ⟨g4, 0, none⟩)] W fun e w' => e = .returned (.bool (told l j n)) ∧ RR B w' g N c (tell l j n) ∧ (w' = W ∨ w' = W.setCell ⟨g, j, none⟩ (.int .i64 n)) := by
 have hl : l.length = N := (Kd.R_reads' hR).1.symm
 have i4 : W.cell? ⟨g4, 0, none⟩ = some (.slice (some ⟨g, 0, none⟩) N c) := (blk_cell h4 0).trans rfl
 obtain ⟨hx, hf⟩ := Kd.R_celln 0 hR (j : Int) (by omega) (by omega)
 rw [Int.toNat_natCast] at hx hf
 by_cases hq : rd l j = -1
 ·have ht : tell l j n = l.set j n := by unfold tell; rw [if_pos hq, Int.toNat_natCast]
  have htd : told l j n = true := by
   unfold told; rw [ht]; unfold rd
   rw [Int.toNat_natCast, List.getD_eq_getElem?_getD, List.getElem?_set_self (by omega)]; simp
  rw [htd, ht]
  have hR2 : RR B (W.setCell ⟨g, j, none⟩ (.int .i64 n)) g N c (l.set j n) := by
   have := Kd.R_putn hR (j : Int) n
   rwa [Int.toNat_natCast] at this
  have h42 : (W.setCell ⟨g, j, none⟩ (.int .i64 n)).cell? ⟨g4, 0, none⟩ = some (.slice (some ⟨g, 0, none⟩) N c) := (blk_cell (blk_far h4 ne (.int .i64 n)) 0).trans rfl
  obtain ⟨hx2, _⟩ := Kd.R_celln 0 hR2 (j : Int) (by omega) (by omega)
  rw [Int.toNat_natCast] at hx2
  have e2 : rdOf 0 (l.set j n) (j : Int) = n := by
   unfold rdOf; rw [Int.toNat_natCast, List.getD_eq_getElem?_getD, List.getElem?_set_self (by omega)]; rfl
  rw [e2] at hx2
  have e1 : rdOf 0 l (j : Int) = -1 := hq
  rw [e1] at hx
  clear hq ht htd e1 e2 hl
  go_enter Tryz.func67, Tryz.ntmps67
  go_wp2
  go_ret
  exact ⟨by simp, hR2, .inr rfl⟩
 ·have ht : tell l j n = l := by unfold tell; rw [if_neg hq]
  have htd : told l j n = (rd l j == n) := by unfold told; rw [ht]
  rw [htd, ht]
  have e1 : rdOf 0 l (j : Int) = rd l j := rfl
  rw [e1] at hx
  generalize rd l j = v at hx hq ⊢
  have hv : (v == -1) = false := by simpa using hq
  clear hq ht htd e1 hl
  go_enter Tryz.func67, Tryz.ntmps67
  go_wp2
  go_ret
  exact ⟨rfl, hR, .inl rfl⟩
end Go.Proofs.YtjamfddhcigchaaGreatDoor.Ht
