/- laws.markWireS, laws.markDriveS and laws.markNet: they store into their argument's memory and change nothing else. No condition but the length. -/
import Derived.Test.YtphblfmjdiigkaaTFnExactNetOrderHn10
import Derived.WalkLawsBesides
import Derived.WalkSpells
import Derived.Deep.RegionHeld
import Derived.Deep.DeepCutAuto
import Derived.Deep.CutBlock
namespace Go.Proofs.Ytphblfmjdiigkaa.Hn11
open Go.RowKit Go.Proofs.Ytphblfmjdiigkaa.Hn10 Go.Proofs.YtphblfmjdiigkaaW.PrintWords Go.Proofs.YtphblfmjdiigkaaW.PrintLast Go.Proofs.YtphblfmjdiigkaaW.PrintMore
set_option linter.unusedVariables false
set_option linter.unusedSimpArgs false
set_option maxRecDepth 100000 in
set_option maxHeartbeats 40000000 in
theorem mark27 (n c g N : Nat) (A : Option Addr) (a : Nat) (w0 w : World) (hM : Mk w0 w g N 48 w) (hg : w0.heap.size ≤ g) (hN : n * 12 ≤ N) (hn : n ≤ 1048576) (ha : a ≤ 100000000) (hA : 0 < n → A = some ⟨g, 0, none⟩) :
    Calls Try.prog 27 #[.slice A n c, .int .i64 (a : Int)] w fun e w' => e = .returned (.int .i64 ((a + 12 * n : Nat) : Int)) ∧ Mk w0 w g N 48 w' := by
  have hu48 := Try.underlying48
  have hu46 := Try.underlying46
  have hu44 := Try.underlying44
  go_enter Try.func27, Try.ntmps27
  go_wp2
  go_loopw [1, 5] (fun v i wr => ∃ (k : Nat) (x : Int), k ≤ n ∧ Aside0 (x = ((a + 12 * k : Nat) : Int)) ∧ v = .int .i64 x ∧ i = .int .i64 (k : Int) ∧ Mk w0 w g N 48 wr) (fun v i _ => n - (intOf i).toNat)
  case atStart => exact ⟨0, a, by omega, ⟨rfl⟩, rfl, rfl, hM⟩
  case round =>
    obtain ⟨k, x, hk, hx, rfl, rfl, hM0⟩ := hrel
    by_cases hlt : k < n
    · obtain rfl := hA (by omega)
      have d2 : decide ((k : Int) < (n : Int)) = true := by simp; omega
      have b1 : 0 ≤ (k : Int) := by omega
      have b2 : (k : Int) < (n : Int) := by omega
      replace b1 := eq_true b1
      replace b2 := eq_true b2
      have hkN : k * 12 + 12 ≤ N := by omega
      have bx1 : 0 ≤ x := by have := hx.out; omega
      have bx2 : x ≤ 1000000000 := by have := hx.out; omega
      have bk : k + 1 ≤ 9223372036854775807 := by omega
      have hN' := Aside0.mk hN
      have hn' := Aside0.mk hn
      clear hN hn hM
      obtain ⟨u0, e0⟩ := hM0.cell (k * 12) (by omega)
      have f0 := hM0.froz (k * 12)
      go_upto_region 6 with (fail)
      generalize hw : World.setCell wr _ _ = w1
      have hM1 : Mk w0 w g N 48 w1 := by rw [← hw]; exact hM0.set hg _ _
      clear hw
      clear e0 f0 hM0 u0
      obtain ⟨u1, e1⟩ := hM1.cell (k * 12 + 1) (by omega)
      have f1 := hM1.froz (k * 12 + 1)
      go_upto_region 8 with (fail)
      generalize hw : World.setCell w1 _ _ = w2
      have hM2 : Mk w0 w g N 48 w2 := by rw [← hw]; exact hM1.set hg _ _
      clear hw
      clear e1 f1 hM1 u1
      obtain ⟨u2, e2⟩ := hM2.cell (k * 12 + 2) (by omega)
      have f2 := hM2.froz (k * 12 + 2)
      go_upto_region 10 with (fail)
      generalize hw : World.setCell w2 _ _ = w3
      have hM3 : Mk w0 w g N 48 w3 := by rw [← hw]; exact hM2.set hg _ _
      clear hw
      clear e2 f2 hM2 u2
      obtain ⟨u3, e3⟩ := hM3.cell (k * 12 + 2 + 1) (by omega)
      have f3 := hM3.froz (k * 12 + 2 + 1)
      go_upto_region 12 with (fail)
      generalize hw : World.setCell w3 _ _ = w4
      have hM4 : Mk w0 w g N 48 w4 := by rw [← hw]; exact hM3.set hg _ _
      clear hw
      clear e3 f3 hM3 u3
      obtain ⟨u4, e4⟩ := hM4.cell (k * 12 + 2 + 2) (by omega)
      have f4 := hM4.froz (k * 12 + 2 + 2)
      go_upto_region 14 with (fail)
      generalize hw : World.setCell w4 _ _ = w5
      have hM5 : Mk w0 w g N 48 w5 := by rw [← hw]; exact hM4.set hg _ _
      clear hw
      clear e4 f4 hM4 u4
      obtain ⟨u5, e5⟩ := hM5.cell (k * 12 + 2 + 2 + 1) (by omega)
      have f5 := hM5.froz (k * 12 + 2 + 2 + 1)
      go_upto_region 16 with (fail)
      generalize hw : World.setCell w5 _ _ = w6
      have hM6 : Mk w0 w g N 48 w6 := by rw [← hw]; exact hM5.set hg _ _
      clear hw
      clear e5 f5 hM5 u5
      obtain ⟨u6, e6⟩ := hM6.cell (k * 12 + 2 + 4) (by omega)
      have f6 := hM6.froz (k * 12 + 2 + 4)
      go_upto_region 18 with (fail)
      generalize hw : World.setCell w6 _ _ = w7
      have hM7 : Mk w0 w g N 48 w7 := by rw [← hw]; exact hM6.set hg _ _
      clear hw
      clear e6 f6 hM6 u6
      obtain ⟨u7, e7⟩ := hM7.cell (k * 12 + 7) (by omega)
      have f7 := hM7.froz (k * 12 + 7)
      go_upto_region 20 with (fail)
      generalize hw : World.setCell w7 _ _ = w8
      have hM8 : Mk w0 w g N 48 w8 := by rw [← hw]; exact hM7.set hg _ _
      clear hw
      clear e7 f7 hM7 u7
      obtain ⟨u8, e8⟩ := hM8.cell (k * 12 + 7 + 1) (by omega)
      have f8 := hM8.froz (k * 12 + 7 + 1)
      go_upto_region 22 with (fail)
      generalize hw : World.setCell w8 _ _ = w9
      have hM9 : Mk w0 w g N 48 w9 := by rw [← hw]; exact hM8.set hg _ _
      clear hw
      clear e8 f8 hM8 u8
      obtain ⟨u9, e9⟩ := hM9.cell (k * 12 + 7 + 2) (by omega)
      have f9 := hM9.froz (k * 12 + 7 + 2)
      go_upto_region 24 with (fail)
      generalize hw : World.setCell w9 _ _ = w10
      have hM10 : Mk w0 w g N 48 w10 := by rw [← hw]; exact hM9.set hg _ _
      clear hw
      clear e9 f9 hM9 u9
      obtain ⟨u10, e10⟩ := hM10.cell (k * 12 + 7 + 2 + 1) (by omega)
      have f10 := hM10.froz (k * 12 + 7 + 2 + 1)
      go_upto_region 26 with (fail)
      generalize hw : World.setCell w10 _ _ = w11
      have hM11 : Mk w0 w g N 48 w11 := by rw [← hw]; exact hM10.set hg _ _
      clear hw
      clear e10 f10 hM10 u10
      obtain ⟨u11, e11⟩ := hM11.cell (k * 12 + 7 + 4) (by omega)
      have f11 := hM11.froz (k * 12 + 7 + 4)
      go_wp2
      go_roundw
      case rel => exact ⟨k + 1, x + 12, by omega, ⟨by have := hx.out; omega⟩, by go_num, by go_num, hM11.set hg _ _⟩
      case measure => simp [intOf]; omega
    · have hkn : k = n := by omega
      subst hkn
      have d2 : decide ((k : Int) < (k : Int)) = false := by simp
      go_wp2
      go_ret
      exact ⟨congrArg (fun z => Ending.returned (.int .i64 z)) hx.out, hM0⟩
end Go.Proofs.Ytphblfmjdiigkaa.Hn11
