/- laws.markWireS, laws.markDriveS and laws.markNet: they store into their argument's memory and change nothing else. No condition but the length. -/
import Derived.Test.YtphblfmjdiigkaaTFnExactNetOrderPFnExactNetOrderx0
import Derived.Test.YtphblfmjdiigkaaTFnExactNetOrderWMore
import Derived.Test.YtphblfmjdiigkaaTFnExactNetOrderWLast
import Derived.Test.YtphblfmjdiigkaaTFnExactNetOrderWKept
import Derived.Test.YtphblfmjdiigkaaTFnExactNetOrderWWords
import Derived.WalkLawsBesides
import Derived.WalkSpells
import Derived.Deep.RegionHeld
import Derived.Deep.DeepCutAuto
import Derived.Deep.CutBlock
namespace Go.Proofs.Ytphblfmjdiigkaa.Hn10
open Go.RowKit Go.Proofs.YtphblfmjdiigkaaW.PrintWords Go.Proofs.YtphblfmjdiigkaaW.PrintLast Go.Proofs.YtphblfmjdiigkaaW.PrintMore
set_option linter.unusedVariables false
set_option linter.unusedSimpArgs false
structure Mk (w0 w : World) (g N t : Nat) (W : World) : Prop where
  raw : ∃ cs : Array Value, W.heap[g]? = some (.cells cs t (0, 0)) ∧ cs.size = N
  kp : Kept w W (fun k => k = g)
  bl : Below w0.heap.size w0 W
theorem Mk.cell {w0 w W : World} {g N t : Nat} (h : Mk w0 w g N t W) (i : Nat) (hi : i < N) : ∃ u, W.cell? ⟨g, i, none⟩ = some u := by
  obtain ⟨cs, h1, h2⟩ := h.raw
  exact ⟨cs[i]'(by omega), by rw [blk_cell h1, Array.getElem?_eq_getElem (by omega)]⟩
theorem Mk.froz {w0 w W : World} {g N t : Nat} (h : Mk w0 w g N t W) (i : Nat) : W.frozen? ⟨g, i, none⟩ = false := by
  obtain ⟨cs, h1, h2⟩ := h.raw
  exact blk_frozen h1 i
theorem Mk.set {w0 w W : World} {g N t : Nat} (h : Mk w0 w g N t W) (hg : w0.heap.size ≤ g) (i : Nat) (u : Value) : Mk w0 w g N t (W.setCell ⟨g, i, none⟩ u) := by
  obtain ⟨cs, h1, h2⟩ := h.raw
  exact ⟨⟨_, blk_set h1 i u, by simpa using h2⟩, h.kp.setCell (.inl rfl) u, below_set h.bl hg⟩
set_option maxRecDepth 100000 in
set_option maxHeartbeats 40000000 in
theorem mark28 (n c g N : Nat) (A : Option Addr) (a : Nat) (w0 w : World) (hM : Mk w0 w g N 62 w) (hg : w0.heap.size ≤ g) (hN : n * 3 ≤ N) (hn : n ≤ 1048576) (ha : a ≤ 100000000) (hA : 0 < n → A = some ⟨g, 0, none⟩) :
    Calls Try.prog 28 #[.slice A n c, .int .i64 (a : Int)] w fun e w' => e = .returned (.int .i64 ((a + 3 * n : Nat) : Int)) ∧ Mk w0 w g N 62 w' := by
  have hu62 := Try.underlying62
  have hu44 := Try.underlying44
  go_enter Try.func28, Try.ntmps28
  go_wp2
  go_loopw [1, 5] (fun v i wr => ∃ (k : Nat) (x : Int), k ≤ n ∧ Aside0 (x = ((a + 3 * k : Nat) : Int)) ∧ v = .int .i64 x ∧ i = .int .i64 (k : Int) ∧ Mk w0 w g N 62 wr) (fun v i _ => n - (intOf i).toNat)
  case atStart => exact ⟨0, a, by omega, ⟨rfl⟩, rfl, rfl, hM⟩
  case round =>
    obtain ⟨k, x, hk, hx, rfl, rfl, hM0⟩ := hrel
    by_cases hlt : k < n
    · obtain rfl := hA (by omega)
      have d2 : decide ((k : Int) < (n : Int)) = true := by simp; omega
      have b1 : 0 ≤ (k : Int) := by omega
      have b2 : (k : Int) < (n : Int) := by omega
      replace b1 := eq_true b1
      replace b2 := eq_true b2
      have hkN : k * 3 + 3 ≤ N := by omega
      have bx1 : 0 ≤ x := by have := hx.out; omega
      have bx2 : x ≤ 1000000000 := by have := hx.out; omega
      have bk : k + 1 ≤ 9223372036854775807 := by omega
      have hN' := Aside0.mk hN
      have hn' := Aside0.mk hn
      clear hN hn hM
      obtain ⟨u0, e0⟩ := hM0.cell (k * 3) (by omega)
      have f0 := hM0.froz (k * 3)
      go_upto_region 6 with (fail)
      have hM1 := hM0.set hg (k * 3) (.int .i64 (x))
      generalize World.setCell wr _ _ = w1 at hM1 ⊢
      clear e0 f0 hM0 u0
      obtain ⟨u1, e1⟩ := hM1.cell (k * 3 + 1) (by omega)
      have f1 := hM1.froz (k * 3 + 1)
      go_upto_region 8 with (fail)
      have hM2 := hM1.set hg (k * 3 + 1) (.int .i64 (x + 1))
      generalize World.setCell w1 _ _ = w2 at hM2 ⊢
      clear e1 f1 hM1 u1
      obtain ⟨u2, e2⟩ := hM2.cell (k * 3 + 2) (by omega)
      have f2 := hM2.froz (k * 3 + 2)
      go_wp2
      go_roundw
      case rel => exact ⟨k + 1, x + 3, by omega, ⟨by have := hx.out; omega⟩, by go_num, by go_num, hM2.set hg _ _⟩
      case measure => simp [intOf]; omega
    · have hkn : k = n := by omega
      subst hkn
      have d2 : decide ((k : Int) < (k : Int)) = false := by simp
      go_wp2
      go_ret
      exact ⟨congrArg (fun z => Ending.returned (.int .i64 z)) hx.out, hM0⟩
end Go.Proofs.Ytphblfmjdiigkaa.Hn10
