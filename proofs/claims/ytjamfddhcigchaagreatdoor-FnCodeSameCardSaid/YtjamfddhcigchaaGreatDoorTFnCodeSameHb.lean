/- What the draws of code and of a run answer exists for every list of bytes. No condition. -/
import Derived.Test.YtjamfddhcigchaaGreatDoorTFnCodeSameHy
namespace Go.Proofs.YtjamfddhcigchaaGreatDoor.Hb
open Go.RowKit Go.Proofs.YtjamfddhcigchaaGreatDoor.HFnCodeSame Go.Proofs.YtjamfddhcigchaaGreatDoor.Hx Go.Proofs.YtjamfddhcigchaaGreatDoor.Hy Go.Proofs.YtjamfddhcigchaaGreatDoorW.PrintWords Go.Proofs.YtjamfddhcigchaaGreatDoorW.PrintLast Go.Proofs.YtjamfddhcigchaaGreatDoorW.PrintMore
set_option linter.unusedVariables false
set_option linter.unusedSimpArgs false
theorem code_some {l : List Int} (h : Byt l) (k : Nat) : ∃ ps q, spec_l5Code.f (k + 200) l 0 = some (ps, q) ∧ ps.length ≤ 1300 ∧ 0 ≤ q ∧ q ≤ 30000 := by
 unfold spec_l5Code.f
 obtain ⟨xs, q, e, hl, ho, q0, q1⟩ := some_some h k
 rw [e]; simp only [Option.bind_some]
 obtain ⟨t, ht, tl⟩ := deep_some 3 (by omega) 10 (by omega) xs hl ho 0
 have tl : t.length ≤ 1290 := tl
 rw [show spec_l5Of.f xs 0 = some t from ht]; simp only [Option.bind_some]
 by_cases hz : (t.length : Int) = 0
 ·rw [if_pos hz]; exact ⟨_, _, rfl, by omega, by omega, by omega⟩
 rw [if_neg hz]
 obtain ⟨a, ha, a0, a1⟩ := pick_some h (k + 199) q (t.length : Int) q0 (by omega)
 obtain ⟨b, hb, _⟩ := pick_some h (k + 199) (q + 1) 30 (by omega) (by omega)
 have a1 : a < (t.length : Int) := by omega
 have wa : wrap64 (a + 1) = a + 1 := wrap_id (by omega) (by omega)
 rw [show k + 199 + 1 = k + 200 by omega] at ha hb
 rw [ha]; simp only [Option.bind_some]
 rw [hb]; simp only [Option.bind_some]
 have num := fun (xs : List Int) (hx : 0 < xs.length) => num_some h (k + 199) (q + 1 + 1) xs hx (by omega) (by omega)
 split
 ·obtain ⟨n, hn, _⟩ := num [0, 9, 1, 5, 8] (by simp)
  rw [show k + 199 + 1 = k + 200 by omega] at hn
  rw [hn]; simp only [Option.bind_some]
  (try rw [if_pos a0]); (try rw [if_pos a1]); exact ⟨_, _, rfl, by simp; omega, by omega, by omega⟩
 split
 ·obtain ⟨n, hn, _⟩ := num [0, (-1), (t.length : Int), wrap64 ((t.length : Int) + 1), wrap64 (a + 1)] (by simp)
  rw [show k + 199 + 1 = k + 200 by omega] at hn
  rw [hn]; simp only [Option.bind_some]
  (try rw [if_pos a0]); (try rw [if_pos a1]); exact ⟨_, _, rfl, by simp; omega, by omega, by omega⟩
 split
 ·(try rw [if_pos a0])
  rw [if_pos (by omega), wa, if_pos (by omega), if_pos (by omega)]
  exact ⟨_, _, rfl, by have := List.length_eraseIdx_le t a.toNat; omega, by omega, by omega⟩
 split
 ·obtain ⟨u, v, r, hu, _, _⟩ := bent_addr h (k + 199) (q + 1 + 1) (by omega) (by omega)
  rw [show k + 199 + 1 = k + 200 by omega] at hu
  rw [hu]; simp only [Option.bind_some]
  (try rw [if_pos a0]); (try rw [if_pos a1]); exact ⟨_, _, rfl, by simp; omega, by omega, by omega⟩
 split
 ·obtain ⟨n, hn, _⟩ := pick_some h (k + 199) (q + 1 + 1) (t.length : Int) (by omega) (by omega)
  rw [show k + 199 + 1 = k + 200 by omega] at hn
  rw [hn]; simp only [Option.bind_some]
  rw [if_pos (by omega)]; exact ⟨_, _, rfl, by simp; omega, by omega, by omega⟩
 ·exact ⟨_, _, rfl, by omega, by omega, by omega⟩
end Go.Proofs.YtjamfddhcigchaaGreatDoor.Hb
