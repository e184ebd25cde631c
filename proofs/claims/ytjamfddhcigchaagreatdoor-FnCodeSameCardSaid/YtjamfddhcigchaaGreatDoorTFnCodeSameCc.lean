/- Plain facts of sameness: of code, of memory; what a run leaves. No condition. -/
import Derived.Test.YtjamfddhcigchaaGreatDoorTFnCodeSameHn
namespace Go.Proofs.YtjamfddhcigchaaGreatDoor.Cc
open Go.RowKit  Go.Proofs.YtjamfddhcigchaaGreatDoor.Gm Go.Proofs.YtjamfddhcigchaaGreatDoor.Gn Go.Proofs.YtjamfddhcigchaaGreatDoor.Gz Go.Proofs.YtjamfddhcigchaaGreatDoor.Gq Go.Proofs.YtjamfddhcigchaaGreatDoor.Hm Go.Proofs.YtjamfddhcigchaaGreatDoor.Hn Go.Proofs.YtjamfddhcigchaaGreatDoor.Hp Go.Proofs.YtjamfddhcigchaaGreatDoor.HFnCodeSame Go.Proofs.YtjamfddhcigchaaGreatDoorW.PrintWords Go.Proofs.YtjamfddhcigchaaGreatDoorW.PrintLast Go.Proofs.YtjamfddhcigchaaGreatDoorW.PrintMore
set_option linter.unusedVariables false
set_option linter.unusedSimpArgs false
theorem wrap_s {x : Int} (h1 : -9223372036854775808 ≤ x) (h2 : x ≤ 9223372036854775807) : wrap64 x = x := by
 unfold wrap64; omega
theorem eqI_self (l : List S30) (hl : l.length ≤ 1000000) : ∀ (d k i : Nat), i + d = l.length → impl_Ins.l0 (k + d + 1) l l (l.length : Int) (i : Int) = some true
 | 0, k, i, h => by
  rw [impl_Ins.l0, if_neg (by omega)]
 | d + 1, k, i, h => by
  rw [impl_Ins.l0, if_pos (by omega), if_pos (by omega), if_pos (by omega), if_pos (by omega), if_neg (by simp), wrap_s (by omega) (by omega), show (i : Int) + 1 = ((i + 1 : Nat) : Int) by omega, show k + (d + 1) = k + d + 1 by omega]
  exact eqI_self l hl d k (i + 1) (by omega)
theorem same_self (l : List S30) (hl : l.length ≤ 1000000) (k : Nat) : impl_CodeSame.f (k + l.length + 1) l l = some true := by
 unfold impl_CodeSame.f impl_Ins.f
 rw [if_pos rfl, show (0 : Int) = ((0 : Nat) : Int) from rfl, eqI_self l hl l.length k 0 (by omega)]
 rfl
theorem same_ne (a b : List S30) (h : a.length ≠ b.length) (k : Nat) : impl_CodeSame.f k a b = some false := by
 unfold impl_CodeSame.f impl_Ins.f
 rw [if_neg (by omega)]
 rfl
theorem eqS_self (l : List S30) (hl : l.length ≤ 1000000) : ∀ (d k i : Nat), i + d = l.length → spec_CodeSame.l0 (k + d + 1) l l (i : Int) = some true
 | 0, k, i, h => by
  rw [spec_CodeSame.l0, if_neg (by omega)]
 | d + 1, k, i, h => by
  rw [spec_CodeSame.l0, if_pos (by omega), if_pos (by omega), if_pos (by omega), if_neg (by simp), wrap_s (by omega) (by omega), show (i : Int) + 1 = ((i + 1 : Nat) : Int) by omega, show k + (d + 1) = k + d + 1 by omega]
  exact eqS_self l hl d k (i + 1) (by omega)
theorem sameS_self (l : List S30) (hl : l.length ≤ 1000000) (k : Nat) : spec_CodeSame.f (k + l.length + 1) l l = some true := by
 unfold spec_CodeSame.f
 rw [if_pos rfl, show (0 : Int) = ((0 : Nat) : Int) from rfl, eqS_self l hl l.length k 0 (by omega)]
theorem sameS_ne (a b : List S30) (h : a.length ≠ b.length) (k : Nat) : spec_CodeSame.f k a b = some false := by
 unfold spec_CodeSame.f
 rw [if_neg (by omega)]
theorem eqM_self (l : List Int) (hl : l.length ≤ 1000) : ∀ (d k i : Nat), i + d = l.length → slices_Equal_int_int.l0 (k + d + 1) l l (l.length : Int) (i : Int) = some true
 | 0, k, i, h => by
  rw [slices_Equal_int_int.l0, if_neg (by omega)]
 | d + 1, k, i, h => by
  rw [slices_Equal_int_int.l0, if_pos (by omega), if_pos (by omega), if_pos (by omega), if_pos (by omega), if_pos rfl, wrap_s (by omega) (by omega), show (i : Int) + 1 = ((i + 1 : Nat) : Int) by omega, show k + (d + 1) = k + d + 1 by omega]
  exact eqM_self l hl d k (i + 1) (by omega)
theorem eqL_self (l : List Int) (hl : l.length ≤ 6) (k : Nat) : slices_Equal_int_int.f (k + 10) l l = some true := by
 unfold slices_Equal_int_int.f
 rw [if_pos rfl, show (0 : Int) = ((0 : Nat) : Int) from rfl, show k + 10 = k + (9 - l.length) + l.length + 1 by omega, eqM_self l (by omega) l.length (k + (9 - l.length)) 0 (by omega)]
theorem memSame_self (a b c : List Int) (ha : a.length ≤ 6) (hb : b.length ≤ 6) (hc : c.length ≤ 6) (k : Nat) : impl_MemSame.f (k + 10) a b c a b c = some true := by
 unfold impl_MemSame.f
 rw [eqL_self a ha]; simp only [Option.bind_some]
 rw [if_pos trivial, eqL_self b hb]; simp only [Option.bind_some]
 rw [if_pos trivial, eqL_self c hc]; rfl
theorem runC_len {m : M3} {ps : List S30} {fuel : Int} {q : M3 × Int × Nat} (h : runC m ps fuel = some q) : q.1.a.length ≤ 6 ∧ q.1.b.length ≤ 6 ∧ q.1.c.length ≤ 6 := by
 unfold runC at h
 by_cases c : okM m.a m.b m.c = true ∧ okB ps = true ∧ 0 ≤ fuel ∧ fuel ≤ 100
 ·rw [if_pos c] at h
  have k := runI_keeps (P := fun m => m.a.length ≤ 6 ∧ m.b.length ≤ 6 ∧ m.c.length ≤ 6) (fun m k i n hm => ⟨by rw [show (m.put k i n).a = pT 1 m.a k i n from rfl, pT_len]; exact hm.1, by rw [show (m.put k i n).b = pT 2 m.b k i n from rfl, pT_len]; exact hm.2.1, by rw [show (m.put k i n).c = pT 3 m.c k i n from rfl, pT_len]; exact hm.2.2⟩) ps _ _ _ _ _ q (by obtain ⟨x, y, z⟩ := okM_len c.1; exact ⟨by show m.a.length ≤ 6; omega, by show m.b.length ≤ 6; omega, by show m.c.length ≤ 6; omega⟩) h
  exact k
 ·rw [if_neg c] at h
  obtain rfl := Option.some.inj h
  exact ⟨Nat.zero_le _, Nat.zero_le _, Nat.zero_le _⟩
end Go.Proofs.YtjamfddhcigchaaGreatDoor.Cc
