/- The law FnCodeSame for every list of bytes; what the row's condition says of errLong. No other condition. -/
import Derived.Test.YtjamfddhcigchaaGreatDoorTFnCodeSameCa
import Derived.Stop.LaidErr
namespace Go.Proofs.YtjamfddhcigchaaGreatDoor.Cb
open Go.RowKit Go.ChangeShapes Go.Stop Go.Proofs.YtjamfddhcigchaaGreatDoor.Gm Go.Proofs.YtjamfddhcigchaaGreatDoor.Gn Go.Proofs.YtjamfddhcigchaaGreatDoor.Gz Go.Proofs.YtjamfddhcigchaaGreatDoor.Gq Go.Proofs.YtjamfddhcigchaaGreatDoor.Hj Go.Proofs.YtjamfddhcigchaaGreatDoor.Hm Go.Proofs.YtjamfddhcigchaaGreatDoor.Hn Go.Proofs.YtjamfddhcigchaaGreatDoor.Hq Go.Proofs.YtjamfddhcigchaaGreatDoor.Hu Go.Proofs.YtjamfddhcigchaaGreatDoor.Hv Go.Proofs.YtjamfddhcigchaaGreatDoor.Ho Go.Proofs.YtjamfddhcigchaaGreatDoor.Hc Go.Proofs.YtjamfddhcigchaaGreatDoor.Hp Go.Proofs.YtjamfddhcigchaaGreatDoor.Hx Go.Proofs.YtjamfddhcigchaaGreatDoor.HFnCodeSame Go.Proofs.YtjamfddhcigchaaGreatDoor.Hb Go.Proofs.YtjamfddhcigchaaGreatDoor.Cc Go.Proofs.YtjamfddhcigchaaGreatDoorW.PrintWords Go.Proofs.YtjamfddhcigchaaGreatDoorW.PrintLast Go.Proofs.YtjamfddhcigchaaGreatDoorW.PrintMore
set_option linter.unusedVariables false
set_option linter.unusedSimpArgs false
theorem row170 (u : TypeId) (h : Tryz.prog.typeName? 3 u = some "*errors.errorString") : u = 170 :=
 typeName_ptr_named (nm := "errors.errorString") (by rw [show "*" ++ "errors.errorString" = "*errors.errorString" by decide]; kernel_rfl) (by kernel_rfl) (by decide) u (by rw [show "*" ++ "errors.errorString" = "*errors.errorString" by decide]; exact h)
theorem le_of {r : List (String × DataW Unit)} (W : World) (h : laidMet Tryz.prog (("loop.example/stopgate/impl.errLong", .iface "*errors.errorString" (.ptr (.agg [.lit (.string [116, 97, 107, 101, 115, 32, 116, 111, 111, 32, 108, 111, 110, 103])]))) :: r) W) : LE W := by
 have hg : Tryz.prog.globalNamed "loop.example/stopgate/impl.errLong" = some 0 := by kernel_rfl
 obtain ⟨a, s, hv, -⟩ := laid_sentinel h hg (show (Tryz.prog.globals[0]?).map (·.type) = some 72 by kernel_rfl) Tryz.underlying72 row170 Tryz.underlying170 Tryz.underlying195 rfl rfl Tryz.underlying9 (by kernel_rfl) (by kernel_rfl)
 exact ⟨a, by simpa using World.var?_cell hg hv 0⟩
theorem walk (A0 : Option Addr) (c0 : Nat) (l0 : List Int) (w : World) (hr0 : Kd.C (Kd.int .u8) w A0 l0.length l0) (hc0 : l0.length ≤ c0) (hE : LE w) (hw : ∀ x ∈ l0, (Lit.int .u8 x).wf = true) :
  Calls Tryz.prog 3 #[.slice A0 l0.length c0] w fun e w' => e = .returned (.bool true) ∧ Below w.heap.size w w' := by
 by_cases hlen : 1048576 < l0.length
 ·exact Ca.long_any A0 c0 l0 w hlen
 have hlen' : l0.length ≤ 1048576 := by omega
 have hb := byt_of hw
 obtain ⟨l1, ho, hb1⟩ := open_some hb
 obtain ⟨ps, q, hp, pl, -, -⟩ := code_some hb1 5000
 have h3 : impl_CodeSame.f 5200 ps ps = some true := by
  have := same_self ps (by omega) (5199 - ps.length)
  rwa [show 5199 - ps.length + ps.length + 1 = 5200 by omega] at this
 have h2 : spec_CodeSame.f 5200 ps ps = some true := by
  have := sameS_self ps (by omega) (5199 - ps.length)
  rwa [show 5199 - ps.length + ps.length + 1 = 5200 by omega] at this
 by_cases h0 : l0 = []
 ·exact Ca.law_A A0 c0 l0 w hlen' hr0 hc0 hE ps (by omega) (Ha.drawSame_none A0 c0 l0 w hr0 hc0 5200 l1 0 q ps ho hp h0) 5200 h3 h2 h3 h3 hb
 have h0' : 0 < l0.length := List.length_pos_iff.2 h0
 by_cases h1 : Int.tmod (rd l0 0) 2 = 1
 ·have hne : ps.length ≠ (ps ++ [(⟨5, 0, ⟨0, 0⟩⟩ : S30)]).length := by simp
  have hD := Ha.drawSame_odd A0 c0 l0 w hr0 hc0 5200 l1 0 q ps ho hp h0' h1 (by omega)
  have s1 := same_ne _ _ hne 5200
  have s2 := sameS_ne _ _ hne 5200
  have s4 := same_ne _ _ hne.symm 5200
  exact Ca.law_B A0 c0 l0 w hlen' hr0 hc0 hE ps _ (by omega) hD 5200 s1 s2 h3 s4 hne hb
 ·exact Ca.law_A A0 c0 l0 w hlen' hr0 hc0 hE ps (by omega) (Ha.drawSame_even A0 c0 l0 w hr0 hc0 5200 l1 0 q ps ho hp h0' h1) 5200 h3 h2 h3 h3 hb
theorem walkRow (a0 : Option Addr) (len0 cap0 : Nat) (z0 : List Int) (w : World) (w0 : (a0 = none ∧ len0 = 0 ∧ cap0 = 0 ∧ z0 = []) ∨ ∃ x, a0 = some x ∧ len0 ≤ cap0 ∧ cap0 ≤ maxLen ∧ z0.length = cap0 ∧ (∀ i, i < z0.length → w.cell? (x.add i) = some (.int .u8 (z0.getD i 0))) ∧ ∀ n ∈ z0, (Lit.int .u8 n).wf = true) (hE : LE w) :
  Calls Tryz.prog 3 #[.slice a0 len0 cap0] w fun e w' => e = .returned (.bool true) ∧ Below w.heap.size w w' := by
 obtain ⟨l0, rfl, hr0, hm0, hw0, hc0⟩ := ReadsInt.ofRowC w0
 exact walk _ _ l0 w (Kd.C_of_reads (d := (0 : Int)) (h1 := fun _ => rfl) hr0) hc0 hE hw0
end Go.Proofs.YtjamfddhcigchaaGreatDoor.Cb
