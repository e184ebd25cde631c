/- impl.CodeOk and impl.CodeDepth (slices.Max under it) answer what Hp and Hs say. No condition. -/
import Derived.Test.YtjamfddhcigchaaGreatDoorTFnCodeSameHd
import Derived.Test.YtjamfddhcigchaaGreatDoorTFnCodeSameHs
namespace Go.Proofs.YtjamfddhcigchaaGreatDoor.Hc
open Go.RowKit Go.Proofs.YtjamfddhcigchaaGreatDoor.Hd Go.Proofs.YtjamfddhcigchaaGreatDoor.Hs Go.Proofs.YtjamfddhcigchaaGreatDoor.Ht Go.Proofs.YtjamfddhcigchaaGreatDoor.Hp Go.Proofs.YtjamfddhcigchaaGreatDoor.HFnCodeSame Go.Proofs.YtjamfddhcigchaaGreatDoorW.PrintWords Go.Proofs.YtjamfddhcigchaaGreatDoorW.PrintLast Go.Proofs.YtjamfddhcigchaaGreatDoorW.PrintMore
set_option linter.unusedVariables false
set_option linter.unusedSimpArgs false
attribute [local go_sem] max2_int min2_int max_two min_two
set_option maxRecDepth 100000 in
theorem codeOk_any (A : Option Addr) (cc : Nat) (ps : List S30) (w : World) (hr : Kd.C k30 w A ps.length ps) (hc : ps.length ≤ cc) :
  Calls Tryz.prog 15 #[.slice A ps.length cc] w fun e w' => e = .returned (.bool (okB ps)) ∧ Below w.heap.size w w' := by
 have h := depths_any A cc ps w hr hc
 generalize okB ps = b at h
 clear hr hc
 go_enter Tryz.func15, Tryz.ntmps15
 go_wp2_with fail
 refine h.mono ?_
 rintro e w' ⟨v, rfl, _, hb⟩
 clear h
 go_wp2
 go_ret
 exact ⟨rfl, hb⟩
end Go.Proofs.YtjamfddhcigchaaGreatDoor.Hc
