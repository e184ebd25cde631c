-- Made by a program of this session (hp.py) over the kit's print: functions told by hand stand beside printed ones. Lean checks it.
import Derived.Test.YtjamfddhcigchaaGreatDoorTFnCodeSameHFnCodeSamex12
namespace Go.Proofs.YtjamfddhcigchaaGreatDoor.HFnCodeSame
open Go.RowKit Go.Proofs.YtjamfddhcigchaaGreatDoorW.PrintWords Go.Proofs.YtjamfddhcigchaaGreatDoorW.PrintLast Go.Proofs.YtjamfddhcigchaaGreatDoorW.PrintMore
attribute [local go_sem] max2_int min2_int max_two min_two max_three min_three max_four min_four
set_option linter.unusedVariables false
set_option linter.unusedSimpArgs false
def spec_l2Mem.l0 : Nat → Int → List Int → Int → List Int → List Int → List Int → Option (List Int × List Int × List Int × Int)
  | 0, _, _, _, _, _, _ => none
  | k + 1, x4, x1000, x1001, x420000, x420001, x420002 => if x4 < 4 then ((spec_l12Rd_num.f k x1000 x1001 (([0, 0, 1, 1, 2, 5, (-1)] : List Int))).bind fun bt423 => (if 0 ≤ x4 then (if x4 < (x420000.length : Int) then ((spec_l12Rd_num.f k x1000 bt423.2 (([0, 0, 1, 3] : List Int))).bind fun bt429 => (if x4 < (x420001.length : Int) then ((spec_l12Rd_num.f k x1000 bt429.2 (([0, 0, 1, 2, 7, 1000000] : List Int))).bind fun bt435 => (if x4 < (x420002.length : Int) then (spec_l2Mem.l0 k (wrap64 (x4 + 1)) x1000 bt435.2 (x420000.set (x4 : Int).toNat bt423.1) (x420001.set (x4 : Int).toNat bt429.1) (x420002.set (x4 : Int).toNat bt435.1)) else (none))) else (none))) else (none)) else (none))) else (some (x420000, x420001, x420002, x1001))
def spec_l2Mem.f (k : Nat) (s0_0 : List Int) (s0_1 : Int) : Option (List Int × List Int × List Int × Int) := (spec_MemOpen.f).bind fun bt410 => (spec_l2Mem.l0 k 0 s0_0 s0_1 bt410.1 bt410.2.1 bt410.2.2)
end Go.Proofs.YtjamfddhcigchaaGreatDoor.HFnCodeSame
