-- Made by a program of this session (hp.py) over the kit's print: functions told by hand stand beside printed ones. Lean checks it.
import Derived.Test.YtjamfddhcigchaaGreatDoorTFnExactCodeRunHFnExactCodeRunx2
namespace Go.Proofs.YtjamfddhcigchaaGreatDoor.HFnExactCodeRun
open Go.RowKit Go.Proofs.YtjamfddhcigchaaGreatDoorW.PrintWords Go.Proofs.YtjamfddhcigchaaGreatDoorW.PrintLast Go.Proofs.YtjamfddhcigchaaGreatDoorW.PrintMore
attribute [local go_sem] max2_int min2_int max_two min_two max_three min_three max_four min_four
set_option linter.unusedVariables false
set_option linter.unusedSimpArgs false
def spec_l2Copy.f (l0_0 : List Int) (l0_1 : List Int) (l0_2 : List Int) : Option (List Int × List Int × List Int) := (some (([] : List Int) : List Int)).bind fun y265 => (if y265.length + l0_0.length < 17592186044416 then ((some (([] : List Int) : List Int)).bind fun y271 => (if y271.length + l0_1.length < 17592186044416 then ((some (([] : List Int) : List Int)).bind fun y277 => (if y277.length + l0_2.length < 17592186044416 then (some ((y265 ++ l0_0), (y271 ++ l0_1), (y277 ++ l0_2))) else (none))) else (none))) else (none))
end Go.Proofs.YtjamfddhcigchaaGreatDoor.HFnExactCodeRun
