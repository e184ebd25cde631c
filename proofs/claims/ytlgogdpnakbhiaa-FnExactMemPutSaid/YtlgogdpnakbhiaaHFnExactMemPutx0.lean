-- Made by a program of this session (hp.py) over the kit's print: functions told by hand stand beside printed ones. Lean checks it.
import Derived.Test.YtlgogdpnakbhiaaProg
import Derived.Below
import Derived.Deep.Draws
import Derived.Deep.AppendLies
import Derived.Maps.AppendAt
import Derived.OwnWalk
import Derived.Laws.BytesArg
import Derived.Laws.MakeOwn
import Derived.Laws.OwnMore
import Derived.Deep.OwnRows
import Derived.Tactics
import Derived.Lib.ConvBytes
import Derived.Laws.Slices
import Derived.WalkKit
import Derived.KernelRfl
import Derived.RowKit3
import Derived.Deep.LoopGhost
import Derived.Deep.QuietTactic
import Derived.BigQuiet
import Derived.WideLaws
import Derived.Deep.DeepCutAuto
import Derived.Deep.CutBlock
import Derived.Deep.RegionHeld3
import Derived.Laws.Rows
import Derived.Lib.AppendStr
import Derived.ArgAppend
import Derived.Laws.IdiomCopy
import Derived.OrdersHeld
import Derived.Laws.BitsLemmas
import Derived.RowKit
import Derived.Test.YtlgogdpnakbhiaaHq
import Derived.Test.YtlgogdpnakbhiaaWWords
import Derived.Test.YtlgogdpnakbhiaaWLast
import Derived.Test.YtlgogdpnakbhiaaWTab
import Derived.Test.YtlgogdpnakbhiaaWFour
import Derived.Test.YtlgogdpnakbhiaaWQPut
import Derived.Test.YtlgogdpnakbhiaaWApart
import Derived.Test.YtlgogdpnakbhiaaWArr
import Derived.Test.YtlgogdpnakbhiaaWZeros
import Derived.Test.YtlgogdpnakbhiaaWFoot
import Derived.Test.YtlgogdpnakbhiaaWKept
import Derived.Test.YtlgogdpnakbhiaaWShare
import Derived.Test.YtlgogdpnakbhiaaWN
import Derived.Test.YtlgogdpnakbhiaaWFootNe
import Derived.Test.YtlgogdpnakbhiaaWAt
import Derived.Test.YtlgogdpnakbhiaaWEqStruct
import Derived.Test.YtlgogdpnakbhiaaWRepsOne
import Derived.Test.YtlgogdpnakbhiaaWInv
import Derived.Test.YtlgogdpnakbhiaaWInvWords
import Derived.Test.YtlgogdpnakbhiaaWGuard
import Derived.Test.YtlgogdpnakbhiaaWNEv
import Derived.Test.YtlgogdpnakbhiaaWMore
namespace Go.Proofs.Ytlgogdpnakbhiaa.HFnExactMemPut
open Go.RowKit Go.Proofs.YtlgogdpnakbhiaaW.PrintWords Go.Proofs.YtlgogdpnakbhiaaW.PrintLast Go.Proofs.YtlgogdpnakbhiaaW.PrintMore
attribute [local go_sem] max2_int min2_int max_two min_two max_three min_three max_four min_four   -- for this text's walks alone
set_option linter.unusedVariables false
set_option linter.unusedSimpArgs false



def errW : Option Int → Value
  | none => .nilIface
  | some c => .iface 0 (.int .i64 c)
theorem errW_none : errW none = .nilIface := rfl
theorem errW_some (c : Int) : errW (some c) = .iface 0 (.int .i64 c) := rfl

theorem info3 : (Try.prog.info? 3).map (fun i => (i.zero, i.size, i.bytes)) = some (some (.int .i64 0), 1, 8) := by kernel_rfl
-- the values' own types

end Go.Proofs.Ytlgogdpnakbhiaa.HFnExactMemPut
