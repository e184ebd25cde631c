-- Made by a program of this session (hp.py) over the kit's print: functions told by hand stand beside printed ones. Lean checks it.
import Derived.Test.YtlgogdpnakbhiaaProg
import Derived.Below
import Derived.Deep.Draws
import Derived.Deep.AppendLies
import Derived.Maps.AppendAt
import Derived.OwnWalk
import Derived.Laws.BytesArg
import Derived.Laws.MakeOwn
import Derived.Laws.OwnMore
import Derived.Deep.OwnRows
import Derived.Tactics
import Derived.Lib.ConvBytes
import Derived.Laws.Slices
import Derived.WalkKit
import Derived.KernelRfl
import Derived.RowKit3
import Derived.Deep.LoopGhost
import Derived.Deep.QuietTactic
import Derived.BigQuiet
import Derived.WideLaws
import Derived.Deep.DeepCutAuto
import Derived.Deep.CutBlock
import Derived.Deep.RegionHeld3
import Derived.Laws.Rows
import Derived.Lib.AppendStr
import Derived.ArgAppend
import Derived.Laws.IdiomCopy
import Derived.OrdersHeld
import Derived.Laws.BitsLemmas
import Derived.RowKit
import Derived.Test.YtlgogdpnakbhiaaTFnMemHq
import Derived.Test.YtlgogdpnakbhiaaTFnMemWWords
import Derived.Test.YtlgogdpnakbhiaaTFnMemWLast
import Derived.Test.YtlgogdpnakbhiaaTFnMemWTab
import Derived.Test.YtlgogdpnakbhiaaTFnMemWFour
import Derived.Test.YtlgogdpnakbhiaaTFnMemWQPut
import Derived.Test.YtlgogdpnakbhiaaTFnMemWApart
import Derived.Test.YtlgogdpnakbhiaaTFnMemWArr
import Derived.Test.YtlgogdpnakbhiaaTFnMemWZeros
import Derived.Test.YtlgogdpnakbhiaaTFnMemWFoot
import Derived.Test.YtlgogdpnakbhiaaTFnMemWKept
import Derived.Test.YtlgogdpnakbhiaaTFnMemWShare
import Derived.Test.YtlgogdpnakbhiaaTFnMemWN
import Derived.Test.YtlgogdpnakbhiaaTFnMemWFootNe
import Derived.Test.YtlgogdpnakbhiaaTFnMemWAt
import Derived.Test.YtlgogdpnakbhiaaTFnMemWEqStruct
import Derived.Test.YtlgogdpnakbhiaaTFnMemWRepsOne
import Derived.Test.YtlgogdpnakbhiaaTFnMemWInv
import Derived.Test.YtlgogdpnakbhiaaTFnMemWInvWords
import Derived.Test.YtlgogdpnakbhiaaTFnMemWGuard
import Derived.Test.YtlgogdpnakbhiaaTFnMemWNEv
import Derived.Test.YtlgogdpnakbhiaaTFnMemWMore
namespace Go.Proofs.Ytlgogdpnakbhiaa.HFnMem
open Go.RowKit Go.Proofs.YtlgogdpnakbhiaaW.PrintWords Go.Proofs.YtlgogdpnakbhiaaW.PrintLast Go.Proofs.YtlgogdpnakbhiaaW.PrintMore
attribute [local go_sem] max2_int min2_int max_two min_two max_three min_three max_four min_four   -- for this text's walks alone
set_option linter.unusedVariables false
set_option linter.unusedSimpArgs false

def errW : Option Int → Value
  | none => .nilIface
  | some c => .iface 0 (.int .i64 c)
theorem errW_none : errW none = .nilIface := rfl
theorem errW_some (c : Int) : errW (some c) = .iface 0 (.int .i64 c) := rfl

theorem info3 : (Try.prog.info? 3).map (fun i => (i.zero, i.size, i.bytes)) = some (some (.int .i64 0), 1, 8) := by kernel_rfl
theorem info5 : (Try.prog.info? 5).map (fun i => (i.zero, i.size, i.bytes)) = some (some (.int .u8 0), 1, 1) := by kernel_rfl
-- the values' own types

end Go.Proofs.Ytlgogdpnakbhiaa.HFnMem
