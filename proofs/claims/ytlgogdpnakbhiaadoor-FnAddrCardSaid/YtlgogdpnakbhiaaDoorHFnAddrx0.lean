-- Made by a program of this session (hp.py) over the kit's print: functions told by hand stand beside printed ones. Lean checks it.
import Derived.Test.YtlgogdpnakbhiaaDoorProg
import Derived.Below
import Derived.Deep.Draws
import Derived.Deep.AppendLies
import Derived.Maps.AppendAt
import Derived.OwnWalk
import Derived.Laws.BytesArg
import Derived.Laws.MakeOwn
import Derived.Laws.OwnMore
import Derived.Deep.OwnRows
import Derived.Tactics
import Derived.Lib.ConvBytes
import Derived.Laws.Slices
import Derived.WalkKit
import Derived.KernelRfl
import Derived.RowKit3
import Derived.Deep.LoopGhost
import Derived.Deep.QuietTactic
import Derived.BigQuiet
import Derived.WideLaws
import Derived.Deep.DeepCutAuto
import Derived.Deep.CutBlock
import Derived.Deep.RegionHeld3
import Derived.Laws.Rows
import Derived.Lib.AppendStr
import Derived.ArgAppend
import Derived.Laws.IdiomCopy
import Derived.OrdersHeld
import Derived.Laws.BitsLemmas
import Derived.RowKit
import Derived.Test.YtlgogdpnakbhiaaDoorHm
import Derived.Test.YtlgogdpnakbhiaaDoorHn
import Derived.Test.YtlgogdpnakbhiaaDoorHq
import Derived.Test.YtlgogdpnakbhiaaDoorHa
import Derived.Test.YtlgogdpnakbhiaaDoorWWords
import Derived.Test.YtlgogdpnakbhiaaDoorWLast
import Derived.Test.YtlgogdpnakbhiaaDoorWTab
import Derived.Test.YtlgogdpnakbhiaaDoorWFour
import Derived.Test.YtlgogdpnakbhiaaDoorWQPut
import Derived.Test.YtlgogdpnakbhiaaDoorWApart
import Derived.Test.YtlgogdpnakbhiaaDoorWArr
import Derived.Test.YtlgogdpnakbhiaaDoorWZeros
import Derived.Test.YtlgogdpnakbhiaaDoorWFoot
import Derived.Test.YtlgogdpnakbhiaaDoorWKept
import Derived.Test.YtlgogdpnakbhiaaDoorWShare
import Derived.Test.YtlgogdpnakbhiaaDoorWN
import Derived.Test.YtlgogdpnakbhiaaDoorWFootNe
import Derived.Test.YtlgogdpnakbhiaaDoorWAt
import Derived.Test.YtlgogdpnakbhiaaDoorWEqStruct
import Derived.Test.YtlgogdpnakbhiaaDoorWRepsOne
import Derived.Test.YtlgogdpnakbhiaaDoorWInv
import Derived.Test.YtlgogdpnakbhiaaDoorWInvWords
import Derived.Test.YtlgogdpnakbhiaaDoorWGuard
import Derived.Test.YtlgogdpnakbhiaaDoorWNEv
import Derived.Test.YtlgogdpnakbhiaaDoorWMore
namespace Go.Proofs.YtlgogdpnakbhiaaDoor.HFnAddr
open Go.RowKit Go.Proofs.YtlgogdpnakbhiaaDoorW.PrintWords Go.Proofs.YtlgogdpnakbhiaaDoorW.PrintLast Go.Proofs.YtlgogdpnakbhiaaDoorW.PrintMore
attribute [local go_sem] max2_int min2_int max_two min_two max_three min_three max_four min_four   -- for this text's walks alone
set_option linter.unusedVariables false
set_option linter.unusedSimpArgs false



def errW : Option Int → Value
  | none => .nilIface
  | some c => .iface 0 (.int .i64 c)
theorem errW_none : errW none = .nilIface := rfl
theorem errW_some (c : Int) : errW (some c) = .iface 0 (.int .i64 c) := rfl

theorem info3 : (Tryd.prog.info? 3).map (fun i => (i.zero, i.size, i.bytes)) = some (some (.int .i64 0), 1, 8) := by kernel_rfl
theorem info5 : (Tryd.prog.info? 5).map (fun i => (i.zero, i.size, i.bytes)) = some (some (.int .u8 0), 1, 1) := by kernel_rfl
theorem info9 : (Tryd.prog.info? 9).map (fun i => (i.zero, i.size, i.bytes)) = some (some (.string ⟨#[]⟩), 1, 16) := by kernel_rfl
-- the values' own types

end Go.Proofs.YtlgogdpnakbhiaaDoor.HFnAddr
