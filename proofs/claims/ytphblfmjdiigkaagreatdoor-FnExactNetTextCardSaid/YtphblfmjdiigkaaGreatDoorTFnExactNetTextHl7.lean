/- The row of FnExactNetText gives the table. Condition: none. -/
import Derived.Test.YtphblfmjdiigkaaGreatDoorTFnExactNetTextHl6
import Derived.Test.YtphblfmjdiigkaaGreatDoorTFnExactNetTextHl5
import Derived.Test.YtphblfmjdiigkaaGreatDoorTFnExactNetTextHl4
import Derived.Test.YtphblfmjdiigkaaGreatDoorTFnExactNetTextHl3
import Derived.Test.YtphblfmjdiigkaaGreatDoorRows
import Derived.Test.YtphblfmjdiigkaaGreatDoorTFnExactNetTextHl2
import Derived.Stop.LaidErr
import Derived.LaidMore
import Derived.Lib.LaidTab
import Derived.Test.YtphblfmjdiigkaaGreatDoorTFnExactNetTextHl1
import Derived.Test.YtphblfmjdiigkaaGreatDoorTFnExactNetTextHj9
import Derived.Test.YtphblfmjdiigkaaGreatDoorTFnExactNetTextHb
import Derived.Test.YtphblfmjdiigkaaGreatDoorTFnExactNetTextHFnExactNetTextx9
import Derived.WalkSmall
import Derived.WalkLawsBesides
import Derived.WalkSpells
import Derived.Deep.RegionHeld
import Derived.Deep.DeepCutAuto
import Derived.Deep.CutBlock
namespace Go.Proofs.YtphblfmjdiigkaaGreatDoor.Hl7
open Go.RowKit Go.Proofs.YtphblfmjdiigkaaGreatDoor.Hl6 Go.Proofs.YtphblfmjdiigkaaGreatDoor.Hl5 Go.Proofs.YtphblfmjdiigkaaGreatDoor.Hl4 Go.Proofs.YtphblfmjdiigkaaGreatDoor.Hl3 Go.Proofs.YtphblfmjdiigkaaGreatDoor.Hl2 Go.Proofs.YtphblfmjdiigkaaGreatDoor.Hj9 Go.Proofs.YtphblfmjdiigkaaGreatDoor.Hj8 Go.Proofs.YtphblfmjdiigkaaGreatDoor.Hb Go.Proofs.YtphblfmjdiigkaaGreatDoor.Hj1 Go.Proofs.YtphblfmjdiigkaaGreatDoor.Hj2 Go.Proofs.YtphblfmjdiigkaaGreatDoor.Hj3 Go.Proofs.YtphblfmjdiigkaaGreatDoor.Hj4 Go.Proofs.YtphblfmjdiigkaaGreatDoor.Hj5 Go.Proofs.YtphblfmjdiigkaaGreatDoor.Hj6 Go.Proofs.YtphblfmjdiigkaaGreatDoor.Hj7 Go.Proofs.YtphblfmjdiigkaaGreatDoor.HFnExactNetText Go.Proofs.YtphblfmjdiigkaaGreatDoorW.PrintWords Go.Proofs.YtphblfmjdiigkaaGreatDoorW.PrintLast Go.Proofs.YtphblfmjdiigkaaGreatDoorW.PrintMore
set_option linter.unusedVariables false
set_option linter.unusedSimpArgs false
/-- The row's condition gives the table. -/
theorem tb_of (W : World) (hL : laidMetH Tryz.prog Rows.fnExactNetTextRow.laid W) : Tb W := by
  have h : laidMet Tryz.prog Rows.fnExactNetTextRow.laid W := hL
  have h2 : laidMet Tryz.prog [("internal/strconv.uint64pow10", Lib.tabData .u64 Lib.pow10Tab)] W := h.tail.tail
  have hg : Tryz.prog.globalNamed "internal/strconv.uint64pow10" = some 0 := by kernel_rfl
  have hT := Lib.tabIs_of_head hg (show (Tryz.prog.globals[0]?).map (·.type) = some 156 by kernel_rfl) (show Tryz.prog.underlying 156 = some (.array 20 146) by kernel_rfl) (show Tryz.prog.underlying 146 = some (.int .u64) by kernel_rfl) (by kernel_rfl) (by kernel_rfl) h2
  refine ⟨hT, 0, hg, ?_⟩
  have hv := hT
  unfold Lib.TabIs World.var? at hv
  rw [hg] at hv
  simp only [Option.bind_some] at hv
  cases hh : W.heap[0]? with
  | none => rw [hh] at hv; cases hv
  | some o => exact (Array.getElem?_eq_some_iff.1 hh).1
end Go.Proofs.YtphblfmjdiigkaaGreatDoor.Hl7
