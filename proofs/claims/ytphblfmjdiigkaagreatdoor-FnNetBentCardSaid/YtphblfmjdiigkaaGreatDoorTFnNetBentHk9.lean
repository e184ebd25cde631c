/- impl.NetOk, and impl.NetText of a net that is not ok. No other condition. -/
import Derived.Test.YtphblfmjdiigkaaGreatDoorTFnNetBentHk8
import Derived.Test.YtphblfmjdiigkaaGreatDoorTFnNetBentHk7
import Derived.Test.YtphblfmjdiigkaaGreatDoorTFnNetBentHk6
import Derived.Test.YtphblfmjdiigkaaGreatDoorTFnNetBentHk5
import Derived.Test.YtphblfmjdiigkaaGreatDoorTFnNetBentHFnNetBentx4
import Derived.Test.YtphblfmjdiigkaaGreatDoorTFnNetBentHFnNetBentx6
import Derived.Test.YtphblfmjdiigkaaGreatDoorTFnNetBentHFnNetBentx7
import Derived.Test.YtphblfmjdiigkaaGreatDoorTFnNetBentHFnNetBentx8
import Derived.Test.YtphblfmjdiigkaaGreatDoorTFnNetBentHFnNetBentx9
import Derived.Test.YtphblfmjdiigkaaGreatDoorTFnNetBentHFnNetBentx12
import Derived.WalkLawsBesides
import Derived.WalkSpells
import Derived.Deep.RegionHeld
import Derived.Deep.DeepCutAuto
import Derived.Deep.CutBlock
namespace Go.Proofs.YtphblfmjdiigkaaGreatDoor.Hk9
open Go.RowKit Go.Proofs.YtphblfmjdiigkaaGreatDoor.Hk8 Go.Proofs.YtphblfmjdiigkaaGreatDoor.Hb Go.Proofs.YtphblfmjdiigkaaGreatDoor.Hk1 Go.Proofs.YtphblfmjdiigkaaGreatDoor.Hk2 Go.Proofs.YtphblfmjdiigkaaGreatDoor.Hk3 Go.Proofs.YtphblfmjdiigkaaGreatDoor.Hk4 Go.Proofs.YtphblfmjdiigkaaGreatDoor.Hk5 Go.Proofs.YtphblfmjdiigkaaGreatDoor.Hk6 Go.Proofs.YtphblfmjdiigkaaGreatDoor.Hk7 Go.Proofs.YtphblfmjdiigkaaGreatDoor.HFnNetBent Go.Proofs.YtphblfmjdiigkaaGreatDoorW.PrintWords Go.Proofs.YtphblfmjdiigkaaGreatDoorW.PrintLast Go.Proofs.YtphblfmjdiigkaaGreatDoorW.PrintMore
set_option linter.unusedVariables false
set_option linter.unusedSimpArgs false
set_option maxRecDepth 100000 in
/-- impl.NetOk answers the same. -/
theorem implOk (l : List S43) (m : List S66) (A B : Option Addr) (c d : Nat) (w : World) (hc : l.length ≤ c) (hd : m.length ≤ d) (hC : Kd.C k43 w A l.length l) (hD : Kd.C k66 w B m.length m) :
    Calls Tryz.prog 12 #[.agg #[.slice A l.length c, .slice B m.length d]] w fun e w' => e = .returned (.bool (nOk l m)) ∧ Below w.heap.size w w' := by
  have hu31 := Tryz.underlying31
  have hb1 := al w (.cells #[.slice A l.length c, .slice B m.length d] 31)
  have hg1 : (w.alloc (.cells #[.slice A l.length c, .slice B m.length d] 31)).heap[w.heap.size]? = some (.cells #[.slice A l.length c, .slice B m.length d] 31 (0, 0)) := heap_alloc_new _ _
  have hn := fun W (h : Below w.heap.size w W) => netOkC l m A B c d W hc hd (Kd.C_below hC h) (Kd.C_below hD h)
  have i0 : (w.alloc (.cells #[.slice A l.length c, .slice B m.length d] 31)).cell? ⟨w.heap.size, 0, none⟩ = some (.slice A l.length c) := (blk_cell hg1 0).trans rfl
  have i1 : (w.alloc (.cells #[.slice A l.length c, .slice B m.length d] 31)).cell? ⟨w.heap.size, 1, none⟩ = some (.slice B m.length d) := (blk_cell hg1 1).trans rfl
  generalize nOk l m = r at hn ⊢
  clear hg1 hC hD
  go_enter Tryz.func12, Tryz.ntmps12
  go_wp2_with fail
  refine (hn _ hb1).mono ?_
  rintro e w2 ⟨rfl, hb⟩
  clear hn i0 i1
  go_wp2
  go_ret
  exact ⟨rfl, hb1.trans (hb.mono hb1.size)⟩
set_option maxRecDepth 100000 in
/-- The text of a net that is not ok is none. -/
theorem textNo (l : List S43) (m : List S66) (A B : Option Addr) (c d : Nat) (w : World) (hc : l.length ≤ c) (hd : m.length ≤ d) (hC : Kd.C k43 w A l.length l) (hD : Kd.C k66 w B m.length m) (hq : nOk l m = false) :
    Calls Tryz.prog 9 #[.agg #[.slice A l.length c, .slice B m.length d]] w fun e w' => e = .returned (.string ByteArray.empty) ∧ Below w.heap.size w w' := by
  have hu31 := Tryz.underlying31
  have hb1 := al w (.cells #[.slice A l.length c, .slice B m.length d] 31)
  have hg1 : (w.alloc (.cells #[.slice A l.length c, .slice B m.length d] 31)).heap[w.heap.size]? = some (.cells #[.slice A l.length c, .slice B m.length d] 31 (0, 0)) := heap_alloc_new _ _
  have hn := fun W (h : Below w.heap.size w W) => netOkC l m A B c d W hc hd (Kd.C_below hC h) (Kd.C_below hD h)
  have i0 : (w.alloc (.cells #[.slice A l.length c, .slice B m.length d] 31)).cell? ⟨w.heap.size, 0, none⟩ = some (.slice A l.length c) := (blk_cell hg1 0).trans rfl
  have i1 : (w.alloc (.cells #[.slice A l.length c, .slice B m.length d] 31)).cell? ⟨w.heap.size, 1, none⟩ = some (.slice B m.length d) := (blk_cell hg1 1).trans rfl
  rw [hq] at hn
  clear hg1 hC hD hq
  go_enter Tryz.func9, Tryz.ntmps9
  go_wp2_with fail
  refine (hn _ hb1).mono ?_
  rintro e w2 ⟨rfl, hb⟩
  clear hn i0 i1
  go_wp2
  go_ret
  exact ⟨rfl, hb1.trans (hb.mono hb1.size)⟩
end Go.Proofs.YtphblfmjdiigkaaGreatDoor.Hk9
