/- errors.Is of the sentinel of this program: the same one, and none (after the kit's worked example on sentinels). No condition. -/
import Derived.Test.YtjamfddhcigchaaGreatDoorProg
import Derived.WalkKit
import Derived.LaidEql
import Derived.Stop.Asserts
import Derived.RowKitTokens
namespace Go.Proofs.YtjamfddhcigchaaGreatDoor.Hi
open Go.RowKit Go.Extern.Stop Go.Stop Go.Extern
theorem isTypeOf (v : Value) (w : World) : (Extern.ReflectliteType.typeOf #[.iface 170 v]).run Tryz.prog w = .ok (.iface 150 (.agg #[.pointer (some ⟨1, 170, none⟩)])) w := by kernel_rfl
theorem isComparable (w : World) : ((Extern.ReflectliteType.method fun t => do Extern.Rtype.noPackHeld "Comparable" t; pure (.bool (← typeInfo t).comparable)) #[.agg #[.pointer (some ⟨1, 170, none⟩)]]).run Tryz.prog w = .ok (.bool true) w := by kernel_rfl
theorem isMethodComparable (v : Value) (w : World) : (Go.method 307 150 v "Comparable").run Tryz.prog w = .ok (158, v) w := by kernel_rfl
theorem isComp : (Tryz.prog.info? 170).map (·.comparable) = some true := by kernel_rfl
theorem isSize : (Tryz.prog.info? 195).map (·.size) = some 1 := by kernel_rfl
set_option maxRecDepth 100000 in
theorem is_same (a : Addr) (w : World) :
  Calls Tryz.prog 65 #[.iface 170 (.pointer (some a)), .iface 170 (.pointer (some a))] w fun e w' => e = .returned (.bool true) ∧ w' = w := by
 obtain ⟨i, hi, hcmp⟩ := Option.map_eq_some_iff.1 isComp
 obtain ⟨j, hj, hjs⟩ := Option.map_eq_some_iff.1 isSize
 have h8 := @run_callFunc_extern Tryz.prog 107 _ Extern.ReflectliteType.typeOf Tryz.func107 (by kernel_rfl) (by kernel_rfl) (by kernel_rfl) (by kernel_rfl)
 have h32 : ∀ w : World, Sem.run Tryz.prog (callFunc 158 #[.agg #[.pointer (some ⟨1, 170, none⟩)]]) w = .ok (Next.value (.bool true)) w := fun w => by
  rw [@run_callFunc_extern Tryz.prog 158 _ (Extern.ReflectliteType.method fun t => do Extern.Rtype.noPackHeld "Comparable" t; pure (.bool (← typeInfo t).comparable)) Tryz.func158 (by kernel_rfl) (by kernel_rfl) (by kernel_rfl) (by kernel_rfl), isComparable]
  rfl
 have tT := isTypeOf
 have mR := isMethodComparable
 have heq := run_eql_iface_ptr_same (P := Tryz.prog) w a Tryz.underlying72 Tryz.underlying170 hi hcmp hj
 go_enter Tryz.func65, Tryz.ntmps65
 go_wp2
 refine wp_loop_rounds 1 ?_
 rw [rounds_succ]
 go_wp2
 go_ret
 exact ⟨rfl, rfl⟩
theorem is_nil (b : Addr) (w : World) :
  Calls Tryz.prog 65 #[.nilIface, .iface 170 (.pointer (some b))] w fun e w' => e = .returned (.bool false) ∧ w' = w := by
 have hn := run_eql_iface_nil_left (P := Tryz.prog) w 170 (.pointer (some b)) Tryz.underlying72
 go_enter Tryz.func65, Tryz.ntmps65
 go_wp2
 go_ret
 exact ⟨rfl, rfl⟩
end Go.Proofs.YtjamfddhcigchaaGreatDoor.Hi
