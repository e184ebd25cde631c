/-
  NARROWER THAN 'FOR EVERY INPUT', by the rows' own cells (each row's printed sentence says how): FnCodeSame: ifaces, laid · FnCodeBent: ifaces, laid · FnExactCodeRun: ifaces, laid · FnCodeFuel: ifaces, laid · FnCodeRun: ifaces, laid.
  DERIVED. THE GIVEN ROWS OF THIS SEAT. 5 by the template 'for every input the law returns true; each argument reads behind the call as it read before'; 0 by the template 'total and deterministic' (their statements: YtjamfddhcigchaaGreatDoorTotals.lean).
  GIVEN WITH THE SEED: the statements are not yours to turn. If you find one false, say at which input.
  Laid BY PROGRAM, IN A SANDBOX (cutbox-rows.mjs): the forced cells as the released guide's own fill.sh prints them over the translation 830734bac2cd1196… (all of the seat's roots in one cut). By AI agents, Wed Nov 11 2026. No macro, syntax, notation, axiom, sorry.
-/
import Derived.Test.YtjamfddhcigchaaGreatDoorChecked
import GoSem.Claim
import GoSem.ClaimJoined
import GoSem.ClaimMapViews
import Derived.JoinedTies
import Derived.KernelRfl
namespace Go.Proofs.YtjamfddhcigchaaGreatDoor
/- THE CELL 'sum', in the pinned program and in every row, IS THE sha256 OF THE DUMP (.gsa) THAT YtjamfddhcigchaaGreatDoorProg.lean LOADS. Nothing in Lean hashes anything: it is a label: what it is worth is what the hold of that sum in a sandbox is worth. -/
noncomputable def Tryz.pinned : Pinned := { name := "ytjamfddhcigchaagreatdoor", sum := "830734bac2cd11966cd092c4d228b77d9ada73c5a708e3ed1cf04fd62807a426", checked := Tryz.checked }
namespace Rows
def none {H : Type} : Left H := { results := [], args := [] }

/- WHAT THE LISTED PACKAGE-LEVEL VARIABLES READ AS WHEN THE CALL BEGINS. Each datum BY PROGRAM (the guide's laid-datum.mjs) off the statement by which the dump's own 'gosem.cut.vars' lays the variable. In a bare row this is a premise. The card (YtjamfddhcigchaaGreatDoorCards.lean) ties it to the program's text. -/
def laid_loop_example_stopgate_impl_errLong {H : Type} : DataW H := .iface "*errors.errorString" (.ptr (.agg [.lit (.string [116, 97, 107, 101, 115, 32, 116, 111, 111, 32, 108, 111, 110, 103])]))

/-- 'laws.FnCodeSame': WHATEVER THE INPUT: true; the input reads as it did. -/
def fnCodeSameSpec : ChangeSpec := { name := "fnCodeSame", vars := ["loop.example/stopgate/impl.errLong"], fn := fun _ => fun
  | [d, g1] => { results := [.lit (.bool true)], args := [d], vars := [g1] }
  | _ => none }
def fnCodeSameRow : OpenClaim := { program := "ytjamfddhcigchaagreatdoor", sum := "830734bac2cd11966cd092c4d228b77d9ada73c5a708e3ed1cf04fd62807a426", func := "loop.example/stopgate/laws.FnCodeSame", spec := "fnCodeSame", inPlace := ["internal/reflectlite.TypeOf"], unfollowed := true, recurses := true, named := ["loop.example/stopgate/impl.errLong"], ifaces := true, apart := false, laid := [("loop.example/stopgate/impl.errLong", laid_loop_example_stopgate_impl_errLong)] }
def FnCodeSameSaid : Prop := fnCodeSameRow.holds Tryz.pinned (OpenSpec.ofChange fnCodeSameSpec)

/-- ITS FALSE NEIGHBOUR: 'it returns false'. Refute it at one input. -/
def fnCodeSameWrong : ChangeSpec := { name := "fnCodeSame", vars := ["loop.example/stopgate/impl.errLong"], fn := fun _ => fun
  | [d, g1] => { results := [.lit (.bool false)], args := [d], vars := [g1] }
  | _ => none }
def FnCodeSameWrongFalsely : Prop := fnCodeSameRow.holds Tryz.pinned (OpenSpec.ofChange fnCodeSameWrong)

/-- 'laws.FnCodeBent': WHATEVER THE INPUT: true; the input reads as it did. -/
def fnCodeBentSpec : ChangeSpec := { name := "fnCodeBent", vars := ["loop.example/stopgate/impl.errLong"], fn := fun _ => fun
  | [d, g1] => { results := [.lit (.bool true)], args := [d], vars := [g1] }
  | _ => none }
def fnCodeBentRow : OpenClaim := { program := "ytjamfddhcigchaagreatdoor", sum := "830734bac2cd11966cd092c4d228b77d9ada73c5a708e3ed1cf04fd62807a426", func := "loop.example/stopgate/laws.FnCodeBent", spec := "fnCodeBent", inPlace := ["internal/reflectlite.TypeOf"], unfollowed := true, recurses := true, named := ["loop.example/stopgate/impl.errLong"], ifaces := true, apart := false, laid := [("loop.example/stopgate/impl.errLong", laid_loop_example_stopgate_impl_errLong)] }
def FnCodeBentSaid : Prop := fnCodeBentRow.holds Tryz.pinned (OpenSpec.ofChange fnCodeBentSpec)

/-- ITS FALSE NEIGHBOUR: 'it returns false'. Refute it at one input. -/
def fnCodeBentWrong : ChangeSpec := { name := "fnCodeBent", vars := ["loop.example/stopgate/impl.errLong"], fn := fun _ => fun
  | [d, g1] => { results := [.lit (.bool false)], args := [d], vars := [g1] }
  | _ => none }
def FnCodeBentWrongFalsely : Prop := fnCodeBentRow.holds Tryz.pinned (OpenSpec.ofChange fnCodeBentWrong)

/-- 'laws.FnExactCodeRun': WHATEVER THE INPUT: true; the input reads as it did. -/
def fnExactCodeRunSpec : ChangeSpec := { name := "fnExactCodeRun", vars := ["loop.example/stopgate/impl.errLong"], fn := fun _ => fun
  | [d1, d2, d3, g1] => { results := [.lit (.bool true)], args := [d1, d2, d3], vars := [g1] }
  | _ => none }
def fnExactCodeRunRow : OpenClaim := { program := "ytjamfddhcigchaagreatdoor", sum := "830734bac2cd11966cd092c4d228b77d9ada73c5a708e3ed1cf04fd62807a426", func := "loop.example/stopgate/laws.FnExactCodeRun", spec := "fnExactCodeRun", inPlace := ["internal/reflectlite.TypeOf"], unfollowed := true, recurses := true, named := ["loop.example/stopgate/impl.errLong"], ifaces := true, apart := false, laid := [("loop.example/stopgate/impl.errLong", laid_loop_example_stopgate_impl_errLong)] }
def FnExactCodeRunSaid : Prop := fnExactCodeRunRow.holds Tryz.pinned (OpenSpec.ofChange fnExactCodeRunSpec)

/-- ITS FALSE NEIGHBOUR: 'it returns false'. Refute it at one input. -/
def fnExactCodeRunWrong : ChangeSpec := { name := "fnExactCodeRun", vars := ["loop.example/stopgate/impl.errLong"], fn := fun _ => fun
  | [d1, d2, d3, g1] => { results := [.lit (.bool false)], args := [d1, d2, d3], vars := [g1] }
  | _ => none }
def FnExactCodeRunWrongFalsely : Prop := fnExactCodeRunRow.holds Tryz.pinned (OpenSpec.ofChange fnExactCodeRunWrong)

/-- 'laws.FnCodeFuel': WHATEVER THE INPUT: true; the input reads as it did. -/
def fnCodeFuelSpec : ChangeSpec := { name := "fnCodeFuel", vars := ["loop.example/stopgate/impl.errLong"], fn := fun _ => fun
  | [d, g1] => { results := [.lit (.bool true)], args := [d], vars := [g1] }
  | _ => none }
def fnCodeFuelRow : OpenClaim := { program := "ytjamfddhcigchaagreatdoor", sum := "830734bac2cd11966cd092c4d228b77d9ada73c5a708e3ed1cf04fd62807a426", func := "loop.example/stopgate/laws.FnCodeFuel", spec := "fnCodeFuel", inPlace := ["internal/reflectlite.TypeOf"], unfollowed := true, recurses := true, named := ["loop.example/stopgate/impl.errLong"], ifaces := true, apart := false, laid := [("loop.example/stopgate/impl.errLong", laid_loop_example_stopgate_impl_errLong)] }
def FnCodeFuelSaid : Prop := fnCodeFuelRow.holds Tryz.pinned (OpenSpec.ofChange fnCodeFuelSpec)

/-- ITS FALSE NEIGHBOUR: 'it returns false'. Refute it at one input. -/
def fnCodeFuelWrong : ChangeSpec := { name := "fnCodeFuel", vars := ["loop.example/stopgate/impl.errLong"], fn := fun _ => fun
  | [d, g1] => { results := [.lit (.bool false)], args := [d], vars := [g1] }
  | _ => none }
def FnCodeFuelWrongFalsely : Prop := fnCodeFuelRow.holds Tryz.pinned (OpenSpec.ofChange fnCodeFuelWrong)

/-- 'laws.FnCodeRun': WHATEVER THE INPUT: true; the input reads as it did. -/
def fnCodeRunSpec : ChangeSpec := { name := "fnCodeRun", vars := ["loop.example/stopgate/impl.errLong"], fn := fun _ => fun
  | [d, g1] => { results := [.lit (.bool true)], args := [d], vars := [g1] }
  | _ => none }
def fnCodeRunRow : OpenClaim := { program := "ytjamfddhcigchaagreatdoor", sum := "830734bac2cd11966cd092c4d228b77d9ada73c5a708e3ed1cf04fd62807a426", func := "loop.example/stopgate/laws.FnCodeRun", spec := "fnCodeRun", inPlace := ["internal/reflectlite.TypeOf"], unfollowed := true, recurses := true, named := ["loop.example/stopgate/impl.errLong"], ifaces := true, apart := false, laid := [("loop.example/stopgate/impl.errLong", laid_loop_example_stopgate_impl_errLong)] }
def FnCodeRunSaid : Prop := fnCodeRunRow.holds Tryz.pinned (OpenSpec.ofChange fnCodeRunSpec)

/-- ITS FALSE NEIGHBOUR: 'it returns false'. Refute it at one input. -/
def fnCodeRunWrong : ChangeSpec := { name := "fnCodeRun", vars := ["loop.example/stopgate/impl.errLong"], fn := fun _ => fun
  | [d, g1] => { results := [.lit (.bool false)], args := [d], vars := [g1] }
  | _ => none }
def FnCodeRunWrongFalsely : Prop := fnCodeRunRow.holds Tryz.pinned (OpenSpec.ofChange fnCodeRunWrong)

/- THE SECOND FORM. 'bulk': how many values and letters a reading holds, each counted each time it is reached (what is shared counts as often as it is met; a slice's spare places count too). A statement '..UptoSaid' is the law's where the arguments, and the package variables that the reading takes, are together of bulk at most 1048576: NARROWER than '..Said'. Prove '..Said' where nothing that the law and all that it calls make is longer than what came in: it says more and counts as full. Else prove '..UptoSaid'. A law counts once. -/
mutual
def uptoBulk {H : Type} : DataW H → Nat
  | .lit (.string bytes) => bytes.length + 1
  | .lit _ => 1
  | .nil => 1
  | .ptr d => uptoBulk d + 1
  | .slice elems spare => uptoBulkAll elems + uptoBulkAll spare + 1
  | .agg parts => uptoBulkAll parts + 1
  | .iface _ d => uptoBulk d + 1
  | .map entries => uptoBulkEntries entries + 1
  | .held _ => 1
def uptoBulkAll {H : Type} : List (DataW H) → Nat
  | [] => 0
  | d :: r => uptoBulk d + uptoBulkAll r
def uptoBulkEntries {H : Type} : List (Lit × DataW H) → Nat
  | [] => 0
  | x :: r => uptoBulkEntry x + uptoBulkEntries r
def uptoBulkEntry {H : Type} : Lit × DataW H → Nat
  | (.string bytes, d) => bytes.length + uptoBulk d + 1
  | (_, d) => uptoBulk d + 1
 end
def uptoSmall : (H : Type) → List (DataW H) → Bool := fun _ ds => decide (uptoBulkAll ds ≤ 1048576)
def OpenSpec.upto (s : _root_.Go.ChangeSpec) : _root_.Go.OpenSpec := { _root_.Go.OpenSpec.ofChange s with cond := some uptoSmall }

/-- 'laws.FnCodeSame', WHERE WHAT IT READS IS OF BULK AT MOST 1048576: true; the input reads as it did. -/
def fnCodeSameUptoRow : OpenClaim := { program := "ytjamfddhcigchaagreatdoor", sum := "830734bac2cd11966cd092c4d228b77d9ada73c5a708e3ed1cf04fd62807a426", func := "loop.example/stopgate/laws.FnCodeSame", spec := "fnCodeSame", inPlace := ["internal/reflectlite.TypeOf"], unfollowed := true, recurses := true, named := ["loop.example/stopgate/impl.errLong"], ifaces := true, apart := false, laid := [("loop.example/stopgate/impl.errLong", laid_loop_example_stopgate_impl_errLong)], narrowed := true }
def FnCodeSameUptoSaid : Prop := fnCodeSameUptoRow.holds Tryz.pinned (OpenSpec.upto fnCodeSameSpec)

/-- 'laws.FnCodeBent', WHERE WHAT IT READS IS OF BULK AT MOST 1048576: true; the input reads as it did. -/
def fnCodeBentUptoRow : OpenClaim := { program := "ytjamfddhcigchaagreatdoor", sum := "830734bac2cd11966cd092c4d228b77d9ada73c5a708e3ed1cf04fd62807a426", func := "loop.example/stopgate/laws.FnCodeBent", spec := "fnCodeBent", inPlace := ["internal/reflectlite.TypeOf"], unfollowed := true, recurses := true, named := ["loop.example/stopgate/impl.errLong"], ifaces := true, apart := false, laid := [("loop.example/stopgate/impl.errLong", laid_loop_example_stopgate_impl_errLong)], narrowed := true }
def FnCodeBentUptoSaid : Prop := fnCodeBentUptoRow.holds Tryz.pinned (OpenSpec.upto fnCodeBentSpec)

/-- 'laws.FnExactCodeRun', WHERE WHAT IT READS IS OF BULK AT MOST 1048576: true; the input reads as it did. -/
def fnExactCodeRunUptoRow : OpenClaim := { program := "ytjamfddhcigchaagreatdoor", sum := "830734bac2cd11966cd092c4d228b77d9ada73c5a708e3ed1cf04fd62807a426", func := "loop.example/stopgate/laws.FnExactCodeRun", spec := "fnExactCodeRun", inPlace := ["internal/reflectlite.TypeOf"], unfollowed := true, recurses := true, named := ["loop.example/stopgate/impl.errLong"], ifaces := true, apart := false, laid := [("loop.example/stopgate/impl.errLong", laid_loop_example_stopgate_impl_errLong)], narrowed := true }
def FnExactCodeRunUptoSaid : Prop := fnExactCodeRunUptoRow.holds Tryz.pinned (OpenSpec.upto fnExactCodeRunSpec)

/-- 'laws.FnCodeFuel', WHERE WHAT IT READS IS OF BULK AT MOST 1048576: true; the input reads as it did. -/
def fnCodeFuelUptoRow : OpenClaim := { program := "ytjamfddhcigchaagreatdoor", sum := "830734bac2cd11966cd092c4d228b77d9ada73c5a708e3ed1cf04fd62807a426", func := "loop.example/stopgate/laws.FnCodeFuel", spec := "fnCodeFuel", inPlace := ["internal/reflectlite.TypeOf"], unfollowed := true, recurses := true, named := ["loop.example/stopgate/impl.errLong"], ifaces := true, apart := false, laid := [("loop.example/stopgate/impl.errLong", laid_loop_example_stopgate_impl_errLong)], narrowed := true }
def FnCodeFuelUptoSaid : Prop := fnCodeFuelUptoRow.holds Tryz.pinned (OpenSpec.upto fnCodeFuelSpec)

/-- 'laws.FnCodeRun', WHERE WHAT IT READS IS OF BULK AT MOST 1048576: true; the input reads as it did. -/
def fnCodeRunUptoRow : OpenClaim := { program := "ytjamfddhcigchaagreatdoor", sum := "830734bac2cd11966cd092c4d228b77d9ada73c5a708e3ed1cf04fd62807a426", func := "loop.example/stopgate/laws.FnCodeRun", spec := "fnCodeRun", inPlace := ["internal/reflectlite.TypeOf"], unfollowed := true, recurses := true, named := ["loop.example/stopgate/impl.errLong"], ifaces := true, apart := false, laid := [("loop.example/stopgate/impl.errLong", laid_loop_example_stopgate_impl_errLong)], narrowed := true }
def FnCodeRunUptoSaid : Prop := fnCodeRunUptoRow.holds Tryz.pinned (OpenSpec.upto fnCodeRunSpec)

end Rows
end Go.Proofs.YtjamfddhcigchaaGreatDoor
