/-
  No cell of these rows narrows 'for every input' (looked for: loops, veiled, ifaces, maps, wideKeys, modest, calm, conditions, laid).
  DERIVED. THE GIVEN ROWS OF THIS SEAT. 3 by the template 'for every input the law returns true; each argument reads behind the call as it read before'; 0 by the template 'total and deterministic' (their statements: YtphblfmjdiigkaaTotals.lean).
  GIVEN WITH THE SEED: the statements are not yours to turn. If you find one false, say at which input.
  Laid BY PROGRAM, IN A SANDBOX (cutbox-rows.mjs): the forced cells as the released guide's own fill.sh prints them over the translation 124a4fc14438419f… (all of the seat's roots in one cut). By AI agents, Wed Nov 11 2026. No macro, syntax, notation, axiom, sorry.
-/
import Derived.Test.YtphblfmjdiigkaaChecked
import GoSem.Claim
import GoSem.ClaimJoined
import GoSem.ClaimMapViews
import Derived.JoinedTies
import Derived.KernelRfl
namespace Go.Proofs.Ytphblfmjdiigkaa
/- THE CELL 'sum', in the pinned program and in every row, IS THE sha256 OF THE DUMP (.gsa) THAT YtphblfmjdiigkaaProg.lean LOADS. Nothing in Lean hashes anything: it is a label: what it is worth is what the hold of that sum in a sandbox is worth. -/
noncomputable def Try.pinned : Pinned := { name := "ytphblfmjdiigkaa", sum := "124a4fc14438419fb419ae8d8638a15da696e993e94fa7c2ef2017937447cd3d", checked := Try.checked }
namespace Rows
def none {H : Type} : Left H := { results := [], args := [] }

/-- 'laws.FnExactNetOrder': WHATEVER THE INPUT: true; the input reads as it did. -/
def fnExactNetOrderSpec : ChangeSpec := { name := "fnExactNetOrder", fn := fun _ => fun
  | [d] => { results := [.lit (.bool true)], args := [d] }
  | _ => none }
def fnExactNetOrderRow : OpenClaim := { program := "ytphblfmjdiigkaa", sum := "124a4fc14438419fb419ae8d8638a15da696e993e94fa7c2ef2017937447cd3d", func := "loop.example/stopgate/laws.FnExactNetOrder", spec := "fnExactNetOrder", unfollowed := true, recurses := true, apart := false }
def FnExactNetOrderSaid : Prop := fnExactNetOrderRow.holds Try.pinned (OpenSpec.ofChange fnExactNetOrderSpec)

/-- ITS FALSE NEIGHBOUR: 'it returns false'. Refute it at one input. -/
def fnExactNetOrderWrong : ChangeSpec := { name := "fnExactNetOrder", fn := fun _ => fun
  | [d] => { results := [.lit (.bool false)], args := [d] }
  | _ => none }
def FnExactNetOrderWrongFalsely : Prop := fnExactNetOrderRow.holds Try.pinned (OpenSpec.ofChange fnExactNetOrderWrong)

/-- 'laws.FnExactNetOk': WHATEVER THE INPUT: true; the input reads as it did. -/
def fnExactNetOkSpec : ChangeSpec := { name := "fnExactNetOk", fn := fun _ => fun
  | [d] => { results := [.lit (.bool true)], args := [d] }
  | _ => none }
def fnExactNetOkRow : OpenClaim := { program := "ytphblfmjdiigkaa", sum := "124a4fc14438419fb419ae8d8638a15da696e993e94fa7c2ef2017937447cd3d", func := "loop.example/stopgate/laws.FnExactNetOk", spec := "fnExactNetOk", unfollowed := true, recurses := true, apart := false }
def FnExactNetOkSaid : Prop := fnExactNetOkRow.holds Try.pinned (OpenSpec.ofChange fnExactNetOkSpec)

/-- ITS FALSE NEIGHBOUR: 'it returns false'. Refute it at one input. -/
def fnExactNetOkWrong : ChangeSpec := { name := "fnExactNetOk", fn := fun _ => fun
  | [d] => { results := [.lit (.bool false)], args := [d] }
  | _ => none }
def FnExactNetOkWrongFalsely : Prop := fnExactNetOkRow.holds Try.pinned (OpenSpec.ofChange fnExactNetOkWrong)

/-- 'laws.FnNetOrder': WHATEVER THE INPUT: true; the input reads as it did. -/
def fnNetOrderSpec : ChangeSpec := { name := "fnNetOrder", fn := fun _ => fun
  | [d] => { results := [.lit (.bool true)], args := [d] }
  | _ => none }
def fnNetOrderRow : OpenClaim := { program := "ytphblfmjdiigkaa", sum := "124a4fc14438419fb419ae8d8638a15da696e993e94fa7c2ef2017937447cd3d", func := "loop.example/stopgate/laws.FnNetOrder", spec := "fnNetOrder", unfollowed := true, recurses := true, apart := false }
def FnNetOrderSaid : Prop := fnNetOrderRow.holds Try.pinned (OpenSpec.ofChange fnNetOrderSpec)

/-- ITS FALSE NEIGHBOUR: 'it returns false'. Refute it at one input. -/
def fnNetOrderWrong : ChangeSpec := { name := "fnNetOrder", fn := fun _ => fun
  | [d] => { results := [.lit (.bool false)], args := [d] }
  | _ => none }
def FnNetOrderWrongFalsely : Prop := fnNetOrderRow.holds Try.pinned (OpenSpec.ofChange fnNetOrderWrong)

/- THE SECOND FORM. 'bulk': how many values and letters a reading holds, each counted each time it is reached (what is shared counts as often as it is met; a slice's spare places count too). A statement '..UptoSaid' is the law's where the arguments, and the package variables that the reading takes, are together of bulk at most 1048576: NARROWER than '..Said'. Prove '..Said' where nothing that the law and all that it calls make is longer than what came in: it says more and counts as full. Else prove '..UptoSaid'. A law counts once. -/
mutual
def uptoBulk {H : Type} : DataW H → Nat
  | .lit (.string bytes) => bytes.length + 1
  | .lit _ => 1
  | .nil => 1
  | .ptr d => uptoBulk d + 1
  | .slice elems spare => uptoBulkAll elems + uptoBulkAll spare + 1
  | .agg parts => uptoBulkAll parts + 1
  | .iface _ d => uptoBulk d + 1
  | .map entries => uptoBulkEntries entries + 1
  | .held _ => 1
def uptoBulkAll {H : Type} : List (DataW H) → Nat
  | [] => 0
  | d :: r => uptoBulk d + uptoBulkAll r
def uptoBulkEntries {H : Type} : List (Lit × DataW H) → Nat
  | [] => 0
  | x :: r => uptoBulkEntry x + uptoBulkEntries r
def uptoBulkEntry {H : Type} : Lit × DataW H → Nat
  | (.string bytes, d) => bytes.length + uptoBulk d + 1
  | (_, d) => uptoBulk d + 1
 end
def uptoSmall : (H : Type) → List (DataW H) → Bool := fun _ ds => decide (uptoBulkAll ds ≤ 1048576)
def OpenSpec.upto (s : _root_.Go.ChangeSpec) : _root_.Go.OpenSpec := { _root_.Go.OpenSpec.ofChange s with cond := some uptoSmall }

/-- 'laws.FnExactNetOrder', WHERE WHAT IT READS IS OF BULK AT MOST 1048576: true; the input reads as it did. -/
def fnExactNetOrderUptoRow : OpenClaim := { program := "ytphblfmjdiigkaa", sum := "124a4fc14438419fb419ae8d8638a15da696e993e94fa7c2ef2017937447cd3d", func := "loop.example/stopgate/laws.FnExactNetOrder", spec := "fnExactNetOrder", unfollowed := true, recurses := true, apart := false, narrowed := true }
def FnExactNetOrderUptoSaid : Prop := fnExactNetOrderUptoRow.holds Try.pinned (OpenSpec.upto fnExactNetOrderSpec)

/-- 'laws.FnExactNetOk', WHERE WHAT IT READS IS OF BULK AT MOST 1048576: true; the input reads as it did. -/
def fnExactNetOkUptoRow : OpenClaim := { program := "ytphblfmjdiigkaa", sum := "124a4fc14438419fb419ae8d8638a15da696e993e94fa7c2ef2017937447cd3d", func := "loop.example/stopgate/laws.FnExactNetOk", spec := "fnExactNetOk", unfollowed := true, recurses := true, apart := false, narrowed := true }
def FnExactNetOkUptoSaid : Prop := fnExactNetOkUptoRow.holds Try.pinned (OpenSpec.upto fnExactNetOkSpec)

/-- 'laws.FnNetOrder', WHERE WHAT IT READS IS OF BULK AT MOST 1048576: true; the input reads as it did. -/
def fnNetOrderUptoRow : OpenClaim := { program := "ytphblfmjdiigkaa", sum := "124a4fc14438419fb419ae8d8638a15da696e993e94fa7c2ef2017937447cd3d", func := "loop.example/stopgate/laws.FnNetOrder", spec := "fnNetOrder", unfollowed := true, recurses := true, apart := false, narrowed := true }
def FnNetOrderUptoSaid : Prop := fnNetOrderUptoRow.holds Try.pinned (OpenSpec.upto fnNetOrderSpec)

end Rows
end Go.Proofs.Ytphblfmjdiigkaa
