/-
  No cell of these rows narrows 'for every input' (looked for: loops, veiled, ifaces, maps, wideKeys, modest, calm, conditions, laid).
  DERIVED. THE GIVEN ROWS OF THIS SEAT. 12 by the template 'for every input the law returns true; each argument reads behind the call as it read before'; 0 by the template 'total and deterministic' (their statements: YtcdjbkkikgnnoaaTotals.lean).
  GIVEN WITH THE SEED: the statements are not yours to turn. If you find one false, say at which input.
  Laid BY PROGRAM, IN A SANDBOX (cutbox-rows.mjs): the forced cells as the released guide's own fill.sh prints them over the translation d43896cafe9065fb… (all of the seat's roots in one cut). By AI agents, Wed Nov 11 2026. No macro, syntax, notation, axiom, sorry.
-/
import Derived.Test.YtcdjbkkikgnnoaaChecked
import GoSem.Claim
import GoSem.ClaimJoined
import GoSem.ClaimMapViews
import Derived.JoinedTies
import Derived.KernelRfl
namespace Go.Proofs.Ytcdjbkkikgnnoaa
/- THE CELL 'sum', in the pinned program and in every row, IS THE sha256 OF THE DUMP (.gsa) THAT YtcdjbkkikgnnoaaProg.lean LOADS. Nothing in Lean hashes anything: it is a label: what it is worth is what the hold of that sum in a sandbox is worth. -/
noncomputable def Try.pinned : Pinned := { name := "ytcdjbkkikgnnoaa", sum := "d43896cafe9065fb05e5b680bf7535c0e5a00f8a7a5ecc04fdbe8dbb67924a67", checked := Try.checked }
namespace Rows
def none {H : Type} : Left H := { results := [], args := [] }

/-- 'laws.FnExactConstants': WHATEVER THE INPUT: true; the input reads as it did. -/
def fnExactConstantsSpec : ChangeSpec := { name := "fnExactConstants", fn := fun _ => fun
  | [] => { results := [.lit (.bool true)], args := [] }
  | _ => none }
def fnExactConstantsRow : OpenClaim := { program := "ytcdjbkkikgnnoaa", sum := "d43896cafe9065fb05e5b680bf7535c0e5a00f8a7a5ecc04fdbe8dbb67924a67", func := "loop.example/stopgate/laws.FnExactConstants", spec := "fnExactConstants", apart := false }
def FnExactConstantsSaid : Prop := fnExactConstantsRow.holds Try.pinned (OpenSpec.ofChange fnExactConstantsSpec)

/-- ITS FALSE NEIGHBOUR: 'it returns false'. Refute it at one input. -/
def fnExactConstantsWrong : ChangeSpec := { name := "fnExactConstants", fn := fun _ => fun
  | [] => { results := [.lit (.bool false)], args := [] }
  | _ => none }
def FnExactConstantsWrongFalsely : Prop := fnExactConstantsRow.holds Try.pinned (OpenSpec.ofChange fnExactConstantsWrong)

/-- 'laws.FnExactNumOn': WHATEVER THE INPUT: true; the input reads as it did. -/
def fnExactNumOnSpec : ChangeSpec := { name := "fnExactNumOn", fn := fun _ => fun
  | [d] => { results := [.lit (.bool true)], args := [d] }
  | _ => none }
def fnExactNumOnRow : OpenClaim := { program := "ytcdjbkkikgnnoaa", sum := "d43896cafe9065fb05e5b680bf7535c0e5a00f8a7a5ecc04fdbe8dbb67924a67", func := "loop.example/stopgate/laws.FnExactNumOn", spec := "fnExactNumOn", apart := false }
def FnExactNumOnSaid : Prop := fnExactNumOnRow.holds Try.pinned (OpenSpec.ofChange fnExactNumOnSpec)

/-- ITS FALSE NEIGHBOUR: 'it returns false'. Refute it at one input. -/
def fnExactNumOnWrong : ChangeSpec := { name := "fnExactNumOn", fn := fun _ => fun
  | [d] => { results := [.lit (.bool false)], args := [d] }
  | _ => none }
def FnExactNumOnWrongFalsely : Prop := fnExactNumOnRow.holds Try.pinned (OpenSpec.ofChange fnExactNumOnWrong)

/-- 'laws.FnExactAddrOk': WHATEVER THE INPUT: true; the input reads as it did. -/
def fnExactAddrOkSpec : ChangeSpec := { name := "fnExactAddrOk", fn := fun _ => fun
  | [d] => { results := [.lit (.bool true)], args := [d] }
  | _ => none }
def fnExactAddrOkRow : OpenClaim := { program := "ytcdjbkkikgnnoaa", sum := "d43896cafe9065fb05e5b680bf7535c0e5a00f8a7a5ecc04fdbe8dbb67924a67", func := "loop.example/stopgate/laws.FnExactAddrOk", spec := "fnExactAddrOk", apart := false }
def FnExactAddrOkSaid : Prop := fnExactAddrOkRow.holds Try.pinned (OpenSpec.ofChange fnExactAddrOkSpec)

/-- ITS FALSE NEIGHBOUR: 'it returns false'. Refute it at one input. -/
def fnExactAddrOkWrong : ChangeSpec := { name := "fnExactAddrOk", fn := fun _ => fun
  | [d] => { results := [.lit (.bool false)], args := [d] }
  | _ => none }
def FnExactAddrOkWrongFalsely : Prop := fnExactAddrOkRow.holds Try.pinned (OpenSpec.ofChange fnExactAddrOkWrong)

/-- 'laws.FnExactNumIs': WHATEVER THE INPUT: true; the input reads as it did. -/
def fnExactNumIsSpec : ChangeSpec := { name := "fnExactNumIs", fn := fun _ => fun
  | [d] => { results := [.lit (.bool true)], args := [d] }
  | _ => none }
def fnExactNumIsRow : OpenClaim := { program := "ytcdjbkkikgnnoaa", sum := "d43896cafe9065fb05e5b680bf7535c0e5a00f8a7a5ecc04fdbe8dbb67924a67", func := "loop.example/stopgate/laws.FnExactNumIs", spec := "fnExactNumIs", apart := false }
def FnExactNumIsSaid : Prop := fnExactNumIsRow.holds Try.pinned (OpenSpec.ofChange fnExactNumIsSpec)

/-- ITS FALSE NEIGHBOUR: 'it returns false'. Refute it at one input. -/
def fnExactNumIsWrong : ChangeSpec := { name := "fnExactNumIs", fn := fun _ => fun
  | [d] => { results := [.lit (.bool false)], args := [d] }
  | _ => none }
def FnExactNumIsWrongFalsely : Prop := fnExactNumIsRow.holds Try.pinned (OpenSpec.ofChange fnExactNumIsWrong)

/-- 'laws.FnExactNumCut': WHATEVER THE INPUT: true; the input reads as it did. -/
def fnExactNumCutSpec : ChangeSpec := { name := "fnExactNumCut", fn := fun _ => fun
  | [d] => { results := [.lit (.bool true)], args := [d] }
  | _ => none }
def fnExactNumCutRow : OpenClaim := { program := "ytcdjbkkikgnnoaa", sum := "d43896cafe9065fb05e5b680bf7535c0e5a00f8a7a5ecc04fdbe8dbb67924a67", func := "loop.example/stopgate/laws.FnExactNumCut", spec := "fnExactNumCut", apart := false }
def FnExactNumCutSaid : Prop := fnExactNumCutRow.holds Try.pinned (OpenSpec.ofChange fnExactNumCutSpec)

/-- ITS FALSE NEIGHBOUR: 'it returns false'. Refute it at one input. -/
def fnExactNumCutWrong : ChangeSpec := { name := "fnExactNumCut", fn := fun _ => fun
  | [d] => { results := [.lit (.bool false)], args := [d] }
  | _ => none }
def FnExactNumCutWrongFalsely : Prop := fnExactNumCutRow.holds Try.pinned (OpenSpec.ofChange fnExactNumCutWrong)

/-- 'laws.FnExactNumAdd': WHATEVER THE INPUT: true; the input reads as it did. -/
def fnExactNumAddSpec : ChangeSpec := { name := "fnExactNumAdd", fn := fun _ => fun
  | [d1, d2] => { results := [.lit (.bool true)], args := [d1, d2] }
  | _ => none }
def fnExactNumAddRow : OpenClaim := { program := "ytcdjbkkikgnnoaa", sum := "d43896cafe9065fb05e5b680bf7535c0e5a00f8a7a5ecc04fdbe8dbb67924a67", func := "loop.example/stopgate/laws.FnExactNumAdd", spec := "fnExactNumAdd", apart := false }
def FnExactNumAddSaid : Prop := fnExactNumAddRow.holds Try.pinned (OpenSpec.ofChange fnExactNumAddSpec)

/-- ITS FALSE NEIGHBOUR: 'it returns false'. Refute it at one input. -/
def fnExactNumAddWrong : ChangeSpec := { name := "fnExactNumAdd", fn := fun _ => fun
  | [d1, d2] => { results := [.lit (.bool false)], args := [d1, d2] }
  | _ => none }
def FnExactNumAddWrongFalsely : Prop := fnExactNumAddRow.holds Try.pinned (OpenSpec.ofChange fnExactNumAddWrong)

/-- 'laws.FnExactNumMul': WHATEVER THE INPUT: true; the input reads as it did. -/
def fnExactNumMulSpec : ChangeSpec := { name := "fnExactNumMul", fn := fun _ => fun
  | [d1, d2] => { results := [.lit (.bool true)], args := [d1, d2] }
  | _ => none }
def fnExactNumMulRow : OpenClaim := { program := "ytcdjbkkikgnnoaa", sum := "d43896cafe9065fb05e5b680bf7535c0e5a00f8a7a5ecc04fdbe8dbb67924a67", func := "loop.example/stopgate/laws.FnExactNumMul", spec := "fnExactNumMul", apart := false }
def FnExactNumMulSaid : Prop := fnExactNumMulRow.holds Try.pinned (OpenSpec.ofChange fnExactNumMulSpec)

/-- ITS FALSE NEIGHBOUR: 'it returns false'. Refute it at one input. -/
def fnExactNumMulWrong : ChangeSpec := { name := "fnExactNumMul", fn := fun _ => fun
  | [d1, d2] => { results := [.lit (.bool false)], args := [d1, d2] }
  | _ => none }
def FnExactNumMulWrongFalsely : Prop := fnExactNumMulRow.holds Try.pinned (OpenSpec.ofChange fnExactNumMulWrong)

/-- 'laws.FnExactNumSub': WHATEVER THE INPUT: true; the input reads as it did. -/
def fnExactNumSubSpec : ChangeSpec := { name := "fnExactNumSub", fn := fun _ => fun
  | [d1, d2] => { results := [.lit (.bool true)], args := [d1, d2] }
  | _ => none }
def fnExactNumSubRow : OpenClaim := { program := "ytcdjbkkikgnnoaa", sum := "d43896cafe9065fb05e5b680bf7535c0e5a00f8a7a5ecc04fdbe8dbb67924a67", func := "loop.example/stopgate/laws.FnExactNumSub", spec := "fnExactNumSub", apart := false }
def FnExactNumSubSaid : Prop := fnExactNumSubRow.holds Try.pinned (OpenSpec.ofChange fnExactNumSubSpec)

/-- ITS FALSE NEIGHBOUR: 'it returns false'. Refute it at one input. -/
def fnExactNumSubWrong : ChangeSpec := { name := "fnExactNumSub", fn := fun _ => fun
  | [d1, d2] => { results := [.lit (.bool false)], args := [d1, d2] }
  | _ => none }
def FnExactNumSubWrongFalsely : Prop := fnExactNumSubRow.holds Try.pinned (OpenSpec.ofChange fnExactNumSubWrong)

/-- 'laws.FnNumOn': WHATEVER THE INPUT: true; the input reads as it did. -/
def fnNumOnSpec : ChangeSpec := { name := "fnNumOn", fn := fun _ => fun
  | [d] => { results := [.lit (.bool true)], args := [d] }
  | _ => none }
def fnNumOnRow : OpenClaim := { program := "ytcdjbkkikgnnoaa", sum := "d43896cafe9065fb05e5b680bf7535c0e5a00f8a7a5ecc04fdbe8dbb67924a67", func := "loop.example/stopgate/laws.FnNumOn", spec := "fnNumOn", apart := false }
def FnNumOnSaid : Prop := fnNumOnRow.holds Try.pinned (OpenSpec.ofChange fnNumOnSpec)

/-- ITS FALSE NEIGHBOUR: 'it returns false'. Refute it at one input. -/
def fnNumOnWrong : ChangeSpec := { name := "fnNumOn", fn := fun _ => fun
  | [d] => { results := [.lit (.bool false)], args := [d] }
  | _ => none }
def FnNumOnWrongFalsely : Prop := fnNumOnRow.holds Try.pinned (OpenSpec.ofChange fnNumOnWrong)

/-- 'laws.FnNumOrder': WHATEVER THE INPUT: true; the input reads as it did. -/
def fnNumOrderSpec : ChangeSpec := { name := "fnNumOrder", fn := fun _ => fun
  | [d] => { results := [.lit (.bool true)], args := [d] }
  | _ => none }
def fnNumOrderRow : OpenClaim := { program := "ytcdjbkkikgnnoaa", sum := "d43896cafe9065fb05e5b680bf7535c0e5a00f8a7a5ecc04fdbe8dbb67924a67", func := "loop.example/stopgate/laws.FnNumOrder", spec := "fnNumOrder", apart := false }
def FnNumOrderSaid : Prop := fnNumOrderRow.holds Try.pinned (OpenSpec.ofChange fnNumOrderSpec)

/-- ITS FALSE NEIGHBOUR: 'it returns false'. Refute it at one input. -/
def fnNumOrderWrong : ChangeSpec := { name := "fnNumOrder", fn := fun _ => fun
  | [d] => { results := [.lit (.bool false)], args := [d] }
  | _ => none }
def FnNumOrderWrongFalsely : Prop := fnNumOrderRow.holds Try.pinned (OpenSpec.ofChange fnNumOrderWrong)

/-- 'laws.FnNumSmall': WHATEVER THE INPUT: true; the input reads as it did. -/
def fnNumSmallSpec : ChangeSpec := { name := "fnNumSmall", fn := fun _ => fun
  | [d] => { results := [.lit (.bool true)], args := [d] }
  | _ => none }
def fnNumSmallRow : OpenClaim := { program := "ytcdjbkkikgnnoaa", sum := "d43896cafe9065fb05e5b680bf7535c0e5a00f8a7a5ecc04fdbe8dbb67924a67", func := "loop.example/stopgate/laws.FnNumSmall", spec := "fnNumSmall", apart := false }
def FnNumSmallSaid : Prop := fnNumSmallRow.holds Try.pinned (OpenSpec.ofChange fnNumSmallSpec)

/-- ITS FALSE NEIGHBOUR: 'it returns false'. Refute it at one input. -/
def fnNumSmallWrong : ChangeSpec := { name := "fnNumSmall", fn := fun _ => fun
  | [d] => { results := [.lit (.bool false)], args := [d] }
  | _ => none }
def FnNumSmallWrongFalsely : Prop := fnNumSmallRow.holds Try.pinned (OpenSpec.ofChange fnNumSmallWrong)

/-- 'laws.FnNum': WHATEVER THE INPUT: true; the input reads as it did. -/
def fnNumSpec : ChangeSpec := { name := "fnNum", fn := fun _ => fun
  | [d1, d2] => { results := [.lit (.bool true)], args := [d1, d2] }
  | _ => none }
def fnNumRow : OpenClaim := { program := "ytcdjbkkikgnnoaa", sum := "d43896cafe9065fb05e5b680bf7535c0e5a00f8a7a5ecc04fdbe8dbb67924a67", func := "loop.example/stopgate/laws.FnNum", spec := "fnNum", apart := false }
def FnNumSaid : Prop := fnNumRow.holds Try.pinned (OpenSpec.ofChange fnNumSpec)

/-- ITS FALSE NEIGHBOUR: 'it returns false'. Refute it at one input. -/
def fnNumWrong : ChangeSpec := { name := "fnNum", fn := fun _ => fun
  | [d1, d2] => { results := [.lit (.bool false)], args := [d1, d2] }
  | _ => none }
def FnNumWrongFalsely : Prop := fnNumRow.holds Try.pinned (OpenSpec.ofChange fnNumWrong)

/- THE SECOND FORM. 'bulk': how many values and letters a reading holds, each counted each time it is reached (what is shared counts as often as it is met; a slice's spare places count too). A statement '..UptoSaid' is the law's where the arguments, and the package variables that the reading takes, are together of bulk at most 1048576: NARROWER than '..Said'. Prove '..Said' where nothing that the law and all that it calls make is longer than what came in: it says more and counts as full. Else prove '..UptoSaid'. A law counts once. -/
mutual
def uptoBulk {H : Type} : DataW H → Nat
  | .lit (.string bytes) => bytes.length + 1
  | .lit _ => 1
  | .nil => 1
  | .ptr d => uptoBulk d + 1
  | .slice elems spare => uptoBulkAll elems + uptoBulkAll spare + 1
  | .agg parts => uptoBulkAll parts + 1
  | .iface _ d => uptoBulk d + 1
  | .map entries => uptoBulkEntries entries + 1
  | .held _ => 1
def uptoBulkAll {H : Type} : List (DataW H) → Nat
  | [] => 0
  | d :: r => uptoBulk d + uptoBulkAll r
def uptoBulkEntries {H : Type} : List (Lit × DataW H) → Nat
  | [] => 0
  | x :: r => uptoBulkEntry x + uptoBulkEntries r
def uptoBulkEntry {H : Type} : Lit × DataW H → Nat
  | (.string bytes, d) => bytes.length + uptoBulk d + 1
  | (_, d) => uptoBulk d + 1
 end
def uptoSmall : (H : Type) → List (DataW H) → Bool := fun _ ds => decide (uptoBulkAll ds ≤ 1048576)
def OpenSpec.upto (s : _root_.Go.ChangeSpec) : _root_.Go.OpenSpec := { _root_.Go.OpenSpec.ofChange s with cond := some uptoSmall }

/-- 'laws.FnExactConstants', WHERE WHAT IT READS IS OF BULK AT MOST 1048576: true; the input reads as it did. -/
def fnExactConstantsUptoRow : OpenClaim := { program := "ytcdjbkkikgnnoaa", sum := "d43896cafe9065fb05e5b680bf7535c0e5a00f8a7a5ecc04fdbe8dbb67924a67", func := "loop.example/stopgate/laws.FnExactConstants", spec := "fnExactConstants", apart := false, narrowed := true }
def FnExactConstantsUptoSaid : Prop := fnExactConstantsUptoRow.holds Try.pinned (OpenSpec.upto fnExactConstantsSpec)

/-- 'laws.FnExactNumOn', WHERE WHAT IT READS IS OF BULK AT MOST 1048576: true; the input reads as it did. -/
def fnExactNumOnUptoRow : OpenClaim := { program := "ytcdjbkkikgnnoaa", sum := "d43896cafe9065fb05e5b680bf7535c0e5a00f8a7a5ecc04fdbe8dbb67924a67", func := "loop.example/stopgate/laws.FnExactNumOn", spec := "fnExactNumOn", apart := false, narrowed := true }
def FnExactNumOnUptoSaid : Prop := fnExactNumOnUptoRow.holds Try.pinned (OpenSpec.upto fnExactNumOnSpec)

/-- 'laws.FnExactAddrOk', WHERE WHAT IT READS IS OF BULK AT MOST 1048576: true; the input reads as it did. -/
def fnExactAddrOkUptoRow : OpenClaim := { program := "ytcdjbkkikgnnoaa", sum := "d43896cafe9065fb05e5b680bf7535c0e5a00f8a7a5ecc04fdbe8dbb67924a67", func := "loop.example/stopgate/laws.FnExactAddrOk", spec := "fnExactAddrOk", apart := false, narrowed := true }
def FnExactAddrOkUptoSaid : Prop := fnExactAddrOkUptoRow.holds Try.pinned (OpenSpec.upto fnExactAddrOkSpec)

/-- 'laws.FnExactNumIs', WHERE WHAT IT READS IS OF BULK AT MOST 1048576: true; the input reads as it did. -/
def fnExactNumIsUptoRow : OpenClaim := { program := "ytcdjbkkikgnnoaa", sum := "d43896cafe9065fb05e5b680bf7535c0e5a00f8a7a5ecc04fdbe8dbb67924a67", func := "loop.example/stopgate/laws.FnExactNumIs", spec := "fnExactNumIs", apart := false, narrowed := true }
def FnExactNumIsUptoSaid : Prop := fnExactNumIsUptoRow.holds Try.pinned (OpenSpec.upto fnExactNumIsSpec)

/-- 'laws.FnExactNumCut', WHERE WHAT IT READS IS OF BULK AT MOST 1048576: true; the input reads as it did. -/
def fnExactNumCutUptoRow : OpenClaim := { program := "ytcdjbkkikgnnoaa", sum := "d43896cafe9065fb05e5b680bf7535c0e5a00f8a7a5ecc04fdbe8dbb67924a67", func := "loop.example/stopgate/laws.FnExactNumCut", spec := "fnExactNumCut", apart := false, narrowed := true }
def FnExactNumCutUptoSaid : Prop := fnExactNumCutUptoRow.holds Try.pinned (OpenSpec.upto fnExactNumCutSpec)

/-- 'laws.FnExactNumAdd', WHERE WHAT IT READS IS OF BULK AT MOST 1048576: true; the input reads as it did. -/
def fnExactNumAddUptoRow : OpenClaim := { program := "ytcdjbkkikgnnoaa", sum := "d43896cafe9065fb05e5b680bf7535c0e5a00f8a7a5ecc04fdbe8dbb67924a67", func := "loop.example/stopgate/laws.FnExactNumAdd", spec := "fnExactNumAdd", apart := false, narrowed := true }
def FnExactNumAddUptoSaid : Prop := fnExactNumAddUptoRow.holds Try.pinned (OpenSpec.upto fnExactNumAddSpec)

/-- 'laws.FnExactNumMul', WHERE WHAT IT READS IS OF BULK AT MOST 1048576: true; the input reads as it did. -/
def fnExactNumMulUptoRow : OpenClaim := { program := "ytcdjbkkikgnnoaa", sum := "d43896cafe9065fb05e5b680bf7535c0e5a00f8a7a5ecc04fdbe8dbb67924a67", func := "loop.example/stopgate/laws.FnExactNumMul", spec := "fnExactNumMul", apart := false, narrowed := true }
def FnExactNumMulUptoSaid : Prop := fnExactNumMulUptoRow.holds Try.pinned (OpenSpec.upto fnExactNumMulSpec)

/-- 'laws.FnExactNumSub', WHERE WHAT IT READS IS OF BULK AT MOST 1048576: true; the input reads as it did. -/
def fnExactNumSubUptoRow : OpenClaim := { program := "ytcdjbkkikgnnoaa", sum := "d43896cafe9065fb05e5b680bf7535c0e5a00f8a7a5ecc04fdbe8dbb67924a67", func := "loop.example/stopgate/laws.FnExactNumSub", spec := "fnExactNumSub", apart := false, narrowed := true }
def FnExactNumSubUptoSaid : Prop := fnExactNumSubUptoRow.holds Try.pinned (OpenSpec.upto fnExactNumSubSpec)

/-- 'laws.FnNumOn', WHERE WHAT IT READS IS OF BULK AT MOST 1048576: true; the input reads as it did. -/
def fnNumOnUptoRow : OpenClaim := { program := "ytcdjbkkikgnnoaa", sum := "d43896cafe9065fb05e5b680bf7535c0e5a00f8a7a5ecc04fdbe8dbb67924a67", func := "loop.example/stopgate/laws.FnNumOn", spec := "fnNumOn", apart := false, narrowed := true }
def FnNumOnUptoSaid : Prop := fnNumOnUptoRow.holds Try.pinned (OpenSpec.upto fnNumOnSpec)

/-- 'laws.FnNumOrder', WHERE WHAT IT READS IS OF BULK AT MOST 1048576: true; the input reads as it did. -/
def fnNumOrderUptoRow : OpenClaim := { program := "ytcdjbkkikgnnoaa", sum := "d43896cafe9065fb05e5b680bf7535c0e5a00f8a7a5ecc04fdbe8dbb67924a67", func := "loop.example/stopgate/laws.FnNumOrder", spec := "fnNumOrder", apart := false, narrowed := true }
def FnNumOrderUptoSaid : Prop := fnNumOrderUptoRow.holds Try.pinned (OpenSpec.upto fnNumOrderSpec)

/-- 'laws.FnNumSmall', WHERE WHAT IT READS IS OF BULK AT MOST 1048576: true; the input reads as it did. -/
def fnNumSmallUptoRow : OpenClaim := { program := "ytcdjbkkikgnnoaa", sum := "d43896cafe9065fb05e5b680bf7535c0e5a00f8a7a5ecc04fdbe8dbb67924a67", func := "loop.example/stopgate/laws.FnNumSmall", spec := "fnNumSmall", apart := false, narrowed := true }
def FnNumSmallUptoSaid : Prop := fnNumSmallUptoRow.holds Try.pinned (OpenSpec.upto fnNumSmallSpec)

/-- 'laws.FnNum', WHERE WHAT IT READS IS OF BULK AT MOST 1048576: true; the input reads as it did. -/
def fnNumUptoRow : OpenClaim := { program := "ytcdjbkkikgnnoaa", sum := "d43896cafe9065fb05e5b680bf7535c0e5a00f8a7a5ecc04fdbe8dbb67924a67", func := "loop.example/stopgate/laws.FnNum", spec := "fnNum", apart := false, narrowed := true }
def FnNumUptoSaid : Prop := fnNumUptoRow.holds Try.pinned (OpenSpec.upto fnNumSpec)

end Rows
end Go.Proofs.Ytcdjbkkikgnnoaa
