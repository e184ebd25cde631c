/-
  NARROWER THAN 'FOR EVERY INPUT', by the rows' own cells (each row's printed sentence says how): FnExactExprAlike: loops · FnExactStmtsSame: loops.
  DERIVED. THE GIVEN ROWS OF THIS SEAT. 8 by the template 'for every input the law returns true; each argument reads behind the call as it read before'; 0 by the template 'total and deterministic' (their statements: YtcigooccnlbkjaaTotals.lean).
  GIVEN WITH THE SEED: the statements are not yours to turn. If you find one false, say at which input.
  Laid BY PROGRAM, IN A SANDBOX (cutbox-rows.mjs): the forced cells as the released guide's own fill.sh prints them over the translation 19dbdf0e709fbabd… (all of the seat's roots in one cut). By AI agents, Wed Nov 11 2026. No macro, syntax, notation, axiom, sorry.
-/
import Derived.Test.YtcigooccnlbkjaaChecked
import GoSem.Claim
import GoSem.ClaimJoined
import GoSem.ClaimMapViews
import Derived.JoinedTies
import Derived.KernelRfl
namespace Go.Proofs.Ytcigooccnlbkjaa
/- THE CELL 'sum', in the pinned program and in every row, IS THE sha256 OF THE DUMP (.gsa) THAT YtcigooccnlbkjaaProg.lean LOADS. Nothing in Lean hashes anything: it is a label: what it is worth is what the hold of that sum in a sandbox is worth. -/
noncomputable def Try.pinned : Pinned := { name := "ytcigooccnlbkjaa", sum := "19dbdf0e709fbabdfbc35879aa1f6deb864e379a956c0914962f96066dea4cb4", checked := Try.checked }
namespace Rows
def none {H : Type} : Left H := { results := [], args := [] }

/-- 'laws.FnExactBlockOk': WHATEVER THE INPUT: true; the input reads as it did. -/
def fnExactBlockOkSpec : ChangeSpec := { name := "fnExactBlockOk", fn := fun _ => fun
  | [d] => { results := [.lit (.bool true)], args := [d] }
  | _ => none }
def fnExactBlockOkRow : OpenClaim := { program := "ytcigooccnlbkjaa", sum := "19dbdf0e709fbabdfbc35879aa1f6deb864e379a956c0914962f96066dea4cb4", func := "loop.example/stopgate/laws.FnExactBlockOk", spec := "fnExactBlockOk", unfollowed := true, recurses := true, apart := false }
def FnExactBlockOkSaid : Prop := fnExactBlockOkRow.holds Try.pinned (OpenSpec.ofChange fnExactBlockOkSpec)

/-- ITS FALSE NEIGHBOUR: 'it returns false'. Refute it at one input. -/
def fnExactBlockOkWrong : ChangeSpec := { name := "fnExactBlockOk", fn := fun _ => fun
  | [d] => { results := [.lit (.bool false)], args := [d] }
  | _ => none }
def FnExactBlockOkWrongFalsely : Prop := fnExactBlockOkRow.holds Try.pinned (OpenSpec.ofChange fnExactBlockOkWrong)

/-- 'laws.FnExactBlockNew': WHATEVER THE INPUT: true; the input reads as it did. -/
def fnExactBlockNewSpec : ChangeSpec := { name := "fnExactBlockNew", fn := fun _ => fun
  | [d1, d2] => { results := [.lit (.bool true)], args := [d1, d2] }
  | _ => none }
def fnExactBlockNewRow : OpenClaim := { program := "ytcigooccnlbkjaa", sum := "19dbdf0e709fbabdfbc35879aa1f6deb864e379a956c0914962f96066dea4cb4", func := "loop.example/stopgate/laws.FnExactBlockNew", spec := "fnExactBlockNew", unfollowed := true, recurses := true, apart := false }
def FnExactBlockNewSaid : Prop := fnExactBlockNewRow.holds Try.pinned (OpenSpec.ofChange fnExactBlockNewSpec)

/-- ITS FALSE NEIGHBOUR: 'it returns false'. Refute it at one input. -/
def fnExactBlockNewWrong : ChangeSpec := { name := "fnExactBlockNew", fn := fun _ => fun
  | [d1, d2] => { results := [.lit (.bool false)], args := [d1, d2] }
  | _ => none }
def FnExactBlockNewWrongFalsely : Prop := fnExactBlockNewRow.holds Try.pinned (OpenSpec.ofChange fnExactBlockNewWrong)

/-- 'laws.FnBlockCount': WHATEVER THE INPUT: true; the input reads as it did. -/
def fnBlockCountSpec : ChangeSpec := { name := "fnBlockCount", fn := fun _ => fun
  | [d1, d2] => { results := [.lit (.bool true)], args := [d1, d2] }
  | _ => none }
def fnBlockCountRow : OpenClaim := { program := "ytcigooccnlbkjaa", sum := "19dbdf0e709fbabdfbc35879aa1f6deb864e379a956c0914962f96066dea4cb4", func := "loop.example/stopgate/laws.FnBlockCount", spec := "fnBlockCount", unfollowed := true, recurses := true, apart := false }
def FnBlockCountSaid : Prop := fnBlockCountRow.holds Try.pinned (OpenSpec.ofChange fnBlockCountSpec)

/-- ITS FALSE NEIGHBOUR: 'it returns false'. Refute it at one input. -/
def fnBlockCountWrong : ChangeSpec := { name := "fnBlockCount", fn := fun _ => fun
  | [d1, d2] => { results := [.lit (.bool false)], args := [d1, d2] }
  | _ => none }
def FnBlockCountWrongFalsely : Prop := fnBlockCountRow.holds Try.pinned (OpenSpec.ofChange fnBlockCountWrong)

/-- 'laws.FnBlockBent': WHATEVER THE INPUT: true; the input reads as it did. -/
def fnBlockBentSpec : ChangeSpec := { name := "fnBlockBent", fn := fun _ => fun
  | [d] => { results := [.lit (.bool true)], args := [d] }
  | _ => none }
def fnBlockBentRow : OpenClaim := { program := "ytcigooccnlbkjaa", sum := "19dbdf0e709fbabdfbc35879aa1f6deb864e379a956c0914962f96066dea4cb4", func := "loop.example/stopgate/laws.FnBlockBent", spec := "fnBlockBent", unfollowed := true, recurses := true, apart := false }
def FnBlockBentSaid : Prop := fnBlockBentRow.holds Try.pinned (OpenSpec.ofChange fnBlockBentSpec)

/-- ITS FALSE NEIGHBOUR: 'it returns false'. Refute it at one input. -/
def fnBlockBentWrong : ChangeSpec := { name := "fnBlockBent", fn := fun _ => fun
  | [d] => { results := [.lit (.bool false)], args := [d] }
  | _ => none }
def FnBlockBentWrongFalsely : Prop := fnBlockBentRow.holds Try.pinned (OpenSpec.ofChange fnBlockBentWrong)

/-- 'laws.FnExactCodeSame': WHATEVER THE INPUT: true; the input reads as it did. -/
def fnExactCodeSameSpec : ChangeSpec := { name := "fnExactCodeSame", fn := fun _ => fun
  | [d1, d2] => { results := [.lit (.bool true)], args := [d1, d2] }
  | _ => none }
def fnExactCodeSameRow : OpenClaim := { program := "ytcigooccnlbkjaa", sum := "19dbdf0e709fbabdfbc35879aa1f6deb864e379a956c0914962f96066dea4cb4", func := "loop.example/stopgate/laws.FnExactCodeSame", spec := "fnExactCodeSame", apart := false }
def FnExactCodeSameSaid : Prop := fnExactCodeSameRow.holds Try.pinned (OpenSpec.ofChange fnExactCodeSameSpec)

/-- ITS FALSE NEIGHBOUR: 'it returns false'. Refute it at one input. -/
def fnExactCodeSameWrong : ChangeSpec := { name := "fnExactCodeSame", fn := fun _ => fun
  | [d1, d2] => { results := [.lit (.bool false)], args := [d1, d2] }
  | _ => none }
def FnExactCodeSameWrongFalsely : Prop := fnExactCodeSameRow.holds Try.pinned (OpenSpec.ofChange fnExactCodeSameWrong)

/-- 'laws.FnExactExprAlike': WHATEVER THE INPUT: true; the input reads as it did. -/
def fnExactExprAlikeSpec : ChangeSpec := { name := "fnExactExprAlike", fn := fun _ => fun
  | [d1, d2] => { results := [.lit (.bool true)], args := [d1, d2] }
  | _ => none }
def fnExactExprAlikeRow : OpenClaim := { program := "ytcigooccnlbkjaa", sum := "19dbdf0e709fbabdfbc35879aa1f6deb864e379a956c0914962f96066dea4cb4", func := "loop.example/stopgate/laws.FnExactExprAlike", spec := "fnExactExprAlike", unfollowed := true, recurses := true, loops := true, apart := false }
def FnExactExprAlikeSaid : Prop := fnExactExprAlikeRow.holds Try.pinned (OpenSpec.ofChange fnExactExprAlikeSpec)

/-- ITS FALSE NEIGHBOUR: 'it returns false'. Refute it at one input. -/
def fnExactExprAlikeWrong : ChangeSpec := { name := "fnExactExprAlike", fn := fun _ => fun
  | [d1, d2] => { results := [.lit (.bool false)], args := [d1, d2] }
  | _ => none }
def FnExactExprAlikeWrongFalsely : Prop := fnExactExprAlikeRow.holds Try.pinned (OpenSpec.ofChange fnExactExprAlikeWrong)

/-- 'laws.FnExactStmtsSame': WHATEVER THE INPUT: true; the input reads as it did. -/
def fnExactStmtsSameSpec : ChangeSpec := { name := "fnExactStmtsSame", fn := fun _ => fun
  | [d1, d2] => { results := [.lit (.bool true)], args := [d1, d2] }
  | _ => none }
def fnExactStmtsSameRow : OpenClaim := { program := "ytcigooccnlbkjaa", sum := "19dbdf0e709fbabdfbc35879aa1f6deb864e379a956c0914962f96066dea4cb4", func := "loop.example/stopgate/laws.FnExactStmtsSame", spec := "fnExactStmtsSame", unfollowed := true, recurses := true, loops := true, apart := false }
def FnExactStmtsSameSaid : Prop := fnExactStmtsSameRow.holds Try.pinned (OpenSpec.ofChange fnExactStmtsSameSpec)

/-- ITS FALSE NEIGHBOUR: 'it returns false'. Refute it at one input. -/
def fnExactStmtsSameWrong : ChangeSpec := { name := "fnExactStmtsSame", fn := fun _ => fun
  | [d1, d2] => { results := [.lit (.bool false)], args := [d1, d2] }
  | _ => none }
def FnExactStmtsSameWrongFalsely : Prop := fnExactStmtsSameRow.holds Try.pinned (OpenSpec.ofChange fnExactStmtsSameWrong)

/-- 'laws.FnExactNetSame': WHATEVER THE INPUT: true; the input reads as it did. -/
def fnExactNetSameSpec : ChangeSpec := { name := "fnExactNetSame", fn := fun _ => fun
  | [d1, d2] => { results := [.lit (.bool true)], args := [d1, d2] }
  | _ => none }
def fnExactNetSameRow : OpenClaim := { program := "ytcigooccnlbkjaa", sum := "19dbdf0e709fbabdfbc35879aa1f6deb864e379a956c0914962f96066dea4cb4", func := "loop.example/stopgate/laws.FnExactNetSame", spec := "fnExactNetSame", apart := false }
def FnExactNetSameSaid : Prop := fnExactNetSameRow.holds Try.pinned (OpenSpec.ofChange fnExactNetSameSpec)

/-- ITS FALSE NEIGHBOUR: 'it returns false'. Refute it at one input. -/
def fnExactNetSameWrong : ChangeSpec := { name := "fnExactNetSame", fn := fun _ => fun
  | [d1, d2] => { results := [.lit (.bool false)], args := [d1, d2] }
  | _ => none }
def FnExactNetSameWrongFalsely : Prop := fnExactNetSameRow.holds Try.pinned (OpenSpec.ofChange fnExactNetSameWrong)

/- THE SECOND FORM. 'bulk': how many values and letters a reading holds, each counted each time it is reached (what is shared counts as often as it is met; a slice's spare places count too). A statement '..UptoSaid' is the law's where the arguments, and the package variables that the reading takes, are together of bulk at most 1048576: NARROWER than '..Said'. Prove '..Said' where nothing that the law and all that it calls make is longer than what came in: it says more and counts as full. Else prove '..UptoSaid'. A law counts once. -/
mutual
def uptoBulk {H : Type} : DataW H → Nat
  | .lit (.string bytes) => bytes.length + 1
  | .lit _ => 1
  | .nil => 1
  | .ptr d => uptoBulk d + 1
  | .slice elems spare => uptoBulkAll elems + uptoBulkAll spare + 1
  | .agg parts => uptoBulkAll parts + 1
  | .iface _ d => uptoBulk d + 1
  | .map entries => uptoBulkEntries entries + 1
  | .held _ => 1
def uptoBulkAll {H : Type} : List (DataW H) → Nat
  | [] => 0
  | d :: r => uptoBulk d + uptoBulkAll r
def uptoBulkEntries {H : Type} : List (Lit × DataW H) → Nat
  | [] => 0
  | x :: r => uptoBulkEntry x + uptoBulkEntries r
def uptoBulkEntry {H : Type} : Lit × DataW H → Nat
  | (.string bytes, d) => bytes.length + uptoBulk d + 1
  | (_, d) => uptoBulk d + 1
 end
def uptoSmall : (H : Type) → List (DataW H) → Bool := fun _ ds => decide (uptoBulkAll ds ≤ 1048576)
def OpenSpec.upto (s : _root_.Go.ChangeSpec) : _root_.Go.OpenSpec := { _root_.Go.OpenSpec.ofChange s with cond := some uptoSmall }

/-- 'laws.FnExactBlockOk', WHERE WHAT IT READS IS OF BULK AT MOST 1048576: true; the input reads as it did. -/
def fnExactBlockOkUptoRow : OpenClaim := { program := "ytcigooccnlbkjaa", sum := "19dbdf0e709fbabdfbc35879aa1f6deb864e379a956c0914962f96066dea4cb4", func := "loop.example/stopgate/laws.FnExactBlockOk", spec := "fnExactBlockOk", unfollowed := true, recurses := true, apart := false, narrowed := true }
def FnExactBlockOkUptoSaid : Prop := fnExactBlockOkUptoRow.holds Try.pinned (OpenSpec.upto fnExactBlockOkSpec)

/-- 'laws.FnExactBlockNew', WHERE WHAT IT READS IS OF BULK AT MOST 1048576: true; the input reads as it did. -/
def fnExactBlockNewUptoRow : OpenClaim := { program := "ytcigooccnlbkjaa", sum := "19dbdf0e709fbabdfbc35879aa1f6deb864e379a956c0914962f96066dea4cb4", func := "loop.example/stopgate/laws.FnExactBlockNew", spec := "fnExactBlockNew", unfollowed := true, recurses := true, apart := false, narrowed := true }
def FnExactBlockNewUptoSaid : Prop := fnExactBlockNewUptoRow.holds Try.pinned (OpenSpec.upto fnExactBlockNewSpec)

/-- 'laws.FnBlockCount', WHERE WHAT IT READS IS OF BULK AT MOST 1048576: true; the input reads as it did. -/
def fnBlockCountUptoRow : OpenClaim := { program := "ytcigooccnlbkjaa", sum := "19dbdf0e709fbabdfbc35879aa1f6deb864e379a956c0914962f96066dea4cb4", func := "loop.example/stopgate/laws.FnBlockCount", spec := "fnBlockCount", unfollowed := true, recurses := true, apart := false, narrowed := true }
def FnBlockCountUptoSaid : Prop := fnBlockCountUptoRow.holds Try.pinned (OpenSpec.upto fnBlockCountSpec)

/-- 'laws.FnBlockBent', WHERE WHAT IT READS IS OF BULK AT MOST 1048576: true; the input reads as it did. -/
def fnBlockBentUptoRow : OpenClaim := { program := "ytcigooccnlbkjaa", sum := "19dbdf0e709fbabdfbc35879aa1f6deb864e379a956c0914962f96066dea4cb4", func := "loop.example/stopgate/laws.FnBlockBent", spec := "fnBlockBent", unfollowed := true, recurses := true, apart := false, narrowed := true }
def FnBlockBentUptoSaid : Prop := fnBlockBentUptoRow.holds Try.pinned (OpenSpec.upto fnBlockBentSpec)

/-- 'laws.FnExactCodeSame', WHERE WHAT IT READS IS OF BULK AT MOST 1048576: true; the input reads as it did. -/
def fnExactCodeSameUptoRow : OpenClaim := { program := "ytcigooccnlbkjaa", sum := "19dbdf0e709fbabdfbc35879aa1f6deb864e379a956c0914962f96066dea4cb4", func := "loop.example/stopgate/laws.FnExactCodeSame", spec := "fnExactCodeSame", apart := false, narrowed := true }
def FnExactCodeSameUptoSaid : Prop := fnExactCodeSameUptoRow.holds Try.pinned (OpenSpec.upto fnExactCodeSameSpec)

/-- 'laws.FnExactExprAlike', WHERE WHAT IT READS IS OF BULK AT MOST 1048576: true; the input reads as it did. -/
def fnExactExprAlikeUptoRow : OpenClaim := { program := "ytcigooccnlbkjaa", sum := "19dbdf0e709fbabdfbc35879aa1f6deb864e379a956c0914962f96066dea4cb4", func := "loop.example/stopgate/laws.FnExactExprAlike", spec := "fnExactExprAlike", unfollowed := true, recurses := true, loops := true, apart := false, narrowed := true }
def FnExactExprAlikeUptoSaid : Prop := fnExactExprAlikeUptoRow.holds Try.pinned (OpenSpec.upto fnExactExprAlikeSpec)

/-- 'laws.FnExactStmtsSame', WHERE WHAT IT READS IS OF BULK AT MOST 1048576: true; the input reads as it did. -/
def fnExactStmtsSameUptoRow : OpenClaim := { program := "ytcigooccnlbkjaa", sum := "19dbdf0e709fbabdfbc35879aa1f6deb864e379a956c0914962f96066dea4cb4", func := "loop.example/stopgate/laws.FnExactStmtsSame", spec := "fnExactStmtsSame", unfollowed := true, recurses := true, loops := true, apart := false, narrowed := true }
def FnExactStmtsSameUptoSaid : Prop := fnExactStmtsSameUptoRow.holds Try.pinned (OpenSpec.upto fnExactStmtsSameSpec)

/-- 'laws.FnExactNetSame', WHERE WHAT IT READS IS OF BULK AT MOST 1048576: true; the input reads as it did. -/
def fnExactNetSameUptoRow : OpenClaim := { program := "ytcigooccnlbkjaa", sum := "19dbdf0e709fbabdfbc35879aa1f6deb864e379a956c0914962f96066dea4cb4", func := "loop.example/stopgate/laws.FnExactNetSame", spec := "fnExactNetSame", apart := false, narrowed := true }
def FnExactNetSameUptoSaid : Prop := fnExactNetSameUptoRow.holds Try.pinned (OpenSpec.upto fnExactNetSameSpec)

end Rows
end Go.Proofs.Ytcigooccnlbkjaa
