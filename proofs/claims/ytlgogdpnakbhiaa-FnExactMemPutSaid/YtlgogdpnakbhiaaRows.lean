/-
  No cell of these rows narrows 'for every input' (looked for: loops, veiled, ifaces, maps, wideKeys, modest, calm, conditions, laid).
  DERIVED. THE GIVEN ROWS OF THIS SEAT. 8 by the template 'for every input the law returns true; each argument reads behind the call as it read before'; 0 by the template 'total and deterministic' (their statements: YtlgogdpnakbhiaaTotals.lean).
  GIVEN WITH THE SEED: the statements are not yours to turn. If you find one false, say at which input.
  Laid BY PROGRAM, IN A SANDBOX (cutbox-rows.mjs): the forced cells as the released guide's own fill.sh prints them over the translation d34545634f03b50b… (all of the seat's roots in one cut). By AI agents, Wed Nov 11 2026. No macro, syntax, notation, axiom, sorry.
-/
import Derived.Test.YtlgogdpnakbhiaaChecked
import GoSem.Claim
import GoSem.ClaimJoined
import GoSem.ClaimMapViews
import Derived.JoinedTies
import Derived.KernelRfl
namespace Go.Proofs.Ytlgogdpnakbhiaa
/- THE CELL 'sum', in the pinned program and in every row, IS THE sha256 OF THE DUMP (.gsa) THAT YtlgogdpnakbhiaaProg.lean LOADS. Nothing in Lean hashes anything: it is a label: what it is worth is what the hold of that sum in a sandbox is worth. -/
noncomputable def Try.pinned : Pinned := { name := "ytlgogdpnakbhiaa", sum := "d34545634f03b50bb79a2ffcbba8f1ec7e30bcc273b1149588fccda3acd7d48c", checked := Try.checked }
namespace Rows
def none {H : Type} : Left H := { results := [], args := [] }

/-- 'laws.FnExactMemOpen': WHATEVER THE INPUT: true; the input reads as it did. -/
def fnExactMemOpenSpec : ChangeSpec := { name := "fnExactMemOpen", fn := fun _ => fun
  | [] => { results := [.lit (.bool true)], args := [] }
  | _ => none }
def fnExactMemOpenRow : OpenClaim := { program := "ytlgogdpnakbhiaa", sum := "d34545634f03b50bb79a2ffcbba8f1ec7e30bcc273b1149588fccda3acd7d48c", func := "loop.example/stopgate/laws.FnExactMemOpen", spec := "fnExactMemOpen", apart := false }
def FnExactMemOpenSaid : Prop := fnExactMemOpenRow.holds Try.pinned (OpenSpec.ofChange fnExactMemOpenSpec)

/-- ITS FALSE NEIGHBOUR: 'it returns false'. Refute it at one input. -/
def fnExactMemOpenWrong : ChangeSpec := { name := "fnExactMemOpen", fn := fun _ => fun
  | [] => { results := [.lit (.bool false)], args := [] }
  | _ => none }
def FnExactMemOpenWrongFalsely : Prop := fnExactMemOpenRow.holds Try.pinned (OpenSpec.ofChange fnExactMemOpenWrong)

/-- 'laws.FnExactMemSame': WHATEVER THE INPUT: true; the input reads as it did. -/
def fnExactMemSameSpec : ChangeSpec := { name := "fnExactMemSame", fn := fun _ => fun
  | [d1, d2] => { results := [.lit (.bool true)], args := [d1, d2] }
  | _ => none }
def fnExactMemSameRow : OpenClaim := { program := "ytlgogdpnakbhiaa", sum := "d34545634f03b50bb79a2ffcbba8f1ec7e30bcc273b1149588fccda3acd7d48c", func := "loop.example/stopgate/laws.FnExactMemSame", spec := "fnExactMemSame", apart := false }
def FnExactMemSameSaid : Prop := fnExactMemSameRow.holds Try.pinned (OpenSpec.ofChange fnExactMemSameSpec)

/-- ITS FALSE NEIGHBOUR: 'it returns false'. Refute it at one input. -/
def fnExactMemSameWrong : ChangeSpec := { name := "fnExactMemSame", fn := fun _ => fun
  | [d1, d2] => { results := [.lit (.bool false)], args := [d1, d2] }
  | _ => none }
def FnExactMemSameWrongFalsely : Prop := fnExactMemSameRow.holds Try.pinned (OpenSpec.ofChange fnExactMemSameWrong)

/-- 'laws.FnExactMemOk': WHATEVER THE INPUT: true; the input reads as it did. -/
def fnExactMemOkSpec : ChangeSpec := { name := "fnExactMemOk", fn := fun _ => fun
  | [d] => { results := [.lit (.bool true)], args := [d] }
  | _ => none }
def fnExactMemOkRow : OpenClaim := { program := "ytlgogdpnakbhiaa", sum := "d34545634f03b50bb79a2ffcbba8f1ec7e30bcc273b1149588fccda3acd7d48c", func := "loop.example/stopgate/laws.FnExactMemOk", spec := "fnExactMemOk", unfollowed := true, recurses := true, apart := false }
def FnExactMemOkSaid : Prop := fnExactMemOkRow.holds Try.pinned (OpenSpec.ofChange fnExactMemOkSpec)

/-- ITS FALSE NEIGHBOUR: 'it returns false'. Refute it at one input. -/
def fnExactMemOkWrong : ChangeSpec := { name := "fnExactMemOk", fn := fun _ => fun
  | [d] => { results := [.lit (.bool false)], args := [d] }
  | _ => none }
def FnExactMemOkWrongFalsely : Prop := fnExactMemOkRow.holds Try.pinned (OpenSpec.ofChange fnExactMemOkWrong)

/-- 'laws.FnExactMemGet': WHATEVER THE INPUT: true; the input reads as it did. -/
def fnExactMemGetSpec : ChangeSpec := { name := "fnExactMemGet", fn := fun _ => fun
  | [d1, d2] => { results := [.lit (.bool true)], args := [d1, d2] }
  | _ => none }
def fnExactMemGetRow : OpenClaim := { program := "ytlgogdpnakbhiaa", sum := "d34545634f03b50bb79a2ffcbba8f1ec7e30bcc273b1149588fccda3acd7d48c", func := "loop.example/stopgate/laws.FnExactMemGet", spec := "fnExactMemGet", unfollowed := true, recurses := true, apart := false }
def FnExactMemGetSaid : Prop := fnExactMemGetRow.holds Try.pinned (OpenSpec.ofChange fnExactMemGetSpec)

/-- ITS FALSE NEIGHBOUR: 'it returns false'. Refute it at one input. -/
def fnExactMemGetWrong : ChangeSpec := { name := "fnExactMemGet", fn := fun _ => fun
  | [d1, d2] => { results := [.lit (.bool false)], args := [d1, d2] }
  | _ => none }
def FnExactMemGetWrongFalsely : Prop := fnExactMemGetRow.holds Try.pinned (OpenSpec.ofChange fnExactMemGetWrong)

/-- 'laws.FnExactMemPut': WHATEVER THE INPUT: true; the input reads as it did. -/
def fnExactMemPutSpec : ChangeSpec := { name := "fnExactMemPut", fn := fun _ => fun
  | [d1, d2, d3] => { results := [.lit (.bool true)], args := [d1, d2, d3] }
  | _ => none }
def fnExactMemPutRow : OpenClaim := { program := "ytlgogdpnakbhiaa", sum := "d34545634f03b50bb79a2ffcbba8f1ec7e30bcc273b1149588fccda3acd7d48c", func := "loop.example/stopgate/laws.FnExactMemPut", spec := "fnExactMemPut", unfollowed := true, recurses := true, apart := false }
def FnExactMemPutSaid : Prop := fnExactMemPutRow.holds Try.pinned (OpenSpec.ofChange fnExactMemPutSpec)

/-- ITS FALSE NEIGHBOUR: 'it returns false'. Refute it at one input. -/
def fnExactMemPutWrong : ChangeSpec := { name := "fnExactMemPut", fn := fun _ => fun
  | [d1, d2, d3] => { results := [.lit (.bool false)], args := [d1, d2, d3] }
  | _ => none }
def FnExactMemPutWrongFalsely : Prop := fnExactMemPutRow.holds Try.pinned (OpenSpec.ofChange fnExactMemPutWrong)

/-- 'laws.FnMemAll': WHATEVER THE INPUT: true; the input reads as it did. -/
def fnMemAllSpec : ChangeSpec := { name := "fnMemAll", fn := fun _ => fun
  | [d] => { results := [.lit (.bool true)], args := [d] }
  | _ => none }
def fnMemAllRow : OpenClaim := { program := "ytlgogdpnakbhiaa", sum := "d34545634f03b50bb79a2ffcbba8f1ec7e30bcc273b1149588fccda3acd7d48c", func := "loop.example/stopgate/laws.FnMemAll", spec := "fnMemAll", unfollowed := true, recurses := true, apart := false }
def FnMemAllSaid : Prop := fnMemAllRow.holds Try.pinned (OpenSpec.ofChange fnMemAllSpec)

/-- ITS FALSE NEIGHBOUR: 'it returns false'. Refute it at one input. -/
def fnMemAllWrong : ChangeSpec := { name := "fnMemAll", fn := fun _ => fun
  | [d] => { results := [.lit (.bool false)], args := [d] }
  | _ => none }
def FnMemAllWrongFalsely : Prop := fnMemAllRow.holds Try.pinned (OpenSpec.ofChange fnMemAllWrong)

/-- 'laws.FnMemTwo': WHATEVER THE INPUT: true; the input reads as it did. -/
def fnMemTwoSpec : ChangeSpec := { name := "fnMemTwo", fn := fun _ => fun
  | [d1, d2] => { results := [.lit (.bool true)], args := [d1, d2] }
  | _ => none }
def fnMemTwoRow : OpenClaim := { program := "ytlgogdpnakbhiaa", sum := "d34545634f03b50bb79a2ffcbba8f1ec7e30bcc273b1149588fccda3acd7d48c", func := "loop.example/stopgate/laws.FnMemTwo", spec := "fnMemTwo", unfollowed := true, recurses := true, apart := false }
def FnMemTwoSaid : Prop := fnMemTwoRow.holds Try.pinned (OpenSpec.ofChange fnMemTwoSpec)

/-- ITS FALSE NEIGHBOUR: 'it returns false'. Refute it at one input. -/
def fnMemTwoWrong : ChangeSpec := { name := "fnMemTwo", fn := fun _ => fun
  | [d1, d2] => { results := [.lit (.bool false)], args := [d1, d2] }
  | _ => none }
def FnMemTwoWrongFalsely : Prop := fnMemTwoRow.holds Try.pinned (OpenSpec.ofChange fnMemTwoWrong)

/-- 'laws.FnMem': WHATEVER THE INPUT: true; the input reads as it did. -/
def fnMemSpec : ChangeSpec := { name := "fnMem", fn := fun _ => fun
  | [d] => { results := [.lit (.bool true)], args := [d] }
  | _ => none }
def fnMemRow : OpenClaim := { program := "ytlgogdpnakbhiaa", sum := "d34545634f03b50bb79a2ffcbba8f1ec7e30bcc273b1149588fccda3acd7d48c", func := "loop.example/stopgate/laws.FnMem", spec := "fnMem", unfollowed := true, recurses := true, apart := false }
def FnMemSaid : Prop := fnMemRow.holds Try.pinned (OpenSpec.ofChange fnMemSpec)

/-- ITS FALSE NEIGHBOUR: 'it returns false'. Refute it at one input. -/
def fnMemWrong : ChangeSpec := { name := "fnMem", fn := fun _ => fun
  | [d] => { results := [.lit (.bool false)], args := [d] }
  | _ => none }
def FnMemWrongFalsely : Prop := fnMemRow.holds Try.pinned (OpenSpec.ofChange fnMemWrong)

/- THE SECOND FORM. 'bulk': how many values and letters a reading holds, each counted each time it is reached (what is shared counts as often as it is met; a slice's spare places count too). A statement '..UptoSaid' is the law's where the arguments, and the package variables that the reading takes, are together of bulk at most 1048576: NARROWER than '..Said'. Prove '..Said' where nothing that the law and all that it calls make is longer than what came in: it says more and counts as full. Else prove '..UptoSaid'. A law counts once. -/
mutual
def uptoBulk {H : Type} : DataW H → Nat
  | .lit (.string bytes) => bytes.length + 1
  | .lit _ => 1
  | .nil => 1
  | .ptr d => uptoBulk d + 1
  | .slice elems spare => uptoBulkAll elems + uptoBulkAll spare + 1
  | .agg parts => uptoBulkAll parts + 1
  | .iface _ d => uptoBulk d + 1
  | .map entries => uptoBulkEntries entries + 1
  | .held _ => 1
def uptoBulkAll {H : Type} : List (DataW H) → Nat
  | [] => 0
  | d :: r => uptoBulk d + uptoBulkAll r
def uptoBulkEntries {H : Type} : List (Lit × DataW H) → Nat
  | [] => 0
  | x :: r => uptoBulkEntry x + uptoBulkEntries r
def uptoBulkEntry {H : Type} : Lit × DataW H → Nat
  | (.string bytes, d) => bytes.length + uptoBulk d + 1
  | (_, d) => uptoBulk d + 1
 end
def uptoSmall : (H : Type) → List (DataW H) → Bool := fun _ ds => decide (uptoBulkAll ds ≤ 1048576)
def OpenSpec.upto (s : _root_.Go.ChangeSpec) : _root_.Go.OpenSpec := { _root_.Go.OpenSpec.ofChange s with cond := some uptoSmall }

/-- 'laws.FnExactMemOpen', WHERE WHAT IT READS IS OF BULK AT MOST 1048576: true; the input reads as it did. -/
def fnExactMemOpenUptoRow : OpenClaim := { program := "ytlgogdpnakbhiaa", sum := "d34545634f03b50bb79a2ffcbba8f1ec7e30bcc273b1149588fccda3acd7d48c", func := "loop.example/stopgate/laws.FnExactMemOpen", spec := "fnExactMemOpen", apart := false, narrowed := true }
def FnExactMemOpenUptoSaid : Prop := fnExactMemOpenUptoRow.holds Try.pinned (OpenSpec.upto fnExactMemOpenSpec)

/-- 'laws.FnExactMemSame', WHERE WHAT IT READS IS OF BULK AT MOST 1048576: true; the input reads as it did. -/
def fnExactMemSameUptoRow : OpenClaim := { program := "ytlgogdpnakbhiaa", sum := "d34545634f03b50bb79a2ffcbba8f1ec7e30bcc273b1149588fccda3acd7d48c", func := "loop.example/stopgate/laws.FnExactMemSame", spec := "fnExactMemSame", apart := false, narrowed := true }
def FnExactMemSameUptoSaid : Prop := fnExactMemSameUptoRow.holds Try.pinned (OpenSpec.upto fnExactMemSameSpec)

/-- 'laws.FnExactMemOk', WHERE WHAT IT READS IS OF BULK AT MOST 1048576: true; the input reads as it did. -/
def fnExactMemOkUptoRow : OpenClaim := { program := "ytlgogdpnakbhiaa", sum := "d34545634f03b50bb79a2ffcbba8f1ec7e30bcc273b1149588fccda3acd7d48c", func := "loop.example/stopgate/laws.FnExactMemOk", spec := "fnExactMemOk", unfollowed := true, recurses := true, apart := false, narrowed := true }
def FnExactMemOkUptoSaid : Prop := fnExactMemOkUptoRow.holds Try.pinned (OpenSpec.upto fnExactMemOkSpec)

/-- 'laws.FnExactMemGet', WHERE WHAT IT READS IS OF BULK AT MOST 1048576: true; the input reads as it did. -/
def fnExactMemGetUptoRow : OpenClaim := { program := "ytlgogdpnakbhiaa", sum := "d34545634f03b50bb79a2ffcbba8f1ec7e30bcc273b1149588fccda3acd7d48c", func := "loop.example/stopgate/laws.FnExactMemGet", spec := "fnExactMemGet", unfollowed := true, recurses := true, apart := false, narrowed := true }
def FnExactMemGetUptoSaid : Prop := fnExactMemGetUptoRow.holds Try.pinned (OpenSpec.upto fnExactMemGetSpec)

/-- 'laws.FnExactMemPut', WHERE WHAT IT READS IS OF BULK AT MOST 1048576: true; the input reads as it did. -/
def fnExactMemPutUptoRow : OpenClaim := { program := "ytlgogdpnakbhiaa", sum := "d34545634f03b50bb79a2ffcbba8f1ec7e30bcc273b1149588fccda3acd7d48c", func := "loop.example/stopgate/laws.FnExactMemPut", spec := "fnExactMemPut", unfollowed := true, recurses := true, apart := false, narrowed := true }
def FnExactMemPutUptoSaid : Prop := fnExactMemPutUptoRow.holds Try.pinned (OpenSpec.upto fnExactMemPutSpec)

/-- 'laws.FnMemAll', WHERE WHAT IT READS IS OF BULK AT MOST 1048576: true; the input reads as it did. -/
def fnMemAllUptoRow : OpenClaim := { program := "ytlgogdpnakbhiaa", sum := "d34545634f03b50bb79a2ffcbba8f1ec7e30bcc273b1149588fccda3acd7d48c", func := "loop.example/stopgate/laws.FnMemAll", spec := "fnMemAll", unfollowed := true, recurses := true, apart := false, narrowed := true }
def FnMemAllUptoSaid : Prop := fnMemAllUptoRow.holds Try.pinned (OpenSpec.upto fnMemAllSpec)

/-- 'laws.FnMemTwo', WHERE WHAT IT READS IS OF BULK AT MOST 1048576: true; the input reads as it did. -/
def fnMemTwoUptoRow : OpenClaim := { program := "ytlgogdpnakbhiaa", sum := "d34545634f03b50bb79a2ffcbba8f1ec7e30bcc273b1149588fccda3acd7d48c", func := "loop.example/stopgate/laws.FnMemTwo", spec := "fnMemTwo", unfollowed := true, recurses := true, apart := false, narrowed := true }
def FnMemTwoUptoSaid : Prop := fnMemTwoUptoRow.holds Try.pinned (OpenSpec.upto fnMemTwoSpec)

/-- 'laws.FnMem', WHERE WHAT IT READS IS OF BULK AT MOST 1048576: true; the input reads as it did. -/
def fnMemUptoRow : OpenClaim := { program := "ytlgogdpnakbhiaa", sum := "d34545634f03b50bb79a2ffcbba8f1ec7e30bcc273b1149588fccda3acd7d48c", func := "loop.example/stopgate/laws.FnMem", spec := "fnMem", unfollowed := true, recurses := true, apart := false, narrowed := true }
def FnMemUptoSaid : Prop := fnMemUptoRow.holds Try.pinned (OpenSpec.upto fnMemSpec)

end Rows
end Go.Proofs.Ytlgogdpnakbhiaa
