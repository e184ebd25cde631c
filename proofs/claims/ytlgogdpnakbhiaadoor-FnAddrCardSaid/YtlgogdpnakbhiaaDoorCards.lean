/-
  DERIVED. GIVEN WITH THE SEED: THE CARDS: each row of YtlgogdpnakbhiaaDoorRows.lean that lists a variable, with what it lists TIED to the program's text (the seventh form; the later family's looks); each row that meets fmt, with fmt's text TOLD by the authors' own Lean function (tested against real Go, not proved from fmt's source: count such statements apart). THE CARD IS WHAT COUNTS. Prove the row's statement (the work); the ties are given (YtlgogdpnakbhiaaDoorTie.lean); close each card by the builder's one call (the guide's Derived/Test/ToyasCard.lean, 'card_holds'). Laid BY PROGRAM, IN A SANDBOX (cutbox-door.mjs). By AI agents, Wed Nov 11 2026. No macro, syntax, notation, axiom, sorry.
-/
import Derived.Test.YtlgogdpnakbhiaaDoorRows
import GoSem.ClaimSeven
namespace Go.Proofs.YtlgogdpnakbhiaaDoor
namespace Rows

/-- THE TIED CARD OF 'laws.FnMemBent'. -/
def fnMemBentCard : Claim7 := { stood := { row := fnMemBentRow, standIns := [], harness := (true, "d2beb7d506432f63cd73401887bbcbda2078bec90bb21c6ee6b36aaca763a96d"), looks := false }, kinds := [], alts := [], laidByText := true, laidKinds := [.data, .data, .data], laidTests := true, laidLooks := .later }
def FnMemBentCardSaid : Prop := Claim7.holds Tryd.pinned (.plain (OpenSpec.ofChange fnMemBentSpec)) fnMemBentCard

/-- THE TIED CARD OF 'laws.FnAddr'. -/
def fnAddrCard : Claim7 := { stood := { row := fnAddrRow, standIns := [], harness := (true, "d2beb7d506432f63cd73401887bbcbda2078bec90bb21c6ee6b36aaca763a96d"), looks := false }, kinds := [], alts := [], laidByText := true, laidKinds := [.data, .data, .data], laidTests := true, laidLooks := .later }
def FnAddrCardSaid : Prop := Claim7.holds Tryd.pinned (.plain (OpenSpec.ofChange fnAddrSpec)) fnAddrCard

/-- THE SECOND FORM's CARD OF 'laws.FnMemBent'. -/
def fnMemBentUptoCard : Claim7 := { stood := { row := fnMemBentUptoRow, standIns := [], harness := (true, "d2beb7d506432f63cd73401887bbcbda2078bec90bb21c6ee6b36aaca763a96d"), looks := false }, kinds := [], alts := [], laidByText := true, laidKinds := [.data, .data, .data], laidTests := true, laidLooks := .later }
def FnMemBentUptoCardSaid : Prop := Claim7.holds Tryd.pinned (.plain (OpenSpec.upto fnMemBentSpec)) fnMemBentUptoCard

/-- THE SECOND FORM's CARD OF 'laws.FnAddr'. -/
def fnAddrUptoCard : Claim7 := { stood := { row := fnAddrUptoRow, standIns := [], harness := (true, "d2beb7d506432f63cd73401887bbcbda2078bec90bb21c6ee6b36aaca763a96d"), looks := false }, kinds := [], alts := [], laidByText := true, laidKinds := [.data, .data, .data], laidTests := true, laidLooks := .later }
def FnAddrUptoCardSaid : Prop := Claim7.holds Tryd.pinned (.plain (OpenSpec.upto fnAddrSpec)) fnAddrUptoCard
end Rows
end Go.Proofs.YtlgogdpnakbhiaaDoor
