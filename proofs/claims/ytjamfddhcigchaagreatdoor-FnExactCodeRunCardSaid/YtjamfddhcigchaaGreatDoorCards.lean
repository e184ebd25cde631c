/-
  DERIVED. GIVEN WITH THE SEED: THE CARDS: each row of YtjamfddhcigchaaGreatDoorRows.lean that lists a variable, with what it lists TIED to the program's text (the seventh form; the later family's looks); each row that meets fmt, with fmt's text TOLD by the authors' own Lean function (tested against real Go, not proved from fmt's source: count such statements apart). THE CARD IS WHAT COUNTS. Prove the row's statement (the work); the ties are given (YtjamfddhcigchaaGreatDoorTie.lean); close each card by the builder's one call (the guide's Derived/Test/ToyasCard.lean, 'card_holds'). Laid BY PROGRAM, IN A SANDBOX (cutbox-door.mjs). By AI agents, Wed Nov 11 2026. No macro, syntax, notation, axiom, sorry.
-/
import Derived.Test.YtjamfddhcigchaaGreatDoorRows
import GoSem.ClaimSeven
namespace Go.Proofs.YtjamfddhcigchaaGreatDoor
namespace Rows

/-- THE TIED CARD OF 'laws.FnCodeSame'. -/
def fnCodeSameCard : Claim7 := { stood := { row := fnCodeSameRow, standIns := [], harness := (true, "8e2eed3da5832f03801593413d0d97074931c9fe972dc2260191ac3ee88f37b4"), looks := true }, kinds := [], alts := [], laidByText := true, laidKinds := [.sentinel], laidTests := true, laidLooks := .later }
def FnCodeSameCardSaid : Prop := Claim7.holds Tryz.pinned (.plain (OpenSpec.ofChange fnCodeSameSpec)) fnCodeSameCard

/-- THE TIED CARD OF 'laws.FnCodeBent'. -/
def fnCodeBentCard : Claim7 := { stood := { row := fnCodeBentRow, standIns := [], harness := (true, "8e2eed3da5832f03801593413d0d97074931c9fe972dc2260191ac3ee88f37b4"), looks := true }, kinds := [], alts := [], laidByText := true, laidKinds := [.sentinel], laidTests := true, laidLooks := .later }
def FnCodeBentCardSaid : Prop := Claim7.holds Tryz.pinned (.plain (OpenSpec.ofChange fnCodeBentSpec)) fnCodeBentCard

/-- THE TIED CARD OF 'laws.FnExactCodeRun'. -/
def fnExactCodeRunCard : Claim7 := { stood := { row := fnExactCodeRunRow, standIns := [], harness := (true, "8e2eed3da5832f03801593413d0d97074931c9fe972dc2260191ac3ee88f37b4"), looks := true }, kinds := [], alts := [], laidByText := true, laidKinds := [.sentinel], laidTests := true, laidLooks := .later }
def FnExactCodeRunCardSaid : Prop := Claim7.holds Tryz.pinned (.plain (OpenSpec.ofChange fnExactCodeRunSpec)) fnExactCodeRunCard

/-- THE TIED CARD OF 'laws.FnCodeFuel'. -/
def fnCodeFuelCard : Claim7 := { stood := { row := fnCodeFuelRow, standIns := [], harness := (true, "8e2eed3da5832f03801593413d0d97074931c9fe972dc2260191ac3ee88f37b4"), looks := true }, kinds := [], alts := [], laidByText := true, laidKinds := [.sentinel], laidTests := true, laidLooks := .later }
def FnCodeFuelCardSaid : Prop := Claim7.holds Tryz.pinned (.plain (OpenSpec.ofChange fnCodeFuelSpec)) fnCodeFuelCard

/-- THE TIED CARD OF 'laws.FnCodeRun'. -/
def fnCodeRunCard : Claim7 := { stood := { row := fnCodeRunRow, standIns := [], harness := (true, "8e2eed3da5832f03801593413d0d97074931c9fe972dc2260191ac3ee88f37b4"), looks := true }, kinds := [], alts := [], laidByText := true, laidKinds := [.sentinel], laidTests := true, laidLooks := .later }
def FnCodeRunCardSaid : Prop := Claim7.holds Tryz.pinned (.plain (OpenSpec.ofChange fnCodeRunSpec)) fnCodeRunCard

/-- THE SECOND FORM's CARD OF 'laws.FnCodeSame'. -/
def fnCodeSameUptoCard : Claim7 := { stood := { row := fnCodeSameUptoRow, standIns := [], harness := (true, "8e2eed3da5832f03801593413d0d97074931c9fe972dc2260191ac3ee88f37b4"), looks := true }, kinds := [], alts := [], laidByText := true, laidKinds := [.sentinel], laidTests := true, laidLooks := .later }
def FnCodeSameUptoCardSaid : Prop := Claim7.holds Tryz.pinned (.plain (OpenSpec.upto fnCodeSameSpec)) fnCodeSameUptoCard

/-- THE SECOND FORM's CARD OF 'laws.FnCodeBent'. -/
def fnCodeBentUptoCard : Claim7 := { stood := { row := fnCodeBentUptoRow, standIns := [], harness := (true, "8e2eed3da5832f03801593413d0d97074931c9fe972dc2260191ac3ee88f37b4"), looks := true }, kinds := [], alts := [], laidByText := true, laidKinds := [.sentinel], laidTests := true, laidLooks := .later }
def FnCodeBentUptoCardSaid : Prop := Claim7.holds Tryz.pinned (.plain (OpenSpec.upto fnCodeBentSpec)) fnCodeBentUptoCard

/-- THE SECOND FORM's CARD OF 'laws.FnExactCodeRun'. -/
def fnExactCodeRunUptoCard : Claim7 := { stood := { row := fnExactCodeRunUptoRow, standIns := [], harness := (true, "8e2eed3da5832f03801593413d0d97074931c9fe972dc2260191ac3ee88f37b4"), looks := true }, kinds := [], alts := [], laidByText := true, laidKinds := [.sentinel], laidTests := true, laidLooks := .later }
def FnExactCodeRunUptoCardSaid : Prop := Claim7.holds Tryz.pinned (.plain (OpenSpec.upto fnExactCodeRunSpec)) fnExactCodeRunUptoCard

/-- THE SECOND FORM's CARD OF 'laws.FnCodeFuel'. -/
def fnCodeFuelUptoCard : Claim7 := { stood := { row := fnCodeFuelUptoRow, standIns := [], harness := (true, "8e2eed3da5832f03801593413d0d97074931c9fe972dc2260191ac3ee88f37b4"), looks := true }, kinds := [], alts := [], laidByText := true, laidKinds := [.sentinel], laidTests := true, laidLooks := .later }
def FnCodeFuelUptoCardSaid : Prop := Claim7.holds Tryz.pinned (.plain (OpenSpec.upto fnCodeFuelSpec)) fnCodeFuelUptoCard

/-- THE SECOND FORM's CARD OF 'laws.FnCodeRun'. -/
def fnCodeRunUptoCard : Claim7 := { stood := { row := fnCodeRunUptoRow, standIns := [], harness := (true, "8e2eed3da5832f03801593413d0d97074931c9fe972dc2260191ac3ee88f37b4"), looks := true }, kinds := [], alts := [], laidByText := true, laidKinds := [.sentinel], laidTests := true, laidLooks := .later }
def FnCodeRunUptoCardSaid : Prop := Claim7.holds Tryz.pinned (.plain (OpenSpec.upto fnCodeRunSpec)) fnCodeRunUptoCard
end Rows
end Go.Proofs.YtjamfddhcigchaaGreatDoor
