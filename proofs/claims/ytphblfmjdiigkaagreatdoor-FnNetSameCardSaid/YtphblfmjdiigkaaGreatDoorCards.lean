/-
  DERIVED. GIVEN WITH THE SEED: THE CARDS: each row of YtphblfmjdiigkaaGreatDoorRows.lean that lists a variable, with what it lists TIED to the program's text (the seventh form; the later family's looks); each row that meets fmt, with fmt's text TOLD by the authors' own Lean function (tested against real Go, not proved from fmt's source: count such statements apart). THE CARD IS WHAT COUNTS. Prove the row's statement (the work); the ties are given (YtphblfmjdiigkaaGreatDoorTie.lean); close each card by the builder's one call (the guide's Derived/Test/ToyasCard.lean, 'card_holds'). Laid BY PROGRAM, IN A SANDBOX (cutbox-door.mjs). By AI agents, Wed Nov 11 2026. No macro, syntax, notation, axiom, sorry.
-/
import Derived.Test.YtphblfmjdiigkaaGreatDoorRows
import GoSem.ClaimSeven
namespace Go.Proofs.YtphblfmjdiigkaaGreatDoor
namespace Rows

/-- THE TIED CARD OF 'laws.FnExactNetText'. -/
def fnExactNetTextCard : Claim7 := { stood := { row := fnExactNetTextRow, standIns := [], harness := (true, "6b923d558aa2e4c6c4b0653eaf90b209060ae6b524e9c1855ce26f0372ffe2e1"), looks := false }, kinds := [], alts := [], laidByText := true, laidKinds := [.data, .data, .data], laidTests := true, laidLooks := .later }
def FnExactNetTextCardSaid : Prop := Claim7.holds Tryz.pinned (.plain (OpenSpec.ofChange fnExactNetTextSpec)) fnExactNetTextCard

/-- THE TIED CARD OF 'laws.FnNetBent'. -/
def fnNetBentCard : Claim7 := { stood := { row := fnNetBentRow, standIns := [], harness := (true, "6b923d558aa2e4c6c4b0653eaf90b209060ae6b524e9c1855ce26f0372ffe2e1"), looks := false }, kinds := [], alts := [], laidByText := true, laidKinds := [.data, .data, .data], laidTests := true, laidLooks := .later }
def FnNetBentCardSaid : Prop := Claim7.holds Tryz.pinned (.plain (OpenSpec.ofChange fnNetBentSpec)) fnNetBentCard

/-- THE TIED CARD OF 'laws.FnNetSame'. -/
def fnNetSameCard : Claim7 := { stood := { row := fnNetSameRow, standIns := [], harness := (true, "6b923d558aa2e4c6c4b0653eaf90b209060ae6b524e9c1855ce26f0372ffe2e1"), looks := false }, kinds := [], alts := [], laidByText := true, laidKinds := [.data, .data, .data], laidTests := true, laidLooks := .later }
def FnNetSameCardSaid : Prop := Claim7.holds Tryz.pinned (.plain (OpenSpec.ofChange fnNetSameSpec)) fnNetSameCard

/-- THE SECOND FORM's CARD OF 'laws.FnExactNetText'. -/
def fnExactNetTextUptoCard : Claim7 := { stood := { row := fnExactNetTextUptoRow, standIns := [], harness := (true, "6b923d558aa2e4c6c4b0653eaf90b209060ae6b524e9c1855ce26f0372ffe2e1"), looks := false }, kinds := [], alts := [], laidByText := true, laidKinds := [.data, .data, .data], laidTests := true, laidLooks := .later }
def FnExactNetTextUptoCardSaid : Prop := Claim7.holds Tryz.pinned (.plain (OpenSpec.upto fnExactNetTextSpec)) fnExactNetTextUptoCard

/-- THE SECOND FORM's CARD OF 'laws.FnNetBent'. -/
def fnNetBentUptoCard : Claim7 := { stood := { row := fnNetBentUptoRow, standIns := [], harness := (true, "6b923d558aa2e4c6c4b0653eaf90b209060ae6b524e9c1855ce26f0372ffe2e1"), looks := false }, kinds := [], alts := [], laidByText := true, laidKinds := [.data, .data, .data], laidTests := true, laidLooks := .later }
def FnNetBentUptoCardSaid : Prop := Claim7.holds Tryz.pinned (.plain (OpenSpec.upto fnNetBentSpec)) fnNetBentUptoCard

/-- THE SECOND FORM's CARD OF 'laws.FnNetSame'. -/
def fnNetSameUptoCard : Claim7 := { stood := { row := fnNetSameUptoRow, standIns := [], harness := (true, "6b923d558aa2e4c6c4b0653eaf90b209060ae6b524e9c1855ce26f0372ffe2e1"), looks := false }, kinds := [], alts := [], laidByText := true, laidKinds := [.data, .data, .data], laidTests := true, laidLooks := .later }
def FnNetSameUptoCardSaid : Prop := Claim7.holds Tryz.pinned (.plain (OpenSpec.upto fnNetSameSpec)) fnNetSameUptoCard
end Rows
end Go.Proofs.YtphblfmjdiigkaaGreatDoor
