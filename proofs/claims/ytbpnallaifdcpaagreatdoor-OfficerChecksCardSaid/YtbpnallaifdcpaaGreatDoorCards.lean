/-
  DERIVED. GIVEN WITH THE SEED: THE CARDS: each row of YtbpnallaifdcpaaGreatDoorRows.lean that lists a variable, with what it lists TIED to the program's text (the seventh form; the later family's looks); each row that meets fmt, with fmt's text TOLD by the authors' own Lean function (tested against real Go, not proved from fmt's source: count such statements apart). THE CARD IS WHAT COUNTS. Prove the row's statement (the work); the ties are given (YtbpnallaifdcpaaGreatDoorTie.lean); close each card by the builder's one call (the guide's Derived/Test/ToyasCard.lean, 'card_holds'). Laid BY PROGRAM, IN A SANDBOX (cutbox-door.mjs). By AI agents, Wed Nov 11 2026. No macro, syntax, notation, axiom, sorry.
-/
import Derived.Test.YtbpnallaifdcpaaGreatDoorRows
import GoSem.ClaimSeven
namespace Go.Proofs.YtbpnallaifdcpaaGreatDoor
namespace Rows

/-- THE TIED CARD OF 'hangfirelaw12.OfficerChecks'. -/
def officerChecksCard : Claim7 := { stood := { row := officerChecksRow, standIns := [], harness := (true, "f1dc77c4b430613cc18bdd12e30b0545b6de461f711e4dcf6703792e3e3a34ed"), looks := true }, kinds := [], alts := [], laidByText := true, laidKinds := [.pinned, .data, .data, .data, .data, .sentinel, .sentinel, .sentinel, .sentinel], laidTests := true, laidLooks := .later }
def OfficerChecksCardSaid : Prop := Claim7.holds Tryz.pinned (.plain (OpenSpec.ofChange officerChecksSpec)) officerChecksCard

/-- THE TIED CARD OF 'hangfirelaw12.OfficerKnown'. -/
def officerKnownCard : Claim7 := { stood := { row := officerKnownRow, standIns := [], harness := (true, "f1dc77c4b430613cc18bdd12e30b0545b6de461f711e4dcf6703792e3e3a34ed"), looks := true }, kinds := [], alts := [], laidByText := true, laidKinds := [.pinned, .data, .data, .data, .data, .sentinel, .sentinel, .sentinel, .sentinel], laidTests := true, laidLooks := .later }
def OfficerKnownCardSaid : Prop := Claim7.holds Tryz.pinned (.plain (OpenSpec.ofChange officerKnownSpec)) officerKnownCard

/-- THE TIED CARD OF 'hangfirelaw12.OfficerParses'. -/
def officerParsesCard : Claim7 := { stood := { row := officerParsesRow, standIns := [], harness := (true, "f1dc77c4b430613cc18bdd12e30b0545b6de461f711e4dcf6703792e3e3a34ed"), looks := true }, kinds := [], alts := [], laidByText := true, laidKinds := [.pinned, .data, .data, .data, .data, .sentinel, .sentinel, .sentinel, .sentinel], laidTests := true, laidLooks := .later }
def OfficerParsesCardSaid : Prop := Claim7.holds Tryz.pinned (.plain (OpenSpec.ofChange officerParsesSpec)) officerParsesCard

/-- THE TIED CARD OF 'hangfirelaw12.OfficerLines'. -/
def officerLinesCard : Claim7 := { stood := { row := officerLinesRow, standIns := [], harness := (true, "f1dc77c4b430613cc18bdd12e30b0545b6de461f711e4dcf6703792e3e3a34ed"), looks := true }, kinds := [], alts := [], laidByText := true, laidKinds := [.data, .data, .data, .pinned, .data, .sentinel, .sentinel, .sentinel, .sentinel], laidTests := true, laidLooks := .later }
def OfficerLinesCardSaid : Prop := Claim7.holds Tryz.pinned (.plain (OpenSpec.ofChange officerLinesSpec)) officerLinesCard

/-- THE SECOND FORM's CARD OF 'hangfirelaw12.OfficerChecks'. -/
def officerChecksUptoCard : Claim7 := { stood := { row := officerChecksUptoRow, standIns := [], harness := (true, "f1dc77c4b430613cc18bdd12e30b0545b6de461f711e4dcf6703792e3e3a34ed"), looks := true }, kinds := [], alts := [], laidByText := true, laidKinds := [.pinned, .data, .data, .data, .data, .sentinel, .sentinel, .sentinel, .sentinel], laidTests := true, laidLooks := .later }
def OfficerChecksUptoCardSaid : Prop := Claim7.holds Tryz.pinned (.plain (OpenSpec.upto officerChecksSpec)) officerChecksUptoCard

/-- THE SECOND FORM's CARD OF 'hangfirelaw12.OfficerKnown'. -/
def officerKnownUptoCard : Claim7 := { stood := { row := officerKnownUptoRow, standIns := [], harness := (true, "f1dc77c4b430613cc18bdd12e30b0545b6de461f711e4dcf6703792e3e3a34ed"), looks := true }, kinds := [], alts := [], laidByText := true, laidKinds := [.pinned, .data, .data, .data, .data, .sentinel, .sentinel, .sentinel, .sentinel], laidTests := true, laidLooks := .later }
def OfficerKnownUptoCardSaid : Prop := Claim7.holds Tryz.pinned (.plain (OpenSpec.upto officerKnownSpec)) officerKnownUptoCard

/-- THE SECOND FORM's CARD OF 'hangfirelaw12.OfficerParses'. -/
def officerParsesUptoCard : Claim7 := { stood := { row := officerParsesUptoRow, standIns := [], harness := (true, "f1dc77c4b430613cc18bdd12e30b0545b6de461f711e4dcf6703792e3e3a34ed"), looks := true }, kinds := [], alts := [], laidByText := true, laidKinds := [.pinned, .data, .data, .data, .data, .sentinel, .sentinel, .sentinel, .sentinel], laidTests := true, laidLooks := .later }
def OfficerParsesUptoCardSaid : Prop := Claim7.holds Tryz.pinned (.plain (OpenSpec.upto officerParsesSpec)) officerParsesUptoCard

/-- THE SECOND FORM's CARD OF 'hangfirelaw12.OfficerLines'. -/
def officerLinesUptoCard : Claim7 := { stood := { row := officerLinesUptoRow, standIns := [], harness := (true, "f1dc77c4b430613cc18bdd12e30b0545b6de461f711e4dcf6703792e3e3a34ed"), looks := true }, kinds := [], alts := [], laidByText := true, laidKinds := [.data, .data, .data, .pinned, .data, .sentinel, .sentinel, .sentinel, .sentinel], laidTests := true, laidLooks := .later }
def OfficerLinesUptoCardSaid : Prop := Claim7.holds Tryz.pinned (.plain (OpenSpec.upto officerLinesSpec)) officerLinesUptoCard
end Rows
end Go.Proofs.YtbpnallaifdcpaaGreatDoor
