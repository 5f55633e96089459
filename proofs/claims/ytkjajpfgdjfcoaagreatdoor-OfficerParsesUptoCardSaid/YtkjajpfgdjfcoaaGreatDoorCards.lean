/-
  DERIVED. GIVEN WITH THE SEED: THE CARDS: each row of YtkjajpfgdjfcoaaGreatDoorRows.lean that lists a variable, with what it lists TIED to the program's text (the seventh form; the later family's looks); each row that meets fmt, with fmt's text TOLD by the authors' own Lean function (tested against real Go, not proved from fmt's source: count such statements apart). THE CARD IS WHAT COUNTS. Prove the row's statement (the work); the ties are given (YtkjajpfgdjfcoaaGreatDoorTie.lean); close each card by the builder's one call (the guide's Derived/Test/ToyasCard.lean, 'card_holds'). Laid BY PROGRAM, IN A SANDBOX (cutbox-door.mjs). By AI agents, Wed Nov 11 2026. No macro, syntax, notation, axiom, sorry.
-/
import Derived.Test.YtkjajpfgdjfcoaaGreatDoorRows
import GoSem.ClaimSeven
namespace Go.Proofs.YtkjajpfgdjfcoaaGreatDoor
namespace Rows

/-- THE TIED CARD OF 'hangfirelaw12.OfficerKnown'. -/
def officerKnownCard : Claim7 := { stood := { row := officerKnownRow, standIns := [], harness := (true, "9c088d0f06ed18f8dc0d82b71243f0128b165e51995ad36ca6b09748055e111a"), looks := true }, kinds := [], alts := [], laidByText := true, laidKinds := [.pinned, .data, .data, .data, .data, .sentinel, .sentinel, .sentinel, .sentinel], laidTests := true, laidLooks := .later }
def OfficerKnownCardSaid : Prop := Claim7.holds Tryz.pinned (.plain (OpenSpec.ofChange officerKnownSpec)) officerKnownCard

/-- THE TIED CARD OF 'hangfirelaw12.OfficerParses'. -/
def officerParsesCard : Claim7 := { stood := { row := officerParsesRow, standIns := [], harness := (true, "9c088d0f06ed18f8dc0d82b71243f0128b165e51995ad36ca6b09748055e111a"), looks := true }, kinds := [], alts := [], laidByText := true, laidKinds := [.pinned, .data, .data, .data, .data, .sentinel, .sentinel, .sentinel, .sentinel], laidTests := true, laidLooks := .later }
def OfficerParsesCardSaid : Prop := Claim7.holds Tryz.pinned (.plain (OpenSpec.ofChange officerParsesSpec)) officerParsesCard

/-- THE TIED CARD OF 'hangfirelaw12.OfficerLines'. -/
def officerLinesCard : Claim7 := { stood := { row := officerLinesRow, standIns := [], harness := (true, "9c088d0f06ed18f8dc0d82b71243f0128b165e51995ad36ca6b09748055e111a"), looks := true }, kinds := [], alts := [], laidByText := true, laidKinds := [.data, .data, .data, .pinned, .data, .sentinel, .sentinel, .sentinel, .sentinel], laidTests := true, laidLooks := .later }
def OfficerLinesCardSaid : Prop := Claim7.holds Tryz.pinned (.plain (OpenSpec.ofChange officerLinesSpec)) officerLinesCard

/-- THE SECOND FORM's CARD OF 'hangfirelaw12.OfficerKnown'. -/
def officerKnownUptoCard : Claim7 := { stood := { row := officerKnownUptoRow, standIns := [], harness := (true, "9c088d0f06ed18f8dc0d82b71243f0128b165e51995ad36ca6b09748055e111a"), looks := true }, kinds := [], alts := [], laidByText := true, laidKinds := [.pinned, .data, .data, .data, .data, .sentinel, .sentinel, .sentinel, .sentinel], laidTests := true, laidLooks := .later }
def OfficerKnownUptoCardSaid : Prop := Claim7.holds Tryz.pinned (.plain (OpenSpec.upto officerKnownSpec)) officerKnownUptoCard

/-- THE SECOND FORM's CARD OF 'hangfirelaw12.OfficerParses'. -/
def officerParsesUptoCard : Claim7 := { stood := { row := officerParsesUptoRow, standIns := [], harness := (true, "9c088d0f06ed18f8dc0d82b71243f0128b165e51995ad36ca6b09748055e111a"), looks := true }, kinds := [], alts := [], laidByText := true, laidKinds := [.pinned, .data, .data, .data, .data, .sentinel, .sentinel, .sentinel, .sentinel], laidTests := true, laidLooks := .later }
def OfficerParsesUptoCardSaid : Prop := Claim7.holds Tryz.pinned (.plain (OpenSpec.upto officerParsesSpec)) officerParsesUptoCard

/-- THE SECOND FORM's CARD OF 'hangfirelaw12.OfficerLines'. -/
def officerLinesUptoCard : Claim7 := { stood := { row := officerLinesUptoRow, standIns := [], harness := (true, "9c088d0f06ed18f8dc0d82b71243f0128b165e51995ad36ca6b09748055e111a"), looks := true }, kinds := [], alts := [], laidByText := true, laidKinds := [.data, .data, .data, .pinned, .data, .sentinel, .sentinel, .sentinel, .sentinel], laidTests := true, laidLooks := .later }
def OfficerLinesUptoCardSaid : Prop := Claim7.holds Tryz.pinned (.plain (OpenSpec.upto officerLinesSpec)) officerLinesUptoCard
end Rows
end Go.Proofs.YtkjajpfgdjfcoaaGreatDoor
