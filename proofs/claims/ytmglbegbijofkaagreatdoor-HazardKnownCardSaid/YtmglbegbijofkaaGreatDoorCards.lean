/-
  DERIVED. GIVEN WITH THE SEED: THE CARDS: each row of YtmglbegbijofkaaGreatDoorRows.lean that lists a variable, with what it lists TIED to the program's text (the seventh form; the later family's looks); each row that meets fmt, with fmt's text TOLD by the authors' own Lean function (tested against real Go, not proved from fmt's source: count such statements apart). THE CARD IS WHAT COUNTS. Prove the row's statement (the work); the ties are given (YtmglbegbijofkaaGreatDoorTie.lean); close each card by the builder's one call (the guide's Derived/Test/ToyasCard.lean, 'card_holds'). Laid BY PROGRAM, IN A SANDBOX (cutbox-door.mjs). By AI agents, Wed Nov 11 2026. No macro, syntax, notation, axiom, sorry.
-/
import Derived.Test.YtmglbegbijofkaaGreatDoorRows
import GoSem.ClaimSeven
namespace Go.Proofs.YtmglbegbijofkaaGreatDoor
namespace Rows

/-- THE TIED CARD OF 'hangfirelaw04.HazardNotices'. -/
def hazardNoticesCard : Claim7 := { stood := { row := hazardNoticesRow, standIns := [], harness := (true, "d973bcba77dc560a0fcfed13fec738ec2655f293b7f29c248d703cdd6ae0e2a5"), looks := true }, kinds := [], alts := [], laidByText := true, laidKinds := [.data, .data, .data, .data, .sentinel, .sentinel, .pinned], laidTests := true, laidLooks := .later }
def HazardNoticesCardSaid : Prop := Claim7.holds Tryz.pinned (.plain (OpenSpec.ofChange hazardNoticesSpec)) hazardNoticesCard

/-- THE TIED CARD OF 'hangfirelaw04.HazardMore'. -/
def hazardMoreCard : Claim7 := { stood := { row := hazardMoreRow, standIns := [], harness := (true, "d973bcba77dc560a0fcfed13fec738ec2655f293b7f29c248d703cdd6ae0e2a5"), looks := true }, kinds := [], alts := [], laidByText := true, laidKinds := [.data, .data, .data, .data, .sentinel, .sentinel, .pinned], laidTests := true, laidLooks := .later }
def HazardMoreCardSaid : Prop := Claim7.holds Tryz.pinned (.plain (OpenSpec.ofChange hazardMoreSpec)) hazardMoreCard

/-- THE TIED CARD OF 'hangfirelaw04.HazardWays'. -/
def hazardWaysCard : Claim7 := { stood := { row := hazardWaysRow, standIns := [], harness := (true, "d973bcba77dc560a0fcfed13fec738ec2655f293b7f29c248d703cdd6ae0e2a5"), looks := true }, kinds := [], alts := [], laidByText := true, laidKinds := [.data, .data, .data, .data, .sentinel, .sentinel, .pinned], laidTests := true, laidLooks := .later }
def HazardWaysCardSaid : Prop := Claim7.holds Tryz.pinned (.plain (OpenSpec.ofChange hazardWaysSpec)) hazardWaysCard

/-- THE TIED CARD OF 'hangfirelaw04.HazardBound'. -/
def hazardBoundCard : Claim7 := { stood := { row := hazardBoundRow, standIns := [], harness := (true, "d973bcba77dc560a0fcfed13fec738ec2655f293b7f29c248d703cdd6ae0e2a5"), looks := true }, kinds := [], alts := [], laidByText := true, laidKinds := [.data, .data, .data, .data, .sentinel, .sentinel, .pinned], laidTests := true, laidLooks := .later }
def HazardBoundCardSaid : Prop := Claim7.holds Tryz.pinned (.plain (OpenSpec.ofChange hazardBoundSpec)) hazardBoundCard

/-- THE TIED CARD OF 'hangfirelaw04.HazardCrafts'. -/
def hazardCraftsCard : Claim7 := { stood := { row := hazardCraftsRow, standIns := [], harness := (true, "d973bcba77dc560a0fcfed13fec738ec2655f293b7f29c248d703cdd6ae0e2a5"), looks := true }, kinds := [], alts := [], laidByText := true, laidKinds := [.data, .data, .data, .data, .sentinel, .sentinel, .pinned], laidTests := true, laidLooks := .later }
def HazardCraftsCardSaid : Prop := Claim7.holds Tryz.pinned (.plain (OpenSpec.ofChange hazardCraftsSpec)) hazardCraftsCard

/-- THE TIED CARD OF 'hangfirelaw04.HazardCourse'. -/
def hazardCourseCard : Claim7 := { stood := { row := hazardCourseRow, standIns := [], harness := (true, "d973bcba77dc560a0fcfed13fec738ec2655f293b7f29c248d703cdd6ae0e2a5"), looks := true }, kinds := [], alts := [], laidByText := true, laidKinds := [.data, .data, .data, .data, .sentinel, .sentinel, .pinned], laidTests := true, laidLooks := .later }
def HazardCourseCardSaid : Prop := Claim7.holds Tryz.pinned (.plain (OpenSpec.ofChange hazardCourseSpec)) hazardCourseCard

/-- THE TIED CARD OF 'hangfirelaw04.HazardCells'. -/
def hazardCellsCard : Claim7 := { stood := { row := hazardCellsRow, standIns := [], harness := (true, "d973bcba77dc560a0fcfed13fec738ec2655f293b7f29c248d703cdd6ae0e2a5"), looks := true }, kinds := [], alts := [], laidByText := true, laidKinds := [.data, .data, .data, .data, .sentinel, .sentinel, .pinned], laidTests := true, laidLooks := .later }
def HazardCellsCardSaid : Prop := Claim7.holds Tryz.pinned (.plain (OpenSpec.ofChange hazardCellsSpec)) hazardCellsCard

/-- THE TIED CARD OF 'hangfirelaw04.HazardRisks'. -/
def hazardRisksCard : Claim7 := { stood := { row := hazardRisksRow, standIns := [], harness := (true, "d973bcba77dc560a0fcfed13fec738ec2655f293b7f29c248d703cdd6ae0e2a5"), looks := true }, kinds := [], alts := [], laidByText := true, laidKinds := [.data, .data, .data, .data, .sentinel, .sentinel, .pinned], laidTests := true, laidLooks := .later }
def HazardRisksCardSaid : Prop := Claim7.holds Tryz.pinned (.plain (OpenSpec.ofChange hazardRisksSpec)) hazardRisksCard

/-- THE TIED CARD OF 'hangfirelaw04.HazardWithin'. -/
def hazardWithinCard : Claim7 := { stood := { row := hazardWithinRow, standIns := [], harness := (true, "d973bcba77dc560a0fcfed13fec738ec2655f293b7f29c248d703cdd6ae0e2a5"), looks := true }, kinds := [], alts := [], laidByText := true, laidKinds := [.data, .data, .data, .data, .sentinel, .sentinel, .pinned], laidTests := true, laidLooks := .later }
def HazardWithinCardSaid : Prop := Claim7.holds Tryz.pinned (.plain (OpenSpec.ofChange hazardWithinSpec)) hazardWithinCard

/-- THE TIED CARD OF 'hangfirelaw04.HazardMeets'. -/
def hazardMeetsCard : Claim7 := { stood := { row := hazardMeetsRow, standIns := [], harness := (true, "d973bcba77dc560a0fcfed13fec738ec2655f293b7f29c248d703cdd6ae0e2a5"), looks := true }, kinds := [], alts := [], laidByText := true, laidKinds := [.data, .data, .data, .data, .sentinel, .sentinel, .pinned], laidTests := true, laidLooks := .later }
def HazardMeetsCardSaid : Prop := Claim7.holds Tryz.pinned (.plain (OpenSpec.ofChange hazardMeetsSpec)) hazardMeetsCard

/-- THE TIED CARD OF 'hangfirelaw04.HazardAdds'. -/
def hazardAddsCard : Claim7 := { stood := { row := hazardAddsRow, standIns := [], harness := (true, "d973bcba77dc560a0fcfed13fec738ec2655f293b7f29c248d703cdd6ae0e2a5"), looks := true }, kinds := [], alts := [], laidByText := true, laidKinds := [.data, .data, .data, .data, .sentinel, .sentinel, .pinned], laidTests := true, laidLooks := .later }
def HazardAddsCardSaid : Prop := Claim7.holds Tryz.pinned (.plain (OpenSpec.ofChange hazardAddsSpec)) hazardAddsCard

/-- THE TIED CARD OF 'hangfirelaw04.HazardText'. -/
def hazardTextCard : Claim7 := { stood := { row := hazardTextRow, standIns := [], harness := (true, "d973bcba77dc560a0fcfed13fec738ec2655f293b7f29c248d703cdd6ae0e2a5"), looks := true }, kinds := [], alts := [], laidByText := true, laidKinds := [.data, .data, .data, .data, .sentinel, .sentinel, .pinned], laidTests := true, laidLooks := .later }
def HazardTextCardSaid : Prop := Claim7.holds Tryz.pinned (.plain (OpenSpec.ofChange hazardTextSpec)) hazardTextCard

/-- THE TIED CARD OF 'hangfirelaw04.HazardMosts'. -/
def hazardMostsCard : Claim7 := { stood := { row := hazardMostsRow, standIns := [], harness := (true, "d973bcba77dc560a0fcfed13fec738ec2655f293b7f29c248d703cdd6ae0e2a5"), looks := true }, kinds := [], alts := [], laidByText := true, laidKinds := [.data, .data, .data, .data, .sentinel, .sentinel, .pinned], laidTests := true, laidLooks := .later }
def HazardMostsCardSaid : Prop := Claim7.holds Tryz.pinned (.plain (OpenSpec.ofChange hazardMostsSpec)) hazardMostsCard

/-- THE TIED CARD OF 'hangfirelaw04.HazardForces'. -/
def hazardForcesCard : Claim7 := { stood := { row := hazardForcesRow, standIns := [], harness := (true, "d973bcba77dc560a0fcfed13fec738ec2655f293b7f29c248d703cdd6ae0e2a5"), looks := true }, kinds := [], alts := [], laidByText := true, laidKinds := [.data, .data, .data, .data, .sentinel, .sentinel, .pinned], laidTests := true, laidLooks := .later }
def HazardForcesCardSaid : Prop := Claim7.holds Tryz.pinned (.plain (OpenSpec.ofChange hazardForcesSpec)) hazardForcesCard

/-- THE TIED CARD OF 'hangfirelaw04.HazardStands'. -/
def hazardStandsCard : Claim7 := { stood := { row := hazardStandsRow, standIns := [], harness := (true, "d973bcba77dc560a0fcfed13fec738ec2655f293b7f29c248d703cdd6ae0e2a5"), looks := true }, kinds := [], alts := [], laidByText := true, laidKinds := [.data, .data, .data, .data, .sentinel, .sentinel, .pinned], laidTests := true, laidLooks := .later }
def HazardStandsCardSaid : Prop := Claim7.holds Tryz.pinned (.plain (OpenSpec.ofChange hazardStandsSpec)) hazardStandsCard

/-- THE TIED CARD OF 'hangfirelaw04.HazardProves'. -/
def hazardProvesCard : Claim7 := { stood := { row := hazardProvesRow, standIns := [], harness := (true, "d973bcba77dc560a0fcfed13fec738ec2655f293b7f29c248d703cdd6ae0e2a5"), looks := true }, kinds := [], alts := [], laidByText := true, laidKinds := [.data, .data, .data, .data, .sentinel, .sentinel, .pinned], laidTests := true, laidLooks := .later }
def HazardProvesCardSaid : Prop := Claim7.holds Tryz.pinned (.plain (OpenSpec.ofChange hazardProvesSpec)) hazardProvesCard

/-- THE TIED CARD OF 'hangfirelaw04.HazardKnown'. -/
def hazardKnownCard : Claim7 := { stood := { row := hazardKnownRow, standIns := [], harness := (true, "d973bcba77dc560a0fcfed13fec738ec2655f293b7f29c248d703cdd6ae0e2a5"), looks := true }, kinds := [], alts := [], laidByText := true, laidKinds := [.data, .data, .data, .data, .sentinel, .sentinel, .pinned], laidTests := true, laidLooks := .later }
def HazardKnownCardSaid : Prop := Claim7.holds Tryz.pinned (.plain (OpenSpec.ofChange hazardKnownSpec)) hazardKnownCard

/-- THE SECOND FORM's CARD OF 'hangfirelaw04.HazardNotices'. -/
def hazardNoticesUptoCard : Claim7 := { stood := { row := hazardNoticesUptoRow, standIns := [], harness := (true, "d973bcba77dc560a0fcfed13fec738ec2655f293b7f29c248d703cdd6ae0e2a5"), looks := true }, kinds := [], alts := [], laidByText := true, laidKinds := [.data, .data, .data, .data, .sentinel, .sentinel, .pinned], laidTests := true, laidLooks := .later }
def HazardNoticesUptoCardSaid : Prop := Claim7.holds Tryz.pinned (.plain (OpenSpec.upto hazardNoticesSpec)) hazardNoticesUptoCard

/-- THE SECOND FORM's CARD OF 'hangfirelaw04.HazardMore'. -/
def hazardMoreUptoCard : Claim7 := { stood := { row := hazardMoreUptoRow, standIns := [], harness := (true, "d973bcba77dc560a0fcfed13fec738ec2655f293b7f29c248d703cdd6ae0e2a5"), looks := true }, kinds := [], alts := [], laidByText := true, laidKinds := [.data, .data, .data, .data, .sentinel, .sentinel, .pinned], laidTests := true, laidLooks := .later }
def HazardMoreUptoCardSaid : Prop := Claim7.holds Tryz.pinned (.plain (OpenSpec.upto hazardMoreSpec)) hazardMoreUptoCard

/-- THE SECOND FORM's CARD OF 'hangfirelaw04.HazardWays'. -/
def hazardWaysUptoCard : Claim7 := { stood := { row := hazardWaysUptoRow, standIns := [], harness := (true, "d973bcba77dc560a0fcfed13fec738ec2655f293b7f29c248d703cdd6ae0e2a5"), looks := true }, kinds := [], alts := [], laidByText := true, laidKinds := [.data, .data, .data, .data, .sentinel, .sentinel, .pinned], laidTests := true, laidLooks := .later }
def HazardWaysUptoCardSaid : Prop := Claim7.holds Tryz.pinned (.plain (OpenSpec.upto hazardWaysSpec)) hazardWaysUptoCard

/-- THE SECOND FORM's CARD OF 'hangfirelaw04.HazardBound'. -/
def hazardBoundUptoCard : Claim7 := { stood := { row := hazardBoundUptoRow, standIns := [], harness := (true, "d973bcba77dc560a0fcfed13fec738ec2655f293b7f29c248d703cdd6ae0e2a5"), looks := true }, kinds := [], alts := [], laidByText := true, laidKinds := [.data, .data, .data, .data, .sentinel, .sentinel, .pinned], laidTests := true, laidLooks := .later }
def HazardBoundUptoCardSaid : Prop := Claim7.holds Tryz.pinned (.plain (OpenSpec.upto hazardBoundSpec)) hazardBoundUptoCard

/-- THE SECOND FORM's CARD OF 'hangfirelaw04.HazardCrafts'. -/
def hazardCraftsUptoCard : Claim7 := { stood := { row := hazardCraftsUptoRow, standIns := [], harness := (true, "d973bcba77dc560a0fcfed13fec738ec2655f293b7f29c248d703cdd6ae0e2a5"), looks := true }, kinds := [], alts := [], laidByText := true, laidKinds := [.data, .data, .data, .data, .sentinel, .sentinel, .pinned], laidTests := true, laidLooks := .later }
def HazardCraftsUptoCardSaid : Prop := Claim7.holds Tryz.pinned (.plain (OpenSpec.upto hazardCraftsSpec)) hazardCraftsUptoCard

/-- THE SECOND FORM's CARD OF 'hangfirelaw04.HazardCourse'. -/
def hazardCourseUptoCard : Claim7 := { stood := { row := hazardCourseUptoRow, standIns := [], harness := (true, "d973bcba77dc560a0fcfed13fec738ec2655f293b7f29c248d703cdd6ae0e2a5"), looks := true }, kinds := [], alts := [], laidByText := true, laidKinds := [.data, .data, .data, .data, .sentinel, .sentinel, .pinned], laidTests := true, laidLooks := .later }
def HazardCourseUptoCardSaid : Prop := Claim7.holds Tryz.pinned (.plain (OpenSpec.upto hazardCourseSpec)) hazardCourseUptoCard

/-- THE SECOND FORM's CARD OF 'hangfirelaw04.HazardCells'. -/
def hazardCellsUptoCard : Claim7 := { stood := { row := hazardCellsUptoRow, standIns := [], harness := (true, "d973bcba77dc560a0fcfed13fec738ec2655f293b7f29c248d703cdd6ae0e2a5"), looks := true }, kinds := [], alts := [], laidByText := true, laidKinds := [.data, .data, .data, .data, .sentinel, .sentinel, .pinned], laidTests := true, laidLooks := .later }
def HazardCellsUptoCardSaid : Prop := Claim7.holds Tryz.pinned (.plain (OpenSpec.upto hazardCellsSpec)) hazardCellsUptoCard

/-- THE SECOND FORM's CARD OF 'hangfirelaw04.HazardRisks'. -/
def hazardRisksUptoCard : Claim7 := { stood := { row := hazardRisksUptoRow, standIns := [], harness := (true, "d973bcba77dc560a0fcfed13fec738ec2655f293b7f29c248d703cdd6ae0e2a5"), looks := true }, kinds := [], alts := [], laidByText := true, laidKinds := [.data, .data, .data, .data, .sentinel, .sentinel, .pinned], laidTests := true, laidLooks := .later }
def HazardRisksUptoCardSaid : Prop := Claim7.holds Tryz.pinned (.plain (OpenSpec.upto hazardRisksSpec)) hazardRisksUptoCard

/-- THE SECOND FORM's CARD OF 'hangfirelaw04.HazardWithin'. -/
def hazardWithinUptoCard : Claim7 := { stood := { row := hazardWithinUptoRow, standIns := [], harness := (true, "d973bcba77dc560a0fcfed13fec738ec2655f293b7f29c248d703cdd6ae0e2a5"), looks := true }, kinds := [], alts := [], laidByText := true, laidKinds := [.data, .data, .data, .data, .sentinel, .sentinel, .pinned], laidTests := true, laidLooks := .later }
def HazardWithinUptoCardSaid : Prop := Claim7.holds Tryz.pinned (.plain (OpenSpec.upto hazardWithinSpec)) hazardWithinUptoCard

/-- THE SECOND FORM's CARD OF 'hangfirelaw04.HazardMeets'. -/
def hazardMeetsUptoCard : Claim7 := { stood := { row := hazardMeetsUptoRow, standIns := [], harness := (true, "d973bcba77dc560a0fcfed13fec738ec2655f293b7f29c248d703cdd6ae0e2a5"), looks := true }, kinds := [], alts := [], laidByText := true, laidKinds := [.data, .data, .data, .data, .sentinel, .sentinel, .pinned], laidTests := true, laidLooks := .later }
def HazardMeetsUptoCardSaid : Prop := Claim7.holds Tryz.pinned (.plain (OpenSpec.upto hazardMeetsSpec)) hazardMeetsUptoCard

/-- THE SECOND FORM's CARD OF 'hangfirelaw04.HazardAdds'. -/
def hazardAddsUptoCard : Claim7 := { stood := { row := hazardAddsUptoRow, standIns := [], harness := (true, "d973bcba77dc560a0fcfed13fec738ec2655f293b7f29c248d703cdd6ae0e2a5"), looks := true }, kinds := [], alts := [], laidByText := true, laidKinds := [.data, .data, .data, .data, .sentinel, .sentinel, .pinned], laidTests := true, laidLooks := .later }
def HazardAddsUptoCardSaid : Prop := Claim7.holds Tryz.pinned (.plain (OpenSpec.upto hazardAddsSpec)) hazardAddsUptoCard

/-- THE SECOND FORM's CARD OF 'hangfirelaw04.HazardText'. -/
def hazardTextUptoCard : Claim7 := { stood := { row := hazardTextUptoRow, standIns := [], harness := (true, "d973bcba77dc560a0fcfed13fec738ec2655f293b7f29c248d703cdd6ae0e2a5"), looks := true }, kinds := [], alts := [], laidByText := true, laidKinds := [.data, .data, .data, .data, .sentinel, .sentinel, .pinned], laidTests := true, laidLooks := .later }
def HazardTextUptoCardSaid : Prop := Claim7.holds Tryz.pinned (.plain (OpenSpec.upto hazardTextSpec)) hazardTextUptoCard

/-- THE SECOND FORM's CARD OF 'hangfirelaw04.HazardMosts'. -/
def hazardMostsUptoCard : Claim7 := { stood := { row := hazardMostsUptoRow, standIns := [], harness := (true, "d973bcba77dc560a0fcfed13fec738ec2655f293b7f29c248d703cdd6ae0e2a5"), looks := true }, kinds := [], alts := [], laidByText := true, laidKinds := [.data, .data, .data, .data, .sentinel, .sentinel, .pinned], laidTests := true, laidLooks := .later }
def HazardMostsUptoCardSaid : Prop := Claim7.holds Tryz.pinned (.plain (OpenSpec.upto hazardMostsSpec)) hazardMostsUptoCard

/-- THE SECOND FORM's CARD OF 'hangfirelaw04.HazardForces'. -/
def hazardForcesUptoCard : Claim7 := { stood := { row := hazardForcesUptoRow, standIns := [], harness := (true, "d973bcba77dc560a0fcfed13fec738ec2655f293b7f29c248d703cdd6ae0e2a5"), looks := true }, kinds := [], alts := [], laidByText := true, laidKinds := [.data, .data, .data, .data, .sentinel, .sentinel, .pinned], laidTests := true, laidLooks := .later }
def HazardForcesUptoCardSaid : Prop := Claim7.holds Tryz.pinned (.plain (OpenSpec.upto hazardForcesSpec)) hazardForcesUptoCard

/-- THE SECOND FORM's CARD OF 'hangfirelaw04.HazardStands'. -/
def hazardStandsUptoCard : Claim7 := { stood := { row := hazardStandsUptoRow, standIns := [], harness := (true, "d973bcba77dc560a0fcfed13fec738ec2655f293b7f29c248d703cdd6ae0e2a5"), looks := true }, kinds := [], alts := [], laidByText := true, laidKinds := [.data, .data, .data, .data, .sentinel, .sentinel, .pinned], laidTests := true, laidLooks := .later }
def HazardStandsUptoCardSaid : Prop := Claim7.holds Tryz.pinned (.plain (OpenSpec.upto hazardStandsSpec)) hazardStandsUptoCard

/-- THE SECOND FORM's CARD OF 'hangfirelaw04.HazardProves'. -/
def hazardProvesUptoCard : Claim7 := { stood := { row := hazardProvesUptoRow, standIns := [], harness := (true, "d973bcba77dc560a0fcfed13fec738ec2655f293b7f29c248d703cdd6ae0e2a5"), looks := true }, kinds := [], alts := [], laidByText := true, laidKinds := [.data, .data, .data, .data, .sentinel, .sentinel, .pinned], laidTests := true, laidLooks := .later }
def HazardProvesUptoCardSaid : Prop := Claim7.holds Tryz.pinned (.plain (OpenSpec.upto hazardProvesSpec)) hazardProvesUptoCard

/-- THE SECOND FORM's CARD OF 'hangfirelaw04.HazardKnown'. -/
def hazardKnownUptoCard : Claim7 := { stood := { row := hazardKnownUptoRow, standIns := [], harness := (true, "d973bcba77dc560a0fcfed13fec738ec2655f293b7f29c248d703cdd6ae0e2a5"), looks := true }, kinds := [], alts := [], laidByText := true, laidKinds := [.data, .data, .data, .data, .sentinel, .sentinel, .pinned], laidTests := true, laidLooks := .later }
def HazardKnownUptoCardSaid : Prop := Claim7.holds Tryz.pinned (.plain (OpenSpec.upto hazardKnownSpec)) hazardKnownUptoCard
end Rows
end Go.Proofs.YtmglbegbijofkaaGreatDoor
