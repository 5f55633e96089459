/- A closed fact of the card of OfficerKnown. -/
import Derived.Test.YtkjajpfgdjfcoaaGreatDoorCards
import Derived.ProofKit
import Derived.SevenTiedAt
set_option linter.unusedVariables false
set_option linter.unusedSimpArgs false
namespace Go.Proofs.YtkjajpfgdjfcoaaGreatDoor
open Go
theorem officerKnownCard_a : Rows.officerKnownRow.wfByText (OpenSpec.ofChange Rows.officerKnownSpec) = true := by kernel_rfl
end Go.Proofs.YtkjajpfgdjfcoaaGreatDoor
