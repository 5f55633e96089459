/- A closed fact of the row of OfficerKnown. -/
import Derived.Test.YtkjajpfgdjfcoaaGreatDoorRows
import Derived.ProofKit
set_option linter.unusedVariables false
set_option linter.unusedSimpArgs false
namespace Go.Proofs.YtkjajpfgdjfcoaaGreatDoor
open Go
theorem officerKnownFact_b : (Rows.officerKnownRow.unfollowed == Tryz.pinned.checked.prog.unfollowed 3) = true := by kernel_rfl
end Go.Proofs.YtkjajpfgdjfcoaaGreatDoor
