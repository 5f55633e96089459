/- A closed fact of the row of OfficerLines. -/
import Derived.Test.YtkjajpfgdjfcoaaGreatDoorRows
import Derived.ProofKit
set_option linter.unusedVariables false
set_option linter.unusedSimpArgs false
namespace Go.Proofs.YtkjajpfgdjfcoaaGreatDoor
open Go
theorem officerLinesFact_b : (Rows.officerLinesRow.unfollowed == Tryz.pinned.checked.prog.unfollowed 5) = true := by kernel_rfl
end Go.Proofs.YtkjajpfgdjfcoaaGreatDoor
