/- A closed fact of the row of OfficerParses. -/
import Derived.Test.YtkjajpfgdjfcoaaGreatDoorRows
import Derived.ProofKit
set_option linter.unusedVariables false
set_option linter.unusedSimpArgs false
namespace Go.Proofs.YtkjajpfgdjfcoaaGreatDoor
open Go
theorem officerParsesFact_d : (Rows.officerParsesRow.named == Tryz.pinned.checked.prog.varsNamed 4) = true := by kernel_rfl
end Go.Proofs.YtkjajpfgdjfcoaaGreatDoor
