/- A closed fact of the card of OfficerKnown. -/
import Derived.Test.YtkjajpfgdjfcoaaGreatDoorCards
import Derived.ProofKit
import Derived.SevenTiedAt
set_option linter.unusedVariables false
set_option linter.unusedSimpArgs false
namespace Go.Proofs.YtkjajpfgdjfcoaaGreatDoor
open Go
theorem officerKnownCard_b : Tryz.pinned.checked.prog.mainIs = some (true, "9c088d0f06ed18f8dc0d82b71243f0128b165e51995ad36ca6b09748055e111a".toList) := by kernel_rfl
end Go.Proofs.YtkjajpfgdjfcoaaGreatDoor
