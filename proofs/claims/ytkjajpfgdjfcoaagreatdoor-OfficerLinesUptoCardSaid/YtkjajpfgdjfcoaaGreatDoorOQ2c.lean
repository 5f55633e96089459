/- The laid variables: closed facts, part 3. -/
import Derived.Test.YtkjajpfgdjfcoaaGreatDoorOQ2a
set_option linter.unusedVariables false
set_option linter.unusedSimpArgs false
namespace Go.Proofs.YtkjajpfgdjfcoaaGreatDoor
open Go
theorem q28 (os : Os) (tape : Tape) : (DataW.laidRun Tryz.prog (varsWorld Tryz.prog 400 (varsId Tryz.prog) os tape).memory 8 (q2L.map (·.1))).map (·.1) = some q2L := by kernel_rfl
end Go.Proofs.YtkjajpfgdjfcoaaGreatDoor
