/- The laid variables: closed facts, part 2. -/
import Derived.Test.YtkjajpfgdjfcoaaGreatDoorOQ2a
set_option linter.unusedVariables false
set_option linter.unusedSimpArgs false
namespace Go.Proofs.YtkjajpfgdjfcoaaGreatDoor
open Go
theorem q27 (os : Os) (tape : Tape) : varsDone Tryz.prog 400 (varsId Tryz.prog) os tape = true := by kernel_rfl
end Go.Proofs.YtkjajpfgdjfcoaaGreatDoor
