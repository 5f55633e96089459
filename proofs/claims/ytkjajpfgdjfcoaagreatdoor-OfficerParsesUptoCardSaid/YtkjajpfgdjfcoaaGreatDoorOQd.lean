/- The laid variables: closed facts, part 4. -/
import Derived.Test.YtkjajpfgdjfcoaaGreatDoorOQa
set_option linter.unusedVariables false
set_option linter.unusedSimpArgs false
namespace Go.Proofs.YtkjajpfgdjfcoaaGreatDoor
open Go
theorem q9 (os : Os) (tape : Tape) : (DataW.laidRun Tryz.prog (varsWorld Tryz.prog 400 (varsId Tryz.prog) os tape).memory 8 (qL.map (·.1))).map (fun x => decide x.2.Nodup && laidRowsB Tryz.prog (varsWorld Tryz.prog 400 (varsId Tryz.prog) os tape).memory x.2) = some true := by kernel_rfl
end Go.Proofs.YtkjajpfgdjfcoaaGreatDoor
