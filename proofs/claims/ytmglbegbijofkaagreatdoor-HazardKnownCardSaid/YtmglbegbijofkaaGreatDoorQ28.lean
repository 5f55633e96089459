import Derived.Deep.RegionHeld3
import Derived.WalkKit
set_option linter.unusedVariables false
set_option linter.unusedSimpArgs false
/- A region that draws its order and ends in one operation that may unmake what its loads read: the loads are taken first, S is asked as long as that operation has not come up. -/
namespace Go.Proofs.YtmglbegbijofkaaGreatDoor
open Go
section
variable {P : Program} {ops : Array Oper} {Q : Exit → Act → World → Prop} {md : Region.Mode} {S : World → Prop} {l : Nat}
end
end Go.Proofs.YtmglbegbijofkaaGreatDoor
