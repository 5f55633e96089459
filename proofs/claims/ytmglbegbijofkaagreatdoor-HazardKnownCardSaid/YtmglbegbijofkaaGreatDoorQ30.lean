import Derived.Test.YtmglbegbijofkaaGreatDoorQ22
import Derived.Test.YtmglbegbijofkaaGreatDoorQ05
import Derived.Test.YtmglbegbijofkaaGreatDoorQ26
set_option linter.unusedVariables false
set_option linter.unusedSimpArgs false
namespace Go.Proofs.YtmglbegbijofkaaGreatDoor
open Go.RowKit Go.Shelf Go.Sort
end Go.Proofs.YtmglbegbijofkaaGreatDoor
