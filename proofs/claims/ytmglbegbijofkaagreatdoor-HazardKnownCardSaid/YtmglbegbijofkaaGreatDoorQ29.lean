import Derived.Test.YtmglbegbijofkaaGreatDoorQ22
import Derived.Test.YtmglbegbijofkaaGreatDoorQ00
import Derived.Test.YtmglbegbijofkaaGreatDoorQ28
import Derived.Deep.DeepCutAuto
import Derived.Deep.CutBlock
import Derived.Test.YtmglbegbijofkaaGreatDoorQ23
import Derived.Test.YtmglbegbijofkaaGreatDoorQ06
import Derived.Test.YtmglbegbijofkaaGreatDoorQ05
set_option linter.unusedVariables false
set_option linter.unusedSimpArgs false
namespace Go.Proofs.YtmglbegbijofkaaGreatDoor
open Go.RowKit Go.Shelf Go.Sort
end Go.Proofs.YtmglbegbijofkaaGreatDoor
namespace Go.Proofs.YtmglbegbijofkaaGreatDoor
open Go.RowKit Go.Shelf Go.Sort
end Go.Proofs.YtmglbegbijofkaaGreatDoor
namespace Go.Proofs.YtmglbegbijofkaaGreatDoor
open Go.RowKit Go.Shelf Go.Sort
end Go.Proofs.YtmglbegbijofkaaGreatDoor
namespace Go.Proofs.YtmglbegbijofkaaGreatDoor
open Go.RowKit Go.Shelf Go.Sort
end Go.Proofs.YtmglbegbijofkaaGreatDoor
