import Derived.Test.YtmglbegbijofkaaGreatDoorQ38
import Derived.Test.YtmglbegbijofkaaGreatDoorQ08
import Derived.Test.YtmglbegbijofkaaGreatDoorQ24
import Derived.Test.YtmglbegbijofkaaGreatDoorQ32
import Derived.Test.YtmglbegbijofkaaGreatDoorQS0
set_option linter.unusedVariables false
set_option linter.unusedSimpArgs false
namespace Go.Proofs.YtmglbegbijofkaaGreatDoor
open Go.RowKit Go.Maps Go.Sort Go.Shelf
end Go.Proofs.YtmglbegbijofkaaGreatDoor
namespace Go.Proofs.YtmglbegbijofkaaGreatDoor
open Go.RowKit Go.Maps Go.Sort Go.Shelf
end Go.Proofs.YtmglbegbijofkaaGreatDoor
