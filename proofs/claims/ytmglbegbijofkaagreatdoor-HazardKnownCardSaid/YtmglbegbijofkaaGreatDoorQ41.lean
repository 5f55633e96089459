import Derived.Test.YtmglbegbijofkaaGreatDoorQ40
import Derived.Test.YtmglbegbijofkaaGreatDoorQ34
set_option linter.unusedVariables false
set_option linter.unusedSimpArgs false
/- ref.force: the notices in force after some strings. -/
namespace Go.Proofs.YtmglbegbijofkaaGreatDoor
open Go.RowKit Go.Maps Go.Shelf
end Go.Proofs.YtmglbegbijofkaaGreatDoor
