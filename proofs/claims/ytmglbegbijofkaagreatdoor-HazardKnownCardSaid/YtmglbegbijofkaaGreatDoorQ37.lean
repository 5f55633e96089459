import Derived.Test.YtmglbegbijofkaaGreatDoorQ02
import Derived.Test.YtmglbegbijofkaaGreatDoorQ24
import Derived.Laws.IdiomStrings
import Derived.Lib.ItoaLen
set_option linter.unusedVariables false
set_option linter.unusedSimpArgs false
namespace Go.Proofs.YtmglbegbijofkaaGreatDoor
open Go.RowKit
end Go.Proofs.YtmglbegbijofkaaGreatDoor
