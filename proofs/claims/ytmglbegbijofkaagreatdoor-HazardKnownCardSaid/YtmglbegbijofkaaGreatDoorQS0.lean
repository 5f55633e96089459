import Derived.Test.YtmglbegbijofkaaGreatDoorQ24
set_option linter.unusedVariables false
set_option linter.unusedSimpArgs false
/- Plain: the reference's way through the words of a notice. -/
namespace Go.Proofs.YtmglbegbijofkaaGreatDoor
end Go.Proofs.YtmglbegbijofkaaGreatDoor
