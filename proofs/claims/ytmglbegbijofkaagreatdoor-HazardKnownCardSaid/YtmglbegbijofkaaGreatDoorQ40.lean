import Derived.Test.YtmglbegbijofkaaGreatDoorQ39
import Derived.Test.YtmglbegbijofkaaGreatDoorQ35
import Derived.Test.YtmglbegbijofkaaGreatDoorQ25
set_option linter.unusedVariables false
set_option linter.unusedSimpArgs false
/- ref.put: a list of notices with one more, by the numbers. -/
namespace Go.Proofs.YtmglbegbijofkaaGreatDoor
open Go.RowKit Go.Maps Go.Shelf
theorem nts_nil (w : World) (v : Value) (c : Nat) (h : v = .slice none 0 c) : NtsAt w v [] := ⟨_, _, h, .inl rfl⟩
end Go.Proofs.YtmglbegbijofkaaGreatDoor
