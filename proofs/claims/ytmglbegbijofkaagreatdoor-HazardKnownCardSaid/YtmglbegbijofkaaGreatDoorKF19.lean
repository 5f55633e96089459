import Derived.Test.YtmglbegbijofkaaGreatDoorCards
import Derived.Test.YtmglbegbijofkaaGreatDoorTie
import Derived.ProofKit
set_option linter.unusedVariables false
set_option linter.unusedSimpArgs false
namespace Go.Proofs.YtmglbegbijofkaaGreatDoor
set_option maxRecDepth 100000 in
set_option maxHeartbeats 8000000 in
theorem knownFacts : joinedFacts Tryz.pinned.checked.prog 19 Tryz.f19 (OpenSpec.ofChange Rows.hazardKnownSpec).bare Rows.hazardKnownRow = true := by
  unfold joinedFacts
  simp only [Bool.and_eq_true]
  repeat' (refine And.intro ?_ ?_)
  all_goals (as_aux_lemma => kernel_rfl)
end Go.Proofs.YtmglbegbijofkaaGreatDoor
