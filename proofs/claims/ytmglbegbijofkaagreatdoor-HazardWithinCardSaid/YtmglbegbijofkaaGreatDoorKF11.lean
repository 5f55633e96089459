import Derived.Test.YtmglbegbijofkaaGreatDoorCards
import Derived.Test.YtmglbegbijofkaaGreatDoorTie
import Derived.ProofKit
namespace Go.Proofs.YtmglbegbijofkaaGreatDoor
set_option maxRecDepth 100000 in
set_option maxHeartbeats 8000000 in
theorem withinFacts : joinedFacts Tryz.pinned.checked.prog 11 Tryz.f11 (OpenSpec.ofChange Rows.hazardWithinSpec).bare Rows.hazardWithinRow = true := by
  unfold joinedFacts
  simp only [Bool.and_eq_true]
  repeat' (refine And.intro ?_ ?_)
  all_goals (as_aux_lemma => kernel_rfl)
end Go.Proofs.YtmglbegbijofkaaGreatDoor
