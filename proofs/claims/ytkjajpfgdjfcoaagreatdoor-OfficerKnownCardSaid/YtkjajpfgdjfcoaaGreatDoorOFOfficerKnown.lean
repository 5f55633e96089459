/- Closed facts of the row of OfficerKnown. -/
import Derived.Test.YtkjajpfgdjfcoaaGreatDoorOFOfficerKnowna
import Derived.Test.YtkjajpfgdjfcoaaGreatDoorOFOfficerKnownb
import Derived.Test.YtkjajpfgdjfcoaaGreatDoorOFOfficerKnownc
import Derived.Test.YtkjajpfgdjfcoaaGreatDoorOFOfficerKnownd
set_option linter.unusedVariables false
set_option linter.unusedSimpArgs false
namespace Go.Proofs.YtkjajpfgdjfcoaaGreatDoor
open Go
set_option maxRecDepth 100000 in
set_option maxHeartbeats 8000000 in
theorem officerKnownFacts : joinedFacts Tryz.pinned.checked.prog 3 Tryz.f3 (OpenSpec.ofChange Rows.officerKnownSpec).bare Rows.officerKnownRow = true := by
  unfold joinedFacts
  simp only [Bool.and_eq_true]
  repeat' (refine And.intro ?_ ?_)
  all_goals (first | (with_reducible exact officerKnownFact_a) | (with_reducible exact officerKnownFact_b) | (with_reducible exact officerKnownFact_c) | (with_reducible exact officerKnownFact_d) | (as_aux_lemma => kernel_rfl))
end Go.Proofs.YtkjajpfgdjfcoaaGreatDoor
