/- Closed facts of the row of OfficerLines (its second form). -/
import Derived.Test.YtkjajpfgdjfcoaaGreatDoorOFOfficerLinesa
import Derived.Test.YtkjajpfgdjfcoaaGreatDoorOFOfficerLinesb
import Derived.Test.YtkjajpfgdjfcoaaGreatDoorOFOfficerLinesc
import Derived.Test.YtkjajpfgdjfcoaaGreatDoorOFOfficerLinesd
set_option linter.unusedVariables false
set_option linter.unusedSimpArgs false
namespace Go.Proofs.YtkjajpfgdjfcoaaGreatDoor
open Go
theorem officerLinesUptoFact_a : (Rows.officerLinesUptoRow.inPlace == Tryz.pinned.checked.prog.inPlace 5) = true := officerLinesFact_a
theorem officerLinesUptoFact_b : (Rows.officerLinesUptoRow.unfollowed == Tryz.pinned.checked.prog.unfollowed 5) = true := officerLinesFact_b
theorem officerLinesUptoFact_c : (Rows.officerLinesUptoRow.recurses == Tryz.pinned.checked.prog.recurses 5) = true := officerLinesFact_c
theorem officerLinesUptoFact_d : (Rows.officerLinesUptoRow.named == Tryz.pinned.checked.prog.varsNamed 5) = true := officerLinesFact_d
set_option maxRecDepth 100000 in
set_option maxHeartbeats 8000000 in
theorem officerLinesUptoFacts : joinedFacts Tryz.pinned.checked.prog 5 Tryz.f5 (Rows.OpenSpec.upto Rows.officerLinesSpec).bare Rows.officerLinesUptoRow = true := by
  unfold joinedFacts
  simp only [Bool.and_eq_true]
  repeat' (refine And.intro ?_ ?_)
  all_goals (first | (with_reducible exact officerLinesUptoFact_a) | (with_reducible exact officerLinesUptoFact_b) | (with_reducible exact officerLinesUptoFact_c) | (with_reducible exact officerLinesUptoFact_d) | (as_aux_lemma => kernel_rfl))
end Go.Proofs.YtkjajpfgdjfcoaaGreatDoor
