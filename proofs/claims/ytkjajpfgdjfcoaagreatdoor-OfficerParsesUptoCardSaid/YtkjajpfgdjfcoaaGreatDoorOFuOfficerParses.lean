/- Closed facts of the row of OfficerParses (its second form). -/
import Derived.Test.YtkjajpfgdjfcoaaGreatDoorOFOfficerParsesa
import Derived.Test.YtkjajpfgdjfcoaaGreatDoorOFOfficerParsesb
import Derived.Test.YtkjajpfgdjfcoaaGreatDoorOFOfficerParsesc
import Derived.Test.YtkjajpfgdjfcoaaGreatDoorOFOfficerParsesd
set_option linter.unusedVariables false
set_option linter.unusedSimpArgs false
namespace Go.Proofs.YtkjajpfgdjfcoaaGreatDoor
open Go
theorem officerParsesUptoFact_a : (Rows.officerParsesUptoRow.inPlace == Tryz.pinned.checked.prog.inPlace 4) = true := officerParsesFact_a
theorem officerParsesUptoFact_b : (Rows.officerParsesUptoRow.unfollowed == Tryz.pinned.checked.prog.unfollowed 4) = true := officerParsesFact_b
theorem officerParsesUptoFact_c : (Rows.officerParsesUptoRow.recurses == Tryz.pinned.checked.prog.recurses 4) = true := officerParsesFact_c
theorem officerParsesUptoFact_d : (Rows.officerParsesUptoRow.named == Tryz.pinned.checked.prog.varsNamed 4) = true := officerParsesFact_d
set_option maxRecDepth 100000 in
set_option maxHeartbeats 8000000 in
theorem officerParsesUptoFacts : joinedFacts Tryz.pinned.checked.prog 4 Tryz.f4 (Rows.OpenSpec.upto Rows.officerParsesSpec).bare Rows.officerParsesUptoRow = true := by
  unfold joinedFacts
  simp only [Bool.and_eq_true]
  repeat' (refine And.intro ?_ ?_)
  all_goals (first | (with_reducible exact officerParsesUptoFact_a) | (with_reducible exact officerParsesUptoFact_b) | (with_reducible exact officerParsesUptoFact_c) | (with_reducible exact officerParsesUptoFact_d) | (as_aux_lemma => kernel_rfl))
end Go.Proofs.YtkjajpfgdjfcoaaGreatDoor
