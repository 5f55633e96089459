/- Closed facts of the card of OfficerLines; no function of the program starts a goroutine. -/
import Derived.Test.YtkjajpfgdjfcoaaGreatDoorCards
import Derived.ProofKit
import Derived.SevenTiedAt
set_option linter.unusedVariables false
set_option linter.unusedSimpArgs false
namespace Go.Proofs.YtkjajpfgdjfcoaaGreatDoor
open Go
theorem officerLinesUptoCard_a : Rows.officerLinesUptoRow.wfByText (Rows.OpenSpec.upto Rows.officerLinesSpec) = true := by kernel_rfl
theorem officerLinesUptoCard_b : Tryz.pinned.checked.prog.mainIs = some (true, "9c088d0f06ed18f8dc0d82b71243f0128b165e51995ad36ca6b09748055e111a".toList) := by kernel_rfl
theorem officerLinesUptoCard_d : true = Tryz.pinned.checked.prog.looks [] := by kernel_rfl
theorem stand9 : Tryz.pinned.checked.prog.wantsStandIn 9 = false := by kernel_rfl
theorem stand84 : Tryz.pinned.checked.prog.wantsStandIn 84 = false := by kernel_rfl
end Go.Proofs.YtkjajpfgdjfcoaaGreatDoor
namespace Go.Proofs.YtkjajpfgdjfcoaaGreatDoor
open Go
theorem funcs_goes : Tryz.prog.funcs.any Func.goes = false := by kernel_rfl
theorem goes_none (f : FuncId) : Tryz.prog.goes f = false := by
  unfold Program.goes
  rw [funcs_goes, Bool.and_false, Bool.or_false, List.any_eq_false]
  intro g _
  cases h : Tryz.prog.funcs[g]? with
  | none => simp
  | some fn =>
    have h2 := Array.any_eq_false.1 funcs_goes g (Array.getElem?_eq_some_iff.1 h).1
    rw [(Array.getElem?_eq_some_iff.1 h).2] at h2
    simpa using h2
theorem any_goes (o : Option FuncId) : o.any Tryz.prog.goes = false := by
  cases o with
  | none => rw [Option.any_none]
  | some f => rw [Option.any_some, goes_none]
theorem goesAt_none (func : String) : Tryz.prog.goesAt .entering func = false := by
  unfold Program.goesAt Program.goesFrom
  rw [any_goes, Bool.false_or]
end Go.Proofs.YtkjajpfgdjfcoaaGreatDoor
