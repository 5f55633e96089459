/- Proved: the card of OfficerKnown (the document's examples hold: the law returns true); its conditions: none beyond the row's own (the listed package-level variables start as the program's text lays them). -/
import Derived.Test.YtkjajpfgdjfcoaaGreatDoorCards
import Derived.Test.YtkjajpfgdjfcoaaGreatDoorOKsOfficerKnown
import Derived.Test.YtkjajpfgdjfcoaaGreatDoorOTOfficerKnown
import Derived.Test.YtkjajpfgdjfcoaaGreatDoorOMOfficerKnowna
import Derived.Test.YtkjajpfgdjfcoaaGreatDoorOMOfficerKnownb
import Derived.Test.YtkjajpfgdjfcoaaGreatDoorOMg
import Derived.Test.YtkjajpfgdjfcoaaGreatDoorOMOfficerKnownd
set_option linter.unusedVariables false
set_option linter.unusedSimpArgs false
namespace Go.Proofs.YtkjajpfgdjfcoaaGreatDoor
open Go Go.ChangeShapes Go.WideShapes Go.ChangeAt Go.RowKit
namespace OfficerKnown
theorem plain (f : FuncId) (fn : Func) (hf : Tryz.pinned.checked.prog.funcNamed Rows.officerKnownRow.func = some f) (hfn : Tryz.pinned.checked.prog.funcs[f]? = some fn) :
    true = Tryz.pinned.checked.prog.looks [] ∧ ∀ (j : Nat) t, fn.params[j]? = some t → Tryz.pinned.checked.prog.wantsStandIn t = false := by
  obtain rfl : f = 3 := Option.some.inj ((show Tryz.prog.funcNamed "hangfire/hangfirelaw12.OfficerKnown" = some 3 by kernel_rfl).symm.trans hf) |>.symm
  obtain rfl : fn = Tryz.f3 := (Option.some.inj (Tryz.func3.symm.trans hfn)).symm
  refine ⟨officerKnownCard_d, fun j t ht => ?_⟩
  rw [Tryz.params3] at ht
  simp at ht
theorem card : Rows.OfficerKnownCardSaid :=
  Claim7.holds_tied_plain_at .later [] _ _ _ _ said (fun _ h => by cases h) officerKnownCard_a (fun _ h => by cases h) officerKnown_row_tie rfl ⟨rfl, rfl⟩ officerKnownCard_b rfl plain (goesAt_none Rows.officerKnownRow.func).symm
end OfficerKnown
end Go.Proofs.YtkjajpfgdjfcoaaGreatDoor
