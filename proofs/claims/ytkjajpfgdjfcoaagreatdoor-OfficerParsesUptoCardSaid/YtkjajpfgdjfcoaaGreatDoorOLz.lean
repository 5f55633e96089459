/- Proved: OfficerKnown and Awake return true in any world that bears the program's tables. -/
import Derived.Test.YtkjajpfgdjfcoaaGreatDoorOX
import Derived.Test.YtkjajpfgdjfcoaaGreatDoorOSz
set_option linter.unusedVariables false
set_option linter.unusedSimpArgs false
namespace Go.Proofs.YtkjajpfgdjfcoaaGreatDoor
open Go Go.RowKit
theorem law_known (W : World) (ht : Ev.Tabs Tryz.prog tabs W) : Calls Tryz.prog 3 #[] W fun e W' => e = .returned (.bool true) ∧ Below W.heap.size W W' :=
  Ev.run_closed (D := Ev.planOK) (E := E0 (Ev.ghOf W)) rfl ht (ok73 _) rfl (v := .bool true) rfl rfl rfl (by kernel_rfl)
theorem awake_known (W : World) (ht : Ev.Tabs Tryz.prog tabs W) : Calls Tryz.prog 11 #[] W fun e W' => e = .returned (.bool true) ∧ Below W.heap.size W W' :=
  Ev.run_closed (D := Ev.planOK) (E := E0 (Ev.ghOf W)) rfl ht (ok72 _) rfl (v := .bool true) rfl rfl rfl (by kernel_rfl)
end Go.Proofs.YtkjajpfgdjfcoaaGreatDoor
