/- Part of the closed run: calls that are run by themselves. -/
import Derived.Test.YtkjajpfgdjfcoaaGreatDoorOC
import Derived.Test.YtkjajpfgdjfcoaaGreatDoorOS0
import Derived.Test.YtkjajpfgdjfcoaaGreatDoorOS6
import Derived.Test.YtkjajpfgdjfcoaaGreatDoorOS7
import Derived.Test.YtkjajpfgdjfcoaaGreatDoorOS10
import Derived.Test.YtkjajpfgdjfcoaaGreatDoorOS14
set_option linter.unusedVariables false
set_option linter.unusedSimpArgs false
namespace Go.Proofs.YtkjajpfgdjfcoaaGreatDoor
open Go Ev
noncomputable def me72 : ME := ⟨11, [], 10,
  [(3, .ro 3 [.val (.int .u64 (1)), .val (.int .u64 (10)), .val (.int .u64 (100)), .val (.int .u64 (1000)), .val (.int .u64 (10000)), .val (.int .u64 (100000)), .val (.int .u64 (1000000)), .val (.int .u64 (10000000)), .val (.int .u64 (100000000)), .val (.int .u64 (1000000000)), .val (.int .u64 (10000000000)), .val (.int .u64 (100000000000)), .val (.int .u64 (1000000000000)), .val (.int .u64 (10000000000000)), .val (.int .u64 (100000000000000)), .val (.int .u64 (1000000000000000)), .val (.int .u64 (10000000000000000)), .val (.int .u64 (100000000000000000)), .val (.int .u64 (1000000000000000000)), .val (.int .u64 (10000000000000000000))])],
  .bool true, 82742,
  []⟩
theorem run72 (gh : Nat → Obj) : me72.ok ((E0 gh).plugs [] [me70, me63, me3, me71, me1]) 100000 = true := by kernel_rfl
theorem ok72 (gh : Nat → Obj) : CallF planOK (E0 gh) me72 := seg (e0_ok gh) (e0_body gh) (e0_mix gh) (C := []) (l := [me70, me63, me3, me71, me1]) trivial ⟨ok70 gh, ⟨ok63 gh, ⟨ok3 gh, ⟨ok71 gh, ⟨ok1 gh, trivial⟩⟩⟩⟩⟩ (run72 gh)
end Go.Proofs.YtkjajpfgdjfcoaaGreatDoor
