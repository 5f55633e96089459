/- Part of the closed run: calls that are run by themselves. -/
import Derived.Test.YtkjajpfgdjfcoaaGreatDoorOC
import Derived.Test.YtkjajpfgdjfcoaaGreatDoorOS10
import Derived.Test.YtkjajpfgdjfcoaaGreatDoorOS13
import Derived.Test.YtkjajpfgdjfcoaaGreatDoorOS15
set_option linter.unusedVariables false
set_option linter.unusedSimpArgs false
namespace Go.Proofs.YtkjajpfgdjfcoaaGreatDoor
open Go Ev
noncomputable def me73 : ME := ⟨3, [], 10,
  [(3, .ro 3 [.val (.int .u64 (1)), .val (.int .u64 (10)), .val (.int .u64 (100)), .val (.int .u64 (1000)), .val (.int .u64 (10000)), .val (.int .u64 (100000)), .val (.int .u64 (1000000)), .val (.int .u64 (10000000)), .val (.int .u64 (100000000)), .val (.int .u64 (1000000000)), .val (.int .u64 (10000000000)), .val (.int .u64 (100000000000)), .val (.int .u64 (1000000000000)), .val (.int .u64 (10000000000000)), .val (.int .u64 (100000000000000)), .val (.int .u64 (1000000000000000)), .val (.int .u64 (10000000000000000)), .val (.int .u64 (100000000000000000)), .val (.int .u64 (1000000000000000000)), .val (.int .u64 (10000000000000000000))])],
  .bool true, 166804,
  []⟩
theorem run73 (gh : Nat → Obj) : me73.ok ((E0 gh).plugs [] [me69, me63, me72]) 100000 = true := by kernel_rfl
theorem ok73 (gh : Nat → Obj) : CallF planOK (E0 gh) me73 := seg (e0_ok gh) (e0_body gh) (e0_mix gh) (C := []) (l := [me69, me63, me72]) trivial ⟨ok69 gh, ⟨ok63 gh, ⟨ok72 gh, trivial⟩⟩⟩ (run73 gh)
end Go.Proofs.YtkjajpfgdjfcoaaGreatDoor
