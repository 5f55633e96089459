/- Part of the closed run: calls that are run by themselves. -/
import Derived.Test.YtkjajpfgdjfcoaaGreatDoorOC
import Derived.Test.YtkjajpfgdjfcoaaGreatDoorOS0
import Derived.Test.YtkjajpfgdjfcoaaGreatDoorOS1
import Derived.Test.YtkjajpfgdjfcoaaGreatDoorOS2
import Derived.Test.YtkjajpfgdjfcoaaGreatDoorOS3
import Derived.Test.YtkjajpfgdjfcoaaGreatDoorOS4
set_option linter.unusedVariables false
set_option linter.unusedSimpArgs false
namespace Go.Proofs.YtkjajpfgdjfcoaaGreatDoor
open Go Ev
noncomputable def me46 : ME := ⟨272, [.ptr 10 0, .num (0)], 13,
  [(10, .cells [.val (.string ⟨#[100,97,114,116]⟩), .num (98), .num (98), .val (.slice none 0 0), .sl 11 0 1 1 false, .val (.slice none 0 0), .num (0), .num (0), .num (0), .num (0), .num (10000), .num (10000), .sl 12 0 1 1 true] 459 false),
   (11, .cells [.num (2), .num (1000), .num (1000), .num (10), .num (10), .num (0), .num (0), .num (-10), .num (10), .num (0), .num (0), .num (0), .num (0)] 161 false),
   (12, .cells [.num (0), .num (1000), .num (0), .num (200), .num (-120), .num (80)] 305 true)],
  .tup [.agg [.num (0), .num (-79), .num (79), .num (0), .num (0), .num (40), .num (40)], .num (0)], 8562,
  []⟩
theorem run46 (gh : Nat → Obj) : me46.ok ((E0 gh).plugs [] [me6, me7, me8, me9, me10, me11, me12, me13, me14, me15, me16, me17, me18, me19, me20, me21, me22, me23, me24, me25, me26, me27, me28, me29, me30, me31, me32, me33, me34, me35, me36, me37, me38, me39, me40, me41, me42, me43, me44, me45]) 100000 = true := by kernel_rfl
theorem ok46 (gh : Nat → Obj) : CallF planOK (E0 gh) me46 := seg (e0_ok gh) (e0_body gh) (e0_mix gh) (C := []) (l := [me6, me7, me8, me9, me10, me11, me12, me13, me14, me15, me16, me17, me18, me19, me20, me21, me22, me23, me24, me25, me26, me27, me28, me29, me30, me31, me32, me33, me34, me35, me36, me37, me38, me39, me40, me41, me42, me43, me44, me45]) trivial ⟨ok6 gh, ⟨ok7 gh, ⟨ok8 gh, ⟨ok9 gh, ⟨ok10 gh, ⟨ok11 gh, ⟨ok12 gh, ⟨ok13 gh, ⟨ok14 gh, ⟨ok15 gh, ⟨ok16 gh, ⟨ok17 gh, ⟨ok18 gh, ⟨ok19 gh, ⟨ok20 gh, ⟨ok21 gh, ⟨ok22 gh, ⟨ok23 gh, ⟨ok24 gh, ⟨ok25 gh, ⟨ok26 gh, ⟨ok27 gh, ⟨ok28 gh, ⟨ok29 gh, ⟨ok30 gh, ⟨ok31 gh, ⟨ok32 gh, ⟨ok33 gh, ⟨ok34 gh, ⟨ok35 gh, ⟨ok36 gh, ⟨ok37 gh, ⟨ok38 gh, ⟨ok39 gh, ⟨ok40 gh, ⟨ok41 gh, ⟨ok42 gh, ⟨ok43 gh, ⟨ok44 gh, ⟨ok45 gh, trivial⟩⟩⟩⟩⟩⟩⟩⟩⟩⟩⟩⟩⟩⟩⟩⟩⟩⟩⟩⟩⟩⟩⟩⟩⟩⟩⟩⟩⟩⟩⟩⟩⟩⟩⟩⟩⟩⟩⟩⟩ (run46 gh)
end Go.Proofs.YtkjajpfgdjfcoaaGreatDoor
