/- Part of the closed run: calls that are run by themselves. -/
import Derived.Test.YtkjajpfgdjfcoaaGreatDoorOC
import Derived.Test.YtkjajpfgdjfcoaaGreatDoorOJ
import Derived.Test.YtkjajpfgdjfcoaaGreatDoorOS0
import Derived.Test.YtkjajpfgdjfcoaaGreatDoorOS4
import Derived.Test.YtkjajpfgdjfcoaaGreatDoorOS9
import Derived.Test.YtkjajpfgdjfcoaaGreatDoorOS11
set_option linter.unusedVariables false
set_option linter.unusedSimpArgs false
namespace Go.Proofs.YtkjajpfgdjfcoaaGreatDoor
open Go Ev
noncomputable def me50 : ME := ⟨53, [.ptr 10 0, .num (2)], 29,
  [(10, .cells [.num (1), .num (0), .num (-1), .num (-1), .num (0), .num (0), .val (.slice none 0 0), .val (.slice none 0 0), .val (.slice none 0 0), .num (0), .bool false, .val (.slice none 0 0), .val (.slice none 0 0), .bool false, .val (.slice none 0 0), .val (.slice none 0 0), .val (.slice none 0 0), .val (.slice none 0 0), .num (0), .num (0), .num (0), .sl 11 0 1 1 false, .sl 12 0 1 1 true, .sl 13 0 1 1 false, .num (30), .num (20), .sl 14 0 1 1 false, .sl 15 0 1 1 false, .num (0), .num (0), .num (-1000), .num (1000), .num (-1000), .num (1000), .num (0), .num (0), .num (0), .sl 16 0 1 1 false, .val (.string ⟨#[100,97,114,116]⟩), .num (98), .num (98), .val (.slice none 0 0), .sl 17 0 1 1 false, .val (.slice none 0 0), .num (-10000), .num (-10000), .num (20), .num (1), .num (1), .sl 18 0 1 1 false, .sl 19 0 1 1 false, .num (1), .num (4), .val (.slice none 0 0), .sl 20 0 3 3 false, .sl 21 0 3 3 false, .sl 22 0 3 3 false, .sl 23 0 3 3 false, .sl 24 0 2 2 false, .num (0), .num (100), .val (.slice none 0 0), .val (.slice none 0 0), .sl 25 0 1 1 false, .val (.slice none 0 0), .num (0), .num (400), .num (100), .num (1000), .num (50), .sl 26 0 3 3 false, .val (.slice none 0 0), .sl 27 0 2 2 false, .num (98), .num (98), .num (2), .num (10), .num (0), .num (0), .sl 28 0 1 1 true] 99 false),
   (11, .cells [.val (.string ⟨#[109,97,115,116]⟩), .num (1), .num (50), .num (0), .num (6000), .num (0), .num (300000)] 105 false),
   (13, .cells [.num (1000)] 3 false),
   (14, .cells [.num (0), .num (1000), .num (0), .num (0)] 107 false),
   (15, .cells [.num (0), .num (0), .num (0), .num (0), .num (1000)] 109 false),
   (18, .cells [.num (100)] 3 false),
   (19, .cells [.num (1), .num (1000000)] 115 false),
   (16, .cells [.num (0), .num (0), .num (10000)] 111 false),
   (17, .cells [.num (2), .num (1000), .num (1000), .num (10), .num (10), .num (0), .num (0), .num (-10), .num (10), .num (0), .num (0), .num (0), .num (0)] 161 false),
   (12, .cells [.num (0), .num (1), .num (500), .num (100), .num (-20)] 195 true)],
  .num (7), 18002,
  []⟩
theorem run50 (gh : Nat → Obj) : me50.ok ((E0 gh).plugs [] [me5, me47, me48, me49]) 100000 = true := by kernel_rfl
theorem ok50 (gh : Nat → Obj) : CallF planOK (E0 gh) me50 := seg (e0_ok gh) (e0_body gh) (e0_mix gh) (C := []) (l := [me5, me47, me48, me49]) trivial ⟨ok5 gh, ⟨ok47 gh, ⟨ok48 gh, ⟨ok49 gh, trivial⟩⟩⟩⟩ (run50 gh)
noncomputable def me52 : ME := ⟨75, [.ptr 10 0, .agg [.num (2), .num (4), .val (.string ⟨#[]⟩), .sl 11 0 1 1 true]], 30,
  [(3, .ro 3 [.val (.int .u64 (1)), .val (.int .u64 (10)), .val (.int .u64 (100)), .val (.int .u64 (1000)), .val (.int .u64 (10000)), .val (.int .u64 (100000)), .val (.int .u64 (1000000)), .val (.int .u64 (10000000)), .val (.int .u64 (100000000)), .val (.int .u64 (1000000000)), .val (.int .u64 (10000000000)), .val (.int .u64 (100000000000)), .val (.int .u64 (1000000000000)), .val (.int .u64 (10000000000000)), .val (.int .u64 (100000000000000)), .val (.int .u64 (1000000000000000)), .val (.int .u64 (10000000000000000)), .val (.int .u64 (100000000000000000)), .val (.int .u64 (1000000000000000000)), .val (.int .u64 (10000000000000000000))]),
   (10, .cells [.num (1), .num (0), .num (-1), .num (-1), .num (0), .num (0), .val (.slice none 0 0), .val (.slice none 0 0), .val (.slice none 0 0), .num (0), .bool false, .val (.slice none 0 0), .val (.slice none 0 0), .bool false, .val (.slice none 0 0), .val (.slice none 0 0), .val (.slice none 0 0), .val (.slice none 0 0), .num (0), .num (0), .num (0), .sl 12 0 1 1 false, .sl 13 0 1 1 true, .sl 14 0 1 1 false, .num (30), .num (20), .sl 15 0 1 1 false, .sl 16 0 1 1 false, .num (0), .num (0), .num (-1000), .num (1000), .num (-1000), .num (1000), .num (0), .num (0), .num (0), .sl 17 0 1 1 false, .val (.string ⟨#[100,97,114,116]⟩), .num (98), .num (98), .val (.slice none 0 0), .sl 18 0 1 1 false, .val (.slice none 0 0), .num (-10000), .num (-10000), .num (20), .num (1), .num (1), .sl 19 0 1 1 false, .sl 20 0 1 1 false, .num (1), .num (4), .val (.slice none 0 0), .sl 21 0 3 3 false, .sl 22 0 3 3 false, .sl 23 0 3 3 false, .sl 24 0 3 3 false, .sl 25 0 2 2 false, .num (0), .num (100), .val (.slice none 0 0), .val (.slice none 0 0), .sl 26 0 1 1 false, .val (.slice none 0 0), .num (0), .num (400), .num (100), .num (1000), .num (50), .sl 27 0 3 3 false, .val (.slice none 0 0), .sl 28 0 2 2 false, .num (98), .num (98), .num (2), .num (10), .num (0), .num (0), .sl 29 0 1 1 true] 99 false),
   (12, .cells [.val (.string ⟨#[109,97,115,116]⟩), .num (1), .num (50), .num (0), .num (6000), .num (0), .num (300000)] 105 false),
   (14, .cells [.num (1000)] 3 false),
   (17, .cells [.num (0), .num (0), .num (10000)] 111 false),
   (18, .cells [.num (2), .num (1000), .num (1000), .num (10), .num (10), .num (0), .num (0), .num (-10), .num (10), .num (0), .num (0), .num (0), .num (0)] 161 false),
   (13, .cells [.num (0), .num (1), .num (500), .num (100), .num (-20)] 195 true),
   (11, .cells [.num (7)] 3 true)],
  .val (.string ⟨#[111,107]⟩), 8788,
  [(10, some (.cells [.num (1), .num (0), .num (-1), .num (-1), .num (0), .num (0), .val (.slice none 0 0), .val (.slice none 0 0), .val (.slice none 0 0), .num (0), .bool false, .val (.slice none 0 0), .val (.slice none 0 0), .bool false, .val (.slice none 0 0), .val (.slice none 0 0), .val (.slice none 0 0), .sl 8717 0 1 1 true, .num (0), .num (0), .num (0), .sl 12 0 1 1 false, .sl 13 0 1 1 true, .sl 14 0 1 1 false, .num (30), .num (20), .sl 15 0 1 1 false, .sl 16 0 1 1 false, .num (0), .num (0), .num (-1000), .num (1000), .num (-1000), .num (1000), .num (0), .num (0), .num (0), .sl 17 0 1 1 false, .val (.string ⟨#[100,97,114,116]⟩), .num (98), .num (98), .val (.slice none 0 0), .sl 18 0 1 1 false, .val (.slice none 0 0), .num (-10000), .num (-10000), .num (20), .num (1), .num (1), .sl 19 0 1 1 false, .sl 20 0 1 1 false, .num (1), .num (4), .val (.slice none 0 0), .sl 21 0 3 3 false, .sl 22 0 3 3 false, .sl 23 0 3 3 false, .sl 24 0 3 3 false, .sl 25 0 2 2 false, .num (0), .num (100), .val (.slice none 0 0), .val (.slice none 0 0), .sl 26 0 1 1 false, .val (.slice none 0 0), .num (0), .num (400), .num (100), .num (1000), .num (50), .sl 27 0 3 3 false, .val (.slice none 0 0), .sl 28 0 2 2 false, .num (98), .num (98), .num (2), .num (10), .num (0), .num (0), .sl 29 0 1 1 true] 99 false)),
   (8717, some (.cells [.val (.string ⟨#[78,79,84,73,67,69,32,55,32,70,82,79,77,32,52,48,32,85,78,84,73,76,32,52,52,48,32,88,32,45,49,32,49,32,89,32,48,32,48]⟩)] 9 true))]⟩
theorem run52 (gh : Nat → Obj) : me52.ok ((E0 gh).plugs joinC [me47, me51]) 100000 = true := by kernel_rfl
theorem ok52 (gh : Nat → Obj) : CallF planOK (E0 gh) me52 := seg (e0_ok gh) (e0_body gh) (e0_mix gh) (C := joinC) (l := [me47, me51]) (joinC_ok gh) ⟨ok47 gh, ⟨ok51 gh, trivial⟩⟩ (run52 gh)
noncomputable def me55 : ME := ⟨53, [.ptr 10 0, .num (2)], 30,
  [(10, .cells [.num (2), .num (0), .num (-1), .num (-1), .num (0), .num (0), .val (.slice none 0 0), .val (.slice none 0 0), .val (.slice none 0 0), .num (0), .bool false, .val (.slice none 0 0), .val (.slice none 0 0), .bool false, .val (.slice none 0 0), .val (.slice none 0 0), .val (.slice none 0 0), .sl 11 0 1 1 true, .num (0), .num (0), .num (0), .sl 12 0 1 1 false, .sl 13 0 1 1 true, .sl 14 0 1 1 false, .num (30), .num (20), .sl 15 0 1 1 false, .sl 16 0 1 1 false, .num (0), .num (0), .num (-1000), .num (1000), .num (-1000), .num (1000), .num (0), .num (0), .num (0), .sl 17 0 1 1 false, .val (.string ⟨#[100,97,114,116]⟩), .num (98), .num (98), .val (.slice none 0 0), .sl 18 0 1 1 false, .val (.slice none 0 0), .num (-10000), .num (-10000), .num (20), .num (1), .num (1), .sl 19 0 1 1 false, .sl 20 0 1 1 false, .num (1), .num (4), .val (.slice none 0 0), .sl 21 0 3 3 false, .sl 22 0 3 3 false, .sl 23 0 3 3 false, .sl 24 0 3 3 false, .sl 25 0 2 2 false, .num (0), .num (100), .val (.slice none 0 0), .val (.slice none 0 0), .sl 26 0 1 1 false, .val (.slice none 0 0), .num (0), .num (400), .num (100), .num (1000), .num (50), .sl 27 0 3 3 false, .val (.slice none 0 0), .sl 28 0 2 2 false, .num (98), .num (98), .num (2), .num (10), .num (0), .num (0), .sl 29 0 1 1 true] 99 false),
   (12, .cells [.val (.string ⟨#[109,97,115,116]⟩), .num (1), .num (50), .num (0), .num (6000), .num (0), .num (300000)] 105 false),
   (14, .cells [.num (1000)] 3 false),
   (15, .cells [.num (0), .num (1000), .num (0), .num (0)] 107 false),
   (16, .cells [.num (0), .num (0), .num (0), .num (0), .num (1000)] 109 false),
   (19, .cells [.num (100)] 3 false),
   (20, .cells [.num (1), .num (1000000)] 115 false),
   (17, .cells [.num (0), .num (0), .num (10000)] 111 false),
   (18, .cells [.num (2), .num (1000), .num (1000), .num (10), .num (10), .num (0), .num (0), .num (-10), .num (10), .num (0), .num (0), .num (0), .num (0)] 161 false),
   (13, .cells [.num (0), .num (1), .num (500), .num (100), .num (-20)] 195 true),
   (11, .cells [.val (.string ⟨#[78,79,84,73,67,69,32,55,32,70,82,79,77,32,52,48,32,85,78,84,73,76,32,52,52,48,32,88,32,45,49,32,49,32,89,32,48,32,48]⟩)] 9 true)],
  .num (0), 18071,
  []⟩
theorem run55 (gh : Nat → Obj) : me55.ok ((E0 gh).plugs [] [me53, me54, me48, me49, me51]) 100000 = true := by kernel_rfl
theorem ok55 (gh : Nat → Obj) : CallF planOK (E0 gh) me55 := seg (e0_ok gh) (e0_body gh) (e0_mix gh) (C := []) (l := [me53, me54, me48, me49, me51]) trivial ⟨ok53 gh, ⟨ok54 gh, ⟨ok48 gh, ⟨ok49 gh, ⟨ok51 gh, trivial⟩⟩⟩⟩⟩ (run55 gh)
noncomputable def me58 : ME := ⟨53, [.ptr 10 0, .num (3)], 30,
  [(10, .cells [.num (2), .num (0), .num (-1), .num (-1), .num (0), .num (0), .val (.slice none 0 0), .val (.slice none 0 0), .val (.slice none 0 0), .num (0), .bool false, .val (.slice none 0 0), .val (.slice none 0 0), .bool false, .val (.slice none 0 0), .val (.slice none 0 0), .val (.slice none 0 0), .sl 11 0 1 1 true, .num (0), .num (0), .num (0), .sl 12 0 1 1 false, .sl 13 0 1 1 true, .sl 14 0 1 1 false, .num (30), .num (20), .sl 15 0 1 1 false, .sl 16 0 1 1 false, .num (0), .num (0), .num (-1000), .num (1000), .num (-1000), .num (1000), .num (0), .num (0), .num (0), .sl 17 0 1 1 false, .val (.string ⟨#[100,97,114,116]⟩), .num (98), .num (98), .val (.slice none 0 0), .sl 18 0 1 1 false, .val (.slice none 0 0), .num (-10000), .num (-10000), .num (20), .num (1), .num (1), .sl 19 0 1 1 false, .sl 20 0 1 1 false, .num (1), .num (4), .val (.slice none 0 0), .sl 21 0 3 3 false, .sl 22 0 3 3 false, .sl 23 0 3 3 false, .sl 24 0 3 3 false, .sl 25 0 2 2 false, .num (0), .num (100), .val (.slice none 0 0), .val (.slice none 0 0), .sl 26 0 1 1 false, .val (.slice none 0 0), .num (0), .num (400), .num (100), .num (1000), .num (50), .sl 27 0 3 3 false, .val (.slice none 0 0), .sl 28 0 2 2 false, .num (98), .num (98), .num (2), .num (10), .num (0), .num (0), .sl 29 0 1 1 true] 99 false),
   (12, .cells [.val (.string ⟨#[109,97,115,116]⟩), .num (1), .num (50), .num (0), .num (6000), .num (0), .num (300000)] 105 false),
   (14, .cells [.num (1000)] 3 false),
   (15, .cells [.num (0), .num (1000), .num (0), .num (0)] 107 false),
   (16, .cells [.num (0), .num (0), .num (0), .num (0), .num (1000)] 109 false),
   (19, .cells [.num (100)] 3 false),
   (20, .cells [.num (1), .num (1000000)] 115 false),
   (17, .cells [.num (0), .num (0), .num (10000)] 111 false),
   (18, .cells [.num (2), .num (1000), .num (1000), .num (10), .num (10), .num (0), .num (0), .num (-10), .num (10), .num (0), .num (0), .num (0), .num (0)] 161 false),
   (13, .cells [.num (0), .num (1), .num (500), .num (100), .num (-20)] 195 true),
   (11, .cells [.val (.string ⟨#[78,79,84,73,67,69,32,55,32,70,82,79,77,32,52,48,32,85,78,84,73,76,32,52,52,48,32,88,32,45,49,32,49,32,89,32,48,32,48]⟩)] 9 true)],
  .num (0), 18071,
  []⟩
theorem run58 (gh : Nat → Obj) : me58.ok ((E0 gh).plugs [] [me56, me57, me48, me49, me51]) 100000 = true := by kernel_rfl
theorem ok58 (gh : Nat → Obj) : CallF planOK (E0 gh) me58 := seg (e0_ok gh) (e0_body gh) (e0_mix gh) (C := []) (l := [me56, me57, me48, me49, me51]) trivial ⟨ok56 gh, ⟨ok57 gh, ⟨ok48 gh, ⟨ok49 gh, ⟨ok51 gh, trivial⟩⟩⟩⟩⟩ (run58 gh)
noncomputable def me62 : ME := ⟨53, [.ptr 10 0, .num (6)], 30,
  [(10, .cells [.num (2), .num (0), .num (-1), .num (-1), .num (0), .num (0), .val (.slice none 0 0), .val (.slice none 0 0), .val (.slice none 0 0), .num (0), .bool false, .val (.slice none 0 0), .val (.slice none 0 0), .bool false, .val (.slice none 0 0), .val (.slice none 0 0), .val (.slice none 0 0), .sl 11 0 1 1 true, .num (0), .num (0), .num (0), .sl 12 0 1 1 false, .sl 13 0 1 1 true, .sl 14 0 1 1 false, .num (30), .num (20), .sl 15 0 1 1 false, .sl 16 0 1 1 false, .num (0), .num (0), .num (-1000), .num (1000), .num (-1000), .num (1000), .num (0), .num (0), .num (0), .sl 17 0 1 1 false, .val (.string ⟨#[100,97,114,116]⟩), .num (98), .num (98), .val (.slice none 0 0), .sl 18 0 1 1 false, .val (.slice none 0 0), .num (-10000), .num (-10000), .num (20), .num (1), .num (1), .sl 19 0 1 1 false, .sl 20 0 1 1 false, .num (1), .num (4), .val (.slice none 0 0), .sl 21 0 3 3 false, .sl 22 0 3 3 false, .sl 23 0 3 3 false, .sl 24 0 3 3 false, .sl 25 0 2 2 false, .num (0), .num (100), .val (.slice none 0 0), .val (.slice none 0 0), .sl 26 0 1 1 false, .val (.slice none 0 0), .num (0), .num (400), .num (100), .num (1000), .num (50), .sl 27 0 3 3 false, .val (.slice none 0 0), .sl 28 0 2 2 false, .num (98), .num (98), .num (2), .num (10), .num (0), .num (0), .sl 29 0 1 1 true] 99 false),
   (12, .cells [.val (.string ⟨#[109,97,115,116]⟩), .num (1), .num (50), .num (0), .num (6000), .num (0), .num (300000)] 105 false),
   (14, .cells [.num (1000)] 3 false),
   (15, .cells [.num (0), .num (1000), .num (0), .num (0)] 107 false),
   (16, .cells [.num (0), .num (0), .num (0), .num (0), .num (1000)] 109 false),
   (19, .cells [.num (100)] 3 false),
   (20, .cells [.num (1), .num (1000000)] 115 false),
   (17, .cells [.num (0), .num (0), .num (10000)] 111 false),
   (18, .cells [.num (2), .num (1000), .num (1000), .num (10), .num (10), .num (0), .num (0), .num (-10), .num (10), .num (0), .num (0), .num (0), .num (0)] 161 false),
   (13, .cells [.num (0), .num (1), .num (500), .num (100), .num (-20)] 195 true),
   (11, .cells [.val (.string ⟨#[78,79,84,73,67,69,32,55,32,70,82,79,77,32,52,48,32,85,78,84,73,76,32,52,52,48,32,88,32,45,49,32,49,32,89,32,48,32,48]⟩)] 9 true)],
  .num (0), 18071,
  []⟩
theorem run62 (gh : Nat → Obj) : me62.ok ((E0 gh).plugs [] [me60, me61, me48, me49, me51]) 100000 = true := by kernel_rfl
theorem ok62 (gh : Nat → Obj) : CallF planOK (E0 gh) me62 := seg (e0_ok gh) (e0_body gh) (e0_mix gh) (C := []) (l := [me60, me61, me48, me49, me51]) trivial ⟨ok60 gh, ⟨ok61 gh, ⟨ok48 gh, ⟨ok49 gh, ⟨ok51 gh, trivial⟩⟩⟩⟩⟩ (run62 gh)
end Go.Proofs.YtkjajpfgdjfcoaaGreatDoor
