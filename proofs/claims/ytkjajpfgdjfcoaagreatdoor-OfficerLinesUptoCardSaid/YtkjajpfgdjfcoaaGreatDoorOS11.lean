/- Part of the closed run: calls that are run by themselves. -/
import Derived.Test.YtkjajpfgdjfcoaaGreatDoorOC
import Derived.Test.YtkjajpfgdjfcoaaGreatDoorOS8
set_option linter.unusedVariables false
set_option linter.unusedSimpArgs false
namespace Go.Proofs.YtkjajpfgdjfcoaaGreatDoor
open Go Ev
noncomputable def me47 : ME := ⟨97, [.ptr 10 0, .num (2)], 29,
  [(10, .cells [.num (1), .num (0), .num (-1), .num (-1), .num (0), .num (0), .val (.slice none 0 0), .val (.slice none 0 0), .val (.slice none 0 0), .num (0), .bool false, .val (.slice none 0 0), .val (.slice none 0 0), .bool false, .val (.slice none 0 0), .val (.slice none 0 0), .val (.slice none 0 0), .val (.slice none 0 0), .num (0), .num (0), .num (0), .sl 11 0 1 1 false, .sl 12 0 1 1 true, .sl 13 0 1 1 false, .num (30), .num (20), .sl 14 0 1 1 false, .sl 15 0 1 1 false, .num (0), .num (0), .num (-1000), .num (1000), .num (-1000), .num (1000), .num (0), .num (0), .num (0), .sl 16 0 1 1 false, .val (.string ⟨#[100,97,114,116]⟩), .num (98), .num (98), .val (.slice none 0 0), .sl 17 0 1 1 false, .val (.slice none 0 0), .num (-10000), .num (-10000), .num (20), .num (1), .num (1), .sl 18 0 1 1 false, .sl 19 0 1 1 false, .num (1), .num (4), .val (.slice none 0 0), .sl 20 0 3 3 false, .sl 21 0 3 3 false, .sl 22 0 3 3 false, .sl 23 0 3 3 false, .sl 24 0 2 2 false, .num (0), .num (100), .val (.slice none 0 0), .val (.slice none 0 0), .sl 25 0 1 1 false, .val (.slice none 0 0), .num (0), .num (400), .num (100), .num (1000), .num (50), .sl 26 0 3 3 false, .val (.slice none 0 0), .sl 27 0 2 2 false, .num (98), .num (98), .num (2), .num (10), .num (0), .num (0), .sl 28 0 1 1 true] 99 false),
   (11, .cells [.val (.string ⟨#[109,97,115,116]⟩), .num (1), .num (50), .num (0), .num (6000), .num (0), .num (300000)] 105 false),
   (13, .cells [.num (1000)] 3 false),
   (16, .cells [.num (0), .num (0), .num (10000)] 111 false),
   (17, .cells [.num (2), .num (1000), .num (1000), .num (10), .num (10), .num (0), .num (0), .num (-10), .num (10), .num (0), .num (0), .num (0), .num (0)] 161 false),
   (12, .cells [.num (0), .num (1), .num (500), .num (100), .num (-20)] 195 true)],
  .tup [.agg [.sl 106 0 1 1 true, .sl 8692 0 1 1 true], .num (0)], 8693,
  [(106, some (.cells [.num (0), .num (1000), .num (0), .num (200), .num (-120), .num (80)] 305 true)),
   (8692, some (.cells [.num (0), .num (-79), .num (79), .num (0), .num (0), .num (40), .num (40)] 234 true))]⟩
theorem run47 (gh : Nat → Obj) : me47.ok ((E0 gh).plugs [] [me46]) 100000 = true := by kernel_rfl
theorem ok47 (gh : Nat → Obj) : CallF planOK (E0 gh) me47 := seg (e0_ok gh) (e0_body gh) (e0_mix gh) (C := []) (l := [me46]) trivial ⟨ok46 gh, trivial⟩ (run47 gh)
noncomputable def me54 : ME := ⟨97, [.ptr 10 0, .num (2)], 30,
  [(10, .cells [.num (2), .num (0), .num (-1), .num (-1), .num (0), .num (0), .val (.slice none 0 0), .val (.slice none 0 0), .val (.slice none 0 0), .num (0), .bool false, .val (.slice none 0 0), .val (.slice none 0 0), .bool false, .val (.slice none 0 0), .val (.slice none 0 0), .val (.slice none 0 0), .sl 11 0 1 1 true, .num (0), .num (0), .num (0), .sl 12 0 1 1 false, .sl 13 0 1 1 true, .sl 14 0 1 1 false, .num (30), .num (20), .sl 15 0 1 1 false, .sl 16 0 1 1 false, .num (0), .num (0), .num (-1000), .num (1000), .num (-1000), .num (1000), .num (0), .num (0), .num (0), .sl 17 0 1 1 false, .val (.string ⟨#[100,97,114,116]⟩), .num (98), .num (98), .val (.slice none 0 0), .sl 18 0 1 1 false, .val (.slice none 0 0), .num (-10000), .num (-10000), .num (20), .num (1), .num (1), .sl 19 0 1 1 false, .sl 20 0 1 1 false, .num (1), .num (4), .val (.slice none 0 0), .sl 21 0 3 3 false, .sl 22 0 3 3 false, .sl 23 0 3 3 false, .sl 24 0 3 3 false, .sl 25 0 2 2 false, .num (0), .num (100), .val (.slice none 0 0), .val (.slice none 0 0), .sl 26 0 1 1 false, .val (.slice none 0 0), .num (0), .num (400), .num (100), .num (1000), .num (50), .sl 27 0 3 3 false, .val (.slice none 0 0), .sl 28 0 2 2 false, .num (98), .num (98), .num (2), .num (10), .num (0), .num (0), .sl 29 0 1 1 true] 99 false),
   (12, .cells [.val (.string ⟨#[109,97,115,116]⟩), .num (1), .num (50), .num (0), .num (6000), .num (0), .num (300000)] 105 false),
   (14, .cells [.num (1000)] 3 false),
   (17, .cells [.num (0), .num (0), .num (10000)] 111 false),
   (18, .cells [.num (2), .num (1000), .num (1000), .num (10), .num (10), .num (0), .num (0), .num (-10), .num (10), .num (0), .num (0), .num (0), .num (0)] 161 false),
   (13, .cells [.num (0), .num (1), .num (500), .num (100), .num (-20)] 195 true)],
  .tup [.agg [.sl 107 0 1 1 true, .sl 8693 0 1 1 true], .num (0)], 8694,
  [(107, some (.cells [.num (0), .num (1000), .num (0), .num (200), .num (-120), .num (80)] 305 true)),
   (8693, some (.cells [.num (0), .num (-79), .num (79), .num (0), .num (0), .num (40), .num (40)] 234 true))]⟩
theorem run54 (gh : Nat → Obj) : me54.ok ((E0 gh).plugs [] [me46]) 100000 = true := by kernel_rfl
theorem ok54 (gh : Nat → Obj) : CallF planOK (E0 gh) me54 := seg (e0_ok gh) (e0_body gh) (e0_mix gh) (C := []) (l := [me46]) trivial ⟨ok46 gh, trivial⟩ (run54 gh)
noncomputable def me57 : ME := ⟨97, [.ptr 10 0, .num (3)], 30,
  [(10, .cells [.num (2), .num (0), .num (-1), .num (-1), .num (0), .num (0), .val (.slice none 0 0), .val (.slice none 0 0), .val (.slice none 0 0), .num (0), .bool false, .val (.slice none 0 0), .val (.slice none 0 0), .bool false, .val (.slice none 0 0), .val (.slice none 0 0), .val (.slice none 0 0), .sl 11 0 1 1 true, .num (0), .num (0), .num (0), .sl 12 0 1 1 false, .sl 13 0 1 1 true, .sl 14 0 1 1 false, .num (30), .num (20), .sl 15 0 1 1 false, .sl 16 0 1 1 false, .num (0), .num (0), .num (-1000), .num (1000), .num (-1000), .num (1000), .num (0), .num (0), .num (0), .sl 17 0 1 1 false, .val (.string ⟨#[100,97,114,116]⟩), .num (98), .num (98), .val (.slice none 0 0), .sl 18 0 1 1 false, .val (.slice none 0 0), .num (-10000), .num (-10000), .num (20), .num (1), .num (1), .sl 19 0 1 1 false, .sl 20 0 1 1 false, .num (1), .num (4), .val (.slice none 0 0), .sl 21 0 3 3 false, .sl 22 0 3 3 false, .sl 23 0 3 3 false, .sl 24 0 3 3 false, .sl 25 0 2 2 false, .num (0), .num (100), .val (.slice none 0 0), .val (.slice none 0 0), .sl 26 0 1 1 false, .val (.slice none 0 0), .num (0), .num (400), .num (100), .num (1000), .num (50), .sl 27 0 3 3 false, .val (.slice none 0 0), .sl 28 0 2 2 false, .num (98), .num (98), .num (2), .num (10), .num (0), .num (0), .sl 29 0 1 1 true] 99 false),
   (12, .cells [.val (.string ⟨#[109,97,115,116]⟩), .num (1), .num (50), .num (0), .num (6000), .num (0), .num (300000)] 105 false),
   (14, .cells [.num (1000)] 3 false),
   (17, .cells [.num (0), .num (0), .num (10000)] 111 false),
   (18, .cells [.num (2), .num (1000), .num (1000), .num (10), .num (10), .num (0), .num (0), .num (-10), .num (10), .num (0), .num (0), .num (0), .num (0)] 161 false),
   (13, .cells [.num (0), .num (1), .num (500), .num (100), .num (-20)] 195 true)],
  .tup [.agg [.sl 107 0 1 1 true, .sl 8693 0 1 1 true], .num (0)], 8694,
  [(107, some (.cells [.num (0), .num (1000), .num (0), .num (200), .num (-120), .num (80)] 305 true)),
   (8693, some (.cells [.num (0), .num (-79), .num (79), .num (0), .num (0), .num (40), .num (40)] 234 true))]⟩
theorem run57 (gh : Nat → Obj) : me57.ok ((E0 gh).plugs [] [me46]) 100000 = true := by kernel_rfl
theorem ok57 (gh : Nat → Obj) : CallF planOK (E0 gh) me57 := seg (e0_ok gh) (e0_body gh) (e0_mix gh) (C := []) (l := [me46]) trivial ⟨ok46 gh, trivial⟩ (run57 gh)
noncomputable def me61 : ME := ⟨97, [.ptr 10 0, .num (6)], 30,
  [(10, .cells [.num (2), .num (0), .num (-1), .num (-1), .num (0), .num (0), .val (.slice none 0 0), .val (.slice none 0 0), .val (.slice none 0 0), .num (0), .bool false, .val (.slice none 0 0), .val (.slice none 0 0), .bool false, .val (.slice none 0 0), .val (.slice none 0 0), .val (.slice none 0 0), .sl 11 0 1 1 true, .num (0), .num (0), .num (0), .sl 12 0 1 1 false, .sl 13 0 1 1 true, .sl 14 0 1 1 false, .num (30), .num (20), .sl 15 0 1 1 false, .sl 16 0 1 1 false, .num (0), .num (0), .num (-1000), .num (1000), .num (-1000), .num (1000), .num (0), .num (0), .num (0), .sl 17 0 1 1 false, .val (.string ⟨#[100,97,114,116]⟩), .num (98), .num (98), .val (.slice none 0 0), .sl 18 0 1 1 false, .val (.slice none 0 0), .num (-10000), .num (-10000), .num (20), .num (1), .num (1), .sl 19 0 1 1 false, .sl 20 0 1 1 false, .num (1), .num (4), .val (.slice none 0 0), .sl 21 0 3 3 false, .sl 22 0 3 3 false, .sl 23 0 3 3 false, .sl 24 0 3 3 false, .sl 25 0 2 2 false, .num (0), .num (100), .val (.slice none 0 0), .val (.slice none 0 0), .sl 26 0 1 1 false, .val (.slice none 0 0), .num (0), .num (400), .num (100), .num (1000), .num (50), .sl 27 0 3 3 false, .val (.slice none 0 0), .sl 28 0 2 2 false, .num (98), .num (98), .num (2), .num (10), .num (0), .num (0), .sl 29 0 1 1 true] 99 false),
   (12, .cells [.val (.string ⟨#[109,97,115,116]⟩), .num (1), .num (50), .num (0), .num (6000), .num (0), .num (300000)] 105 false),
   (14, .cells [.num (1000)] 3 false),
   (17, .cells [.num (0), .num (0), .num (10000)] 111 false),
   (18, .cells [.num (2), .num (1000), .num (1000), .num (10), .num (10), .num (0), .num (0), .num (-10), .num (10), .num (0), .num (0), .num (0), .num (0)] 161 false),
   (13, .cells [.num (0), .num (1), .num (500), .num (100), .num (-20)] 195 true)],
  .tup [.agg [.sl 107 0 1 1 true, .sl 8693 0 1 1 true], .num (0)], 8694,
  [(107, some (.cells [.num (0), .num (1000), .num (0), .num (200), .num (-120), .num (80)] 305 true)),
   (8693, some (.cells [.num (0), .num (-79), .num (79), .num (0), .num (0), .num (40), .num (40)] 234 true))]⟩
theorem run61 (gh : Nat → Obj) : me61.ok ((E0 gh).plugs [] [me46]) 100000 = true := by kernel_rfl
theorem ok61 (gh : Nat → Obj) : CallF planOK (E0 gh) me61 := seg (e0_ok gh) (e0_body gh) (e0_mix gh) (C := []) (l := [me46]) trivial ⟨ok46 gh, trivial⟩ (run61 gh)
end Go.Proofs.YtkjajpfgdjfcoaaGreatDoor
