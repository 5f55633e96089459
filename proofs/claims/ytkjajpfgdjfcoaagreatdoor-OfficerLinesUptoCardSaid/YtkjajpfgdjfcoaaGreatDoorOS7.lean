/- Part of the closed run: calls that are run by themselves. -/
import Derived.Test.YtkjajpfgdjfcoaaGreatDoorOC
import Derived.Test.YtkjajpfgdjfcoaaGreatDoorOS0
set_option linter.unusedVariables false
set_option linter.unusedSimpArgs false
namespace Go.Proofs.YtkjajpfgdjfcoaaGreatDoor
open Go Ev
noncomputable def me1 : ME := ⟨66, [.agg [.sl 10 0 1 1 false, .val (.slice none 0 0), .sl 11 0 1 1 false, .num (30), .num (20), .sl 12 0 1 1 false, .sl 13 0 1 1 false, .num (0), .num (0), .num (-1000), .num (1000), .num (-1000), .num (1000), .num (0), .num (0), .num (0), .sl 14 0 1 1 false, .val (.string ⟨#[100,97,114,116]⟩), .num (98), .num (98), .val (.slice none 0 0), .sl 15 0 1 1 false, .val (.slice none 0 0), .num (-10000), .num (-10000), .num (20), .num (1), .num (1), .sl 16 0 1 1 false, .sl 17 0 1 1 false, .num (1), .num (4), .val (.slice none 0 0), .sl 18 0 3 3 false, .sl 19 0 3 3 false, .sl 20 0 3 3 false, .sl 21 0 3 3 false, .sl 22 0 2 2 false, .num (0), .num (100), .val (.slice none 0 0), .val (.slice none 0 0), .sl 23 0 1 1 false, .val (.slice none 0 0), .num (0), .num (400), .num (100), .num (1000), .num (50), .sl 24 0 3 3 false, .val (.slice none 0 0), .sl 25 0 2 2 false, .num (98), .num (98), .num (2), .num (10), .num (0), .num (0)]], 28,
  [(24, .cells [.val (.string ⟨#[101,97,115,116]⟩), .num (3000000), .num (0), .num (2000), .num (500), .num (5), .val (.string ⟨#[119,101,115,116]⟩), .num (-500000), .num (0), .num (3000), .num (1000), .num (0), .val (.string ⟨#[103,112,115]⟩), .num (0), .num (0), .num (800), .num (0), .num (20)] 154 false),
   (10, .cells [.val (.string ⟨#[109,97,115,116]⟩), .num (1), .num (50), .num (0), .num (6000), .num (0), .num (300000)] 105 false),
   (11, .cells [.num (1000)] 3 false),
   (12, .cells [.num (0), .num (1000), .num (0), .num (0)] 107 false),
   (13, .cells [.num (0), .num (0), .num (0), .num (0), .num (1000)] 109 false),
   (16, .cells [.num (100)] 3 false),
   (17, .cells [.num (1), .num (1000000)] 115 false),
   (23, .cells [.val (.string ⟨#[108,97,117,110,99,104]⟩), .val (.slice none 0 0), .num (5), .num (60), .bool false, .val (.slice none 0 0), .val (.slice none 0 0), .val (.slice none 0 0), .val (.slice none 0 0)] 119 false),
   (14, .cells [.num (0), .num (0), .num (10000)] 111 false),
   (15, .cells [.num (2), .num (1000), .num (1000), .num (10), .num (10), .num (0), .num (0), .num (-10), .num (10), .num (0), .num (0), .num (0), .num (0)] 161 false),
   (18, .cells [.val (.string ⟨#[98,117,110,107,101,114]⟩), .num (-500000), .num (-400000), .num (0), .num (50000), .num (0), .num (8), .bool false, .val (.string ⟨#[114,111,97,100]⟩), .num (-300000), .num (-100000), .num (-10000), .num (10000), .num (1), .num (4), .bool false, .val (.string ⟨#[114,97,105,108]⟩), .num (-5000), .num (5000), .num (-5000), .num (5000), .num (2), .num (2), .bool true] 164 false),
   (19, .cells [.num (-1), .num (0), .num (0), .num (1), .num (2), .num (1)] 166 false),
   (20, .cells [.val (.string ⟨#[97,110,110]⟩), .num (5), .val (.string ⟨#[98,111,98]⟩), .num (2), .val (.string ⟨#[101,118,101]⟩), .num (1)] 168 false),
   (21, .cells [.val (.string ⟨#[114,101,100]⟩), .val (.string ⟨#[98,108,117,101]⟩), .val (.string ⟨#[103,114,101,121]⟩)] 9 false),
   (22, .cells [.val (.string ⟨#[109,111,116,111,114]⟩), .num (0), .num (0), .num (100000), .num (5), .sl 26 0 2 2 false, .val (.string ⟨#[99,104,117,116,101]⟩), .num (0), .num (3000), .num (20000), .num (3), .sl 27 0 1 1 false] 170 false),
   (26, .cells [.num (0), .num (1)] 3 false),
   (27, .cells [.num (2)] 3 false),
   (25, .cells [.num (1), .num (0), .num (100000), .num (200000), .num (0), .num (-1), .num (50000), .num (80000)] 172 false)],
  .tup [.num (0), .num (0), .num (0)], 175,
  []⟩
theorem run1 (gh : Nat → Obj) : me1.ok ((E0 gh).plugs [] [me0]) 100000 = true := by kernel_rfl
theorem ok1 (gh : Nat → Obj) : CallF planOK (E0 gh) me1 := seg (e0_ok gh) (e0_body gh) (e0_mix gh) (C := []) (l := [me0]) trivial ⟨ok0 gh, trivial⟩ (run1 gh)
noncomputable def me4 : ME := ⟨47, [.ptr 10 0, .val (.string ⟨#[97,116,32,49,32,98,101,103,105,110,32,108,97,117,110,99,104]⟩)], 30,
  [(10, .cells [.num (1), .num (0), .num (-1), .num (-1), .num (0), .num (0), .val (.slice none 0 0), .val (.slice none 0 0), .val (.slice none 0 0), .num (0), .bool false, .val (.slice none 0 0), .val (.slice none 0 0), .bool false, .val (.slice none 0 0), .val (.slice none 0 0), .val (.slice none 0 0), .val (.slice none 0 0), .num (0), .num (0), .num (0), .sl 11 0 1 1 false, .sl 12 0 1 1 true, .sl 13 0 1 1 false, .num (30), .num (20), .sl 14 0 1 1 false, .sl 15 0 1 1 false, .num (0), .num (0), .num (-1000), .num (1000), .num (-1000), .num (1000), .num (0), .num (0), .num (0), .sl 16 0 1 1 false, .val (.string ⟨#[100,97,114,116]⟩), .num (98), .num (98), .val (.slice none 0 0), .sl 17 0 1 1 false, .val (.slice none 0 0), .num (-10000), .num (-10000), .num (20), .num (1), .num (1), .sl 18 0 1 1 false, .sl 19 0 1 1 false, .num (1), .num (4), .val (.slice none 0 0), .sl 20 0 3 3 false, .sl 21 0 3 3 false, .sl 22 0 3 3 false, .sl 23 0 3 3 false, .sl 24 0 2 2 false, .num (0), .num (100), .val (.slice none 0 0), .val (.slice none 0 0), .sl 25 0 1 1 false, .val (.slice none 0 0), .num (0), .num (400), .num (100), .num (1000), .num (50), .sl 26 0 3 3 false, .val (.slice none 0 0), .sl 27 0 2 2 false, .num (98), .num (98), .num (2), .num (10), .num (0), .num (0), .val (.slice none 0 0)] 99 false),
   (25, .cells [.val (.string ⟨#[108,97,117,110,99,104]⟩), .val (.slice none 0 0), .num (5), .num (60), .bool false, .val (.slice none 0 0), .val (.slice none 0 0), .val (.slice none 0 0), .val (.slice none 0 0)] 119 false),
   (20, .cells [.val (.string ⟨#[98,117,110,107,101,114]⟩), .num (-500000), .num (-400000), .num (0), .num (50000), .num (0), .num (8), .bool false, .val (.string ⟨#[114,111,97,100]⟩), .num (-300000), .num (-100000), .num (-10000), .num (10000), .num (1), .num (4), .bool false, .val (.string ⟨#[114,97,105,108]⟩), .num (-5000), .num (5000), .num (-5000), .num (5000), .num (2), .num (2), .bool true] 164 false),
   (21, .cells [.num (-1), .num (0), .num (0), .num (1), .num (2), .num (1)] 166 false),
   (22, .cells [.val (.string ⟨#[97,110,110]⟩), .num (5), .val (.string ⟨#[98,111,98]⟩), .num (2), .val (.string ⟨#[101,118,101]⟩), .num (1)] 168 false),
   (23, .cells [.val (.string ⟨#[114,101,100]⟩), .val (.string ⟨#[98,108,117,101]⟩), .val (.string ⟨#[103,114,101,121]⟩)] 9 false),
   (24, .cells [.val (.string ⟨#[109,111,116,111,114]⟩), .num (0), .num (0), .num (100000), .num (5), .sl 28 0 2 2 false, .val (.string ⟨#[99,104,117,116,101]⟩), .num (0), .num (3000), .num (20000), .num (3), .sl 29 0 1 1 false] 170 false),
   (28, .cells [.num (0), .num (1)] 3 false),
   (29, .cells [.num (2)] 3 false)],
  .val (.string ⟨#[111,107]⟩), 259,
  [(10, some (.cells [.num (1), .num (0), .num (-1), .num (-1), .num (0), .num (0), .val (.slice none 0 0), .val (.slice none 0 0), .val (.slice none 0 0), .num (0), .bool false, .val (.slice none 0 0), .val (.slice none 0 0), .bool false, .val (.slice none 0 0), .val (.slice none 0 0), .val (.slice none 0 0), .val (.slice none 0 0), .num (0), .num (0), .num (0), .sl 11 0 1 1 false, .sl 12 0 1 1 true, .sl 13 0 1 1 false, .num (30), .num (20), .sl 14 0 1 1 false, .sl 15 0 1 1 false, .num (0), .num (0), .num (-1000), .num (1000), .num (-1000), .num (1000), .num (0), .num (0), .num (0), .sl 16 0 1 1 false, .val (.string ⟨#[100,97,114,116]⟩), .num (98), .num (98), .val (.slice none 0 0), .sl 17 0 1 1 false, .val (.slice none 0 0), .num (-10000), .num (-10000), .num (20), .num (1), .num (1), .sl 18 0 1 1 false, .sl 19 0 1 1 false, .num (1), .num (4), .val (.slice none 0 0), .sl 20 0 3 3 false, .sl 21 0 3 3 false, .sl 22 0 3 3 false, .sl 23 0 3 3 false, .sl 24 0 2 2 false, .num (0), .num (100), .val (.slice none 0 0), .val (.slice none 0 0), .sl 25 0 1 1 false, .val (.slice none 0 0), .num (0), .num (400), .num (100), .num (1000), .num (50), .sl 26 0 3 3 false, .val (.slice none 0 0), .sl 27 0 2 2 false, .num (98), .num (98), .num (2), .num (10), .num (0), .num (0), .sl 68 0 1 1 true] 99 false)),
   (68, some (.cells [.num (1), .num (1), .num (0), .num (0), .num (0), .num (0), .num (0), .num (0)] 208 true))]⟩
theorem run4 (gh : Nat → Obj) : me4.ok ((E0 gh).plugs [] [me0]) 100000 = true := by kernel_rfl
theorem ok4 (gh : Nat → Obj) : CallF planOK (E0 gh) me4 := seg (e0_ok gh) (e0_body gh) (e0_mix gh) (C := []) (l := [me0]) trivial ⟨ok0 gh, trivial⟩ (run4 gh)
end Go.Proofs.YtkjajpfgdjfcoaaGreatDoor
