/- Part of the closed run: calls that are run by themselves. -/
import Derived.Test.YtkjajpfgdjfcoaaGreatDoorOC
import Derived.Test.YtkjajpfgdjfcoaaGreatDoorOS0
import Derived.Test.YtkjajpfgdjfcoaaGreatDoorOS5
import Derived.Test.YtkjajpfgdjfcoaaGreatDoorOS6
set_option linter.unusedVariables false
set_option linter.unusedSimpArgs false
namespace Go.Proofs.YtkjajpfgdjfcoaaGreatDoor
open Go Ev
noncomputable def me59 : ME := ⟨18, [.agg [.sl 10 0 3 3 false, .sl 11 0 3 3 false, .sl 12 0 3 3 false, .sl 13 0 3 3 false, .sl 14 0 2 2 false, .num (0), .num (100), .val (.slice none 0 0), .val (.slice none 0 0), .sl 15 0 1 1 false, .val (.slice none 0 0), .num (0), .num (400)], .sl 16 0 2 2 true], 19,
  [(15, .cells [.val (.string ⟨#[108,97,117,110,99,104]⟩), .val (.slice none 0 0), .num (5), .num (60), .bool false, .val (.slice none 0 0), .val (.slice none 0 0), .val (.slice none 0 0), .val (.slice none 0 0)] 119 false),
   (10, .cells [.val (.string ⟨#[98,117,110,107,101,114]⟩), .num (-500000), .num (-400000), .num (0), .num (50000), .num (0), .num (8), .bool false, .val (.string ⟨#[114,111,97,100]⟩), .num (-300000), .num (-100000), .num (-10000), .num (10000), .num (1), .num (4), .bool false, .val (.string ⟨#[114,97,105,108]⟩), .num (-5000), .num (5000), .num (-5000), .num (5000), .num (2), .num (2), .bool true] 164 false),
   (11, .cells [.num (-1), .num (0), .num (0), .num (1), .num (2), .num (1)] 166 false),
   (12, .cells [.val (.string ⟨#[97,110,110]⟩), .num (5), .val (.string ⟨#[98,111,98]⟩), .num (2), .val (.string ⟨#[101,118,101]⟩), .num (1)] 168 false),
   (13, .cells [.val (.string ⟨#[114,101,100]⟩), .val (.string ⟨#[98,108,117,101]⟩), .val (.string ⟨#[103,114,101,121]⟩)] 9 false),
   (14, .cells [.val (.string ⟨#[109,111,116,111,114]⟩), .num (0), .num (0), .num (100000), .num (5), .sl 17 0 2 2 false, .val (.string ⟨#[99,104,117,116,101]⟩), .num (0), .num (3000), .num (20000), .num (3), .sl 18 0 1 1 false] 170 false),
   (17, .cells [.num (0), .num (1)] 3 false),
   (18, .cells [.num (2)] 3 false),
   (16, .cells [.num (1), .num (1), .num (0), .num (0), .num (0), .num (0), .num (0), .num (0), .num (3), .num (2), .num (0), .num (0), .num (0), .num (0), .num (0), .num (0)] 208 true)],
  .tup [.agg [.num (1), .num (0), .sl 177 0 3 3 false, .sl 178 0 3 3 false, .sl 176 0 2 2 false, .num (-1), .bool false, .sl 200 0 1 1 true, .sl 202 0 1 1 true, .bool false, .sl 203 0 0 0 false, .val (.slice none 0 0), .sl 204 0 0 0 false], .sl 228 0 2 2 true, .num (0)], 229,
  [(176, some (.cells [.num (0), .num (0)] 3 false)),
   (177, some (.cells [.num (-1), .num (-1), .num (-1)] 3 false)),
   (178, some (.cells [.num (-1), .num (-1), .num (-1)] 3 false)),
   (200, some (.cells [.num (1)] 3 true)),
   (202, some (.cells [.num (-1)] 3 true)),
   (203, some (.cells [] 4 false)),
   (204, some (.cells [] 4 false)),
   (228, some (.cells [.num (0), .num (186)] 31 true))]⟩
theorem run59 (gh : Nat → Obj) : me59.ok ((E0 gh).plugs [] [me0]) 100000 = true := by kernel_rfl
theorem ok59 (gh : Nat → Obj) : CallF planOK (E0 gh) me59 := seg (e0_ok gh) (e0_body gh) (e0_mix gh) (C := []) (l := [me0]) trivial ⟨ok0 gh, trivial⟩ (run59 gh)
noncomputable def me63 : ME := ⟨48, [.agg [.sl 10 0 3 3 false, .sl 11 0 3 3 false, .sl 12 0 3 3 false, .sl 13 0 3 3 false, .sl 14 0 2 2 false, .num (0), .num (100), .val (.slice none 0 0), .val (.slice none 0 0), .sl 15 0 1 1 false, .val (.slice none 0 0), .num (0), .num (400)], .sl 16 0 2 2 true], 19,
  [(15, .cells [.val (.string ⟨#[108,97,117,110,99,104]⟩), .val (.slice none 0 0), .num (5), .num (60), .bool false, .val (.slice none 0 0), .val (.slice none 0 0), .val (.slice none 0 0), .val (.slice none 0 0)] 119 false),
   (10, .cells [.val (.string ⟨#[98,117,110,107,101,114]⟩), .num (-500000), .num (-400000), .num (0), .num (50000), .num (0), .num (8), .bool false, .val (.string ⟨#[114,111,97,100]⟩), .num (-300000), .num (-100000), .num (-10000), .num (10000), .num (1), .num (4), .bool false, .val (.string ⟨#[114,97,105,108]⟩), .num (-5000), .num (5000), .num (-5000), .num (5000), .num (2), .num (2), .bool true] 164 false),
   (11, .cells [.num (-1), .num (0), .num (0), .num (1), .num (2), .num (1)] 166 false),
   (12, .cells [.val (.string ⟨#[97,110,110]⟩), .num (5), .val (.string ⟨#[98,111,98]⟩), .num (2), .val (.string ⟨#[101,118,101]⟩), .num (1)] 168 false),
   (13, .cells [.val (.string ⟨#[114,101,100]⟩), .val (.string ⟨#[98,108,117,101]⟩), .val (.string ⟨#[103,114,101,121]⟩)] 9 false),
   (14, .cells [.val (.string ⟨#[109,111,116,111,114]⟩), .num (0), .num (0), .num (100000), .num (5), .sl 17 0 2 2 false, .val (.string ⟨#[99,104,117,116,101]⟩), .num (0), .num (3000), .num (20000), .num (3), .sl 18 0 1 1 false] 170 false),
   (17, .cells [.num (0), .num (1)] 3 false),
   (18, .cells [.num (2)] 3 false),
   (16, .cells [.num (1), .num (1), .num (0), .num (0), .num (0), .num (0), .num (0), .num (0), .num (6), .num (2), .num (0), .num (0), .num (0), .num (0), .num (0), .num (0)] 208 true)],
  .tup [.ptr 215 0, .sl 228 0 2 2 true, .num (0)], 229,
  [(174, some (.cells [.num (0), .num (0)] 3 false)),
   (175, some (.cells [.num (-1), .num (-1), .num (-1)] 3 false)),
   (176, some (.cells [.num (-1), .num (-1), .num (-1)] 3 false)),
   (215, some (.cells [.sl 10 0 3 3 false, .sl 11 0 3 3 false, .sl 12 0 3 3 false, .sl 13 0 3 3 false, .sl 14 0 2 2 false, .num (0), .num (100), .val (.slice none 0 0), .val (.slice none 0 0), .sl 15 0 1 1 false, .val (.slice none 0 0), .num (0), .num (400), .num (6), .num (0), .sl 175 0 3 3 false, .sl 176 0 3 3 false, .sl 174 0 2 2 false, .num (-1), .bool false, .sl 217 0 1 1 true, .sl 219 0 1 1 true, .bool false, .sl 220 0 0 0 false, .val (.slice none 0 0), .sl 221 0 0 0 false] 152 false)),
   (217, some (.cells [.num (1)] 3 true)),
   (219, some (.cells [.num (6)] 3 true)),
   (220, some (.cells [] 4 false)),
   (221, some (.cells [] 4 false)),
   (228, some (.cells [.num (0), .num (0)] 31 true))]⟩
theorem run63 (gh : Nat → Obj) : me63.ok ((E0 gh).plugs [] [me0]) 100000 = true := by kernel_rfl
theorem ok63 (gh : Nat → Obj) : CallF planOK (E0 gh) me63 := seg (e0_ok gh) (e0_body gh) (e0_mix gh) (C := []) (l := [me0]) trivial ⟨ok0 gh, trivial⟩ (run63 gh)
noncomputable def me68 : ME := ⟨153, [.agg [.sl 10 0 2 2 false, .num (98), .num (98), .num (2), .num (10)], .agg [.num (6), .num (1000), .num (50), .sl 11 0 3 3 false, .sl 12 0 1 1 true], .num (9)], 13,
  [(11, .cells [.val (.string ⟨#[101,97,115,116]⟩), .num (3000000), .num (0), .num (2000), .num (500), .num (5), .val (.string ⟨#[119,101,115,116]⟩), .num (-500000), .num (0), .num (3000), .num (1000), .num (0), .val (.string ⟨#[103,112,115]⟩), .num (0), .num (0), .num (800), .num (0), .num (20)] 154 false),
   (10, .cells [.num (1), .num (0), .num (100000), .num (200000), .num (0), .num (-1), .num (50000), .num (80000)] 172 false),
   (12, .cells [.num (2), .num (8), .num (0), .num (0), .num (1000)] 156 true)],
  .tup [.agg [.num (12), .num (-1050), .num (1050), .num (-1050), .num (1050), .num (-1050), .num (1050), .num (-350), .num (350), .num (-350), .num (350), .num (-350), .num (350), .num (-4900), .num (4900), .num (-4900), .num (4900), .num (13), .num (23), .num (0), .num (-1)], .num (0)], 1281,
  []⟩
theorem run68 (gh : Nat → Obj) : me68.ok ((E0 gh).plugs [] [me65, me66, me67]) 100000 = true := by kernel_rfl
theorem ok68 (gh : Nat → Obj) : CallF planOK (E0 gh) me68 := seg (e0_ok gh) (e0_body gh) (e0_mix gh) (C := []) (l := [me65, me66, me67]) trivial ⟨ok65 gh, ⟨ok66 gh, ⟨ok67 gh, trivial⟩⟩⟩ (run68 gh)
end Go.Proofs.YtkjajpfgdjfcoaaGreatDoor
