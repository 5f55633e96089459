/- Part of the closed run: calls that are run by themselves. -/
import Derived.Test.YtkjajpfgdjfcoaaGreatDoorOC
set_option linter.unusedVariables false
set_option linter.unusedSimpArgs false
namespace Go.Proofs.YtkjajpfgdjfcoaaGreatDoor
open Go Ev
noncomputable def me0 : ME := ⟨233, [.agg [.sl 10 0 3 3 false, .sl 11 0 3 3 false, .sl 12 0 3 3 false, .sl 13 0 3 3 false, .sl 14 0 2 2 false, .num (0), .num (100)]], 17,
  [(10, .cells [.val (.string ⟨#[98,117,110,107,101,114]⟩), .num (-500000), .num (-400000), .num (0), .num (50000), .num (0), .num (8), .bool false, .val (.string ⟨#[114,111,97,100]⟩), .num (-300000), .num (-100000), .num (-10000), .num (10000), .num (1), .num (4), .bool false, .val (.string ⟨#[114,97,105,108]⟩), .num (-5000), .num (5000), .num (-5000), .num (5000), .num (2), .num (2), .bool true] 164 false),
   (11, .cells [.num (-1), .num (0), .num (0), .num (1), .num (2), .num (1)] 166 false),
   (12, .cells [.val (.string ⟨#[97,110,110]⟩), .num (5), .val (.string ⟨#[98,111,98]⟩), .num (2), .val (.string ⟨#[101,118,101]⟩), .num (1)] 168 false),
   (13, .cells [.val (.string ⟨#[114,101,100]⟩), .val (.string ⟨#[98,108,117,101]⟩), .val (.string ⟨#[103,114,101,121]⟩)] 9 false),
   (14, .cells [.val (.string ⟨#[109,111,116,111,114]⟩), .num (0), .num (0), .num (100000), .num (5), .sl 15 0 2 2 false, .val (.string ⟨#[99,104,117,116,101]⟩), .num (0), .num (3000), .num (20000), .num (3), .sl 16 0 1 1 false] 170 false),
   (15, .cells [.num (0), .num (1)] 3 false),
   (16, .cells [.num (2)] 3 false)],
  .tup [.num (0), .num (0), .num (0)], 85,
  []⟩
theorem run0 (gh : Nat → Obj) : me0.ok ((E0 gh).plugs [] []) 100000 = true := by kernel_rfl
theorem ok0 (gh : Nat → Obj) : CallF planOK (E0 gh) me0 := seg (e0_ok gh) (e0_body gh) (e0_mix gh) (C := []) (l := []) trivial trivial (run0 gh)
noncomputable def me2 : ME := ⟨141, [.agg [.sl 10 0 1 1 false, .sl 11 0 1 1 false, .num (0), .num (0), .num (-1000), .num (1000), .num (-1000), .num (1000), .num (0), .num (0), .num (0)], .sl 12 0 1 1 true], 13,
  [(10, .cells [.num (0), .num (1000), .num (0), .num (0)] 107 false),
   (11, .cells [.num (0), .num (0), .num (0), .num (0), .num (1000)] 109 false),
   (12, .cells [.num (0), .num (1000), .num (-20000), .num (20000), .num (-20000), .num (20000)] 305 true)],
  .tup [.agg [.num (0), .num (0), .sl 157 0 1 1 true], .num (0)], 158,
  [(157, some (.cells [.num (0), .num (0)] 414 true))]⟩
theorem run2 (gh : Nat → Obj) : me2.ok ((E0 gh).plugs [] []) 100000 = true := by kernel_rfl
theorem ok2 (gh : Nat → Obj) : CallF planOK (E0 gh) me2 := seg (e0_ok gh) (e0_body gh) (e0_mix gh) (C := []) (l := []) trivial trivial (run2 gh)
noncomputable def me3 : ME := ⟨12, [.val (.string ⟨#[97,116,32,49,32,115,111,117,110,100,32,109,97,115,116,32,53,48,48,32,49,48,48,32,45,50,48]⟩)], 10,
  [],
  .tup [.agg [.num (1), .num (1), .val (.string ⟨#[109,97,115,116]⟩), .sl 53 0 3 3 true], .num (0)], 54,
  [(53, some (.cells [.num (500), .num (100), .num (-20)] 3 true))]⟩
theorem run3 (gh : Nat → Obj) : me3.ok ((E0 gh).plugs [] []) 100000 = true := by kernel_rfl
theorem ok3 (gh : Nat → Obj) : CallF planOK (E0 gh) me3 := seg (e0_ok gh) (e0_body gh) (e0_mix gh) (C := []) (l := []) trivial trivial (run3 gh)
noncomputable def me5 : ME := ⟨93, [.ptr 10 0, .ptr 11 0], 31,
  [(10, .cells [.ptr 12 0] 91 false),
   (12, .cells [.num (1), .num (0), .num (-1), .num (-1), .num (0), .num (0), .val (.slice none 0 0), .val (.slice none 0 0), .val (.slice none 0 0), .num (0), .bool false, .val (.slice none 0 0), .val (.slice none 0 0), .bool false, .val (.slice none 0 0), .val (.slice none 0 0), .val (.slice none 0 0), .val (.slice none 0 0), .num (0), .num (0), .num (0), .sl 13 0 1 1 false, .sl 14 0 1 1 true, .sl 15 0 1 1 false, .num (30), .num (20), .sl 16 0 1 1 false, .sl 17 0 1 1 false, .num (0), .num (0), .num (-1000), .num (1000), .num (-1000), .num (1000), .num (0), .num (0), .num (0), .sl 18 0 1 1 false, .val (.string ⟨#[100,97,114,116]⟩), .num (98), .num (98), .val (.slice none 0 0), .sl 19 0 1 1 false, .val (.slice none 0 0), .num (-10000), .num (-10000), .num (20), .num (1), .num (1), .sl 20 0 1 1 false, .sl 21 0 1 1 false, .num (1), .num (4), .val (.slice none 0 0), .sl 22 0 3 3 false, .sl 23 0 3 3 false, .sl 24 0 3 3 false, .sl 25 0 3 3 false, .sl 26 0 2 2 false, .num (0), .num (100), .val (.slice none 0 0), .val (.slice none 0 0), .sl 27 0 1 1 false, .val (.slice none 0 0), .num (0), .num (400), .num (100), .num (1000), .num (50), .sl 28 0 3 3 false, .val (.slice none 0 0), .sl 29 0 2 2 false, .num (98), .num (98), .num (2), .num (10), .num (0), .num (0), .sl 30 0 1 1 true] 99 false),
   (13, .cells [.val (.string ⟨#[109,97,115,116]⟩), .num (1), .num (50), .num (0), .num (6000), .num (0), .num (300000)] 105 false),
   (15, .cells [.num (1000)] 3 false),
   (16, .cells [.num (0), .num (1000), .num (0), .num (0)] 107 false),
   (17, .cells [.num (0), .num (0), .num (0), .num (0), .num (1000)] 109 false),
   (14, .cells [.num (0), .num (1), .num (500), .num (100), .num (-20)] 195 true),
   (11, .cells [.num (2)] 3 false)],
  .bool false, 163,
  []⟩
theorem run5 (gh : Nat → Obj) : me5.ok ((E0 gh).plugs [] []) 100000 = true := by kernel_rfl
theorem ok5 (gh : Nat → Obj) : CallF planOK (E0 gh) me5 := seg (e0_ok gh) (e0_body gh) (e0_mix gh) (C := []) (l := []) trivial trivial (run5 gh)
noncomputable def me6 : ME := ⟨384, [.ptr 10 0, .agg [.num (10000), .num (10000), .num (10), .num (10), .num (0), .num (0), .num (-10), .num (10), .num (0), .num (0), .num (0), .num (0)], .agg [.num (0), .num (0), .num (0), .num (0), .num (0), .num (0), .num (0), .num (0), .num (0), .num (0), .num (0), .num (0)]], 13,
  [(10, .cells [.val (.string ⟨#[100,97,114,116]⟩), .num (98), .num (98), .val (.slice none 0 0), .sl 11 0 1 1 false, .val (.slice none 0 0), .num (0), .num (0), .num (0), .num (0), .num (10000), .num (10000), .sl 12 0 1 1 true] 459 false),
   (12, .cells [.num (0), .num (1000), .num (0), .num (200), .num (-120), .num (80)] 305 true)],
  .agg [.num (-1), .num (1), .num (0), .num (0), .num (902), .num (902)], 170,
  []⟩
theorem run6 (gh : Nat → Obj) : me6.ok ((E0 gh).plugs [] []) 100000 = true := by kernel_rfl
theorem ok6 (gh : Nat → Obj) : CallF planOK (E0 gh) me6 := seg (e0_ok gh) (e0_body gh) (e0_mix gh) (C := []) (l := []) trivial trivial (run6 gh)
noncomputable def me7 : ME := ⟨384, [.ptr 10 0, .agg [.num (10000), .num (10000), .num (10), .num (10), .num (0), .num (0), .num (-10), .num (10), .num (0), .num (0), .num (0), .num (0)], .agg [.num (-1), .num (1), .num (0), .num (0), .num (902), .num (902), .num (-1), .num (1), .num (0), .num (0), .num (902), .num (902)]], 13,
  [(10, .cells [.val (.string ⟨#[100,97,114,116]⟩), .num (98), .num (98), .val (.slice none 0 0), .sl 11 0 1 1 false, .val (.slice none 0 0), .num (0), .num (0), .num (0), .num (0), .num (10000), .num (10000), .sl 12 0 1 1 true] 459 false),
   (12, .cells [.num (0), .num (1000), .num (0), .num (200), .num (-120), .num (80)] 305 true)],
  .agg [.num (-1), .num (1), .num (0), .num (0), .num (902), .num (902)], 170,
  []⟩
theorem run7 (gh : Nat → Obj) : me7.ok ((E0 gh).plugs [] []) 100000 = true := by kernel_rfl
theorem ok7 (gh : Nat → Obj) : CallF planOK (E0 gh) me7 := seg (e0_ok gh) (e0_body gh) (e0_mix gh) (C := []) (l := []) trivial trivial (run7 gh)
noncomputable def me8 : ME := ⟨384, [.ptr 10 0, .agg [.num (0), .num (0), .num (10), .num (10), .num (0), .num (0), .num (0), .num (0), .num (0), .num (0), .num (0), .num (0)], .agg [.num (-3), .num (3), .num (0), .num (0), .num (2706), .num (2706), .num (-2), .num (2), .num (0), .num (0), .num (1804), .num (1804)]], 13,
  [(10, .cells [.val (.string ⟨#[100,97,114,116]⟩), .num (98), .num (98), .val (.slice none 0 0), .sl 11 0 1 1 false, .val (.slice none 0 0), .num (0), .num (0), .num (0), .num (0), .num (10000), .num (10000), .sl 12 0 1 1 true] 459 false),
   (12, .cells [.num (0), .num (1000), .num (0), .num (200), .num (-120), .num (80)] 305 true)],
  .agg [.num (0), .num (0), .num (0), .num (0), .num (-98), .num (-98)], 170,
  []⟩
theorem run8 (gh : Nat → Obj) : me8.ok ((E0 gh).plugs [] []) 100000 = true := by kernel_rfl
theorem ok8 (gh : Nat → Obj) : CallF planOK (E0 gh) me8 := seg (e0_ok gh) (e0_body gh) (e0_mix gh) (C := []) (l := []) trivial trivial (run8 gh)
noncomputable def me9 : ME := ⟨384, [.ptr 10 0, .agg [.num (0), .num (0), .num (10), .num (10), .num (0), .num (0), .num (0), .num (0), .num (0), .num (0), .num (0), .num (0)], .agg [.num (-5), .num (5), .num (0), .num (0), .num (4412), .num (4412), .num (-2), .num (2), .num (0), .num (0), .num (1706), .num (1706)]], 13,
  [(10, .cells [.val (.string ⟨#[100,97,114,116]⟩), .num (98), .num (98), .val (.slice none 0 0), .sl 11 0 1 1 false, .val (.slice none 0 0), .num (0), .num (0), .num (0), .num (0), .num (10000), .num (10000), .sl 12 0 1 1 true] 459 false),
   (12, .cells [.num (0), .num (1000), .num (0), .num (200), .num (-120), .num (80)] 305 true)],
  .agg [.num (0), .num (0), .num (0), .num (0), .num (-98), .num (-98)], 170,
  []⟩
theorem run9 (gh : Nat → Obj) : me9.ok ((E0 gh).plugs [] []) 100000 = true := by kernel_rfl
theorem ok9 (gh : Nat → Obj) : CallF planOK (E0 gh) me9 := seg (e0_ok gh) (e0_body gh) (e0_mix gh) (C := []) (l := []) trivial trivial (run9 gh)
noncomputable def me10 : ME := ⟨384, [.ptr 10 0, .agg [.num (0), .num (0), .num (10), .num (10), .num (0), .num (0), .num (0), .num (0), .num (0), .num (0), .num (0), .num (0)], .agg [.num (-7), .num (7), .num (0), .num (0), .num (6020), .num (6020), .num (-2), .num (2), .num (0), .num (0), .num (1608), .num (1608)]], 13,
  [(10, .cells [.val (.string ⟨#[100,97,114,116]⟩), .num (98), .num (98), .val (.slice none 0 0), .sl 11 0 1 1 false, .val (.slice none 0 0), .num (0), .num (0), .num (0), .num (0), .num (10000), .num (10000), .sl 12 0 1 1 true] 459 false),
   (12, .cells [.num (0), .num (1000), .num (0), .num (200), .num (-120), .num (80)] 305 true)],
  .agg [.num (0), .num (0), .num (0), .num (0), .num (-98), .num (-98)], 170,
  []⟩
theorem run10 (gh : Nat → Obj) : me10.ok ((E0 gh).plugs [] []) 100000 = true := by kernel_rfl
theorem ok10 (gh : Nat → Obj) : CallF planOK (E0 gh) me10 := seg (e0_ok gh) (e0_body gh) (e0_mix gh) (C := []) (l := []) trivial trivial (run10 gh)
noncomputable def me11 : ME := ⟨384, [.ptr 10 0, .agg [.num (0), .num (0), .num (10), .num (10), .num (0), .num (0), .num (0), .num (0), .num (0), .num (0), .num (0), .num (0)], .agg [.num (-9), .num (9), .num (0), .num (0), .num (7530), .num (7530), .num (-2), .num (2), .num (0), .num (0), .num (1510), .num (1510)]], 13,
  [(10, .cells [.val (.string ⟨#[100,97,114,116]⟩), .num (98), .num (98), .val (.slice none 0 0), .sl 11 0 1 1 false, .val (.slice none 0 0), .num (0), .num (0), .num (0), .num (0), .num (10000), .num (10000), .sl 12 0 1 1 true] 459 false),
   (12, .cells [.num (0), .num (1000), .num (0), .num (200), .num (-120), .num (80)] 305 true)],
  .agg [.num (0), .num (0), .num (0), .num (0), .num (-98), .num (-98)], 170,
  []⟩
theorem run11 (gh : Nat → Obj) : me11.ok ((E0 gh).plugs [] []) 100000 = true := by kernel_rfl
theorem ok11 (gh : Nat → Obj) : CallF planOK (E0 gh) me11 := seg (e0_ok gh) (e0_body gh) (e0_mix gh) (C := []) (l := []) trivial trivial (run11 gh)
end Go.Proofs.YtkjajpfgdjfcoaaGreatDoor
