/- Part of the closed run: calls that are run by themselves. -/
import Derived.Test.YtkjajpfgdjfcoaaGreatDoorOC
set_option linter.unusedVariables false
set_option linter.unusedSimpArgs false
namespace Go.Proofs.YtkjajpfgdjfcoaaGreatDoor
open Go Ev
noncomputable def me34 : ME := ⟨384, [.ptr 10 0, .agg [.num (0), .num (0), .num (10), .num (10), .num (0), .num (0), .num (0), .num (0), .num (0), .num (0), .num (0), .num (0)], .agg [.num (-55), .num (55), .num (0), .num (0), .num (15212), .num (15212), .num (-2), .num (2), .num (0), .num (0), .num (-744), .num (-744)]], 13,
  [(10, .cells [.val (.string ⟨#[100,97,114,116]⟩), .num (98), .num (98), .val (.slice none 0 0), .sl 11 0 1 1 false, .val (.slice none 0 0), .num (0), .num (0), .num (0), .num (0), .num (10000), .num (10000), .sl 12 0 1 1 true] 459 false),
   (12, .cells [.num (0), .num (1000), .num (0), .num (200), .num (-120), .num (80)] 305 true)],
  .agg [.num (0), .num (0), .num (0), .num (0), .num (-98), .num (-98)], 170,
  []⟩
theorem run34 (gh : Nat → Obj) : me34.ok ((E0 gh).plugs [] []) 100000 = true := by kernel_rfl
theorem ok34 (gh : Nat → Obj) : CallF planOK (E0 gh) me34 := seg (e0_ok gh) (e0_body gh) (e0_mix gh) (C := []) (l := []) trivial trivial (run34 gh)
noncomputable def me35 : ME := ⟨384, [.ptr 10 0, .agg [.num (0), .num (0), .num (10), .num (10), .num (0), .num (0), .num (0), .num (0), .num (0), .num (0), .num (0), .num (0)], .agg [.num (-57), .num (57), .num (0), .num (0), .num (14370), .num (14370), .num (-2), .num (2), .num (0), .num (0), .num (-842), .num (-842)]], 13,
  [(10, .cells [.val (.string ⟨#[100,97,114,116]⟩), .num (98), .num (98), .val (.slice none 0 0), .sl 11 0 1 1 false, .val (.slice none 0 0), .num (0), .num (0), .num (0), .num (0), .num (10000), .num (10000), .sl 12 0 1 1 true] 459 false),
   (12, .cells [.num (0), .num (1000), .num (0), .num (200), .num (-120), .num (80)] 305 true)],
  .agg [.num (0), .num (0), .num (0), .num (0), .num (-98), .num (-98)], 170,
  []⟩
theorem run35 (gh : Nat → Obj) : me35.ok ((E0 gh).plugs [] []) 100000 = true := by kernel_rfl
theorem ok35 (gh : Nat → Obj) : CallF planOK (E0 gh) me35 := seg (e0_ok gh) (e0_body gh) (e0_mix gh) (C := []) (l := []) trivial trivial (run35 gh)
noncomputable def me36 : ME := ⟨384, [.ptr 10 0, .agg [.num (0), .num (0), .num (10), .num (10), .num (0), .num (0), .num (0), .num (0), .num (0), .num (0), .num (0), .num (0)], .agg [.num (-59), .num (59), .num (0), .num (0), .num (13430), .num (13430), .num (-2), .num (2), .num (0), .num (0), .num (-940), .num (-940)]], 13,
  [(10, .cells [.val (.string ⟨#[100,97,114,116]⟩), .num (98), .num (98), .val (.slice none 0 0), .sl 11 0 1 1 false, .val (.slice none 0 0), .num (0), .num (0), .num (0), .num (0), .num (10000), .num (10000), .sl 12 0 1 1 true] 459 false),
   (12, .cells [.num (0), .num (1000), .num (0), .num (200), .num (-120), .num (80)] 305 true)],
  .agg [.num (0), .num (0), .num (0), .num (0), .num (-98), .num (-98)], 170,
  []⟩
theorem run36 (gh : Nat → Obj) : me36.ok ((E0 gh).plugs [] []) 100000 = true := by kernel_rfl
theorem ok36 (gh : Nat → Obj) : CallF planOK (E0 gh) me36 := seg (e0_ok gh) (e0_body gh) (e0_mix gh) (C := []) (l := []) trivial trivial (run36 gh)
noncomputable def me37 : ME := ⟨384, [.ptr 10 0, .agg [.num (0), .num (0), .num (10), .num (10), .num (0), .num (0), .num (0), .num (0), .num (0), .num (0), .num (0), .num (0)], .agg [.num (-61), .num (61), .num (0), .num (0), .num (12392), .num (12392), .num (-2), .num (2), .num (0), .num (0), .num (-1038), .num (-1038)]], 13,
  [(10, .cells [.val (.string ⟨#[100,97,114,116]⟩), .num (98), .num (98), .val (.slice none 0 0), .sl 11 0 1 1 false, .val (.slice none 0 0), .num (0), .num (0), .num (0), .num (0), .num (10000), .num (10000), .sl 12 0 1 1 true] 459 false),
   (12, .cells [.num (0), .num (1000), .num (0), .num (200), .num (-120), .num (80)] 305 true)],
  .agg [.num (0), .num (0), .num (0), .num (0), .num (-98), .num (-98)], 170,
  []⟩
theorem run37 (gh : Nat → Obj) : me37.ok ((E0 gh).plugs [] []) 100000 = true := by kernel_rfl
theorem ok37 (gh : Nat → Obj) : CallF planOK (E0 gh) me37 := seg (e0_ok gh) (e0_body gh) (e0_mix gh) (C := []) (l := []) trivial trivial (run37 gh)
noncomputable def me38 : ME := ⟨384, [.ptr 10 0, .agg [.num (0), .num (0), .num (10), .num (10), .num (0), .num (0), .num (0), .num (0), .num (0), .num (0), .num (0), .num (0)], .agg [.num (-63), .num (63), .num (0), .num (0), .num (11256), .num (11256), .num (-2), .num (2), .num (0), .num (0), .num (-1136), .num (-1136)]], 13,
  [(10, .cells [.val (.string ⟨#[100,97,114,116]⟩), .num (98), .num (98), .val (.slice none 0 0), .sl 11 0 1 1 false, .val (.slice none 0 0), .num (0), .num (0), .num (0), .num (0), .num (10000), .num (10000), .sl 12 0 1 1 true] 459 false),
   (12, .cells [.num (0), .num (1000), .num (0), .num (200), .num (-120), .num (80)] 305 true)],
  .agg [.num (0), .num (0), .num (0), .num (0), .num (-98), .num (-98)], 170,
  []⟩
theorem run38 (gh : Nat → Obj) : me38.ok ((E0 gh).plugs [] []) 100000 = true := by kernel_rfl
theorem ok38 (gh : Nat → Obj) : CallF planOK (E0 gh) me38 := seg (e0_ok gh) (e0_body gh) (e0_mix gh) (C := []) (l := []) trivial trivial (run38 gh)
noncomputable def me39 : ME := ⟨384, [.ptr 10 0, .agg [.num (0), .num (0), .num (10), .num (10), .num (0), .num (0), .num (0), .num (0), .num (0), .num (0), .num (0), .num (0)], .agg [.num (-65), .num (65), .num (0), .num (0), .num (10022), .num (10022), .num (-2), .num (2), .num (0), .num (0), .num (-1234), .num (-1234)]], 13,
  [(10, .cells [.val (.string ⟨#[100,97,114,116]⟩), .num (98), .num (98), .val (.slice none 0 0), .sl 11 0 1 1 false, .val (.slice none 0 0), .num (0), .num (0), .num (0), .num (0), .num (10000), .num (10000), .sl 12 0 1 1 true] 459 false),
   (12, .cells [.num (0), .num (1000), .num (0), .num (200), .num (-120), .num (80)] 305 true)],
  .agg [.num (0), .num (0), .num (0), .num (0), .num (-98), .num (-98)], 170,
  []⟩
theorem run39 (gh : Nat → Obj) : me39.ok ((E0 gh).plugs [] []) 100000 = true := by kernel_rfl
theorem ok39 (gh : Nat → Obj) : CallF planOK (E0 gh) me39 := seg (e0_ok gh) (e0_body gh) (e0_mix gh) (C := []) (l := []) trivial trivial (run39 gh)
noncomputable def me40 : ME := ⟨384, [.ptr 10 0, .agg [.num (0), .num (0), .num (10), .num (10), .num (0), .num (0), .num (0), .num (0), .num (0), .num (0), .num (0), .num (0)], .agg [.num (-67), .num (67), .num (0), .num (0), .num (8690), .num (8690), .num (-2), .num (2), .num (0), .num (0), .num (-1332), .num (-1332)]], 13,
  [(10, .cells [.val (.string ⟨#[100,97,114,116]⟩), .num (98), .num (98), .val (.slice none 0 0), .sl 11 0 1 1 false, .val (.slice none 0 0), .num (0), .num (0), .num (0), .num (0), .num (10000), .num (10000), .sl 12 0 1 1 true] 459 false),
   (12, .cells [.num (0), .num (1000), .num (0), .num (200), .num (-120), .num (80)] 305 true)],
  .agg [.num (0), .num (0), .num (0), .num (0), .num (-98), .num (-98)], 170,
  []⟩
theorem run40 (gh : Nat → Obj) : me40.ok ((E0 gh).plugs [] []) 100000 = true := by kernel_rfl
theorem ok40 (gh : Nat → Obj) : CallF planOK (E0 gh) me40 := seg (e0_ok gh) (e0_body gh) (e0_mix gh) (C := []) (l := []) trivial trivial (run40 gh)
noncomputable def me41 : ME := ⟨384, [.ptr 10 0, .agg [.num (0), .num (0), .num (10), .num (10), .num (0), .num (0), .num (0), .num (0), .num (0), .num (0), .num (0), .num (0)], .agg [.num (-69), .num (69), .num (0), .num (0), .num (7260), .num (7260), .num (-2), .num (2), .num (0), .num (0), .num (-1430), .num (-1430)]], 13,
  [(10, .cells [.val (.string ⟨#[100,97,114,116]⟩), .num (98), .num (98), .val (.slice none 0 0), .sl 11 0 1 1 false, .val (.slice none 0 0), .num (0), .num (0), .num (0), .num (0), .num (10000), .num (10000), .sl 12 0 1 1 true] 459 false),
   (12, .cells [.num (0), .num (1000), .num (0), .num (200), .num (-120), .num (80)] 305 true)],
  .agg [.num (0), .num (0), .num (0), .num (0), .num (-98), .num (-98)], 170,
  []⟩
theorem run41 (gh : Nat → Obj) : me41.ok ((E0 gh).plugs [] []) 100000 = true := by kernel_rfl
theorem ok41 (gh : Nat → Obj) : CallF planOK (E0 gh) me41 := seg (e0_ok gh) (e0_body gh) (e0_mix gh) (C := []) (l := []) trivial trivial (run41 gh)
noncomputable def me42 : ME := ⟨384, [.ptr 10 0, .agg [.num (0), .num (0), .num (10), .num (10), .num (0), .num (0), .num (0), .num (0), .num (0), .num (0), .num (0), .num (0)], .agg [.num (-71), .num (71), .num (0), .num (0), .num (5732), .num (5732), .num (-2), .num (2), .num (0), .num (0), .num (-1528), .num (-1528)]], 13,
  [(10, .cells [.val (.string ⟨#[100,97,114,116]⟩), .num (98), .num (98), .val (.slice none 0 0), .sl 11 0 1 1 false, .val (.slice none 0 0), .num (0), .num (0), .num (0), .num (0), .num (10000), .num (10000), .sl 12 0 1 1 true] 459 false),
   (12, .cells [.num (0), .num (1000), .num (0), .num (200), .num (-120), .num (80)] 305 true)],
  .agg [.num (0), .num (0), .num (0), .num (0), .num (-98), .num (-98)], 170,
  []⟩
theorem run42 (gh : Nat → Obj) : me42.ok ((E0 gh).plugs [] []) 100000 = true := by kernel_rfl
theorem ok42 (gh : Nat → Obj) : CallF planOK (E0 gh) me42 := seg (e0_ok gh) (e0_body gh) (e0_mix gh) (C := []) (l := []) trivial trivial (run42 gh)
noncomputable def me43 : ME := ⟨384, [.ptr 10 0, .agg [.num (0), .num (0), .num (10), .num (10), .num (0), .num (0), .num (0), .num (0), .num (0), .num (0), .num (0), .num (0)], .agg [.num (-73), .num (73), .num (0), .num (0), .num (4106), .num (4106), .num (-2), .num (2), .num (0), .num (0), .num (-1626), .num (-1626)]], 13,
  [(10, .cells [.val (.string ⟨#[100,97,114,116]⟩), .num (98), .num (98), .val (.slice none 0 0), .sl 11 0 1 1 false, .val (.slice none 0 0), .num (0), .num (0), .num (0), .num (0), .num (10000), .num (10000), .sl 12 0 1 1 true] 459 false),
   (12, .cells [.num (0), .num (1000), .num (0), .num (200), .num (-120), .num (80)] 305 true)],
  .agg [.num (0), .num (0), .num (0), .num (0), .num (-98), .num (-98)], 170,
  []⟩
theorem run43 (gh : Nat → Obj) : me43.ok ((E0 gh).plugs [] []) 100000 = true := by kernel_rfl
theorem ok43 (gh : Nat → Obj) : CallF planOK (E0 gh) me43 := seg (e0_ok gh) (e0_body gh) (e0_mix gh) (C := []) (l := []) trivial trivial (run43 gh)
noncomputable def me44 : ME := ⟨384, [.ptr 10 0, .agg [.num (0), .num (0), .num (10), .num (10), .num (0), .num (0), .num (0), .num (0), .num (0), .num (0), .num (0), .num (0)], .agg [.num (-75), .num (75), .num (0), .num (0), .num (2382), .num (2382), .num (-2), .num (2), .num (0), .num (0), .num (-1724), .num (-1724)]], 13,
  [(10, .cells [.val (.string ⟨#[100,97,114,116]⟩), .num (98), .num (98), .val (.slice none 0 0), .sl 11 0 1 1 false, .val (.slice none 0 0), .num (0), .num (0), .num (0), .num (0), .num (10000), .num (10000), .sl 12 0 1 1 true] 459 false),
   (12, .cells [.num (0), .num (1000), .num (0), .num (200), .num (-120), .num (80)] 305 true)],
  .agg [.num (0), .num (0), .num (0), .num (0), .num (-98), .num (-98)], 170,
  []⟩
theorem run44 (gh : Nat → Obj) : me44.ok ((E0 gh).plugs [] []) 100000 = true := by kernel_rfl
theorem ok44 (gh : Nat → Obj) : CallF planOK (E0 gh) me44 := seg (e0_ok gh) (e0_body gh) (e0_mix gh) (C := []) (l := []) trivial trivial (run44 gh)
end Go.Proofs.YtkjajpfgdjfcoaaGreatDoor
