/- Part of the closed run: calls that are run by themselves. -/
import Derived.Test.YtkjajpfgdjfcoaaGreatDoorOC
set_option linter.unusedVariables false
set_option linter.unusedSimpArgs false
namespace Go.Proofs.YtkjajpfgdjfcoaaGreatDoor
open Go Ev
noncomputable def me12 : ME := ⟨384, [.ptr 10 0, .agg [.num (0), .num (0), .num (10), .num (10), .num (0), .num (0), .num (0), .num (0), .num (0), .num (0), .num (0), .num (0)], .agg [.num (-11), .num (11), .num (0), .num (0), .num (8942), .num (8942), .num (-2), .num (2), .num (0), .num (0), .num (1412), .num (1412)]], 13,
  [(10, .cells [.val (.string ⟨#[100,97,114,116]⟩), .num (98), .num (98), .val (.slice none 0 0), .sl 11 0 1 1 false, .val (.slice none 0 0), .num (0), .num (0), .num (0), .num (0), .num (10000), .num (10000), .sl 12 0 1 1 true] 459 false),
   (12, .cells [.num (0), .num (1000), .num (0), .num (200), .num (-120), .num (80)] 305 true)],
  .agg [.num (0), .num (0), .num (0), .num (0), .num (-98), .num (-98)], 170,
  []⟩
theorem run12 (gh : Nat → Obj) : me12.ok ((E0 gh).plugs [] []) 100000 = true := by kernel_rfl
theorem ok12 (gh : Nat → Obj) : CallF planOK (E0 gh) me12 := seg (e0_ok gh) (e0_body gh) (e0_mix gh) (C := []) (l := []) trivial trivial (run12 gh)
noncomputable def me13 : ME := ⟨384, [.ptr 10 0, .agg [.num (0), .num (0), .num (10), .num (10), .num (0), .num (0), .num (0), .num (0), .num (0), .num (0), .num (0), .num (0)], .agg [.num (-13), .num (13), .num (0), .num (0), .num (10256), .num (10256), .num (-2), .num (2), .num (0), .num (0), .num (1314), .num (1314)]], 13,
  [(10, .cells [.val (.string ⟨#[100,97,114,116]⟩), .num (98), .num (98), .val (.slice none 0 0), .sl 11 0 1 1 false, .val (.slice none 0 0), .num (0), .num (0), .num (0), .num (0), .num (10000), .num (10000), .sl 12 0 1 1 true] 459 false),
   (12, .cells [.num (0), .num (1000), .num (0), .num (200), .num (-120), .num (80)] 305 true)],
  .agg [.num (0), .num (0), .num (0), .num (0), .num (-98), .num (-98)], 170,
  []⟩
theorem run13 (gh : Nat → Obj) : me13.ok ((E0 gh).plugs [] []) 100000 = true := by kernel_rfl
theorem ok13 (gh : Nat → Obj) : CallF planOK (E0 gh) me13 := seg (e0_ok gh) (e0_body gh) (e0_mix gh) (C := []) (l := []) trivial trivial (run13 gh)
noncomputable def me14 : ME := ⟨384, [.ptr 10 0, .agg [.num (0), .num (0), .num (10), .num (10), .num (0), .num (0), .num (0), .num (0), .num (0), .num (0), .num (0), .num (0)], .agg [.num (-15), .num (15), .num (0), .num (0), .num (11472), .num (11472), .num (-2), .num (2), .num (0), .num (0), .num (1216), .num (1216)]], 13,
  [(10, .cells [.val (.string ⟨#[100,97,114,116]⟩), .num (98), .num (98), .val (.slice none 0 0), .sl 11 0 1 1 false, .val (.slice none 0 0), .num (0), .num (0), .num (0), .num (0), .num (10000), .num (10000), .sl 12 0 1 1 true] 459 false),
   (12, .cells [.num (0), .num (1000), .num (0), .num (200), .num (-120), .num (80)] 305 true)],
  .agg [.num (0), .num (0), .num (0), .num (0), .num (-98), .num (-98)], 170,
  []⟩
theorem run14 (gh : Nat → Obj) : me14.ok ((E0 gh).plugs [] []) 100000 = true := by kernel_rfl
theorem ok14 (gh : Nat → Obj) : CallF planOK (E0 gh) me14 := seg (e0_ok gh) (e0_body gh) (e0_mix gh) (C := []) (l := []) trivial trivial (run14 gh)
noncomputable def me15 : ME := ⟨384, [.ptr 10 0, .agg [.num (0), .num (0), .num (10), .num (10), .num (0), .num (0), .num (0), .num (0), .num (0), .num (0), .num (0), .num (0)], .agg [.num (-17), .num (17), .num (0), .num (0), .num (12590), .num (12590), .num (-2), .num (2), .num (0), .num (0), .num (1118), .num (1118)]], 13,
  [(10, .cells [.val (.string ⟨#[100,97,114,116]⟩), .num (98), .num (98), .val (.slice none 0 0), .sl 11 0 1 1 false, .val (.slice none 0 0), .num (0), .num (0), .num (0), .num (0), .num (10000), .num (10000), .sl 12 0 1 1 true] 459 false),
   (12, .cells [.num (0), .num (1000), .num (0), .num (200), .num (-120), .num (80)] 305 true)],
  .agg [.num (0), .num (0), .num (0), .num (0), .num (-98), .num (-98)], 170,
  []⟩
theorem run15 (gh : Nat → Obj) : me15.ok ((E0 gh).plugs [] []) 100000 = true := by kernel_rfl
theorem ok15 (gh : Nat → Obj) : CallF planOK (E0 gh) me15 := seg (e0_ok gh) (e0_body gh) (e0_mix gh) (C := []) (l := []) trivial trivial (run15 gh)
noncomputable def me16 : ME := ⟨384, [.ptr 10 0, .agg [.num (0), .num (0), .num (10), .num (10), .num (0), .num (0), .num (0), .num (0), .num (0), .num (0), .num (0), .num (0)], .agg [.num (-19), .num (19), .num (0), .num (0), .num (13610), .num (13610), .num (-2), .num (2), .num (0), .num (0), .num (1020), .num (1020)]], 13,
  [(10, .cells [.val (.string ⟨#[100,97,114,116]⟩), .num (98), .num (98), .val (.slice none 0 0), .sl 11 0 1 1 false, .val (.slice none 0 0), .num (0), .num (0), .num (0), .num (0), .num (10000), .num (10000), .sl 12 0 1 1 true] 459 false),
   (12, .cells [.num (0), .num (1000), .num (0), .num (200), .num (-120), .num (80)] 305 true)],
  .agg [.num (0), .num (0), .num (0), .num (0), .num (-98), .num (-98)], 170,
  []⟩
theorem run16 (gh : Nat → Obj) : me16.ok ((E0 gh).plugs [] []) 100000 = true := by kernel_rfl
theorem ok16 (gh : Nat → Obj) : CallF planOK (E0 gh) me16 := seg (e0_ok gh) (e0_body gh) (e0_mix gh) (C := []) (l := []) trivial trivial (run16 gh)
noncomputable def me17 : ME := ⟨384, [.ptr 10 0, .agg [.num (0), .num (0), .num (10), .num (10), .num (0), .num (0), .num (0), .num (0), .num (0), .num (0), .num (0), .num (0)], .agg [.num (-21), .num (21), .num (0), .num (0), .num (14532), .num (14532), .num (-2), .num (2), .num (0), .num (0), .num (922), .num (922)]], 13,
  [(10, .cells [.val (.string ⟨#[100,97,114,116]⟩), .num (98), .num (98), .val (.slice none 0 0), .sl 11 0 1 1 false, .val (.slice none 0 0), .num (0), .num (0), .num (0), .num (0), .num (10000), .num (10000), .sl 12 0 1 1 true] 459 false),
   (12, .cells [.num (0), .num (1000), .num (0), .num (200), .num (-120), .num (80)] 305 true)],
  .agg [.num (0), .num (0), .num (0), .num (0), .num (-98), .num (-98)], 170,
  []⟩
theorem run17 (gh : Nat → Obj) : me17.ok ((E0 gh).plugs [] []) 100000 = true := by kernel_rfl
theorem ok17 (gh : Nat → Obj) : CallF planOK (E0 gh) me17 := seg (e0_ok gh) (e0_body gh) (e0_mix gh) (C := []) (l := []) trivial trivial (run17 gh)
noncomputable def me18 : ME := ⟨384, [.ptr 10 0, .agg [.num (0), .num (0), .num (10), .num (10), .num (0), .num (0), .num (0), .num (0), .num (0), .num (0), .num (0), .num (0)], .agg [.num (-23), .num (23), .num (0), .num (0), .num (15356), .num (15356), .num (-2), .num (2), .num (0), .num (0), .num (824), .num (824)]], 13,
  [(10, .cells [.val (.string ⟨#[100,97,114,116]⟩), .num (98), .num (98), .val (.slice none 0 0), .sl 11 0 1 1 false, .val (.slice none 0 0), .num (0), .num (0), .num (0), .num (0), .num (10000), .num (10000), .sl 12 0 1 1 true] 459 false),
   (12, .cells [.num (0), .num (1000), .num (0), .num (200), .num (-120), .num (80)] 305 true)],
  .agg [.num (0), .num (0), .num (0), .num (0), .num (-98), .num (-98)], 170,
  []⟩
theorem run18 (gh : Nat → Obj) : me18.ok ((E0 gh).plugs [] []) 100000 = true := by kernel_rfl
theorem ok18 (gh : Nat → Obj) : CallF planOK (E0 gh) me18 := seg (e0_ok gh) (e0_body gh) (e0_mix gh) (C := []) (l := []) trivial trivial (run18 gh)
noncomputable def me19 : ME := ⟨384, [.ptr 10 0, .agg [.num (0), .num (0), .num (10), .num (10), .num (0), .num (0), .num (0), .num (0), .num (0), .num (0), .num (0), .num (0)], .agg [.num (-25), .num (25), .num (0), .num (0), .num (16082), .num (16082), .num (-2), .num (2), .num (0), .num (0), .num (726), .num (726)]], 13,
  [(10, .cells [.val (.string ⟨#[100,97,114,116]⟩), .num (98), .num (98), .val (.slice none 0 0), .sl 11 0 1 1 false, .val (.slice none 0 0), .num (0), .num (0), .num (0), .num (0), .num (10000), .num (10000), .sl 12 0 1 1 true] 459 false),
   (12, .cells [.num (0), .num (1000), .num (0), .num (200), .num (-120), .num (80)] 305 true)],
  .agg [.num (0), .num (0), .num (0), .num (0), .num (-98), .num (-98)], 170,
  []⟩
theorem run19 (gh : Nat → Obj) : me19.ok ((E0 gh).plugs [] []) 100000 = true := by kernel_rfl
theorem ok19 (gh : Nat → Obj) : CallF planOK (E0 gh) me19 := seg (e0_ok gh) (e0_body gh) (e0_mix gh) (C := []) (l := []) trivial trivial (run19 gh)
noncomputable def me20 : ME := ⟨384, [.ptr 10 0, .agg [.num (0), .num (0), .num (10), .num (10), .num (0), .num (0), .num (0), .num (0), .num (0), .num (0), .num (0), .num (0)], .agg [.num (-27), .num (27), .num (0), .num (0), .num (16710), .num (16710), .num (-2), .num (2), .num (0), .num (0), .num (628), .num (628)]], 13,
  [(10, .cells [.val (.string ⟨#[100,97,114,116]⟩), .num (98), .num (98), .val (.slice none 0 0), .sl 11 0 1 1 false, .val (.slice none 0 0), .num (0), .num (0), .num (0), .num (0), .num (10000), .num (10000), .sl 12 0 1 1 true] 459 false),
   (12, .cells [.num (0), .num (1000), .num (0), .num (200), .num (-120), .num (80)] 305 true)],
  .agg [.num (0), .num (0), .num (0), .num (0), .num (-98), .num (-98)], 170,
  []⟩
theorem run20 (gh : Nat → Obj) : me20.ok ((E0 gh).plugs [] []) 100000 = true := by kernel_rfl
theorem ok20 (gh : Nat → Obj) : CallF planOK (E0 gh) me20 := seg (e0_ok gh) (e0_body gh) (e0_mix gh) (C := []) (l := []) trivial trivial (run20 gh)
noncomputable def me21 : ME := ⟨384, [.ptr 10 0, .agg [.num (0), .num (0), .num (10), .num (10), .num (0), .num (0), .num (0), .num (0), .num (0), .num (0), .num (0), .num (0)], .agg [.num (-29), .num (29), .num (0), .num (0), .num (17240), .num (17240), .num (-2), .num (2), .num (0), .num (0), .num (530), .num (530)]], 13,
  [(10, .cells [.val (.string ⟨#[100,97,114,116]⟩), .num (98), .num (98), .val (.slice none 0 0), .sl 11 0 1 1 false, .val (.slice none 0 0), .num (0), .num (0), .num (0), .num (0), .num (10000), .num (10000), .sl 12 0 1 1 true] 459 false),
   (12, .cells [.num (0), .num (1000), .num (0), .num (200), .num (-120), .num (80)] 305 true)],
  .agg [.num (0), .num (0), .num (0), .num (0), .num (-98), .num (-98)], 170,
  []⟩
theorem run21 (gh : Nat → Obj) : me21.ok ((E0 gh).plugs [] []) 100000 = true := by kernel_rfl
theorem ok21 (gh : Nat → Obj) : CallF planOK (E0 gh) me21 := seg (e0_ok gh) (e0_body gh) (e0_mix gh) (C := []) (l := []) trivial trivial (run21 gh)
noncomputable def me22 : ME := ⟨384, [.ptr 10 0, .agg [.num (0), .num (0), .num (10), .num (10), .num (0), .num (0), .num (0), .num (0), .num (0), .num (0), .num (0), .num (0)], .agg [.num (-31), .num (31), .num (0), .num (0), .num (17672), .num (17672), .num (-2), .num (2), .num (0), .num (0), .num (432), .num (432)]], 13,
  [(10, .cells [.val (.string ⟨#[100,97,114,116]⟩), .num (98), .num (98), .val (.slice none 0 0), .sl 11 0 1 1 false, .val (.slice none 0 0), .num (0), .num (0), .num (0), .num (0), .num (10000), .num (10000), .sl 12 0 1 1 true] 459 false),
   (12, .cells [.num (0), .num (1000), .num (0), .num (200), .num (-120), .num (80)] 305 true)],
  .agg [.num (0), .num (0), .num (0), .num (0), .num (-98), .num (-98)], 170,
  []⟩
theorem run22 (gh : Nat → Obj) : me22.ok ((E0 gh).plugs [] []) 100000 = true := by kernel_rfl
theorem ok22 (gh : Nat → Obj) : CallF planOK (E0 gh) me22 := seg (e0_ok gh) (e0_body gh) (e0_mix gh) (C := []) (l := []) trivial trivial (run22 gh)
end Go.Proofs.YtkjajpfgdjfcoaaGreatDoor
