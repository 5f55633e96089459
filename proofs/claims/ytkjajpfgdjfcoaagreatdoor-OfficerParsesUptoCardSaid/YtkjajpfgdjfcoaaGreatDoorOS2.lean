/- Part of the closed run: calls that are run by themselves. -/
import Derived.Test.YtkjajpfgdjfcoaaGreatDoorOC
set_option linter.unusedVariables false
set_option linter.unusedSimpArgs false
namespace Go.Proofs.YtkjajpfgdjfcoaaGreatDoor
open Go Ev
noncomputable def me23 : ME := ⟨384, [.ptr 10 0, .agg [.num (0), .num (0), .num (10), .num (10), .num (0), .num (0), .num (0), .num (0), .num (0), .num (0), .num (0), .num (0)], .agg [.num (-33), .num (33), .num (0), .num (0), .num (18006), .num (18006), .num (-2), .num (2), .num (0), .num (0), .num (334), .num (334)]], 13,
  [(10, .cells [.val (.string ⟨#[100,97,114,116]⟩), .num (98), .num (98), .val (.slice none 0 0), .sl 11 0 1 1 false, .val (.slice none 0 0), .num (0), .num (0), .num (0), .num (0), .num (10000), .num (10000), .sl 12 0 1 1 true] 459 false),
   (12, .cells [.num (0), .num (1000), .num (0), .num (200), .num (-120), .num (80)] 305 true)],
  .agg [.num (0), .num (0), .num (0), .num (0), .num (-98), .num (-98)], 170,
  []⟩
theorem run23 (gh : Nat → Obj) : me23.ok ((E0 gh).plugs [] []) 100000 = true := by kernel_rfl
theorem ok23 (gh : Nat → Obj) : CallF planOK (E0 gh) me23 := seg (e0_ok gh) (e0_body gh) (e0_mix gh) (C := []) (l := []) trivial trivial (run23 gh)
noncomputable def me24 : ME := ⟨384, [.ptr 10 0, .agg [.num (0), .num (0), .num (10), .num (10), .num (0), .num (0), .num (0), .num (0), .num (0), .num (0), .num (0), .num (0)], .agg [.num (-35), .num (35), .num (0), .num (0), .num (18242), .num (18242), .num (-2), .num (2), .num (0), .num (0), .num (236), .num (236)]], 13,
  [(10, .cells [.val (.string ⟨#[100,97,114,116]⟩), .num (98), .num (98), .val (.slice none 0 0), .sl 11 0 1 1 false, .val (.slice none 0 0), .num (0), .num (0), .num (0), .num (0), .num (10000), .num (10000), .sl 12 0 1 1 true] 459 false),
   (12, .cells [.num (0), .num (1000), .num (0), .num (200), .num (-120), .num (80)] 305 true)],
  .agg [.num (0), .num (0), .num (0), .num (0), .num (-98), .num (-98)], 170,
  []⟩
theorem run24 (gh : Nat → Obj) : me24.ok ((E0 gh).plugs [] []) 100000 = true := by kernel_rfl
theorem ok24 (gh : Nat → Obj) : CallF planOK (E0 gh) me24 := seg (e0_ok gh) (e0_body gh) (e0_mix gh) (C := []) (l := []) trivial trivial (run24 gh)
noncomputable def me25 : ME := ⟨384, [.ptr 10 0, .agg [.num (0), .num (0), .num (10), .num (10), .num (0), .num (0), .num (0), .num (0), .num (0), .num (0), .num (0), .num (0)], .agg [.num (-37), .num (37), .num (0), .num (0), .num (18380), .num (18380), .num (-2), .num (2), .num (0), .num (0), .num (138), .num (138)]], 13,
  [(10, .cells [.val (.string ⟨#[100,97,114,116]⟩), .num (98), .num (98), .val (.slice none 0 0), .sl 11 0 1 1 false, .val (.slice none 0 0), .num (0), .num (0), .num (0), .num (0), .num (10000), .num (10000), .sl 12 0 1 1 true] 459 false),
   (12, .cells [.num (0), .num (1000), .num (0), .num (200), .num (-120), .num (80)] 305 true)],
  .agg [.num (0), .num (0), .num (0), .num (0), .num (-98), .num (-98)], 170,
  []⟩
theorem run25 (gh : Nat → Obj) : me25.ok ((E0 gh).plugs [] []) 100000 = true := by kernel_rfl
theorem ok25 (gh : Nat → Obj) : CallF planOK (E0 gh) me25 := seg (e0_ok gh) (e0_body gh) (e0_mix gh) (C := []) (l := []) trivial trivial (run25 gh)
noncomputable def me26 : ME := ⟨384, [.ptr 10 0, .agg [.num (0), .num (0), .num (10), .num (10), .num (0), .num (0), .num (0), .num (0), .num (0), .num (0), .num (0), .num (0)], .agg [.num (-39), .num (39), .num (0), .num (0), .num (18420), .num (18420), .num (-2), .num (2), .num (0), .num (0), .num (40), .num (40)]], 13,
  [(10, .cells [.val (.string ⟨#[100,97,114,116]⟩), .num (98), .num (98), .val (.slice none 0 0), .sl 11 0 1 1 false, .val (.slice none 0 0), .num (0), .num (0), .num (0), .num (0), .num (10000), .num (10000), .sl 12 0 1 1 true] 459 false),
   (12, .cells [.num (0), .num (1000), .num (0), .num (200), .num (-120), .num (80)] 305 true)],
  .agg [.num (0), .num (0), .num (0), .num (0), .num (-98), .num (-98)], 170,
  []⟩
theorem run26 (gh : Nat → Obj) : me26.ok ((E0 gh).plugs [] []) 100000 = true := by kernel_rfl
theorem ok26 (gh : Nat → Obj) : CallF planOK (E0 gh) me26 := seg (e0_ok gh) (e0_body gh) (e0_mix gh) (C := []) (l := []) trivial trivial (run26 gh)
noncomputable def me27 : ME := ⟨384, [.ptr 10 0, .agg [.num (0), .num (0), .num (10), .num (10), .num (0), .num (0), .num (0), .num (0), .num (0), .num (0), .num (0), .num (0)], .agg [.num (-41), .num (41), .num (0), .num (0), .num (18362), .num (18362), .num (-2), .num (2), .num (0), .num (0), .num (-58), .num (-58)]], 13,
  [(10, .cells [.val (.string ⟨#[100,97,114,116]⟩), .num (98), .num (98), .val (.slice none 0 0), .sl 11 0 1 1 false, .val (.slice none 0 0), .num (0), .num (0), .num (0), .num (0), .num (10000), .num (10000), .sl 12 0 1 1 true] 459 false),
   (12, .cells [.num (0), .num (1000), .num (0), .num (200), .num (-120), .num (80)] 305 true)],
  .agg [.num (0), .num (0), .num (0), .num (0), .num (-98), .num (-98)], 170,
  []⟩
theorem run27 (gh : Nat → Obj) : me27.ok ((E0 gh).plugs [] []) 100000 = true := by kernel_rfl
theorem ok27 (gh : Nat → Obj) : CallF planOK (E0 gh) me27 := seg (e0_ok gh) (e0_body gh) (e0_mix gh) (C := []) (l := []) trivial trivial (run27 gh)
noncomputable def me28 : ME := ⟨384, [.ptr 10 0, .agg [.num (0), .num (0), .num (10), .num (10), .num (0), .num (0), .num (0), .num (0), .num (0), .num (0), .num (0), .num (0)], .agg [.num (-43), .num (43), .num (0), .num (0), .num (18206), .num (18206), .num (-2), .num (2), .num (0), .num (0), .num (-156), .num (-156)]], 13,
  [(10, .cells [.val (.string ⟨#[100,97,114,116]⟩), .num (98), .num (98), .val (.slice none 0 0), .sl 11 0 1 1 false, .val (.slice none 0 0), .num (0), .num (0), .num (0), .num (0), .num (10000), .num (10000), .sl 12 0 1 1 true] 459 false),
   (12, .cells [.num (0), .num (1000), .num (0), .num (200), .num (-120), .num (80)] 305 true)],
  .agg [.num (0), .num (0), .num (0), .num (0), .num (-98), .num (-98)], 170,
  []⟩
theorem run28 (gh : Nat → Obj) : me28.ok ((E0 gh).plugs [] []) 100000 = true := by kernel_rfl
theorem ok28 (gh : Nat → Obj) : CallF planOK (E0 gh) me28 := seg (e0_ok gh) (e0_body gh) (e0_mix gh) (C := []) (l := []) trivial trivial (run28 gh)
noncomputable def me29 : ME := ⟨384, [.ptr 10 0, .agg [.num (0), .num (0), .num (10), .num (10), .num (0), .num (0), .num (0), .num (0), .num (0), .num (0), .num (0), .num (0)], .agg [.num (-45), .num (45), .num (0), .num (0), .num (17952), .num (17952), .num (-2), .num (2), .num (0), .num (0), .num (-254), .num (-254)]], 13,
  [(10, .cells [.val (.string ⟨#[100,97,114,116]⟩), .num (98), .num (98), .val (.slice none 0 0), .sl 11 0 1 1 false, .val (.slice none 0 0), .num (0), .num (0), .num (0), .num (0), .num (10000), .num (10000), .sl 12 0 1 1 true] 459 false),
   (12, .cells [.num (0), .num (1000), .num (0), .num (200), .num (-120), .num (80)] 305 true)],
  .agg [.num (0), .num (0), .num (0), .num (0), .num (-98), .num (-98)], 170,
  []⟩
theorem run29 (gh : Nat → Obj) : me29.ok ((E0 gh).plugs [] []) 100000 = true := by kernel_rfl
theorem ok29 (gh : Nat → Obj) : CallF planOK (E0 gh) me29 := seg (e0_ok gh) (e0_body gh) (e0_mix gh) (C := []) (l := []) trivial trivial (run29 gh)
noncomputable def me30 : ME := ⟨384, [.ptr 10 0, .agg [.num (0), .num (0), .num (10), .num (10), .num (0), .num (0), .num (0), .num (0), .num (0), .num (0), .num (0), .num (0)], .agg [.num (-47), .num (47), .num (0), .num (0), .num (17600), .num (17600), .num (-2), .num (2), .num (0), .num (0), .num (-352), .num (-352)]], 13,
  [(10, .cells [.val (.string ⟨#[100,97,114,116]⟩), .num (98), .num (98), .val (.slice none 0 0), .sl 11 0 1 1 false, .val (.slice none 0 0), .num (0), .num (0), .num (0), .num (0), .num (10000), .num (10000), .sl 12 0 1 1 true] 459 false),
   (12, .cells [.num (0), .num (1000), .num (0), .num (200), .num (-120), .num (80)] 305 true)],
  .agg [.num (0), .num (0), .num (0), .num (0), .num (-98), .num (-98)], 170,
  []⟩
theorem run30 (gh : Nat → Obj) : me30.ok ((E0 gh).plugs [] []) 100000 = true := by kernel_rfl
theorem ok30 (gh : Nat → Obj) : CallF planOK (E0 gh) me30 := seg (e0_ok gh) (e0_body gh) (e0_mix gh) (C := []) (l := []) trivial trivial (run30 gh)
noncomputable def me31 : ME := ⟨384, [.ptr 10 0, .agg [.num (0), .num (0), .num (10), .num (10), .num (0), .num (0), .num (0), .num (0), .num (0), .num (0), .num (0), .num (0)], .agg [.num (-49), .num (49), .num (0), .num (0), .num (17150), .num (17150), .num (-2), .num (2), .num (0), .num (0), .num (-450), .num (-450)]], 13,
  [(10, .cells [.val (.string ⟨#[100,97,114,116]⟩), .num (98), .num (98), .val (.slice none 0 0), .sl 11 0 1 1 false, .val (.slice none 0 0), .num (0), .num (0), .num (0), .num (0), .num (10000), .num (10000), .sl 12 0 1 1 true] 459 false),
   (12, .cells [.num (0), .num (1000), .num (0), .num (200), .num (-120), .num (80)] 305 true)],
  .agg [.num (0), .num (0), .num (0), .num (0), .num (-98), .num (-98)], 170,
  []⟩
theorem run31 (gh : Nat → Obj) : me31.ok ((E0 gh).plugs [] []) 100000 = true := by kernel_rfl
theorem ok31 (gh : Nat → Obj) : CallF planOK (E0 gh) me31 := seg (e0_ok gh) (e0_body gh) (e0_mix gh) (C := []) (l := []) trivial trivial (run31 gh)
noncomputable def me32 : ME := ⟨384, [.ptr 10 0, .agg [.num (0), .num (0), .num (10), .num (10), .num (0), .num (0), .num (0), .num (0), .num (0), .num (0), .num (0), .num (0)], .agg [.num (-51), .num (51), .num (0), .num (0), .num (16602), .num (16602), .num (-2), .num (2), .num (0), .num (0), .num (-548), .num (-548)]], 13,
  [(10, .cells [.val (.string ⟨#[100,97,114,116]⟩), .num (98), .num (98), .val (.slice none 0 0), .sl 11 0 1 1 false, .val (.slice none 0 0), .num (0), .num (0), .num (0), .num (0), .num (10000), .num (10000), .sl 12 0 1 1 true] 459 false),
   (12, .cells [.num (0), .num (1000), .num (0), .num (200), .num (-120), .num (80)] 305 true)],
  .agg [.num (0), .num (0), .num (0), .num (0), .num (-98), .num (-98)], 170,
  []⟩
theorem run32 (gh : Nat → Obj) : me32.ok ((E0 gh).plugs [] []) 100000 = true := by kernel_rfl
theorem ok32 (gh : Nat → Obj) : CallF planOK (E0 gh) me32 := seg (e0_ok gh) (e0_body gh) (e0_mix gh) (C := []) (l := []) trivial trivial (run32 gh)
noncomputable def me33 : ME := ⟨384, [.ptr 10 0, .agg [.num (0), .num (0), .num (10), .num (10), .num (0), .num (0), .num (0), .num (0), .num (0), .num (0), .num (0), .num (0)], .agg [.num (-53), .num (53), .num (0), .num (0), .num (15956), .num (15956), .num (-2), .num (2), .num (0), .num (0), .num (-646), .num (-646)]], 13,
  [(10, .cells [.val (.string ⟨#[100,97,114,116]⟩), .num (98), .num (98), .val (.slice none 0 0), .sl 11 0 1 1 false, .val (.slice none 0 0), .num (0), .num (0), .num (0), .num (0), .num (10000), .num (10000), .sl 12 0 1 1 true] 459 false),
   (12, .cells [.num (0), .num (1000), .num (0), .num (200), .num (-120), .num (80)] 305 true)],
  .agg [.num (0), .num (0), .num (0), .num (0), .num (-98), .num (-98)], 170,
  []⟩
theorem run33 (gh : Nat → Obj) : me33.ok ((E0 gh).plugs [] []) 100000 = true := by kernel_rfl
theorem ok33 (gh : Nat → Obj) : CallF planOK (E0 gh) me33 := seg (e0_ok gh) (e0_body gh) (e0_mix gh) (C := []) (l := []) trivial trivial (run33 gh)
end Go.Proofs.YtkjajpfgdjfcoaaGreatDoor
