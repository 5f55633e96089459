/- Part of the closed run: calls that are run by themselves. -/
import Derived.Test.YtkjajpfgdjfcoaaGreatDoorOC
set_option linter.unusedVariables false
set_option linter.unusedSimpArgs false
namespace Go.Proofs.YtkjajpfgdjfcoaaGreatDoor
open Go Ev
noncomputable def me65 : ME := ⟨474, [.agg [.num (6), .num (1000), .num (50), .sl 10 0 3 3 false, .sl 11 0 1 1 true], .num (9), .num (9)], 12,
  [(10, .cells [.val (.string ⟨#[101,97,115,116]⟩), .num (3000000), .num (0), .num (2000), .num (500), .num (5), .val (.string ⟨#[119,101,115,116]⟩), .num (-500000), .num (0), .num (3000), .num (1000), .num (0), .val (.string ⟨#[103,112,115]⟩), .num (0), .num (0), .num (800), .num (0), .num (20)] 154 false),
   (11, .cells [.num (2), .num (8), .num (0), .num (0), .num (1000)] 156 true)],
  .tup [.agg [.num (9), .num (-300), .num (300), .num (-300), .num (300), .num (-300), .num (300), .num (-200), .num (200), .num (-200), .num (200), .num (-200), .num (200)], .bool true], 902,
  []⟩
theorem run65 (gh : Nat → Obj) : me65.ok ((E0 gh).plugs [] []) 100000 = true := by kernel_rfl
theorem ok65 (gh : Nat → Obj) : CallF planOK (E0 gh) me65 := seg (e0_ok gh) (e0_body gh) (e0_mix gh) (C := []) (l := []) trivial trivial (run65 gh)
noncomputable def me66 : ME := ⟨417, [.agg [.num (6), .num (1000), .num (50), .sl 10 0 3 3 false, .sl 11 0 1 1 true], .agg [.num (9), .num (-300), .num (300), .num (-300), .num (300), .num (-300), .num (300), .num (-200), .num (200), .num (-200), .num (200), .num (-200), .num (200)], .num (3)], 12,
  [(10, .cells [.val (.string ⟨#[101,97,115,116]⟩), .num (3000000), .num (0), .num (2000), .num (500), .num (5), .val (.string ⟨#[119,101,115,116]⟩), .num (-500000), .num (0), .num (3000), .num (1000), .num (0), .val (.string ⟨#[103,112,115]⟩), .num (0), .num (0), .num (800), .num (0), .num (20)] 154 false),
   (11, .cells [.num (2), .num (8), .num (0), .num (0), .num (1000)] 156 true)],
  .tup [.agg [.num (12), .num (-1050), .num (1050), .num (-1050), .num (1050), .num (-1050), .num (1050), .num (-350), .num (350), .num (-350), .num (350), .num (-350), .num (350)], .num (0)], 62,
  []⟩
theorem run66 (gh : Nat → Obj) : me66.ok ((E0 gh).plugs [] []) 100000 = true := by kernel_rfl
theorem ok66 (gh : Nat → Obj) : CallF planOK (E0 gh) me66 := seg (e0_ok gh) (e0_body gh) (e0_mix gh) (C := []) (l := []) trivial trivial (run66 gh)
end Go.Proofs.YtkjajpfgdjfcoaaGreatDoor
