/- Part of the closed run: calls that are run by themselves. -/
import Derived.Test.YtkjajpfgdjfcoaaGreatDoorOC
set_option linter.unusedVariables false
set_option linter.unusedSimpArgs false
namespace Go.Proofs.YtkjajpfgdjfcoaaGreatDoor
open Go Ev
noncomputable def me67 : ME := ⟨356, [.agg [.num (12), .num (-1050), .num (1050), .num (-1050), .num (1050), .num (-1050), .num (1050), .num (-350), .num (350), .num (-350), .num (350), .num (-350), .num (350)], .agg [.num (98), .num (98)]], 10,
  [],
  .tup [.agg [.num (-4900), .num (4900), .num (-4900), .num (4900)], .agg [.num (13), .num (23)], .val .nilIface], 258,
  []⟩
theorem run67 (gh : Nat → Obj) : me67.ok ((E0 gh).plugs [] []) 100000 = true := by kernel_rfl
theorem ok67 (gh : Nat → Obj) : CallF planOK (E0 gh) me67 := seg (e0_ok gh) (e0_body gh) (e0_mix gh) (C := []) (l := []) trivial trivial (run67 gh)
noncomputable def me71 : ME := ⟨12, [.val (.string ⟨#[97,116,32,49,32,115,111,117,110,100,32,109,97,115,116,32,53,48,48,32,49,48,48,32,45,48]⟩)], 10,
  [],
  .tup [.agg [.num (0), .num (0), .val (.string ⟨#[]⟩), .val (.slice none 0 0)], .num (6)], 51,
  []⟩
theorem run71 (gh : Nat → Obj) : me71.ok ((E0 gh).plugs [] []) 100000 = true := by kernel_rfl
theorem ok71 (gh : Nat → Obj) : CallF planOK (E0 gh) me71 := seg (e0_ok gh) (e0_body gh) (e0_mix gh) (C := []) (l := []) trivial trivial (run71 gh)
end Go.Proofs.YtkjajpfgdjfcoaaGreatDoor
