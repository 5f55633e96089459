/- The bodies of the functions meet the evaluator's check, part 1. -/
import Derived.Test.YtkjajpfgdjfcoaaGreatDoorOA
set_option linter.unusedVariables false
set_option linter.unusedSimpArgs false
namespace Go.Proofs.YtkjajpfgdjfcoaaGreatDoor
open Go Ev
theorem gf6 : gf Tryz.f6 = true := by kernel_rfl
theorem gf12 : gf Tryz.f12 = true := by kernel_rfl
theorem gf22 : gf Tryz.f22 = true := by kernel_rfl
theorem gf28 : gf Tryz.f28 = true := by kernel_rfl
theorem gf34 : gf Tryz.f34 = true := by kernel_rfl
theorem gf49 : gf Tryz.f49 = true := by kernel_rfl
theorem gf55 : gf Tryz.f55 = true := by kernel_rfl
theorem gf61 : gf Tryz.f61 = true := by kernel_rfl
theorem gf71 : gf Tryz.f71 = true := by kernel_rfl
theorem gf84 : gf Tryz.f84 = true := by kernel_rfl
theorem gf90 : gf Tryz.f90 = true := by kernel_rfl
theorem gf96 : gf Tryz.f96 = true := by kernel_rfl
theorem gf102 : gf Tryz.f102 = true := by kernel_rfl
theorem gf108 : gf Tryz.f108 = true := by kernel_rfl
theorem gf116 : gf Tryz.f116 = true := by kernel_rfl
theorem gf127 : gf Tryz.f127 = true := by kernel_rfl
theorem gf136 : gf Tryz.f136 = true := by kernel_rfl
theorem gf144 : gf Tryz.f144 = true := by kernel_rfl
theorem gf153 : gf Tryz.f153 = true := by kernel_rfl
theorem gf160 : gf Tryz.f160 = true := by kernel_rfl
theorem gf171 : gf Tryz.f171 = true := by kernel_rfl
theorem gf177 : gf Tryz.f177 = true := by kernel_rfl
theorem gf183 : gf Tryz.f183 = true := by kernel_rfl
theorem gf191 : gf Tryz.f191 = true := by kernel_rfl
theorem gf198 : gf Tryz.f198 = true := by kernel_rfl
theorem gf204 : gf Tryz.f204 = true := by kernel_rfl
theorem gf221 : gf Tryz.f221 = true := by kernel_rfl
theorem gf227 : gf Tryz.f227 = true := by kernel_rfl
theorem gf240 : gf Tryz.f240 = true := by kernel_rfl
theorem gf246 : gf Tryz.f246 = true := by kernel_rfl
theorem gf252 : gf Tryz.f252 = true := by kernel_rfl
theorem gf258 : gf Tryz.f258 = true := by kernel_rfl
theorem gf266 : gf Tryz.f266 = true := by kernel_rfl
theorem gf272 : gf Tryz.f272 = true := by kernel_rfl
theorem gf280 : gf Tryz.f280 = true := by kernel_rfl
theorem gf289 : gf Tryz.f289 = true := by kernel_rfl
theorem gf295 : gf Tryz.f295 = true := by kernel_rfl
theorem gf313 : gf Tryz.f313 = true := by kernel_rfl
theorem gf320 : gf Tryz.f320 = true := by kernel_rfl
theorem gf326 : gf Tryz.f326 = true := by kernel_rfl
theorem gf332 : gf Tryz.f332 = true := by kernel_rfl
theorem gf342 : gf Tryz.f342 = true := by kernel_rfl
theorem gf348 : gf Tryz.f348 = true := by kernel_rfl
theorem gf354 : gf Tryz.f354 = true := by kernel_rfl
theorem gf365 : gf Tryz.f365 = true := by kernel_rfl
theorem gf372 : gf Tryz.f372 = true := by kernel_rfl
theorem gf379 : gf Tryz.f379 = true := by kernel_rfl
theorem gf387 : gf Tryz.f387 = true := by kernel_rfl
theorem gf400 : gf Tryz.f400 = true := by kernel_rfl
theorem gf409 : gf Tryz.f409 = true := by kernel_rfl
theorem gf416 : gf Tryz.f416 = true := by kernel_rfl
theorem gf429 : gf Tryz.f429 = true := by kernel_rfl
theorem gf439 : gf Tryz.f439 = true := by kernel_rfl
theorem gf453 : gf Tryz.f453 = true := by kernel_rfl
theorem gf459 : gf Tryz.f459 = true := by kernel_rfl
theorem gf472 : gf Tryz.f472 = true := by kernel_rfl
theorem gf478 : gf Tryz.f478 = true := by kernel_rfl
theorem gf505 : gf Tryz.f505 = true := by kernel_rfl
theorem gf514 : gf Tryz.f514 = true := by kernel_rfl
theorem gf531 : gf Tryz.f531 = true := by kernel_rfl
theorem gf544 : gf Tryz.f544 = true := by kernel_rfl
end Go.Proofs.YtkjajpfgdjfcoaaGreatDoor
