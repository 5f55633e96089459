/- The bodies of the functions meet the evaluator's check, part 3. -/
import Derived.Test.YtkjajpfgdjfcoaaGreatDoorOA
set_option linter.unusedVariables false
set_option linter.unusedSimpArgs false
namespace Go.Proofs.YtkjajpfgdjfcoaaGreatDoor
open Go Ev
theorem gf8 : gf Tryz.f8 = true := by kernel_rfl
theorem gf18 : gf Tryz.f18 = true := by kernel_rfl
theorem gf24 : gf Tryz.f24 = true := by kernel_rfl
theorem gf30 : gf Tryz.f30 = true := by kernel_rfl
theorem gf43 : gf Tryz.f43 = true := by kernel_rfl
theorem gf51 : gf Tryz.f51 = true := by kernel_rfl
theorem gf57 : gf Tryz.f57 = true := by kernel_rfl
theorem gf66 : gf Tryz.f66 = true := by kernel_rfl
theorem gf74 : gf Tryz.f74 = true := by kernel_rfl
theorem gf86 : gf Tryz.f86 = true := by kernel_rfl
theorem gf92 : gf Tryz.f92 = true := by kernel_rfl
theorem gf98 : gf Tryz.f98 = true := by kernel_rfl
theorem gf104 : gf Tryz.f104 = true := by kernel_rfl
theorem gf110 : gf Tryz.f110 = true := by kernel_rfl
theorem gf121 : gf Tryz.f121 = true := by kernel_rfl
theorem gf132 : gf Tryz.f132 = true := by kernel_rfl
theorem gf138 : gf Tryz.f138 = true := by kernel_rfl
theorem gf146 : gf Tryz.f146 = true := by kernel_rfl
theorem gf155 : gf Tryz.f155 = true := by kernel_rfl
theorem gf162 : gf Tryz.f162 = true := by kernel_rfl
theorem gf173 : gf Tryz.f173 = true := by kernel_rfl
theorem gf179 : gf Tryz.f179 = true := by kernel_rfl
theorem gf187 : gf Tryz.f187 = true := by kernel_rfl
theorem gf193 : gf Tryz.f193 = true := by kernel_rfl
theorem gf200 : gf Tryz.f200 = true := by kernel_rfl
theorem gf214 : gf Tryz.f214 = true := by kernel_rfl
theorem gf223 : gf Tryz.f223 = true := by kernel_rfl
theorem gf231 : gf Tryz.f231 = true := by kernel_rfl
theorem gf242 : gf Tryz.f242 = true := by kernel_rfl
theorem gf248 : gf Tryz.f248 = true := by kernel_rfl
theorem gf254 : gf Tryz.f254 = true := by kernel_rfl
theorem gf261 : gf Tryz.f261 = true := by kernel_rfl
theorem gf268 : gf Tryz.f268 = true := by kernel_rfl
theorem gf274 : gf Tryz.f274 = true := by kernel_rfl
theorem gf285 : gf Tryz.f285 = true := by kernel_rfl
theorem gf291 : gf Tryz.f291 = true := by kernel_rfl
theorem gf298 : gf Tryz.f298 = true := by kernel_rfl
theorem gf315 : gf Tryz.f315 = true := by kernel_rfl
theorem gf322 : gf Tryz.f322 = true := by kernel_rfl
theorem gf328 : gf Tryz.f328 = true := by kernel_rfl
theorem gf338 : gf Tryz.f338 = true := by kernel_rfl
theorem gf344 : gf Tryz.f344 = true := by kernel_rfl
theorem gf350 : gf Tryz.f350 = true := by kernel_rfl
theorem gf356 : gf Tryz.f356 = true := by kernel_rfl
theorem gf367 : gf Tryz.f367 = true := by kernel_rfl
theorem gf374 : gf Tryz.f374 = true := by kernel_rfl
theorem gf383 : gf Tryz.f383 = true := by kernel_rfl
theorem gf389 : gf Tryz.f389 = true := by kernel_rfl
theorem gf402 : gf Tryz.f402 = true := by kernel_rfl
theorem gf412 : gf Tryz.f412 = true := by kernel_rfl
theorem gf418 : gf Tryz.f418 = true := by kernel_rfl
theorem gf431 : gf Tryz.f431 = true := by kernel_rfl
theorem gf449 : gf Tryz.f449 = true := by kernel_rfl
theorem gf455 : gf Tryz.f455 = true := by kernel_rfl
theorem gf461 : gf Tryz.f461 = true := by kernel_rfl
theorem gf474 : gf Tryz.f474 = true := by kernel_rfl
theorem gf480 : gf Tryz.f480 = true := by kernel_rfl
theorem gf507 : gf Tryz.f507 = true := by kernel_rfl
theorem gf517 : gf Tryz.f517 = true := by kernel_rfl
theorem gf535 : gf Tryz.f535 = true := by kernel_rfl
end Go.Proofs.YtkjajpfgdjfcoaaGreatDoor
