/- The bodies of the functions meet the evaluator's check, part 2. -/
import Derived.Test.YtkjajpfgdjfcoaaGreatDoorOA
set_option linter.unusedVariables false
set_option linter.unusedSimpArgs false
namespace Go.Proofs.YtkjajpfgdjfcoaaGreatDoor
open Go Ev
theorem gf7 : gf Tryz.f7 = true := by kernel_rfl
theorem gf17 : gf Tryz.f17 = true := by kernel_rfl
theorem gf23 : gf Tryz.f23 = true := by kernel_rfl
theorem gf29 : gf Tryz.f29 = true := by kernel_rfl
theorem gf42 : gf Tryz.f42 = true := by kernel_rfl
theorem gf50 : gf Tryz.f50 = true := by kernel_rfl
theorem gf56 : gf Tryz.f56 = true := by kernel_rfl
theorem gf62 : gf Tryz.f62 = true := by kernel_rfl
theorem gf72 : gf Tryz.f72 = true := by kernel_rfl
theorem gf85 : gf Tryz.f85 = true := by kernel_rfl
theorem gf91 : gf Tryz.f91 = true := by kernel_rfl
theorem gf97 : gf Tryz.f97 = true := by kernel_rfl
theorem gf103 : gf Tryz.f103 = true := by kernel_rfl
theorem gf109 : gf Tryz.f109 = true := by kernel_rfl
theorem gf119 : gf Tryz.f119 = true := by kernel_rfl
theorem gf128 : gf Tryz.f128 = true := by kernel_rfl
theorem gf137 : gf Tryz.f137 = true := by kernel_rfl
theorem gf145 : gf Tryz.f145 = true := by kernel_rfl
theorem gf154 : gf Tryz.f154 = true := by kernel_rfl
theorem gf161 : gf Tryz.f161 = true := by kernel_rfl
theorem gf172 : gf Tryz.f172 = true := by kernel_rfl
theorem gf178 : gf Tryz.f178 = true := by kernel_rfl
theorem gf186 : gf Tryz.f186 = true := by kernel_rfl
theorem gf192 : gf Tryz.f192 = true := by kernel_rfl
theorem gf199 : gf Tryz.f199 = true := by kernel_rfl
theorem gf205 : gf Tryz.f205 = true := by kernel_rfl
theorem gf222 : gf Tryz.f222 = true := by kernel_rfl
theorem gf230 : gf Tryz.f230 = true := by kernel_rfl
theorem gf241 : gf Tryz.f241 = true := by kernel_rfl
theorem gf247 : gf Tryz.f247 = true := by kernel_rfl
theorem gf253 : gf Tryz.f253 = true := by kernel_rfl
theorem gf260 : gf Tryz.f260 = true := by kernel_rfl
theorem gf267 : gf Tryz.f267 = true := by kernel_rfl
theorem gf273 : gf Tryz.f273 = true := by kernel_rfl
theorem gf282 : gf Tryz.f282 = true := by kernel_rfl
theorem gf290 : gf Tryz.f290 = true := by kernel_rfl
theorem gf296 : gf Tryz.f296 = true := by kernel_rfl
theorem gf314 : gf Tryz.f314 = true := by kernel_rfl
theorem gf321 : gf Tryz.f321 = true := by kernel_rfl
theorem gf327 : gf Tryz.f327 = true := by kernel_rfl
theorem gf333 : gf Tryz.f333 = true := by kernel_rfl
theorem gf343 : gf Tryz.f343 = true := by kernel_rfl
theorem gf349 : gf Tryz.f349 = true := by kernel_rfl
theorem gf355 : gf Tryz.f355 = true := by kernel_rfl
theorem gf366 : gf Tryz.f366 = true := by kernel_rfl
theorem gf373 : gf Tryz.f373 = true := by kernel_rfl
theorem gf380 : gf Tryz.f380 = true := by kernel_rfl
theorem gf388 : gf Tryz.f388 = true := by kernel_rfl
theorem gf401 : gf Tryz.f401 = true := by kernel_rfl
theorem gf410 : gf Tryz.f410 = true := by kernel_rfl
theorem gf417 : gf Tryz.f417 = true := by kernel_rfl
theorem gf430 : gf Tryz.f430 = true := by kernel_rfl
theorem gf448 : gf Tryz.f448 = true := by kernel_rfl
theorem gf454 : gf Tryz.f454 = true := by kernel_rfl
theorem gf460 : gf Tryz.f460 = true := by kernel_rfl
theorem gf473 : gf Tryz.f473 = true := by kernel_rfl
theorem gf479 : gf Tryz.f479 = true := by kernel_rfl
theorem gf506 : gf Tryz.f506 = true := by kernel_rfl
theorem gf516 : gf Tryz.f516 = true := by kernel_rfl
theorem gf534 : gf Tryz.f534 = true := by kernel_rfl
end Go.Proofs.YtkjajpfgdjfcoaaGreatDoor
