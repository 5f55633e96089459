/- The bodies of the functions meet the evaluator's check, part 4. -/
import Derived.Test.YtkjajpfgdjfcoaaGreatDoorOA
set_option linter.unusedVariables false
set_option linter.unusedSimpArgs false
namespace Go.Proofs.YtkjajpfgdjfcoaaGreatDoor
open Go Ev
theorem gf9 : gf Tryz.f9 = true := by kernel_rfl
theorem gf19 : gf Tryz.f19 = true := by kernel_rfl
theorem gf25 : gf Tryz.f25 = true := by kernel_rfl
theorem gf31 : gf Tryz.f31 = true := by kernel_rfl
theorem gf46 : gf Tryz.f46 = true := by kernel_rfl
theorem gf52 : gf Tryz.f52 = true := by kernel_rfl
theorem gf58 : gf Tryz.f58 = true := by kernel_rfl
theorem gf67 : gf Tryz.f67 = true := by kernel_rfl
theorem gf75 : gf Tryz.f75 = true := by kernel_rfl
theorem gf87 : gf Tryz.f87 = true := by kernel_rfl
theorem gf93 : gf Tryz.f93 = true := by kernel_rfl
theorem gf99 : gf Tryz.f99 = true := by kernel_rfl
theorem gf105 : gf Tryz.f105 = true := by kernel_rfl
theorem gf111 : gf Tryz.f111 = true := by kernel_rfl
theorem gf124 : gf Tryz.f124 = true := by kernel_rfl
theorem gf133 : gf Tryz.f133 = true := by kernel_rfl
theorem gf141 : gf Tryz.f141 = true := by kernel_rfl
theorem gf148 : gf Tryz.f148 = true := by kernel_rfl
theorem gf156 : gf Tryz.f156 = true := by kernel_rfl
theorem gf163 : gf Tryz.f163 = true := by kernel_rfl
theorem gf174 : gf Tryz.f174 = true := by kernel_rfl
theorem gf180 : gf Tryz.f180 = true := by kernel_rfl
theorem gf188 : gf Tryz.f188 = true := by kernel_rfl
theorem gf194 : gf Tryz.f194 = true := by kernel_rfl
theorem gf201 : gf Tryz.f201 = true := by kernel_rfl
theorem gf215 : gf Tryz.f215 = true := by kernel_rfl
theorem gf224 : gf Tryz.f224 = true := by kernel_rfl
theorem gf233 : gf Tryz.f233 = true := by kernel_rfl
theorem gf243 : gf Tryz.f243 = true := by kernel_rfl
theorem gf249 : gf Tryz.f249 = true := by kernel_rfl
theorem gf255 : gf Tryz.f255 = true := by kernel_rfl
theorem gf262 : gf Tryz.f262 = true := by kernel_rfl
theorem gf269 : gf Tryz.f269 = true := by kernel_rfl
theorem gf275 : gf Tryz.f275 = true := by kernel_rfl
theorem gf286 : gf Tryz.f286 = true := by kernel_rfl
theorem gf292 : gf Tryz.f292 = true := by kernel_rfl
theorem gf308 : gf Tryz.f308 = true := by kernel_rfl
theorem gf316 : gf Tryz.f316 = true := by kernel_rfl
theorem gf323 : gf Tryz.f323 = true := by kernel_rfl
theorem gf329 : gf Tryz.f329 = true := by kernel_rfl
theorem gf339 : gf Tryz.f339 = true := by kernel_rfl
theorem gf345 : gf Tryz.f345 = true := by kernel_rfl
theorem gf351 : gf Tryz.f351 = true := by kernel_rfl
theorem gf357 : gf Tryz.f357 = true := by kernel_rfl
theorem gf368 : gf Tryz.f368 = true := by kernel_rfl
theorem gf375 : gf Tryz.f375 = true := by kernel_rfl
theorem gf384 : gf Tryz.f384 = true := by kernel_rfl
theorem gf390 : gf Tryz.f390 = true := by kernel_rfl
theorem gf403 : gf Tryz.f403 = true := by kernel_rfl
theorem gf413 : gf Tryz.f413 = true := by kernel_rfl
theorem gf419 : gf Tryz.f419 = true := by kernel_rfl
theorem gf432 : gf Tryz.f432 = true := by kernel_rfl
theorem gf450 : gf Tryz.f450 = true := by kernel_rfl
theorem gf456 : gf Tryz.f456 = true := by kernel_rfl
theorem gf469 : gf Tryz.f469 = true := by kernel_rfl
theorem gf475 : gf Tryz.f475 = true := by kernel_rfl
theorem gf496 : gf Tryz.f496 = true := by kernel_rfl
theorem gf508 : gf Tryz.f508 = true := by kernel_rfl
theorem gf528 : gf Tryz.f528 = true := by kernel_rfl
theorem gf536 : gf Tryz.f536 = true := by kernel_rfl
end Go.Proofs.YtkjajpfgdjfcoaaGreatDoor
