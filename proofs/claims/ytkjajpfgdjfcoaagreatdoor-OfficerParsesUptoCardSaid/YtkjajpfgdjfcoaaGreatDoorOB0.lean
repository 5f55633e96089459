/- The bodies of the functions meet the evaluator's check, part 0. -/
import Derived.Test.YtkjajpfgdjfcoaaGreatDoorOA
set_option linter.unusedVariables false
set_option linter.unusedSimpArgs false
namespace Go.Proofs.YtkjajpfgdjfcoaaGreatDoor
open Go Ev
theorem gf3 : gf Tryz.f3 = true := by kernel_rfl
theorem gf11 : gf Tryz.f11 = true := by kernel_rfl
theorem gf21 : gf Tryz.f21 = true := by kernel_rfl
theorem gf27 : gf Tryz.f27 = true := by kernel_rfl
theorem gf33 : gf Tryz.f33 = true := by kernel_rfl
theorem gf48 : gf Tryz.f48 = true := by kernel_rfl
theorem gf54 : gf Tryz.f54 = true := by kernel_rfl
theorem gf60 : gf Tryz.f60 = true := by kernel_rfl
theorem gf70 : gf Tryz.f70 = true := by kernel_rfl
theorem gf78 : gf Tryz.f78 = true := by kernel_rfl
theorem gf89 : gf Tryz.f89 = true := by kernel_rfl
theorem gf95 : gf Tryz.f95 = true := by kernel_rfl
theorem gf101 : gf Tryz.f101 = true := by kernel_rfl
theorem gf107 : gf Tryz.f107 = true := by kernel_rfl
theorem gf115 : gf Tryz.f115 = true := by kernel_rfl
theorem gf126 : gf Tryz.f126 = true := by kernel_rfl
theorem gf135 : gf Tryz.f135 = true := by kernel_rfl
theorem gf143 : gf Tryz.f143 = true := by kernel_rfl
theorem gf152 : gf Tryz.f152 = true := by kernel_rfl
theorem gf159 : gf Tryz.f159 = true := by kernel_rfl
theorem gf165 : gf Tryz.f165 = true := by kernel_rfl
theorem gf176 : gf Tryz.f176 = true := by kernel_rfl
theorem gf182 : gf Tryz.f182 = true := by kernel_rfl
theorem gf190 : gf Tryz.f190 = true := by kernel_rfl
theorem gf196 : gf Tryz.f196 = true := by kernel_rfl
theorem gf203 : gf Tryz.f203 = true := by kernel_rfl
theorem gf220 : gf Tryz.f220 = true := by kernel_rfl
theorem gf226 : gf Tryz.f226 = true := by kernel_rfl
theorem gf239 : gf Tryz.f239 = true := by kernel_rfl
theorem gf245 : gf Tryz.f245 = true := by kernel_rfl
theorem gf251 : gf Tryz.f251 = true := by kernel_rfl
theorem gf257 : gf Tryz.f257 = true := by kernel_rfl
theorem gf264 : gf Tryz.f264 = true := by kernel_rfl
theorem gf271 : gf Tryz.f271 = true := by kernel_rfl
theorem gf279 : gf Tryz.f279 = true := by kernel_rfl
theorem gf288 : gf Tryz.f288 = true := by kernel_rfl
theorem gf294 : gf Tryz.f294 = true := by kernel_rfl
theorem gf310 : gf Tryz.f310 = true := by kernel_rfl
theorem gf319 : gf Tryz.f319 = true := by kernel_rfl
theorem gf325 : gf Tryz.f325 = true := by kernel_rfl
theorem gf331 : gf Tryz.f331 = true := by kernel_rfl
theorem gf341 : gf Tryz.f341 = true := by kernel_rfl
theorem gf347 : gf Tryz.f347 = true := by kernel_rfl
theorem gf353 : gf Tryz.f353 = true := by kernel_rfl
theorem gf364 : gf Tryz.f364 = true := by kernel_rfl
theorem gf370 : gf Tryz.f370 = true := by kernel_rfl
theorem gf378 : gf Tryz.f378 = true := by kernel_rfl
theorem gf386 : gf Tryz.f386 = true := by kernel_rfl
theorem gf392 : gf Tryz.f392 = true := by kernel_rfl
theorem gf407 : gf Tryz.f407 = true := by kernel_rfl
theorem gf415 : gf Tryz.f415 = true := by kernel_rfl
theorem gf421 : gf Tryz.f421 = true := by kernel_rfl
theorem gf437 : gf Tryz.f437 = true := by kernel_rfl
theorem gf452 : gf Tryz.f452 = true := by kernel_rfl
theorem gf458 : gf Tryz.f458 = true := by kernel_rfl
theorem gf471 : gf Tryz.f471 = true := by kernel_rfl
theorem gf477 : gf Tryz.f477 = true := by kernel_rfl
theorem gf498 : gf Tryz.f498 = true := by kernel_rfl
theorem gf510 : gf Tryz.f510 = true := by kernel_rfl
theorem gf530 : gf Tryz.f530 = true := by kernel_rfl
theorem gf540 : gf Tryz.f540 = true := by kernel_rfl
end Go.Proofs.YtkjajpfgdjfcoaaGreatDoor
