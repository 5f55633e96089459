/- The bodies of the functions meet the evaluator's check, part 5. -/
import Derived.Test.YtkjajpfgdjfcoaaGreatDoorOA
set_option linter.unusedVariables false
set_option linter.unusedSimpArgs false
namespace Go.Proofs.YtkjajpfgdjfcoaaGreatDoor
open Go Ev
theorem gf10 : gf Tryz.f10 = true := by kernel_rfl
theorem gf20 : gf Tryz.f20 = true := by kernel_rfl
theorem gf26 : gf Tryz.f26 = true := by kernel_rfl
theorem gf32 : gf Tryz.f32 = true := by kernel_rfl
theorem gf47 : gf Tryz.f47 = true := by kernel_rfl
theorem gf53 : gf Tryz.f53 = true := by kernel_rfl
theorem gf59 : gf Tryz.f59 = true := by kernel_rfl
theorem gf68 : gf Tryz.f68 = true := by kernel_rfl
theorem gf77 : gf Tryz.f77 = true := by kernel_rfl
theorem gf88 : gf Tryz.f88 = true := by kernel_rfl
theorem gf94 : gf Tryz.f94 = true := by kernel_rfl
theorem gf100 : gf Tryz.f100 = true := by kernel_rfl
theorem gf106 : gf Tryz.f106 = true := by kernel_rfl
theorem gf114 : gf Tryz.f114 = true := by kernel_rfl
theorem gf125 : gf Tryz.f125 = true := by kernel_rfl
theorem gf134 : gf Tryz.f134 = true := by kernel_rfl
theorem gf142 : gf Tryz.f142 = true := by kernel_rfl
theorem gf151 : gf Tryz.f151 = true := by kernel_rfl
theorem gf158 : gf Tryz.f158 = true := by kernel_rfl
theorem gf164 : gf Tryz.f164 = true := by kernel_rfl
theorem gf175 : gf Tryz.f175 = true := by kernel_rfl
theorem gf181 : gf Tryz.f181 = true := by kernel_rfl
theorem gf189 : gf Tryz.f189 = true := by kernel_rfl
theorem gf195 : gf Tryz.f195 = true := by kernel_rfl
theorem gf202 : gf Tryz.f202 = true := by kernel_rfl
theorem gf216 : gf Tryz.f216 = true := by kernel_rfl
theorem gf225 : gf Tryz.f225 = true := by kernel_rfl
theorem gf238 : gf Tryz.f238 = true := by kernel_rfl
theorem gf244 : gf Tryz.f244 = true := by kernel_rfl
theorem gf250 : gf Tryz.f250 = true := by kernel_rfl
theorem gf256 : gf Tryz.f256 = true := by kernel_rfl
theorem gf263 : gf Tryz.f263 = true := by kernel_rfl
theorem gf270 : gf Tryz.f270 = true := by kernel_rfl
theorem gf276 : gf Tryz.f276 = true := by kernel_rfl
theorem gf287 : gf Tryz.f287 = true := by kernel_rfl
theorem gf293 : gf Tryz.f293 = true := by kernel_rfl
theorem gf309 : gf Tryz.f309 = true := by kernel_rfl
theorem gf318 : gf Tryz.f318 = true := by kernel_rfl
theorem gf324 : gf Tryz.f324 = true := by kernel_rfl
theorem gf330 : gf Tryz.f330 = true := by kernel_rfl
theorem gf340 : gf Tryz.f340 = true := by kernel_rfl
theorem gf346 : gf Tryz.f346 = true := by kernel_rfl
theorem gf352 : gf Tryz.f352 = true := by kernel_rfl
theorem gf358 : gf Tryz.f358 = true := by kernel_rfl
theorem gf369 : gf Tryz.f369 = true := by kernel_rfl
theorem gf377 : gf Tryz.f377 = true := by kernel_rfl
theorem gf385 : gf Tryz.f385 = true := by kernel_rfl
theorem gf391 : gf Tryz.f391 = true := by kernel_rfl
theorem gf404 : gf Tryz.f404 = true := by kernel_rfl
theorem gf414 : gf Tryz.f414 = true := by kernel_rfl
theorem gf420 : gf Tryz.f420 = true := by kernel_rfl
theorem gf433 : gf Tryz.f433 = true := by kernel_rfl
theorem gf451 : gf Tryz.f451 = true := by kernel_rfl
theorem gf457 : gf Tryz.f457 = true := by kernel_rfl
theorem gf470 : gf Tryz.f470 = true := by kernel_rfl
theorem gf476 : gf Tryz.f476 = true := by kernel_rfl
theorem gf497 : gf Tryz.f497 = true := by kernel_rfl
theorem gf509 : gf Tryz.f509 = true := by kernel_rfl
theorem gf529 : gf Tryz.f529 = true := by kernel_rfl
theorem gf537 : gf Tryz.f537 = true := by kernel_rfl
end Go.Proofs.YtkjajpfgdjfcoaaGreatDoor
