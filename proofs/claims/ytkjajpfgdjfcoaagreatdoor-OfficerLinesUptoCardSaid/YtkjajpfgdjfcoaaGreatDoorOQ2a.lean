/- The laid variables of a row are those of the program's text: closed facts, part 1. -/
import Derived.Test.YtkjajpfgdjfcoaaGreatDoorRows
import Derived.LaidByTextLater
import Derived.SevenTiedAt
set_option linter.unusedVariables false
set_option linter.unusedSimpArgs false
namespace Go.Proofs.YtkjajpfgdjfcoaaGreatDoor
open Go
noncomputable def q2L : List (String × DataW Unit) := [("internal/strconv.uint64pow10", Rows.laid_internal_strconv_uint64pow10), ("math/bits.deBruijn32tab", Rows.laid_math_bits_deBruijn32tab), ("math/bits.deBruijn64tab", Rows.laid_math_bits_deBruijn64tab), ("unicode/utf8.acceptRanges", Rows.laid_unicode_utf8_acceptRanges), ("strconv.ErrSyntax", Rows.laid_strconv_ErrSyntax), ("strconv.ErrRange", Rows.laid_strconv_ErrRange), ("hangfire/destruct.errFar", Rows.laid_hangfire_destruct_errFar), ("hangfire/destruct.errLong", Rows.laid_hangfire_destruct_errLong)]
noncomputable def q2K : List LaidKind := [.data, .data, .data, .data, .sentinel, .sentinel, .sentinel, .sentinel]
theorem q21 : Tryz.prog.worded (varsWordLater true) = true := by kernel_rfl
theorem q22 : Tryz.prog.worded (varsWordLater !true) = false := by kernel_rfl
theorem q23 : Tryz.prog.worded rootWordLater = true := by kernel_rfl
theorem q24 : q2L.map (fun x => Tryz.prog.kindOfLater x.1) = q2K.map some := by kernel_rfl
theorem q25 : (Tryz.prog.funcNamed "gosem.cut.vars").isSome = true := by kernel_rfl
theorem q26 : varsNamedLaterB Tryz.prog (varsId Tryz.prog) q2L = true := by kernel_rfl
end Go.Proofs.YtkjajpfgdjfcoaaGreatDoor
