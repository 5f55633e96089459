import Derived.Test.YtmglbegbijofkaaGreatDoorW25
set_option linter.unusedVariables false
set_option linter.unusedSimpArgs false
namespace Go.Proofs.YtmglbegbijofkaaGreatDoor
open Go.RowKit

set_option maxHeartbeats 400000 in
theorem rabout_any (n by' : Int) (w : World) (h1 : -4000000000000 ≤ n) (h2 : n ≤ 4000000000000) (h3 : -4000000000000 ≤ by') (h4 : by' ≤ 4000000000000) :
    Calls Tryz.prog 154 #[.int .i64 n, .int .i64 by'] w fun e w' => e = .returned (.agg #[.int .i64 (n - by'), .int .i64 (n + by')]) ∧ Below w.heap.size w w' := by
  go_enter Tryz.func154, Tryz.ntmps154
  go_wp2_with fail
  exact bodyPost_ret (v := .agg #[.int .i64 (n - by'), .int .i64 (n + by')]) (by simp [results, Tryz.results154, go_sem]) rfl ⟨rfl, (by repeat (first | exact Below.refl _ _ | assumption | refine balloc ?_ _ | refine below_trans ?_ (by assumption) | refine Below.drew ?_ | refine below_drewN ?_ _ | refine Below.setCell ?_ (by simp <;> omega) _))⟩
set_option maxHeartbeats 400000 in
theorem rcut_any (a b c d : Int) (w : World) :
    Calls Tryz.prog 155 #[.agg #[.int .i64 a, .int .i64 b], .agg #[.int .i64 c, .int .i64 d]] w fun e w' => e = .returned (.agg #[.int .i64 (max a c), .int .i64 (min b d)]) ∧ Below w.heap.size w w' := by
  go_enter Tryz.func155, Tryz.ntmps155
  go_wp2_with fail
  all_goals exact bodyPost_ret (v := .agg #[.int .i64 (max a c), .int .i64 (min b d)]) (by simp [results, Tryz.results155, go_sem] <;> omega) rfl ⟨rfl, (by repeat (first | exact Below.refl _ _ | assumption | refine balloc ?_ _ | refine below_trans ?_ (by assumption) | refine Below.drew ?_ | refine below_drewN ?_ _ | refine Below.setCell ?_ (by simp <;> omega) _))⟩
end Go.Proofs.YtmglbegbijofkaaGreatDoor
