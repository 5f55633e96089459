/- Openings: an impact by value; what a small bulk says of a third string. -/
import Derived.Test.YtmglbegbijofkaaGreatDoorKT
import Derived.Test.YtmglbegbijofkaaGreatDoorKS
set_option linter.unusedVariables false
set_option linter.unusedSimpArgs false
namespace Go.Proofs.YtmglbegbijofkaaGreatDoor
open Go.ChangeShapes Go.WideShapes Go.RowKit Go.Deep
section
variable {H : Type} {enc : TypeId × Value → H} {w : World} {base : Nat} {spare : Nat → Bool} {held : Bool}
theorem leaf27 : ((List.range 7).all fun j => leafAt Tryz.prog 4 27 j == some 3) = true := by kernel_rfl
theorem cellsT27 : Tryz.prog.cellsOf 27 = 7 := by kernel_rfl
set_option maxRecDepth 100000 in
theorem open_impact {r : Reach} {b0 : Nat} {v : Value} {d : DataW H} {p : List MemPlace} (hv : Value.okWide Tryz.prog w r b0 27 v) (h : DataW.Trod enc Tryz.prog w base spare held 27 v d p) : ∃ x : Impact, v = .agg #[.int .i64 x.p, .int .i64 x.xl, .int .i64 x.xh, .int .i64 x.yl, .int .i64 x.yh, .int .i64 x.tl, .int .i64 x.th] := by
  obtain ⟨F, rfl⟩ := open_aggints Tryz.underlying27 cellsT27 leaf27 hv h
  exact ⟨⟨F 0, F 1, F 2, F 3, F 4, F 5, F 6⟩, rfl⟩
theorem upto_str3 {d0 d1 : DataW H} {s : ByteArray} (h : Rows.uptoSmall H ([d0, d1, .lit (.string s.data.toList)] ++ []) = true) : s.size ≤ 1048576 := by
  unfold Rows.uptoSmall at h
  simp [Rows.uptoBulkAll, Rows.uptoBulk] at h
  omega
end
end Go.Proofs.YtmglbegbijofkaaGreatDoor
