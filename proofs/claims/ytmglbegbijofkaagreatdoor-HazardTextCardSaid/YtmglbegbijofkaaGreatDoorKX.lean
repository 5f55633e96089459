/- Openings: an array of two numbers of 16 bits. -/
import Derived.Test.YtmglbegbijofkaaGreatDoorKV
set_option linter.unusedVariables false
set_option linter.unusedSimpArgs false
namespace Go.Proofs.YtmglbegbijofkaaGreatDoor
open Go.ChangeShapes Go.WideShapes Go.RowKit Go.Deep
section
variable {H : Type} {enc : TypeId × Value → H} {w : World} {base : Nat} {spare : Nat → Bool} {held : Bool}
theorem cellsT107 : Tryz.prog.cellsOf 107 = 2 := by kernel_rfl
theorem leaf107 : ((List.range 2).all fun j => leafAt Tryz.prog 4 107 j == some 50) = true := by kernel_rfl
theorem list2 {l : List Value} {a0 a1 : Value} (h : l.length = 2) (h0 : l[0]? = some a0) (h1 : l[1]? = some a1) : l = [a0, a1] := by
  match l, h with
  | [c0, c1], _ => simp at h0 h1; simp [*]
set_option maxRecDepth 100000 in
theorem open_two16 {r : Reach} {b0 : Nat} {v : Value} {d : DataW H} {p : List MemPlace} (hv : Value.okWide Tryz.prog w r b0 107 v) (h : DataW.Trod enc Tryz.prog w base spare held 107 v d p) :
    ∃ a b : Int, v = .agg #[.int .u16 a, .int .u16 b] ∧ (0 ≤ a ∧ a ≤ 65535) ∧ 0 ≤ b ∧ b ≤ 65535 := by
  obtain ⟨cs, rfl, hsz⟩ := okWide_arr Tryz.underlying107 hv
  obtain ⟨fuel, hf⟩ := h
  obtain ⟨z0, h0, w0⟩ := leaf_int (leaf_all leaf107 0 (by omega)) Tryz.underlying50 hf
  obtain ⟨z1, h1, w1⟩ := leaf_int (leaf_all leaf107 1 (by omega)) Tryz.underlying50 hf
  refine ⟨z0, z1, ?_, u16_bd w0, u16_bd w1⟩
  have hl2 : cs.toList.length = 2 := by simpa [cellsT107] using hsz
  have := list2 hl2 h0 h1
  rw [show cs = cs.toList.toArray by simp, this]
end
end Go.Proofs.YtmglbegbijofkaaGreatDoor
