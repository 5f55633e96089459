/- Openings: a string; what a small bulk says of it. -/
import Derived.Test.YtmglbegbijofkaaGreatDoorKQ
set_option linter.unusedVariables false
set_option linter.unusedSimpArgs false
namespace Go.Proofs.YtmglbegbijofkaaGreatDoor
open Go.ChangeShapes Go.WideShapes Go.RowKit Go.Deep
section
variable {H : Type} {enc : TypeId × Value → H} {w : World} {base : Nat} {spare : Nat → Bool} {held : Bool}
set_option maxRecDepth 100000 in
theorem open_str {r : Reach} {b0 : Nat} {v : Value} {d : DataW H} {p : List MemPlace} (hv : Value.okWide Tryz.prog w r b0 9 v) (h : DataW.Trod enc Tryz.prog w base spare held 9 v d p) :
    ∃ s : ByteArray, v = .string s ∧ d = .lit (.string s.data.toList) := by
  obtain ⟨s, rfl⟩ := okWide_string Tryz.underlying9 hv
  obtain ⟨fuel, hf⟩ := h
  have hf' : DataW.trod enc Tryz.prog w base spare held fuel 9 [.string s] = some (d, p) := hf
  obtain ⟨s', e, hd, _⟩ := DataW.trod_string Tryz.underlying9 hf'
  simp only [List.cons.injEq, Value.string.injEq, and_true] at e
  subst e
  exact ⟨s, rfl, congrArg Prod.fst hd⟩
theorem upto_str {s : ByteArray} (h : Rows.uptoSmall H ([.lit (.string s.data.toList)] ++ []) = true) : s.size ≤ 1048576 := by
  unfold Rows.uptoSmall at h
  simp [Rows.uptoBulkAll, Rows.uptoBulk] at h
  omega
end
end Go.Proofs.YtmglbegbijofkaaGreatDoor
