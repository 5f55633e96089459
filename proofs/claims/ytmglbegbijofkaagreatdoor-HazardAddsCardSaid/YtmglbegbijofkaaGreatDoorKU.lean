/- Openings that keep the capacity: slices of impacts and of laws. -/
import Derived.Test.YtmglbegbijofkaaGreatDoorKT
import Derived.Test.YtmglbegbijofkaaGreatDoorKR
set_option linter.unusedVariables false
set_option linter.unusedSimpArgs false
namespace Go.Proofs.YtmglbegbijofkaaGreatDoor
open Go.ChangeShapes Go.WideShapes Go.RowKit Go.Deep
section
variable {H : Type} {enc : TypeId × Value → H} {w : World} {base : Nat} {spare : Nat → Bool} {held : Bool}
set_option maxRecDepth 100000 in
theorem open_impacts_cap {r : Reach} {b0 : Nat} {v : Value} {d : DataW H} {p : List MemPlace} (hv : Value.okWide Tryz.prog w r b0 82 v) (h : DataW.Trod enc Tryz.prog w base spare held 82 v d p) {B : Nat} (hB : ∀ n ∈ d.weights Tryz.prog 82, n ≤ B) :
    ∃ (l : List Impact) (a : Option Addr) (c : Nat), v = .slice a l.length c ∧ l.length ≤ c ∧ c ≤ maxLen ∧ ImpactsAt w v l ∧ l.length * 56 ≤ B := by
  obtain ⟨l, hl, hb⟩ := open_impacts hv h hB
  obtain ⟨fuel, hf⟩ := slice_trod Tryz.underlying82 hv h
  obtain ⟨a, len, cap, F, hcs, hlc, hcm, _, _⟩ := open_rows_int (L := fun _ => 3) Tryz.underlying82 cellsT27 (by omega) (leaf_all leaf27) (fun _ _ => Tryz.underlying3) hf
  obtain ⟨a', c', hv', _⟩ := id hl
  obtain rfl : v = .slice a len cap := by simpa using hcs
  simp only [Value.slice.injEq] at hv'
  obtain ⟨rfl, rfl, rfl⟩ := hv'
  exact ⟨l, a, cap, rfl, hlc, hcm, hl, hb⟩
set_option maxRecDepth 100000 in
theorem open_laws_cap {r : Reach} {b0 : Nat} {v : Value} {d : DataW H} {p : List MemPlace} (hv : Value.okWide Tryz.prog w r b0 92 v) (h : DataW.Trod enc Tryz.prog w base spare held 92 v d p) {B : Nat} (hB : ∀ n ∈ d.weights Tryz.prog 92, n ≤ B) :
    ∃ (l : List (Int × Int)) (a : Option Addr) (c : Nat), v = .slice a l.length c ∧ l.length ≤ c ∧ c ≤ maxLen ∧ SpansAt w v l ∧ l.length * 16 ≤ B := by
  obtain ⟨l, hl, hb⟩ := open_laws hv h hB
  obtain ⟨fuel, hf⟩ := slice_trod Tryz.underlying92 hv h
  obtain ⟨a, len, cap, F, hcs, hlc, hcm, _, _⟩ := open_rows_int (L := fun _ => 3) Tryz.underlying92 cellsT44 (by omega) (leaf_all leaf44) (fun _ _ => Tryz.underlying3) hf
  obtain ⟨a', c', hv', _⟩ := id hl
  obtain rfl : v = .slice a len cap := by simpa using hcs
  simp only [Value.slice.injEq] at hv'
  obtain ⟨rfl, rfl, rfl⟩ := hv'
  exact ⟨l, a, cap, rfl, hlc, hcm, hl, hb⟩
end
end Go.Proofs.YtmglbegbijofkaaGreatDoor
