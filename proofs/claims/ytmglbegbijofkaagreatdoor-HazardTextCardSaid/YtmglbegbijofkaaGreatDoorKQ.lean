/- Openings: structs of integers by value, slices of integers, maps. -/
import Derived.Test.YtmglbegbijofkaaGreatDoorKP
set_option linter.unusedVariables false
set_option linter.unusedSimpArgs false
namespace Go.Proofs.YtmglbegbijofkaaGreatDoor
open Go.ChangeShapes Go.WideShapes Go.RowKit Go.Deep
section
variable {H : Type} {enc : TypeId × Value → H} {w : World} {base : Nat} {spare : Nat → Bool} {held : Bool}
theorem list_of_get {k : Nat} {l : List Value} {F : Nat → Value} (hl : l.length = k) (h : ∀ i, i < k → l[i]? = some (F i)) : l = (List.range k).map F := by
  apply List.ext_getElem?
  intro i
  by_cases hi : i < k
  · rw [h i hi]; simp [hi]
  · rw [List.getElem?_eq_none (by omega), List.getElem?_eq_none (by simp; omega)]
set_option maxRecDepth 100000 in
theorem open_aggints {k n : Nat} {r : Reach} {b0 : Nat} {t : TypeId} {fs : Array Field} {v : Value} {d : DataW H} {p : List MemPlace} (hs : Tryz.prog.underlying t = some (.struct fs)) (hC : Tryz.prog.cellsOf t = k)
    (hl : ((List.range k).all fun j => leafAt Tryz.prog n t j == some 3) = true) (hv : Value.okWide Tryz.prog w r b0 t v) (h : DataW.Trod enc Tryz.prog w base spare held t v d p) :
    ∃ F : Nat → Int, v = .agg ((List.range k).map fun i => Value.int .i64 (F i)).toArray := by
  obtain ⟨cs, rfl, hsz⟩ := okWide_struct hs hv
  obtain ⟨fuel, hf⟩ := h
  have key : ∀ i, ∃ z : Int, i < k → cs.toList[i]? = some (.int .i64 z) := fun i => by
    by_cases hi : i < k
    · obtain ⟨z, hz, _⟩ := leaf_int (leaf_all hl i hi) Tryz.underlying3 hf
      exact ⟨z, fun _ => hz⟩
    · exact ⟨0, fun h => absurd h hi⟩
  have key2 : ∃ F : Nat → Int, ∀ i, i < k → cs.toList[i]? = some (.int .i64 (F i)) := ⟨fun i => Classical.choose (key i), fun i hi => Classical.choose_spec (key i) hi⟩
  obtain ⟨F, hF⟩ := key2
  refine ⟨F, ?_⟩
  have := list_of_get (l := cs.toList) (F := fun i => Value.int .i64 (F i)) (by simpa [hC] using hsz) hF
  rw [← this]
theorem leaf25 : ((List.range 4).all fun j => leafAt Tryz.prog 4 25 j == some 3) = true := by kernel_rfl
theorem leaf39 : ((List.range 2).all fun j => leafAt Tryz.prog 4 39 j == some 3) = true := by kernel_rfl
theorem cellsT25 : Tryz.prog.cellsOf 25 = 4 := by kernel_rfl
theorem cellsT39 : Tryz.prog.cellsOf 39 = 2 := by kernel_rfl
theorem cellsT42 : Tryz.prog.cellsOf 42 = 6 := by kernel_rfl
theorem cellsT3 : Tryz.prog.cellsOf 3 = 1 := by kernel_rfl
theorem bytesT3 : Tryz.prog.bytesOf 3 = 8 := by kernel_rfl
theorem leaf3 : ((List.range 1).all fun j => leafAt Tryz.prog 4 3 j == some 3) = true := by kernel_rfl
set_option maxRecDepth 100000 in
theorem open_area {r : Reach} {b0 : Nat} {v : Value} {d : DataW H} {p : List MemPlace} (hv : Value.okWide Tryz.prog w r b0 25 v) (h : DataW.Trod enc Tryz.prog w base spare held 25 v d p) : ∃ a b c e : Int, v = .agg #[.int .i64 a, .int .i64 b, .int .i64 c, .int .i64 e] := by
  obtain ⟨F, rfl⟩ := open_aggints Tryz.underlying25 cellsT25 leaf25 hv h
  exact ⟨F 0, F 1, F 2, F 3, rfl⟩
set_option maxRecDepth 100000 in
theorem open_place {r : Reach} {b0 : Nat} {v : Value} {d : DataW H} {p : List MemPlace} (hv : Value.okWide Tryz.prog w r b0 39 v) (h : DataW.Trod enc Tryz.prog w base spare held 39 v d p) : ∃ a b : Int, v = .agg #[.int .i64 a, .int .i64 b] := by
  obtain ⟨F, rfl⟩ := open_aggints Tryz.underlying39 cellsT39 leaf39 hv h
  exact ⟨F 0, F 1, rfl⟩
set_option maxRecDepth 100000 in
theorem open_intsl {fuel : Nat} {v : Value} {y : DataW H × List MemPlace} (h : DataW.trod enc Tryz.prog w base spare held fuel 40 [v] = some y) : ∃ zs, IntsAt w v zs ∧ (zs.length = 0 ∨ ∃ more, (zs.length + more) * 8 ∈ y.1.weights Tryz.prog 40) := by
  obtain ⟨a, len, cap, F, hcs, hlc, hcm, hwt, hr⟩ := open_rows_int (L := fun _ => 3) Tryz.underlying40 cellsT3 (by omega) (leaf_all leaf3) (fun _ _ => Tryz.underlying3) h
  obtain rfl : v = .slice a len cap := by simpa using hcs
  refine ⟨(List.range len).map fun i => F i 0, ⟨a, cap, by simp, ?_⟩, by rw [bytesT3] at hwt; simpa using hwt⟩
  rcases hr with h0 | ⟨b, off, rfl, hb, hc⟩
  · exact .inl (by simpa using h0)
  · refine .inr ⟨b, off, rfl, hb, fun i hi => ?_⟩
    have hi' : i < len := by simpa using hi
    have h1 := hc i 0 hi' (by omega)
    rw [show i * 1 + 0 = i by omega] at h1
    rw [h1]
    simp [intF, hi']
set_option maxRecDepth 100000 in
theorem open_map {r : Reach} {b0 : Nat} {v : Value} {d : DataW H} {p : List MemPlace} (hv : Value.okWide Tryz.prog w r b0 42 v) (h : DataW.Trod enc Tryz.prog w base spare held 42 v d p) {B : Nat} (hB : ∀ n ∈ d.weights Tryz.prog 42, n ≤ B) :
    ∃ (cx cy size cols rows : Int) (pv : Value) (zs : List Int), v = .agg #[.int .i64 cx, .int .i64 cy, .int .i64 size, .int .i64 cols, .int .i64 rows, pv] ∧ IntsAt w pv zs ∧ zs.length * 8 ≤ B := by
  obtain ⟨cs, rfl, hsz⟩ := okWide_struct Tryz.underlying42 hv
  obtain ⟨fuel, hf⟩ := h
  obtain ⟨z0, h0, _⟩ := leaf_int (n := 4) (i := 0) (u := 3) (by kernel_rfl) Tryz.underlying3 hf
  obtain ⟨z1, h1, _⟩ := leaf_int (n := 4) (i := 1) (u := 3) (by kernel_rfl) Tryz.underlying3 hf
  obtain ⟨z2, h2, _⟩ := leaf_int (n := 4) (i := 2) (u := 3) (by kernel_rfl) Tryz.underlying3 hf
  obtain ⟨z3, h3, _⟩ := leaf_int (n := 4) (i := 3) (u := 3) (by kernel_rfl) Tryz.underlying3 hf
  obtain ⟨z4, h4, _⟩ := leaf_int (n := 4) (i := 4) (u := 3) (by kernel_rfl) Tryz.underlying3 hf
  obtain ⟨sv, m, y, h5, hy, hwt⟩ := leaf_trod 4 (i := 5) (u := 40) (by kernel_rfl) hf
  obtain ⟨zs, hss, hl⟩ := open_intsl hy
  refine ⟨z0, z1, z2, z3, z4, sv, zs, ?_, hss, ?_⟩
  rotate_left
  · rcases hl with h0 | ⟨more, hm⟩
    · omega
    · have := hB _ (hwt _ hm); omega
  have hl6 : cs.toList.length = 6 := by simpa [cellsT42] using hsz
  have := list6 hl6 h0 h1 h2 h3 h4 h5
  rw [show cs = cs.toList.toArray by simp, this]
end
end Go.Proofs.YtmglbegbijofkaaGreatDoor
