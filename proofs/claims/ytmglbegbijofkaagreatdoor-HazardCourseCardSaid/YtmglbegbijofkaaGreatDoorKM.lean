/- Openings: a course, by its moves. -/
import Derived.Test.YtmglbegbijofkaaGreatDoorKZ
import Derived.Test.YtmglbegbijofkaaGreatDoorWA
set_option linter.unusedVariables false
set_option linter.unusedSimpArgs false
namespace Go.Proofs.YtmglbegbijofkaaGreatDoor
open Go.ChangeShapes Go.WideShapes Go.RowKit Go.Deep
section
variable {H : Type} {enc : TypeId × Value → H} {w : World} {base : Nat} {spare : Nat → Bool} {held : Bool}
theorem list5 {l : List Value} {a0 a1 a2 a3 a4 : Value} (h : l.length = 5) (h0 : l[0]? = some a0) (h1 : l[1]? = some a1) (h2 : l[2]? = some a2) (h3 : l[3]? = some a3) (h4 : l[4]? = some a4) : l = [a0, a1, a2, a3, a4] := by
  match l, h with
  | [c0, c1, c2, c3, c4], _ => simp at h0 h1 h2 h3 h4; simp [*]
theorem cellsT75 : Tryz.prog.cellsOf 75 = 3 := by kernel_rfl
theorem bytesT75 : Tryz.prog.bytesOf 75 = 3 := by kernel_rfl
theorem cellsT71 : Tryz.prog.cellsOf 71 = 5 := by kernel_rfl
theorem leaf75 : ((List.range 3).all fun j => leafAt Tryz.prog 4 75 j == some 74) = true := by kernel_rfl
theorem i8_bd {z : Int} (h : (Lit.int .i8 z).wf = true) : -128 ≤ z ∧ z ≤ 127 := by
  have h1 := (Lit.wf_int_iff .i8 z).1 h
  have e1 : IntKind.i8.min = -128 := by decide
  have e2 : IntKind.i8.max = 127 := by decide
  omega
set_option maxRecDepth 100000 in
theorem open_moves {fuel : Nat} {v : Value} {y : DataW H × List MemPlace} (h : DataW.trod enc Tryz.prog w base spare held fuel 69 [v] = some y) :
    ∃ M, MvsAt w v M ∧ MvOK M ∧ (M.length = 0 ∨ ∃ more, (M.length + more) * 3 ∈ y.1.weights Tryz.prog 69) := by
  obtain ⟨a, len, cap, hcs, hlc, hcm, hwt, hr⟩ := open_rows (L := fun _ => 74) Tryz.underlying69 cellsT75 (by omega) (leaf_all leaf75) h
  obtain rfl : v = .slice a len cap := by simpa using hcs
  rw [bytesT75] at hwt
  rcases hr with h0 | ⟨b, off, rfl, hb, hc⟩
  · subst h0
    exact ⟨[], ⟨a, cap, rfl, .inl rfl⟩, fun k => by simp [mvAt], .inl rfl⟩
  · have key : ∀ i j, ∃ z : Int, (i < len → j < 3 → w.cell? ⟨b, off + (i * 3 + j), none⟩ = some (.int .i8 z)) ∧ -128 ≤ z ∧ z ≤ 127 := fun i j => by
      by_cases hi : i < len ∧ j < 3
      · obtain ⟨v, m, y, hv, hy, _⟩ := hc i j hi.1 hi.2
        obtain ⟨z, hz, _, hw⟩ := DataW.trod_int Tryz.underlying74 hy
        exact ⟨z, fun _ _ => by rw [hv]; cases hz; rfl, i8_bd hw⟩
      · exact ⟨0, fun h1 h2 => absurd ⟨h1, h2⟩ hi, by omega, by omega⟩
    have key2 : ∃ F : Nat → Nat → Int, ∀ i j, (i < len → j < 3 → w.cell? ⟨b, off + (i * 3 + j), none⟩ = some (.int .i8 (F i j))) ∧ -128 ≤ F i j ∧ F i j ≤ 127 := ⟨fun i j => Classical.choose (key i j), fun i j => Classical.choose_spec (key i j)⟩
    obtain ⟨F, hF⟩ := key2
    have hat : ∀ i, i < len → mvAt ((List.range len).map fun i => (F i 0, F i 1, F i 2)) i = (F i 0, F i 1, F i 2) := fun i hi => by simp [mvAt, hi]
    refine ⟨(List.range len).map fun i => (F i 0, F i 1, F i 2), ⟨_, cap, by simp, .inr ⟨b, off, rfl, hb, fun i hi => ?_⟩⟩, fun k => ?_, by simpa using hwt⟩
    · have hi' : i < len * 3 := by simpa using hi
      have hq : i / 3 < len := by omega
      have hm : i % 3 < 3 := Nat.mod_lt _ (by omega)
      have h1 := (hF (i / 3) (i % 3)).1 hq hm
      have e : i / 3 * 3 + i % 3 = i := by omega
      rw [e] at h1
      rw [h1]
      unfold mvF
      rw [hat _ hq]
      have : i % 3 = 0 ∨ i % 3 = 1 ∨ i % 3 = 2 := by omega
      rcases this with h | h | h <;> simp [h]
    · by_cases hk : k < len
      · rw [hat k hk]
        exact ⟨(hF k 0).2, (hF k 1).2, (hF k 2).2⟩
      · have e : mvAt ((List.range len).map fun i => (F i 0, F i 1, F i 2)) k = (0, 0, 0) := by
          simp [mvAt, hk]
        rw [e]
        decide
set_option maxRecDepth 100000 in
theorem open_course {r : Reach} {b0 : Nat} {v : Value} {d : DataW H} {p : List MemPlace} (hv : Value.okWide Tryz.prog w r b0 71 v) (h : DataW.Trod enc Tryz.prog w base spare held 71 v d p) {B : Nat} (hB : ∀ n ∈ d.weights Tryz.prog 71, n ≤ B) :
    ∃ (fr sx sy h0 : Int) (mv : Value) (M : List (Int × Int × Int)), v = .agg #[.int .i64 fr, .int .i64 sx, .int .i64 sy, .int .i64 h0, mv] ∧ MvsAt w mv M ∧ MvOK M ∧ M.length * 3 ≤ B := by
  obtain ⟨cs, rfl, hsz⟩ := okWide_struct Tryz.underlying71 hv
  obtain ⟨fuel, hf⟩ := h
  obtain ⟨z1, h1, _⟩ := leaf_int (n := 4) (i := 0) (u := 3) (by kernel_rfl) Tryz.underlying3 hf
  obtain ⟨z2, h2, _⟩ := leaf_int (n := 4) (i := 1) (u := 3) (by kernel_rfl) Tryz.underlying3 hf
  obtain ⟨z3, h3, _⟩ := leaf_int (n := 4) (i := 2) (u := 3) (by kernel_rfl) Tryz.underlying3 hf
  obtain ⟨z4, h4, _⟩ := leaf_int (n := 4) (i := 3) (u := 3) (by kernel_rfl) Tryz.underlying3 hf
  obtain ⟨mv, m, y, h5, hy, hwt⟩ := leaf_trod 4 (i := 4) (u := 69) (by kernel_rfl) hf
  obtain ⟨M, hM, hMO, hl⟩ := open_moves hy
  refine ⟨z1, z2, z3, z4, mv, M, ?_, hM, hMO, ?_⟩
  rotate_left
  · rcases hl with h0 | ⟨more, hm⟩
    · omega
    · have := hB _ (hwt _ hm); omega
  have hl5 : cs.toList.length = 5 := by simpa [cellsT71] using hsz
  have := list5 hl5 h1 h2 h3 h4 h5
  rw [show cs = cs.toList.toArray by simp, this]
end
end Go.Proofs.YtmglbegbijofkaaGreatDoor
