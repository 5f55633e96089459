/- Openings of the laws' own argument types: crafts, spans, places, maps. -/
import Derived.Test.YtmglbegbijofkaaGreatDoorKO
import Derived.Test.YtmglbegbijofkaaGreatDoorW7
set_option linter.unusedVariables false
set_option linter.unusedSimpArgs false
namespace Go.Proofs.YtmglbegbijofkaaGreatDoor
open Go.ChangeShapes Go.WideShapes Go.RowKit Go.Deep
section
variable {H : Type} {enc : TypeId × Value → H} {w : World} {base : Nat} {spare : Nat → Bool} {held : Bool}
theorem list6 {l : List Value} {a0 a1 a2 a3 a4 a5 : Value} (h : l.length = 6) (h0 : l[0]? = some a0) (h1 : l[1]? = some a1) (h2 : l[2]? = some a2) (h3 : l[3]? = some a3) (h4 : l[4]? = some a4) (h5 : l[5]? = some a5) : l = [a0, a1, a2, a3, a4, a5] := by
  match l, h with
  | [c0, c1, c2, c3, c4, c5], _ => simp at h0 h1 h2 h3 h4 h5; simp [*]
theorem cells77 : Tryz.prog.cellsOf 77 = 5 := by kernel_rfl
theorem bytes77 : Tryz.prog.bytesOf 77 = 40 := by kernel_rfl
theorem cells63 : Tryz.prog.cellsOf 63 = 6 := by kernel_rfl
theorem leaf_all {P : Program} {n k : Nat} {e u : TypeId} (h : ((List.range k).all fun j => leafAt P n e j == some u) = true) (j : Nat) (hj : j < k) : leafAt P n e j = some u := by
  have := List.all_eq_true.1 h j (List.mem_range.2 hj)
  simpa using this
theorem leaf77 : ((List.range 5).all fun j => leafAt Tryz.prog 4 77 j == some 3) = true := by kernel_rfl
set_option maxRecDepth 100000 in
theorem open_sights {fuel : Nat} {v : Value} {y : DataW H × List MemPlace} (h : DataW.trod enc Tryz.prog w base spare held fuel 61 [v] = some y) : ∃ ss, SightsAt w v ss ∧ (ss.length = 0 ∨ ∃ more, (ss.length + more) * 40 ∈ y.1.weights Tryz.prog 61) := by
  obtain ⟨a, len, cap, F, hcs, hlc, hcm, hwt, hr⟩ := open_rows_int (L := fun _ => 3) Tryz.underlying61 cells77 (by omega) (leaf_all leaf77) (fun _ _ => Tryz.underlying3) h
  obtain rfl : v = .slice a len cap := by simpa using hcs
  refine ⟨(List.range len).map fun i => ⟨F i 0, F i 1, F i 2, F i 3, F i 4⟩, ⟨a, cap, by simp, ?_⟩, by rw [bytes77] at hwt; simpa using hwt⟩
  rcases hr with h0 | ⟨b, off, rfl, hb, hc⟩
  · exact .inl (by simpa using h0)
  · refine .inr ⟨b, off, rfl, hb, fun i hi => ?_⟩
    have hi' : i < len * 5 := by simpa using hi
    have hq : i / 5 < len := by omega
    have hm : i % 5 < 5 := Nat.mod_lt _ (by omega)
    have h1 := hc (i / 5) (i % 5) hq hm
    have e : i / 5 * 5 + i % 5 = i := by omega
    rw [e] at h1
    rw [h1]
    have hs : sgAt ((List.range len).map fun i => (⟨F i 0, F i 1, F i 2, F i 3, F i 4⟩ : Sight)) (i / 5) = ⟨F (i / 5) 0, F (i / 5) 1, F (i / 5) 2, F (i / 5) 3, F (i / 5) 4⟩ := by simp [sgAt, hq]
    unfold sightF
    rw [hs]
    have : i % 5 = 0 ∨ i % 5 = 1 ∨ i % 5 = 2 ∨ i % 5 = 3 ∨ i % 5 = 4 := by omega
    rcases this with h | h | h | h | h <;> simp [h]
set_option maxRecDepth 100000 in
theorem open_craft {r : Reach} {b0 : Nat} {v : Value} {d : DataW H} {p : List MemPlace} (hv : Value.okWide Tryz.prog w r b0 63 v) (h : DataW.Trod enc Tryz.prog w base spare held 63 v d p) {B : Nat} (hB : ∀ n ∈ d.weights Tryz.prog 63, n ≤ B) :
    ∃ (nm : ByteArray) (speed climb low high : Int) (sv : Value) (ss : List Sight), v = .agg #[.string nm, .int .i64 speed, .int .i64 climb, .int .i64 low, .int .i64 high, sv] ∧ SightsAt w sv ss ∧ nm.size ≤ B ∧ ss.length * 40 ≤ B := by
  obtain ⟨cs, rfl, hsz⟩ := okWide_struct Tryz.underlying63 hv
  obtain ⟨fuel, hf⟩ := h
  obtain ⟨nm, h0, hn⟩ := leaf_string (n := 4) (i := 0) (u := 9) (by kernel_rfl) Tryz.underlying9 hf
  obtain ⟨z1, h1, _⟩ := leaf_int (n := 4) (i := 1) (u := 3) (by kernel_rfl) Tryz.underlying3 hf
  obtain ⟨z2, h2, _⟩ := leaf_int (n := 4) (i := 2) (u := 3) (by kernel_rfl) Tryz.underlying3 hf
  obtain ⟨z3, h3, _⟩ := leaf_int (n := 4) (i := 3) (u := 3) (by kernel_rfl) Tryz.underlying3 hf
  obtain ⟨z4, h4, _⟩ := leaf_int (n := 4) (i := 4) (u := 3) (by kernel_rfl) Tryz.underlying3 hf
  obtain ⟨sv, m, y, h5, hy, hwt⟩ := leaf_trod 4 (i := 5) (u := 61) (by kernel_rfl) hf
  obtain ⟨ss, hss, hl⟩ := open_sights hy
  refine ⟨nm, z1, z2, z3, z4, sv, ss, ?_, hss, hB _ hn, ?_⟩
  rotate_left
  · rcases hl with h0 | ⟨more, hm⟩
    · omega
    · have := hB _ (hwt _ hm); omega
  have hl6 : cs.toList.length = 6 := by simpa [cells63] using hsz
  have := list6 hl6 h0 h1 h2 h3 h4 h5
  rw [show cs = cs.toList.toArray by simp, this]
set_option maxRecDepth 100000 in
theorem trod_int_value {r : Reach} {b0 : Nat} {v : Value} {d : DataW H} {p : List MemPlace} (hv : Value.okWide Tryz.prog w r b0 3 v) (h : DataW.Trod enc Tryz.prog w base spare held 3 v d p) : ∃ z, v = .int .i64 z ∧ (Lit.int .i64 z).wf = true := by
  obtain ⟨z, rfl⟩ := okWide_int Tryz.underlying3 hv
  obtain ⟨fuel, hf⟩ := h
  obtain ⟨z', e, _, hw⟩ := DataW.trod_int Tryz.underlying3 hf
  simp [Value.cells] at e
  subst e
  exact ⟨_, rfl, hw⟩
end
end Go.Proofs.YtmglbegbijofkaaGreatDoor
