/- Openings: slices of impacts, of crafts, of states. -/
import Derived.Test.YtmglbegbijofkaaGreatDoorKQ
import Derived.Test.YtmglbegbijofkaaGreatDoorW41
import Derived.Test.YtmglbegbijofkaaGreatDoorW10
set_option linter.unusedVariables false
set_option linter.unusedSimpArgs false
namespace Go.Proofs.YtmglbegbijofkaaGreatDoor
open Go.ChangeShapes Go.WideShapes Go.RowKit Go.Deep
section
variable {H : Type} {enc : TypeId × Value → H} {w : World} {base : Nat} {spare : Nat → Bool} {held : Bool}
theorem cellsT27 : Tryz.prog.cellsOf 27 = 7 := by kernel_rfl
theorem bytesT27 : Tryz.prog.bytesOf 27 = 56 := by kernel_rfl
theorem cellsT182 : Tryz.prog.cellsOf 182 = 12 := by kernel_rfl
theorem bytesT182 : Tryz.prog.bytesOf 182 = 96 := by kernel_rfl
theorem bytesT63 : Tryz.prog.bytesOf 63 = 72 := by kernel_rfl
theorem cellsT103 : Tryz.prog.cellsOf 103 = 2 := by kernel_rfl
theorem leaf27 : ((List.range 7).all fun j => leafAt Tryz.prog 4 27 j == some 3) = true := by kernel_rfl
theorem leaf182 : ((List.range 12).all fun j => leafAt Tryz.prog 4 182 j == some 3) = true := by kernel_rfl
set_option maxRecDepth 100000 in
theorem slice_trod {t e : TypeId} {r : Reach} {b0 : Nat} {v : Value} {d : DataW H} {p : List MemPlace} (ht : Tryz.prog.underlying t = some (.slice e)) (hv : Value.okWide Tryz.prog w r b0 t v) (h : DataW.Trod enc Tryz.prog w base spare held t v d p) : ∃ fuel, DataW.trod enc Tryz.prog w base spare held fuel t [v] = some (d, p) := by
  obtain ⟨a, len, cap, rfl⟩ := okWide_slice ht hv
  exact h
set_option maxRecDepth 100000 in
theorem open_impactsl {fuel : Nat} {v : Value} {y : DataW H × List MemPlace} (h : DataW.trod enc Tryz.prog w base spare held fuel 82 [v] = some y) : ∃ l, ImpactsAt w v l ∧ (l.length = 0 ∨ ∃ more, (l.length + more) * 56 ∈ y.1.weights Tryz.prog 82) := by
  obtain ⟨a, len, cap, F, hcs, hlc, hcm, hwt, hr⟩ := open_rows_int (L := fun _ => 3) Tryz.underlying82 cellsT27 (by omega) (leaf_all leaf27) (fun _ _ => Tryz.underlying3) h
  obtain rfl : v = .slice a len cap := by simpa using hcs
  refine ⟨(List.range len).map fun i => ⟨F i 0, F i 1, F i 2, F i 3, F i 4, F i 5, F i 6⟩, ⟨a, cap, by simp, ?_⟩, by rw [bytesT27] at hwt; simpa using hwt⟩
  rcases hr with h0 | ⟨b, off, rfl, hb, hc⟩
  · exact .inl (by simpa using h0)
  · refine .inr ⟨b, off, rfl, hb, fun i hi => ?_⟩
    have hi' : i < len * 7 := by simpa using hi
    have hq : i / 7 < len := by omega
    have hm : i % 7 < 7 := Nat.mod_lt _ (by omega)
    have h1 := hc (i / 7) (i % 7) hq hm
    have e : i / 7 * 7 + i % 7 = i := by omega
    rw [e] at h1
    rw [h1]
    have hs : imAt ((List.range len).map fun i => (⟨F i 0, F i 1, F i 2, F i 3, F i 4, F i 5, F i 6⟩ : Impact)) (i / 7) = ⟨F (i / 7) 0, F (i / 7) 1, F (i / 7) 2, F (i / 7) 3, F (i / 7) 4, F (i / 7) 5, F (i / 7) 6⟩ := by simp [imAt, hq]
    unfold impF
    rw [hs]
    have : i % 7 = 0 ∨ i % 7 = 1 ∨ i % 7 = 2 ∨ i % 7 = 3 ∨ i % 7 = 4 ∨ i % 7 = 5 ∨ i % 7 = 6 := by omega
    rcases this with h | h | h | h | h | h | h <;> simp [h]
set_option maxRecDepth 100000 in
theorem open_statesl {fuel : Nat} {v : Value} {y : DataW H × List MemPlace} (h : DataW.trod enc Tryz.prog w base spare held fuel 101 [v] = some y) : ∃ l, StatesAt w v l ∧ (l.length = 0 ∨ ∃ more, (l.length + more) * 96 ∈ y.1.weights Tryz.prog 101) := by
  obtain ⟨a, len, cap, F, hcs, hlc, hcm, hwt, hr⟩ := open_rows_int (L := fun _ => 3) Tryz.underlying101 cellsT182 (by omega) (leaf_all leaf182) (fun _ _ => Tryz.underlying3) h
  obtain rfl : v = .slice a len cap := by simpa using hcs
  refine ⟨(List.range len).map fun i => ⟨F i 0, F i 1, F i 2, F i 3, F i 4, F i 5, F i 6, F i 7, F i 8, F i 9, F i 10, F i 11⟩, ⟨a, cap, by simp, ?_⟩, by rw [bytesT182] at hwt; simpa using hwt⟩
  rcases hr with h0 | ⟨b, off, rfl, hb, hc⟩
  · exact .inl (by simpa using h0)
  · refine .inr ⟨b, off, rfl, hb, fun i hi => ?_⟩
    have hi' : i < len * 12 := by simpa using hi
    have hq : i / 12 < len := by omega
    have hm : i % 12 < 12 := Nat.mod_lt _ (by omega)
    have h1 := hc (i / 12) (i % 12) hq hm
    have e : i / 12 * 12 + i % 12 = i := by omega
    rw [e] at h1
    rw [h1]
    have hs : stAt ((List.range len).map fun i => (⟨F i 0, F i 1, F i 2, F i 3, F i 4, F i 5, F i 6, F i 7, F i 8, F i 9, F i 10, F i 11⟩ : St)) (i / 12) = ⟨F (i / 12) 0, F (i / 12) 1, F (i / 12) 2, F (i / 12) 3, F (i / 12) 4, F (i / 12) 5, F (i / 12) 6, F (i / 12) 7, F (i / 12) 8, F (i / 12) 9, F (i / 12) 10, F (i / 12) 11⟩ := by simp [stAt, hq]
    unfold stF
    rw [hs]
    have : i % 12 = 0 ∨ i % 12 = 1 ∨ i % 12 = 2 ∨ i % 12 = 3 ∨ i % 12 = 4 ∨ i % 12 = 5 ∨ i % 12 = 6 ∨ i % 12 = 7 ∨ i % 12 = 8 ∨ i % 12 = 9 ∨ i % 12 = 10 ∨ i % 12 = 11 := by omega
    rcases this with h | h | h | h | h | h | h | h | h | h | h | h <;> simp [h, St.cs]
set_option maxRecDepth 100000 in
theorem open_flown {r : Reach} {b0 : Nat} {v : Value} {d : DataW H} {p : List MemPlace} (hv : Value.okWide Tryz.prog w r b0 103 v) (h : DataW.Trod enc Tryz.prog w base spare held 103 v d p) {B : Nat} (hB : ∀ n ∈ d.weights Tryz.prog 103, n ≤ B) :
    ∃ (sv : Value) (l : List St) (fr : Int), v = .agg #[sv, .int .i64 fr] ∧ StatesAt w sv l ∧ l.length * 96 ≤ B := by
  obtain ⟨cs, rfl, hsz⟩ := okWide_struct Tryz.underlying103 hv
  obtain ⟨fuel, hf⟩ := h
  obtain ⟨z1, h1, _⟩ := leaf_int (n := 4) (i := 1) (u := 3) (by kernel_rfl) Tryz.underlying3 hf
  obtain ⟨sv, m, y, h0, hy, hwt⟩ := leaf_trod 4 (i := 0) (u := 101) (by kernel_rfl) hf
  obtain ⟨l, hl, hw⟩ := open_statesl hy
  refine ⟨sv, l, z1, ?_, hl, ?_⟩
  · have h2 : cs.toList.length = 2 := by simpa [cellsT103] using hsz
    have : cs.toList = [sv, .int .i64 z1] := by
      have h0' : cs.toList[0]? = some sv := h0
      have h1' : cs.toList[1]? = some (.int .i64 z1) := h1
      generalize cs.toList = q at *
      match q, h2 with
      | [c0, c1], _ => simp at h0' h1'; simp [*]
    rw [show cs = cs.toList.toArray by simp, this]
  · rcases hw with h0 | ⟨more, hm⟩
    · omega
    · have := hB _ (hwt _ hm); omega
set_option maxRecDepth 100000 in
theorem open_impacts {r : Reach} {b0 : Nat} {v : Value} {d : DataW H} {p : List MemPlace} (hv : Value.okWide Tryz.prog w r b0 82 v) (h : DataW.Trod enc Tryz.prog w base spare held 82 v d p) {B : Nat} (hB : ∀ n ∈ d.weights Tryz.prog 82, n ≤ B) :
    ∃ l : List Impact, ImpactsAt w v l ∧ l.length * 56 ≤ B := by
  obtain ⟨fuel, hf⟩ := slice_trod Tryz.underlying82 hv h
  obtain ⟨l, hl, hw⟩ := open_impactsl hf
  refine ⟨l, hl, ?_⟩
  rcases hw with h0 | ⟨more, hm⟩
  · omega
  · have := hB _ hm; omega
set_option maxRecDepth 100000 in
theorem open_crafts {r : Reach} {b0 : Nat} {v : Value} {d : DataW H} {p : List MemPlace} (hv : Value.okWide Tryz.prog w r b0 83 v) (h : DataW.Trod enc Tryz.prog w base spare held 83 v d p) {B : Nat} (hB : ∀ n ∈ d.weights Tryz.prog 83, n ≤ B) (hB2 : B ≤ 9223372036854775806) :
    ∃ l : List Craft, CraftsAt w v l ∧ l.length * 72 ≤ B := by
  obtain ⟨fuel, hf⟩ := slice_trod Tryz.underlying83 hv h
  let L : Nat → TypeId := fun j => if j = 0 then 9 else if j = 5 then 61 else 3
  have hL : ∀ j, j < 6 → leafAt Tryz.prog 4 63 j = some (L j) := fun j hj => by
    have : j = 0 ∨ j = 1 ∨ j = 2 ∨ j = 3 ∨ j = 4 ∨ j = 5 := by omega
    rcases this with rfl | rfl | rfl | rfl | rfl | rfl
    all_goals (show leafAt Tryz.prog 4 63 _ = some _; kernel_rfl)
  obtain ⟨a, len, cap, hcs, hlc, hcm, hwt, hr⟩ := open_rows (L := L) Tryz.underlying83 cells63 (by omega) hL hf
  obtain rfl : v = .slice a len cap := by simpa using hcs
  have hlen : len * 72 ≤ B := by
    rcases hwt with h0 | ⟨more, hm⟩
    · omega
    · rw [bytesT63] at hm; have := hB _ hm; omega
  rcases hr with h0 | ⟨b, off, rfl, hb, hc⟩
  · subst h0
    exact ⟨[], ⟨⟨a, cap, rfl, .inl rfl⟩, fun k hk => by simp at hk, fun k hk => by simp at hk, fun k hk => by simp at hk⟩, by simp⟩
  · have key : ∀ i, ∃ C : Craft, i < len → (w.cell? ⟨b, off + (i * 6 + 0), none⟩ = some (.string C.nm) ∧ w.cell? ⟨b, off + (i * 6 + 1), none⟩ = some (.int .i64 C.sp) ∧ w.cell? ⟨b, off + (i * 6 + 2), none⟩ = some (.int .i64 C.cl) ∧ w.cell? ⟨b, off + (i * 6 + 3), none⟩ = some (.int .i64 C.lo) ∧ w.cell? ⟨b, off + (i * 6 + 4), none⟩ = some (.int .i64 C.hi) ∧ w.cell? ⟨b, off + (i * 6 + 5), none⟩ = some C.v) ∧ SightsAt w C.v C.ss ∧ C.nm.size ≤ 9223372036854775806 ∧ C.ss.length ≤ 9223372036854775806 := fun i => by
      by_cases hi : i < len
      · obtain ⟨v0, m0, y0, c0, t0, w0⟩ := hc i 0 hi (by omega)
        obtain ⟨v1, m1, y1, c1, t1, w1⟩ := hc i 1 hi (by omega)
        obtain ⟨v2, m2, y2, c2, t2, w2⟩ := hc i 2 hi (by omega)
        obtain ⟨v3, m3, y3, c3, t3, w3⟩ := hc i 3 hi (by omega)
        obtain ⟨v4, m4, y4, c4, t4, w4⟩ := hc i 4 hi (by omega)
        obtain ⟨v5, m5, y5, c5, t5, w5⟩ := hc i 5 hi (by omega)
        obtain ⟨s, e0, hs, _⟩ := DataW.trod_string Tryz.underlying9 t0
        obtain ⟨z1, e1, _, _⟩ := DataW.trod_int Tryz.underlying3 t1
        obtain ⟨z2, e2, _, _⟩ := DataW.trod_int Tryz.underlying3 t2
        obtain ⟨z3, e3, _, _⟩ := DataW.trod_int Tryz.underlying3 t3
        obtain ⟨z4, e4, _, _⟩ := DataW.trod_int Tryz.underlying3 t4
        obtain ⟨ss, hss, hsl⟩ := open_sights t5
        simp only [List.cons.injEq, and_true] at e0 e1 e2 e3 e4
        subst e0 e1 e2 e3 e4
        refine ⟨⟨s, z1, z2, z3, z4, v5, ss⟩, fun _ => ⟨⟨c0, c1, c2, c3, c4, c5⟩, hss, ?_, ?_⟩⟩
        · have := hB _ (w0 s.size (by rw [hs]; simp [DataW.weights])); simp only; omega
        · rcases hsl with h0 | ⟨more, hm⟩
          · simp only; omega
          · have := hB _ (w5 _ hm); simp only; omega
      · exact ⟨Craft.zero, fun h => absurd h hi⟩
    have key2 : ∃ F : Nat → Craft, ∀ i, i < len → (w.cell? ⟨b, off + (i * 6 + 0), none⟩ = some (.string (F i).nm) ∧ w.cell? ⟨b, off + (i * 6 + 1), none⟩ = some (.int .i64 (F i).sp) ∧ w.cell? ⟨b, off + (i * 6 + 2), none⟩ = some (.int .i64 (F i).cl) ∧ w.cell? ⟨b, off + (i * 6 + 3), none⟩ = some (.int .i64 (F i).lo) ∧ w.cell? ⟨b, off + (i * 6 + 4), none⟩ = some (.int .i64 (F i).hi) ∧ w.cell? ⟨b, off + (i * 6 + 5), none⟩ = some (F i).v) ∧ SightsAt w (F i).v (F i).ss ∧ (F i).nm.size ≤ 9223372036854775806 ∧ (F i).ss.length ≤ 9223372036854775806 := ⟨fun i => Classical.choose (key i), fun i hi => Classical.choose_spec (key i) hi⟩
    obtain ⟨F, hF⟩ := key2
    have hat : ∀ k, k < len → crAt ((List.range len).map F) k = F k := fun k hk => by simp [crAt, hk]
    refine ⟨(List.range len).map F, ⟨⟨_, cap, by simp, .inr ⟨b, off, rfl, hb, fun i hi => ?_⟩⟩, fun k hk => ?_, fun k hk => ?_, fun k hk => ?_⟩, by simpa using hlen⟩
    · have hi' : i < len * 6 := by simpa using hi
      have hq : i / 6 < len := by omega
      obtain ⟨⟨f0, f1, f2, f3, f4, f5⟩, _⟩ := hF (i / 6) hq
      unfold crF
      rw [hat _ hq]
      have : i % 6 = 0 ∨ i % 6 = 1 ∨ i % 6 = 2 ∨ i % 6 = 3 ∨ i % 6 = 4 ∨ i % 6 = 5 := by omega
      rcases this with h | h | h | h | h | h
      · have e : i / 6 * 6 + 0 = i := by omega
        rw [e] at f0
        rw [f0]; simp [h]
      · have e : i / 6 * 6 + 1 = i := by omega
        rw [e] at f1
        rw [f1]; simp [h]
      · have e : i / 6 * 6 + 2 = i := by omega
        rw [e] at f2
        rw [f2]; simp [h]
      · have e : i / 6 * 6 + 3 = i := by omega
        rw [e] at f3
        rw [f3]; simp [h]
      · have e : i / 6 * 6 + 4 = i := by omega
        rw [e] at f4
        rw [f4]; simp [h]
      · have e : i / 6 * 6 + 5 = i := by omega
        rw [e] at f5
        rw [f5]; simp [h]
    · have hk' : k < len := by simpa using hk
      rw [hat k hk']; exact (hF k hk').2.1
    · have hk' : k < len := by simpa using hk
      rw [hat k hk']; exact (hF k hk').2.2.1
    · have hk' : k < len := by simpa using hk
      rw [hat k hk']; exact (hF k hk').2.2.2
end
end Go.Proofs.YtmglbegbijofkaaGreatDoor
