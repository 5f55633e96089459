import Derived.Test.YtmglbegbijofkaaGreatDoorKY
import Derived.Test.YtmglbegbijofkaaGreatDoorW15
import Derived.DataShut
import Derived.Test.YtmglbegbijofkaaGreatDoorW87
set_option linter.unusedVariables false
set_option linter.unusedSimpArgs false
/- Openings: a string; what a small bulk says of it. -/
namespace Go.Proofs.YtmglbegbijofkaaGreatDoor
open Go.ChangeShapes Go.WideShapes Go.RowKit Go.Deep
section
variable {H : Type} {enc : TypeId × Value → H} {w : World} {base : Nat} {spare : Nat → Bool} {held : Bool}
set_option maxRecDepth 100000 in
theorem open_str {r : Reach} {b0 : Nat} {v : Value} {d : DataW H} {p : List MemPlace} (hv : Value.okWide Tryz.prog w r b0 9 v) (h : DataW.Trod enc Tryz.prog w base spare held 9 v d p) :
    ∃ s : ByteArray, v = .string s ∧ d = .lit (.string s.data.toList) := by
  obtain ⟨s, rfl⟩ := okWide_string Tryz.underlying9 hv
  obtain ⟨fuel, hf⟩ := h
  have hf' : DataW.trod enc Tryz.prog w base spare held fuel 9 [.string s] = some (d, p) := hf
  obtain ⟨s', e, hd, _⟩ := DataW.trod_string Tryz.underlying9 hf'
  simp only [List.cons.injEq, Value.string.injEq, and_true] at e
  subst e
  exact ⟨s, rfl, congrArg Prod.fst hd⟩
theorem upto_str {s : ByteArray} (h : Rows.uptoSmall H ([.lit (.string s.data.toList)] ++ []) = true) : s.size ≤ 1048576 := by
  unfold Rows.uptoSmall at h
  simp [Rows.uptoBulkAll, Rows.uptoBulk] at h
  omega
end
end Go.Proofs.YtmglbegbijofkaaGreatDoor
/- Openings: spreads, cases, laws, slices and arrays of small numbers, arrays of integers. -/
namespace Go.Proofs.YtmglbegbijofkaaGreatDoor
open Go.ChangeShapes Go.WideShapes Go.RowKit Go.Deep
section
variable {H : Type} {enc : TypeId × Value → H} {w : World} {base : Nat} {spare : Nat → Bool} {held : Bool}
theorem cellsT121 : Tryz.prog.cellsOf 121 = 2 := by kernel_rfl
theorem bytesT121 : Tryz.prog.bytesOf 121 = 16 := by kernel_rfl
theorem cellsT44 : Tryz.prog.cellsOf 44 = 2 := by kernel_rfl
theorem bytesT44 : Tryz.prog.bytesOf 44 = 16 := by kernel_rfl
theorem cellsT49 : Tryz.prog.cellsOf 49 = 9 := by kernel_rfl
theorem cellsT50 : Tryz.prog.cellsOf 50 = 1 := by kernel_rfl
theorem bytesT50 : Tryz.prog.bytesOf 50 = 2 := by kernel_rfl
theorem cellsT51 : Tryz.prog.cellsOf 51 = 4 := by kernel_rfl
theorem cellsT28 : Tryz.prog.cellsOf 28 = 3 := by kernel_rfl
theorem leaf121 : ((List.range 2).all fun j => leafAt Tryz.prog 4 121 j == some 3) = true := by kernel_rfl
theorem leaf44 : ((List.range 2).all fun j => leafAt Tryz.prog 4 44 j == some 3) = true := by kernel_rfl
theorem leaf50 : ((List.range 1).all fun j => leafAt Tryz.prog 4 50 j == some 50) = true := by kernel_rfl
theorem leaf51 : ((List.range 4).all fun j => leafAt Tryz.prog 4 51 j == some 50) = true := by kernel_rfl
theorem leaf28 : ((List.range 3).all fun j => leafAt Tryz.prog 4 28 j == some 3) = true := by kernel_rfl
theorem u16_bd {z : Int} (h : (Lit.int .u16 z).wf = true) : 0 ≤ z ∧ z ≤ 65535 := by
  have h1 := (Lit.wf_int_iff .u16 z).1 h
  have e1 : IntKind.u16.min = 0 := by decide
  have e2 : IntKind.u16.max = 65535 := by decide
  omega
theorem okWide_arr {P : Program} {r : Reach} {b0 n : Nat} {t e : TypeId} {v : Value} (ht : P.underlying t = some (.array n e)) (h : Value.okWide P w r b0 t v) : ∃ cs, v = .agg cs ∧ cs.size = P.cellsOf t := by
  simp only [Value.okWide, ht] at h
  obtain ⟨cs, h1, h2, _⟩ := h
  exact ⟨cs, h1, h2⟩
set_option maxRecDepth 100000 in
theorem open_pairsl {t e : TypeId} (ht : Tryz.prog.underlying t = some (.slice e)) (hC : Tryz.prog.cellsOf e = 2) (hb8 : Tryz.prog.bytesOf e = 16) (hl : ((List.range 2).all fun j => leafAt Tryz.prog 4 e j == some 3) = true) {fuel : Nat} {v : Value} {y : DataW H × List MemPlace} (h : DataW.trod enc Tryz.prog w base spare held fuel t [v] = some y) : ∃ l, SpansAt w v l ∧ (l.length = 0 ∨ ∃ more, (l.length + more) * 16 ∈ y.1.weights Tryz.prog t) := by
  obtain ⟨a, len, cap, F, hcs, hlc, hcm, hwt, hr⟩ := open_rows_int (L := fun _ => 3) ht hC (by omega) (leaf_all hl) (fun _ _ => Tryz.underlying3) h
  obtain rfl : v = .slice a len cap := by simpa using hcs
  refine ⟨(List.range len).map fun i => (F i 0, F i 1), ⟨a, cap, by simp, ?_⟩, by rw [hb8] at hwt; simpa using hwt⟩
  rcases hr with h0 | ⟨b, off, rfl, hb, hc⟩
  · exact .inl (by simpa using h0)
  · refine .inr ⟨b, off, rfl, hb, fun i hi => ?_⟩
    have hi' : i < len * 2 := by simpa using hi
    have hq : i / 2 < len := by omega
    have hm : i % 2 < 2 := Nat.mod_lt _ (by omega)
    have h1 := hc (i / 2) (i % 2) hq hm
    have e : i / 2 * 2 + i % 2 = i := by omega
    rw [e] at h1
    rw [h1]
    unfold spanF
    have : i % 2 = 0 ∨ i % 2 = 1 := by omega
    rcases this with h | h <;> simp [h, hq]
set_option maxRecDepth 100000 in
theorem list9 {l : List Value} {a0 a1 a2 a3 a4 a5 a6 a7 a8 : Value} (h : l.length = 9) (h0 : l[0]? = some a0) (h1 : l[1]? = some a1) (h2 : l[2]? = some a2) (h3 : l[3]? = some a3) (h4 : l[4]? = some a4) (h5 : l[5]? = some a5) (h6 : l[6]? = some a6) (h7 : l[7]? = some a7) (h8 : l[8]? = some a8) : l = [a0, a1, a2, a3, a4, a5, a6, a7, a8] := by
  match l, h with
  | [c0, c1, c2, c3, c4, c5, c6, c7, c8], _ => simp at h0 h1 h2 h3 h4 h5 h6 h7 h8; simp [*]
set_option maxRecDepth 100000 in
theorem open_case {r : Reach} {b0 : Nat} {v : Value} {d : DataW H} {p : List MemPlace} (hv : Value.okWide Tryz.prog w r b0 49 v) (h : DataW.Trod enc Tryz.prog w base spare held 49 v d p) {B : Nat} (hB : ∀ n ∈ d.weights Tryz.prog 49, n ≤ B) :
    ∃ (xl xh yl yh lethal cap : Int) (sv : Value) (out price : Int) (ps : List (Int × Int)), v = .agg #[.int .i64 xl, .int .i64 xh, .int .i64 yl, .int .i64 yh, .int .i64 lethal, .int .i64 cap, sv, .int .i64 out, .int .i64 price] ∧ SpansAt w sv ps ∧ ps.length * 16 ≤ B ∧ (Lit.int .i64 cap).wf = true ∧ (Lit.int .i64 out).wf = true ∧ (Lit.int .i64 price).wf = true := by
  obtain ⟨cs, rfl, hsz⟩ := okWide_struct Tryz.underlying49 hv
  obtain ⟨fuel, hf⟩ := h
  obtain ⟨z0, h0, _⟩ := leaf_int (n := 4) (i := 0) (u := 3) (by kernel_rfl) Tryz.underlying3 hf
  obtain ⟨z1, h1, _⟩ := leaf_int (n := 4) (i := 1) (u := 3) (by kernel_rfl) Tryz.underlying3 hf
  obtain ⟨z2, h2, _⟩ := leaf_int (n := 4) (i := 2) (u := 3) (by kernel_rfl) Tryz.underlying3 hf
  obtain ⟨z3, h3, _⟩ := leaf_int (n := 4) (i := 3) (u := 3) (by kernel_rfl) Tryz.underlying3 hf
  obtain ⟨z4, h4, _⟩ := leaf_int (n := 4) (i := 4) (u := 3) (by kernel_rfl) Tryz.underlying3 hf
  obtain ⟨z5, h5, w5⟩ := leaf_int (n := 4) (i := 5) (u := 3) (by kernel_rfl) Tryz.underlying3 hf
  obtain ⟨z7, h7, w7⟩ := leaf_int (n := 4) (i := 7) (u := 3) (by kernel_rfl) Tryz.underlying3 hf
  obtain ⟨z8, h8, w8⟩ := leaf_int (n := 4) (i := 8) (u := 3) (by kernel_rfl) Tryz.underlying3 hf
  obtain ⟨sv, m, y, h6, hy, hwt⟩ := leaf_trod 4 (i := 6) (u := 45) (by kernel_rfl) hf
  obtain ⟨l, hl, hw⟩ := open_pairsl Tryz.underlying45 cellsT121 bytesT121 leaf121 hy
  refine ⟨z0, z1, z2, z3, z4, z5, sv, z7, z8, l, ?_, hl, ?_, w5, w7, w8⟩
  · have hl9 : cs.toList.length = 9 := by simpa [cellsT49] using hsz
    have := list9 hl9 h0 h1 h2 h3 h4 h5 h6 h7 h8
    rw [show cs = cs.toList.toArray by simp, this]
  · rcases hw with h0 | ⟨more, hm⟩
    · omega
    · have := hB _ (hwt _ hm); omega
set_option maxRecDepth 100000 in
theorem open_laws {r : Reach} {b0 : Nat} {v : Value} {d : DataW H} {p : List MemPlace} (hv : Value.okWide Tryz.prog w r b0 92 v) (h : DataW.Trod enc Tryz.prog w base spare held 92 v d p) {B : Nat} (hB : ∀ n ∈ d.weights Tryz.prog 92, n ≤ B) :
    ∃ l : List (Int × Int), SpansAt w v l ∧ l.length * 16 ≤ B := by
  obtain ⟨a, len, cap, rfl⟩ := okWide_slice Tryz.underlying92 hv
  obtain ⟨fuel, hf⟩ := h
  obtain ⟨l, hl, hw⟩ := open_pairsl Tryz.underlying92 cellsT44 bytesT44 leaf44 hf
  refine ⟨l, hl, ?_⟩
  rcases hw with h0 | ⟨more, hm⟩
  · omega
  · have := hB _ hm; omega
/-- a slice of numbers of 16 bits -/
def u16F (ws : List Int) (i : Nat) : Value := .int .u16 (ws[i]?.getD 0)
abbrev WordsAt (w : World) (v : Value) (ws : List Int) : Prop := RowAt w v ws.length 1 (u16F ws)
set_option maxRecDepth 100000 in
theorem open_weights {r : Reach} {b0 : Nat} {v : Value} {d : DataW H} {p : List MemPlace} (hv : Value.okWide Tryz.prog w r b0 57 v) (h : DataW.Trod enc Tryz.prog w base spare held 57 v d p) {B : Nat} (hB : ∀ n ∈ d.weights Tryz.prog 57, n ≤ B) :
    ∃ ws : List Int, WordsAt w v ws ∧ (∀ j : Nat, 0 ≤ ws[j]?.getD 0 ∧ ws[j]?.getD 0 ≤ 65535) ∧ ws.length * 2 ≤ B := by
  obtain ⟨a0, len0, cap0, rfl⟩ := okWide_slice Tryz.underlying57 hv
  obtain ⟨fuel, hf⟩ := h
  obtain ⟨a, len, cap, hcs, hlc, hcm, hwt, hr⟩ := open_rows (L := fun _ => 50) Tryz.underlying57 cellsT50 (by omega) (leaf_all leaf50) hf
  obtain ⟨rfl, rfl, rfl⟩ : a0 = a ∧ len0 = len ∧ cap0 = cap := by simpa [Value.cells] using hcs
  have hlen : len0 * 2 ≤ B := by
    rcases hwt with h0 | ⟨more, hm⟩
    · omega
    · rw [bytesT50] at hm; have := hB _ hm; omega
  rcases hr with h0 | ⟨b, off, rfl, hb, hc⟩
  · subst h0
    exact ⟨[], ⟨a0, cap0, rfl, .inl rfl⟩, fun j => by simp, by simp⟩
  · have key : ∀ i, ∃ z : Int, (i < len0 → w.cell? ⟨b, off + i, none⟩ = some (.int .u16 z)) ∧ 0 ≤ z ∧ z ≤ 65535 := fun i => by
      by_cases hi : i < len0
      · obtain ⟨v, m, y, hv, hy, _⟩ := hc i 0 hi (by omega)
        obtain ⟨z, hz, _, hw⟩ := DataW.trod_int Tryz.underlying50 hy
        rw [show i * 1 + 0 = i by omega] at hv
        exact ⟨z, fun _ => by rw [hv]; cases hz; rfl, u16_bd hw⟩
      · exact ⟨0, fun h => absurd h hi, by omega, by omega⟩
    have key2 : ∃ F : Nat → Int, ∀ i, (i < len0 → w.cell? ⟨b, off + i, none⟩ = some (.int .u16 (F i))) ∧ 0 ≤ F i ∧ F i ≤ 65535 := ⟨fun i => Classical.choose (key i), fun i => Classical.choose_spec (key i)⟩
    obtain ⟨F, hF⟩ := key2
    refine ⟨(List.range len0).map F, ⟨_, cap0, by simp, .inr ⟨b, off, rfl, hb, fun i hi => ?_⟩⟩, fun j => ?_, by simpa using hlen⟩
    · have hi' : i < len0 := by simpa using hi
      rw [(hF i).1 hi']
      simp [u16F, hi']
    · by_cases hj : j < len0
      · simpa [hj] using (hF j).2
      · rw [List.getElem?_eq_none (by simp; omega)]; simp
theorem list4 {l : List Value} {a0 a1 a2 a3 : Value} (h : l.length = 4) (h0 : l[0]? = some a0) (h1 : l[1]? = some a1) (h2 : l[2]? = some a2) (h3 : l[3]? = some a3) : l = [a0, a1, a2, a3] := by
  match l, h with
  | [c0, c1, c2, c3], _ => simp at h0 h1 h2 h3; simp [*]
theorem list3 {l : List Value} {a0 a1 a2 : Value} (h : l.length = 3) (h0 : l[0]? = some a0) (h1 : l[1]? = some a1) (h2 : l[2]? = some a2) : l = [a0, a1, a2] := by
  match l, h with
  | [c0, c1, c2], _ => simp at h0 h1 h2; simp [*]
set_option maxRecDepth 100000 in
theorem open_by {r : Reach} {b0 : Nat} {v : Value} {d : DataW H} {p : List MemPlace} (hv : Value.okWide Tryz.prog w r b0 51 v) (h : DataW.Trod enc Tryz.prog w base spare held 51 v d p) :
    ∃ a b c e : Int, v = .agg #[.int .u16 a, .int .u16 b, .int .u16 c, .int .u16 e] ∧ (0 ≤ a ∧ a ≤ 65535) ∧ (0 ≤ b ∧ b ≤ 65535) ∧ (0 ≤ c ∧ c ≤ 65535) ∧ (0 ≤ e ∧ e ≤ 65535) := by
  obtain ⟨cs, rfl, hsz⟩ := okWide_arr Tryz.underlying51 hv
  obtain ⟨fuel, hf⟩ := h
  obtain ⟨z0, h0, w0⟩ := leaf_int (leaf_all leaf51 0 (by omega)) Tryz.underlying50 hf
  obtain ⟨z1, h1, w1⟩ := leaf_int (leaf_all leaf51 1 (by omega)) Tryz.underlying50 hf
  obtain ⟨z2, h2, w2⟩ := leaf_int (leaf_all leaf51 2 (by omega)) Tryz.underlying50 hf
  obtain ⟨z3, h3, w3⟩ := leaf_int (leaf_all leaf51 3 (by omega)) Tryz.underlying50 hf
  refine ⟨z0, z1, z2, z3, ?_, u16_bd w0, u16_bd w1, u16_bd w2, u16_bd w3⟩
  have hl4 : cs.toList.length = 4 := by simpa [cellsT51] using hsz
  have := list4 hl4 h0 h1 h2 h3
  rw [show cs = cs.toList.toArray by simp, this]
set_option maxRecDepth 100000 in
theorem open_three {r : Reach} {b0 : Nat} {v : Value} {d : DataW H} {p : List MemPlace} (hv : Value.okWide Tryz.prog w r b0 28 v) (h : DataW.Trod enc Tryz.prog w base spare held 28 v d p) :
    ∃ a b c : Int, v = .agg #[.int .i64 a, .int .i64 b, .int .i64 c] := by
  obtain ⟨cs, rfl, hsz⟩ := okWide_arr Tryz.underlying28 hv
  obtain ⟨fuel, hf⟩ := h
  obtain ⟨z0, h0, w0⟩ := leaf_int (leaf_all leaf28 0 (by omega)) Tryz.underlying3 hf
  obtain ⟨z1, h1, w1⟩ := leaf_int (leaf_all leaf28 1 (by omega)) Tryz.underlying3 hf
  obtain ⟨z2, h2, w2⟩ := leaf_int (leaf_all leaf28 2 (by omega)) Tryz.underlying3 hf
  refine ⟨z0, z1, z2, ?_⟩
  have hl3 : cs.toList.length = 3 := by simpa [cellsT28] using hsz
  have := list3 hl3 h0 h1 h2
  rw [show cs = cs.toList.toArray by simp, this]
end
end Go.Proofs.YtmglbegbijofkaaGreatDoor
/- Openings: an impact by value; what a small bulk says of a third string. -/
namespace Go.Proofs.YtmglbegbijofkaaGreatDoor
open Go.ChangeShapes Go.WideShapes Go.RowKit Go.Deep
section
variable {H : Type} {enc : TypeId × Value → H} {w : World} {base : Nat} {spare : Nat → Bool} {held : Bool}
theorem leaf27 : ((List.range 7).all fun j => leafAt Tryz.prog 4 27 j == some 3) = true := by kernel_rfl
theorem cellsT27 : Tryz.prog.cellsOf 27 = 7 := by kernel_rfl
set_option maxRecDepth 100000 in
theorem open_impact {r : Reach} {b0 : Nat} {v : Value} {d : DataW H} {p : List MemPlace} (hv : Value.okWide Tryz.prog w r b0 27 v) (h : DataW.Trod enc Tryz.prog w base spare held 27 v d p) : ∃ x : Impact, v = .agg #[.int .i64 x.p, .int .i64 x.xl, .int .i64 x.xh, .int .i64 x.yl, .int .i64 x.yh, .int .i64 x.tl, .int .i64 x.th] := by
  obtain ⟨F, rfl⟩ := open_aggints Tryz.underlying27 cellsT27 leaf27 hv h
  exact ⟨⟨F 0, F 1, F 2, F 3, F 4, F 5, F 6⟩, rfl⟩
theorem upto_str3 {d0 d1 : DataW H} {s : ByteArray} (h : Rows.uptoSmall H ([d0, d1, .lit (.string s.data.toList)] ++ []) = true) : s.size ≤ 1048576 := by
  unfold Rows.uptoSmall at h
  simp [Rows.uptoBulkAll, Rows.uptoBulk] at h
  omega
end
end Go.Proofs.YtmglbegbijofkaaGreatDoor
/- Openings: a slice of strings; what a small bulk says of them. -/
namespace Go.Proofs.YtmglbegbijofkaaGreatDoor
open Go.ChangeShapes Go.WideShapes Go.RowKit Go.Deep
section
variable {H : Type} {enc : TypeId × Value → H} {w : World} {base : Nat} {spare : Nat → Bool} {held : Bool}
theorem bulk_pos : ∀ d : DataW H, 1 ≤ Rows.uptoBulk d
  | .lit (.string bytes) => by simp [Rows.uptoBulk]
  | .lit (.bool _) => by simp [Rows.uptoBulk]
  | .lit (.int _ _) => by simp [Rows.uptoBulk]
  | .lit _ => by unfold Rows.uptoBulk; split <;> simp_all
  | .nil => by simp [Rows.uptoBulk]
  | .ptr d => by simp [Rows.uptoBulk]
  | .slice elems spare => by simp [Rows.uptoBulk]
  | .agg parts => by simp [Rows.uptoBulk]
  | .iface _ d => by simp [Rows.uptoBulk]
  | .map entries => by simp [Rows.uptoBulk]
  | .held _ => by simp [Rows.uptoBulk]
theorem bulk_mem : ∀ (l : List (DataW H)) (d : DataW H), d ∈ l → Rows.uptoBulk d ≤ Rows.uptoBulkAll l
  | [], d, h => by cases h
  | x :: l, d, h => by
    unfold Rows.uptoBulkAll
    rcases List.mem_cons.1 h with rfl | h
    · omega
    · have := bulk_mem l d h; omega
theorem bulk_len : ∀ l : List (DataW H), l.length ≤ Rows.uptoBulkAll l
  | [] => by simp
  | x :: l => by
    unfold Rows.uptoBulkAll
    have h1 := bulk_pos x
    have h2 := bulk_len l
    simp only [List.length_cons]
    omega
theorem cellsT9 : Tryz.prog.cellsOf 9 = 1 := by kernel_rfl
set_option maxRecDepth 100000 in
theorem open_strs {r : Reach} {b0 : Nat} {v : Value} {d : DataW H} {p : List MemPlace} (hv : Value.okWide Tryz.prog w r b0 109 v) (h : DataW.Trod enc Tryz.prog w base spare held 109 v d p) :
    ∃ ss : List (List UInt8), StrsAt w v ss ∧ (∀ s ∈ ss, s.length ≤ Rows.uptoBulk d) ∧ ss.length ≤ Rows.uptoBulk d := by
  obtain ⟨a0, len0, cap0, rfl⟩ := okWide_slice Tryz.underlying109 hv
  obtain ⟨fuel, hf⟩ := h
  have hf' : DataW.trod enc Tryz.prog w base spare held fuel 109 [.slice a0 len0 cap0] = some (d, p) := hf
  rcases DataW.trod_slice Tryz.underlying109 hf' with ⟨hcs, hx⟩ | ⟨a, len, cap, elems, rest, n, rfl, hcs, hx, hb, hl, hm, hel, he, _⟩
  · obtain ⟨rfl, rfl, rfl⟩ : a0 = none ∧ len0 = 0 ∧ cap0 = 0 := by simpa using hcs
    exact ⟨[], ⟨none, 0, rfl, .inl rfl⟩, by simp, by simp⟩
  · obtain ⟨rfl, rfl, rfl⟩ : a0 = some a ∧ len0 = len ∧ cap0 = cap := by simpa using hcs
    have hd : d = .slice (elems.map (·.1)) (rest.map (·.1)) := congrArg Prod.fst hx
    have key : ∀ i, ∃ s : List UInt8, i < len0 → w.cell? (a.add i) = some (.string ⟨s.toArray⟩) ∧ DataW.lit (.string s) ∈ elems.map (·.1) := fun i => by
      by_cases hi : i < len0
      · have h1 := he i hi
        rw [cellsT9, Nat.mul_one, List.getElem?_eq_getElem (by omega)] at h1
        obtain ⟨cs', h2, h3⟩ := Option.bind_eq_some_iff.1 h1
        obtain ⟨_, hcl, hat⟩ := World.cells?_some h2
        obtain ⟨s, rfl, h4, _⟩ := DataW.trod_string Tryz.underlying9 h3
        have h5 := hat 0 (by omega)
        refine ⟨s.data.toList, fun _ => ⟨?_, ?_⟩⟩
        · rw [Go.Deep.add_add, Nat.add_zero] at h5
          rw [h5]
          simp
        · refine List.mem_map.2 ⟨elems[i], List.getElem_mem _, ?_⟩
          rw [h4]
      · exact ⟨[], fun h => absurd h hi⟩
    obtain ⟨F, hF⟩ : ∃ F : Nat → List UInt8, ∀ i, i < len0 → w.cell? (a.add i) = some (.string ⟨(F i).toArray⟩) ∧ DataW.lit (.string (F i)) ∈ elems.map (·.1) := ⟨fun i => Classical.choose (key i), fun i => Classical.choose_spec (key i)⟩
    have hbk : Rows.uptoBulkAll (elems.map (·.1)) ≤ Rows.uptoBulk d := by rw [hd]; unfold Rows.uptoBulk; omega
    refine ⟨(List.range len0).map F, ?_, fun s hs => ?_, ?_⟩
    · by_cases h0 : len0 = 0
      · subst h0; exact ⟨_, _, rfl, .inl rfl⟩
      · have hc0 := (hF 0 (by omega)).1
        have hsp := cell_spot hc0
        have hsn : a = ⟨a.block, a.off, none⟩ := by
          have := congrArg Addr.spot hsp
          cases a with
          | mk b o s => simp [Addr.add] at this; simp [this]
        refine ⟨some a, cap0, by simp, .inr ⟨a.block, a.off, by rw [← hsn], ?_, fun i hi => ?_⟩⟩
        · have := World.block_lt_of_cell? w _ hc0
          simpa [Addr.add] using this
        · have hi' : i < len0 := by simpa using hi
          have h1 := (hF i hi').1
          rw [hsn, add_none] at h1
          rw [h1]
          simp [hi']
    · obtain ⟨i, hi, rfl⟩ := List.mem_map.1 hs
      have h1 := bulk_mem _ _ (hF i (List.mem_range.1 hi)).2
      simp only [Rows.uptoBulk] at h1
      omega
    · have h1 := bulk_len (elems.map (·.1))
      simp at h1 ⊢
      omega
theorem upto_mem {ds : List (DataW H)} (h : Rows.uptoSmall H (ds ++ []) = true) {d : DataW H} (hd : d ∈ ds) : Rows.uptoBulk d ≤ 1048576 := by
  unfold Rows.uptoSmall at h
  rw [List.append_nil] at h
  have := bulk_mem ds d hd
  have := of_decide_eq_true h
  omega
theorem upto_str_mem {ds : List (DataW H)} (h : Rows.uptoSmall H (ds ++ []) = true) {s : ByteArray} (hd : DataW.lit (.string s.data.toList) ∈ ds) : s.size ≤ 1048576 := by
  have := upto_mem h hd
  simp only [Rows.uptoBulk] at this
  simp at this
  omega
end
end Go.Proofs.YtmglbegbijofkaaGreatDoor
/- Openings: an array of two numbers of 16 bits. -/
namespace Go.Proofs.YtmglbegbijofkaaGreatDoor
open Go.ChangeShapes Go.WideShapes Go.RowKit Go.Deep
section
variable {H : Type} {enc : TypeId × Value → H} {w : World} {base : Nat} {spare : Nat → Bool} {held : Bool}
theorem cellsT107 : Tryz.prog.cellsOf 107 = 2 := by kernel_rfl
theorem leaf107 : ((List.range 2).all fun j => leafAt Tryz.prog 4 107 j == some 50) = true := by kernel_rfl
theorem list2 {l : List Value} {a0 a1 : Value} (h : l.length = 2) (h0 : l[0]? = some a0) (h1 : l[1]? = some a1) : l = [a0, a1] := by
  match l, h with
  | [c0, c1], _ => simp at h0 h1; simp [*]
set_option maxRecDepth 100000 in
theorem open_two16 {r : Reach} {b0 : Nat} {v : Value} {d : DataW H} {p : List MemPlace} (hv : Value.okWide Tryz.prog w r b0 107 v) (h : DataW.Trod enc Tryz.prog w base spare held 107 v d p) :
    ∃ a b : Int, v = .agg #[.int .u16 a, .int .u16 b] ∧ (0 ≤ a ∧ a ≤ 65535) ∧ 0 ≤ b ∧ b ≤ 65535 := by
  obtain ⟨cs, rfl, hsz⟩ := okWide_arr Tryz.underlying107 hv
  obtain ⟨fuel, hf⟩ := h
  obtain ⟨z0, h0, w0⟩ := leaf_int (leaf_all leaf107 0 (by omega)) Tryz.underlying50 hf
  obtain ⟨z1, h1, w1⟩ := leaf_int (leaf_all leaf107 1 (by omega)) Tryz.underlying50 hf
  refine ⟨z0, z1, ?_, u16_bd w0, u16_bd w1⟩
  have hl2 : cs.toList.length = 2 := by simpa [cellsT107] using hsz
  have := list2 hl2 h0 h1
  rw [show cs = cs.toList.toArray by simp, this]
end
end Go.Proofs.YtmglbegbijofkaaGreatDoor
