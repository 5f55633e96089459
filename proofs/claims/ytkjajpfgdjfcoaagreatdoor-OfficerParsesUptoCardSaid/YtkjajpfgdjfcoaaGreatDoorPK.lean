/- Openings: a line, a string; what a small bulk says of them; the post of a law that returns true. -/
import Derived.Test.YtkjajpfgdjfcoaaGreatDoorOX
import Derived.Test.YtkjajpfgdjfcoaaGreatDoorPC
import Derived.Deep.Slices
import Derived.Carry
set_option linter.unusedVariables false
set_option linter.unusedSimpArgs false
namespace Go.Proofs.YtkjajpfgdjfcoaaGreatDoor
open Go.ChangeShapes Go.WideShapes Go.RowKit Go.Deep
section
variable {H : Type} {enc : TypeId × Value → H} {w : World} {base : Nat} {spare : Nat → Bool} {held : Bool}
theorem bulk_pos : ∀ d : DataW H, 1 ≤ Rows.uptoBulk d
  | .lit (.string bytes) => by simp [Rows.uptoBulk]
  | .lit (.bool _) => by simp [Rows.uptoBulk]
  | .lit (.int _ _) => by simp [Rows.uptoBulk]
  | .lit _ => by unfold Rows.uptoBulk; split <;> simp_all
  | .nil => by simp [Rows.uptoBulk]
  | .ptr d => by simp [Rows.uptoBulk]
  | .slice elems spare => by simp [Rows.uptoBulk]
  | .agg parts => by simp [Rows.uptoBulk]
  | .iface _ d => by simp [Rows.uptoBulk]
  | .map entries => by simp [Rows.uptoBulk]
  | .held _ => by simp [Rows.uptoBulk]
theorem bulk_mem : ∀ (l : List (DataW H)) (d : DataW H), d ∈ l → Rows.uptoBulk d ≤ Rows.uptoBulkAll l
  | [], d, h => by cases h
  | x :: l, d, h => by
    unfold Rows.uptoBulkAll
    rcases List.mem_cons.1 h with rfl | h
    · omega
    · have := bulk_mem l d h; omega
theorem bulk_len : ∀ l : List (DataW H), l.length ≤ Rows.uptoBulkAll l
  | [] => by simp
  | x :: l => by
    unfold Rows.uptoBulkAll
    have h1 := bulk_pos x
    have h2 := bulk_len l
    simp only [List.length_cons]
    omega
theorem upto_mem {ds : List (DataW H)} (h : Rows.uptoSmall H (ds ++ []) = true) {d : DataW H} (hd : d ∈ ds) : Rows.uptoBulk d ≤ 1048576 := by
  unfold Rows.uptoSmall at h
  rw [List.append_nil] at h
  have := bulk_mem ds d hd
  have := of_decide_eq_true h
  omega
theorem cell_spot {w : World} {a : Addr} {v : Value} (h : w.cell? a = some v) : a = ⟨a.block, a.off, none⟩ := by
  cases a with
  | mk b o s =>
    cases s with
    | none => rfl
    | some n => unfold World.cell? at h; split at h <;> simp at h
theorem add_none (b o n : Nat) : (⟨b, o, none⟩ : Addr).add n = ⟨b, o + n, none⟩ := by
  by_cases h : n = 0 <;> simp [Addr.add, h]
theorem i64_wf {z : Int} (h : (Lit.int .i64 z).wf = true) : -9223372036854775808 ≤ z ∧ z ≤ 9223372036854775807 := by
  have h1 : (decide (IntKind.i64.min ≤ z) && decide (z ≤ IntKind.i64.max)) = true := h
  have e1 : IntKind.i64.min = -9223372036854775808 := by decide
  have e2 : IntKind.i64.max = 9223372036854775807 := by decide
  rw [e1, e2] at h1
  simpa using h1
theorem cellsT3 : Tryz.prog.cellsOf 3 = 1 := by kernel_rfl
theorem cellsT9 : Tryz.prog.cellsOf 9 = 1 := by kernel_rfl
theorem cellsTI : Tryz.prog.cellsOf 23 = 1 := by kernel_rfl
theorem cellsTL : Tryz.prog.cellsOf 84 = 4 := by kernel_rfl
set_option maxRecDepth 100000 in
/-- a slice of numbers -/
theorem open_ints {fuel : Nat} {v : Value} {y : DataW H × List MemPlace} (h : DataW.trod enc Tryz.prog w base spare held fuel 23 [v] = some y) :
    ∃ ns, RowI w v ns ∧ (∀ n ∈ ns, -9223372036854775808 ≤ n ∧ n ≤ 9223372036854775807) ∧ ns.length ≤ Rows.uptoBulk y.1 := by
  rcases open_slice1 Tryz.underlying23 cellsT3 h with ⟨hv, _⟩ | ⟨a, len, cap, m, n, V, D, Pl, hv, _, hl, _, hm, hy, hx⟩
  · obtain rfl : v = .slice none 0 0 := by simpa using hv
    exact ⟨[], ⟨none, 0, rfl, .inl rfl⟩, by simp, by simp⟩
  · obtain rfl : v = .slice (some a) len cap := by simpa using hv
    have hlm : len ≤ m := by rw [hm]; split <;> omega
    have key : ∀ i, ∃ z : Int, i < len → (w.cell? (a.add i) = some (.int .i64 z) ∧ -9223372036854775808 ≤ z ∧ z ≤ 9223372036854775807) := fun i => by
      by_cases hi : i < len
      · obtain ⟨h1, h2⟩ := hx i (by omega)
        obtain ⟨z, hz, _, hw⟩ := DataW.trod_int Tryz.underlying3 h2
        exact ⟨z, fun _ => ⟨by rw [h1]; simp only [List.cons.injEq, and_true] at hz; rw [hz], i64_wf hw⟩⟩
      · exact ⟨0, fun h => absurd h hi⟩
    obtain ⟨F, hF⟩ : ∃ F : Nat → Int, ∀ i, i < len → (w.cell? (a.add i) = some (.int .i64 (F i)) ∧ -9223372036854775808 ≤ F i ∧ F i ≤ 9223372036854775807) := ⟨fun i => Classical.choose (key i), fun i => Classical.choose_spec (key i)⟩
    refine ⟨(List.range len).map F, ?_, fun q hq => ?_, ?_⟩
    · by_cases h0 : len = 0
      · subst h0; exact ⟨_, _, rfl, .inl rfl⟩
      · have hc0 := (hF 0 (by omega)).1
        have hsp := cell_spot hc0
        have hsn : a = ⟨a.block, a.off, none⟩ := by
          have := congrArg Addr.spot hsp
          cases a with
          | mk b o s => simp [Addr.add] at this; simp [this]
        refine ⟨some a, cap, by simp, .inr ⟨a.block, a.off, by rw [← hsn], ?_, fun i hi => ?_⟩⟩
        · have := World.block_lt_of_cell? w _ hc0
          simpa [Addr.add] using this
        · have hi' : i < len := by simpa using hi
          have h1 := (hF i hi').1
          rw [hsn, add_none] at h1
          rw [h1]
          simp [hi']
    · obtain ⟨i, hi, rfl⟩ := List.mem_map.1 hq
      exact (hF i (List.mem_range.1 hi)).2
    · rw [hy]
      have h1 := bulk_len ((List.range len).map D)
      simp only [List.length_map, List.length_range] at h1 ⊢
      simp only [Rows.uptoBulk]
      omega
set_option maxRecDepth 100000 in
/-- a line -/
theorem open_line {r : Reach} {b0 : Nat} {v : Value} {d : DataW H} {p : List MemPlace} (hv : Value.okWide Tryz.prog w r b0 84 v) (h : DataW.Trod enc Tryz.prog w base spare held 84 v d p) :
    ∃ (a k : Int) (nm : ByteArray) (nv : Value) (ns : List Int), v = .agg #[.int .i64 a, .int .i64 k, .string nm, nv] ∧ RowI w nv ns ∧ (-9223372036854775808 ≤ a ∧ a ≤ 9223372036854775807) ∧ (∀ n ∈ ns, -9223372036854775808 ≤ n ∧ n ≤ 9223372036854775807) ∧
      nm.size ≤ Rows.uptoBulk d ∧ ns.length ≤ Rows.uptoBulk d := by
  obtain ⟨cs, rfl, hsz⟩ := okWide_struct Tryz.underlying84 hv
  obtain ⟨fuel, hf⟩ := h
  obtain ⟨xs, m, _, hx, _, hxl, hg⟩ := DataW.trod_struct Tryz.underlying84 hf
  have hxl4 : xs.length = 4 := hxl
  have hd : d = .agg (xs.map (·.1)) := congrArg Prod.fst hx
  obtain ⟨c0, c1, c2, c3, rfl⟩ : ∃ c0 c1 c2 c3, cs = #[c0, c1, c2, c3] := by
    have hcl : cs.toList.length = 4 := by rw [cellsTL] at hsz; simpa using hsz
    obtain ⟨l⟩ := cs
    match l, hcl with
    | [c0, c1, c2, c3], _ => exact ⟨c0, c1, c2, c3, rfl⟩
  obtain ⟨x0, x1, x2, x3, rfl⟩ : ∃ x0 x1 x2 x3, xs = [x0, x1, x2, x3] := by
    match xs, hxl4 with
    | [x0, x1, x2, x3], _ => exact ⟨x0, x1, x2, x3, rfl⟩
  have g0 : DataW.trod enc Tryz.prog w base spare held m 3 [c0] = some x0 := by simpa [cellsT3, Value.cells] using hg 0 _ rfl
  have g1 : DataW.trod enc Tryz.prog w base spare held m 3 [c1] = some x1 := by simpa [cellsT3, Value.cells] using hg 1 _ rfl
  have g2 : DataW.trod enc Tryz.prog w base spare held m 9 [c2] = some x2 := by simpa [cellsT9, Value.cells] using hg 2 _ rfl
  have g3 : DataW.trod enc Tryz.prog w base spare held m 23 [c3] = some x3 := by simpa [cellsTI, Value.cells] using hg 3 _ rfl
  obtain ⟨a, ha, _, hw⟩ := DataW.trod_int Tryz.underlying3 g0
  obtain ⟨k, hk, _, _⟩ := DataW.trod_int Tryz.underlying3 g1
  obtain ⟨nm, hn, hy, _⟩ := DataW.trod_string Tryz.underlying9 g2
  obtain ⟨ns, hri, hb, hl⟩ := open_ints g3
  simp only [List.cons.injEq, and_true] at ha hk hn
  subst ha hk hn
  have h2 := bulk_mem ([x0, x1, x2, x3].map (·.1)) x2.1 (by simp)
  have h3 := bulk_mem ([x0, x1, x2, x3].map (·.1)) x3.1 (by simp)
  have hbk : Rows.uptoBulkAll ([x0, x1, x2, x3].map (·.1)) ≤ Rows.uptoBulk d := by rw [hd, Rows.uptoBulk]; exact Nat.le_succ _
  refine ⟨a, k, nm, c3, ns, rfl, hri, i64_wf hw, hb, ?_, Nat.le_trans hl (Nat.le_trans h3 hbk)⟩
  have h5 : nm.size ≤ Rows.uptoBulk x2.1 := by rw [hy]; simp only [Rows.uptoBulk]; simp
  omega
set_option maxRecDepth 100000 in
theorem open_str {r : Reach} {b0 : Nat} {v : Value} {d : DataW H} {p : List MemPlace} (hv : Value.okWide Tryz.prog w r b0 9 v) (h : DataW.Trod enc Tryz.prog w base spare held 9 v d p) :
    ∃ s : ByteArray, v = .string s ∧ s.size ≤ Rows.uptoBulk d := by
  obtain ⟨s, rfl⟩ := okWide_string Tryz.underlying9 hv
  obtain ⟨fuel, hf⟩ := h
  have hf' : DataW.trod enc Tryz.prog w base spare held fuel 9 [.string s] = some (d, p) := hf
  obtain ⟨s', e, hd, _⟩ := DataW.trod_string Tryz.underlying9 hf'
  simp only [List.cons.injEq, Value.string.injEq, and_true] at e
  subst e
  refine ⟨s, rfl, ?_⟩
  have : d = .lit (.string s.data.toList) := congrArg Prod.fst hd
  rw [this]
  simp only [Rows.uptoBulk]
  simp
theorem trodAll_stays {P : Program} (hl : laidOutB P = true) {W W' : World} (hb : Below W.heap.size W W') {sp : Nat → Bool} :
    ∀ {ts : List TypeId} {vs : List Value} {ds : List (DataW H)} {ps : List MemPlace}, (ts.all fun t => P.readableRec t && decide (t < P.types.size)) = true → DataW.TrodAll enc P W 0 (fun _ => true) true ts vs ds ps →
      (∀ x ∈ ps, x.block < W.heap.size) → (∀ x ∈ ps, sp x.block = true) → DataW.TrodAll enc P W' 0 sp true ts vs ds ps
  | [], [], [], _, _, h, _, _ => h
  | t :: ts, v :: vs, d :: ds, ps, ht, h, hlt, hsp => by
    obtain ⟨p, q, h1, h2, rfl⟩ := h
    simp only [List.all_cons, Bool.and_eq_true, decide_eq_true_eq] at ht
    exact ⟨p, q, WideElems.Trod_stays hl ht.1.1 ht.1.2 h1 (fun x hx => hb.same (hlt x (by simp [hx]))) (fun x hx => hsp x (by simp [hx])),
      trodAll_stays hl hb (by simpa using ht.2) h2 (fun x hx => hlt x (by simp [hx])) (fun x hx => hsp x (by simp [hx])), rfl⟩
end
set_option maxRecDepth 100000 in
theorem laidOutT : laidOutB Tryz.prog = true := by kernel_rfl
set_option maxRecDepth 100000 in
/-- a law that returns true and leaves all old memory: its row's post -/
theorem law_post {H : Type} {enc : TypeId × Value → H} {f : Func} {s : ChangeSpec} {W W' : World} {args : Array Value} {ds gs : List (DataW H)} {before : List MemPlace}
    (hW : DataW.Whole enc Tryz.prog f.params.toList s.vars false W args.toList ds gs before) (hv : s.vars = []) (hrt : f.resultTypes = #[4])
    (hts : (f.params.toList.all fun t => Tryz.prog.readableRec t && decide (t < Tryz.prog.types.size)) = true)
    (hr : (s.fn H (ds ++ gs)).results = [.lit (.bool true)]) (ha : (s.fn H (ds ++ gs)).args = ds) (hvr : (s.fn H (ds ++ gs)).vars = []) (hb : Below W.heap.size W W') :
    s.post enc Tryz.prog f false true false false W args (.bool true) W' := by
  have hW' := hW
  obtain ⟨p, q, hA, hV, rfl, hfz, hnd⟩ := hW
  rw [hv] at hV
  obtain ⟨rfl, rfl⟩ := trodVars_none hV
  have hlt : ∀ x ∈ p, x.block < W.heap.size := fun x hx => hW'.lt x (by simp [hx])
  refine post_of_below (pa := p) (pv := []) hW' (fun b sp hd => ?_) (fun sp hsp => ?_) (fun sp _ => ?_) (by simp) hb ?_
  · rw [hr, hrt]
    exact trodAll_cons_mk (shut_bool Tryz.underlying4 _) trodAll_mk0
  · rw [ha]
    exact trodAll_stays laidOutT hb hts hA hlt (fun x hx => hsp x (by simp [hx]))
  · rw [hv, hvr]
    rfl
  · exact ok_one hrt rfl (okWide_bool_mk Tryz.underlying4 _)
set_option maxRecDepth 100000 in
/-- what a row's list gives: the powers of ten -/
theorem tab10_intro {W : World} (h2 : laidMetH Tryz.prog [("internal/strconv.uint64pow10", Rows.laid_internal_strconv_uint64pow10)] W) : Tab10 W := by
  have ht : Lib.TabIs Tryz.prog W "internal/strconv.uint64pow10" .u64 Lib.pow10Tab :=
    Lib.tabIs_of_head (rest := []) gPow gPowType Tryz.underlying486 Tryz.underlying319 (by kernel_rfl) cellsPow h2
  intro w' hb
  have hc := ht.cell gPow 0 (by decide)
  have hlt := World.block_lt_of_cell? _ _ hc
  unfold Lib.TabIs World.var? at ht ⊢
  rw [gPow] at ht ⊢
  simp only [Option.bind_some] at ht ⊢
  rw [hb.block _ hlt]
  exact ht
theorem tab10_parses {W : World} (h : laidMetH Tryz.prog Rows.officerParsesRow.laid W) : Tab10 W := tab10_intro (h.filter (fun p => p.1 == "internal/strconv.uint64pow10"))
theorem tab10_lines {W : World} (h : laidMetH Tryz.prog Rows.officerLinesRow.laid W) : Tab10 W := tab10_intro (h.filter (fun p => p.1 == "internal/strconv.uint64pow10"))
end Go.Proofs.YtkjajpfgdjfcoaaGreatDoor
