import Derived.Test.YtmglbegbijofkaaGreatDoorKC
import Derived.Deep.Slices
import Derived.Carry
import Derived.Test.YtmglbegbijofkaaGreatDoorW7
set_option linter.unusedVariables false
set_option linter.unusedSimpArgs false
/- Openings: an argument's reading gives its cells, whatever its type's shape; a reading stays where nothing old has turned. -/
namespace Go.Proofs.YtmglbegbijofkaaGreatDoor
open Go.ChangeShapes Go.WideShapes Go.RowKit Go.Deep
section
variable {H : Type} {enc : TypeId × Value → H} {P : Program} {w : World} {base : Nat} {spare : Nat → Bool} {held : Bool}
/-- the type of cell i of a type -/
def leafAt (P : Program) : Nat → TypeId → Nat → Option TypeId
  | 0, _, _ => none
  | n + 1, t, i =>
    match P.underlying t with
    | some (.struct fs) => (fs.toList.find? fun f => decide (f.offset ≤ i) && decide (i < f.offset + P.cellsOf f.type)).bind fun f => leafAt P n f.type (i - f.offset)
    | some (.array m e) => if P.cellsOf e = 1 ∧ i < m then leafAt P n e 0 else none
    | some (.int _) => if i = 0 then some t else none
    | some .string => if i = 0 then some t else none
    | some (.slice _) => if i = 0 then some t else none
    | _ => none
theorem mem_weightsEach {n : Nat} : ∀ {ts : List TypeId} {ds : List (DataW H)} {j : Nat} {t : TypeId} {d : DataW H}, ts[j]? = some t → ds[j]? = some d → n ∈ d.weights P t → n ∈ DataW.weightsEach P ts ds
  | [], _, j, t, d, h, _, _ => by simp at h
  | _ :: _, [], j, t, d, _, h, _ => by simp at h
  | t0 :: ts, d0 :: ds, 0, t, d, h1, h2, hn => by
    simp at h1 h2
    subst h1 h2
    simp [DataW.weightsEach, hn]
  | t0 :: ts, d0 :: ds, j + 1, t, d, h1, h2, hn => by
    have := mem_weightsEach (ts := ts) (ds := ds) (j := j) (by simpa using h1) (by simpa using h2) hn
    simp [DataW.weightsEach, this]
theorem mem_weightsAll {n : Nat} {e : TypeId} : ∀ {ds : List (DataW H)} {j : Nat} {d : DataW H}, ds[j]? = some d → n ∈ d.weights P e → n ∈ DataW.weightsAll P e ds
  | [], j, d, h, _ => by simp at h
  | d0 :: ds, 0, d, h2, hn => by
    simp at h2
    subst h2
    simp [DataW.weightsAll, hn]
  | d0 :: ds, j + 1, d, h2, hn => by
    have := mem_weightsAll (ds := ds) (j := j) (by simpa using h2) hn
    simp [DataW.weightsAll, this]
theorem leaf_trod : ∀ (n : Nat) {t u : TypeId} {i fuel : Nat} {cs : List Value} {x : DataW H × List MemPlace}, leafAt P n t i = some u → DataW.trod enc P w base spare held fuel t cs = some x →
    ∃ v m y, cs[i]? = some v ∧ DataW.trod enc P w base spare held m u [v] = some y ∧ ∀ k ∈ y.1.weights P u, k ∈ x.1.weights P t
  | 0, t, u, i, fuel, cs, x, hl, _ => by simp [leafAt] at hl
  | n + 1, t, u, i, fuel, cs, x, hl, h => by
    unfold leafAt at hl
    split at hl
    · rename_i fs hu
      obtain ⟨f, hf, hl'⟩ := Option.bind_eq_some_iff.1 hl
      have hmem := List.mem_of_find?_eq_some hf
      have hp := List.find?_some hf
      simp only [Bool.and_eq_true, decide_eq_true_eq] at hp
      obtain ⟨j, hj⟩ := List.getElem?_of_mem hmem
      obtain ⟨xs, m, _, hx, _, hxl, hg⟩ := DataW.trod_struct hu h
      have hjf : fs[j]? = some f := by simpa using hj
      have hjl : j < fs.size := (Array.getElem?_eq_some_iff.1 hjf).1
      have h1 := hg j f hjf
      have hxj : xs[j]? = some (xs[j]'(by omega)) := List.getElem?_eq_getElem (by omega)
      rw [hxj] at h1
      obtain ⟨v, m', y, hv, hy, hwt⟩ := leaf_trod n hl' h1
      refine ⟨v, m', y, ?_, hy, fun k hk => ?_⟩
      · rw [List.getElem?_take_of_lt (by omega), List.getElem?_drop] at hv
        rwa [show f.offset + (i - f.offset) = i by omega] at hv
      · rw [hx]
        simp only [DataW.weights, hu]
        exact mem_weightsEach (j := j) (t := f.type) (by simp [hj]) (by simp [hxj]) (hwt k hk)
    · rename_i m e hu
      split at hl
      · rename_i hc
        obtain ⟨xs, m', _, hx, _, hxl, hg⟩ := DataW.trod_array hu h
        have h1 := hg i hc.2
        have hxj : xs[i]? = some (xs[i]'(by omega)) := List.getElem?_eq_getElem (by omega)
        rw [hxj, hc.1, Nat.mul_one] at h1
        obtain ⟨v, m'', y, hv, hy, hwt⟩ := leaf_trod n hl h1
        refine ⟨v, m'', y, ?_, hy, fun k hk => ?_⟩
        · rw [List.getElem?_take_of_lt (by omega), List.getElem?_drop] at hv
          simpa using hv
        · rw [hx]
          simp only [DataW.weights, hu]
          exact mem_weightsAll (j := i) (by simp [hxj]) (hwt k hk)
      · cases hl
    · rename_i k hu
      split at hl
      · rename_i hi
        subst hi
        cases hl
        obtain ⟨z, rfl, _, _⟩ := DataW.trod_int hu h
        exact ⟨_, _, _, rfl, h, fun _ hk => hk⟩
      · cases hl
    · rename_i hu
      split at hl
      · rename_i hi
        subst hi
        cases hl
        obtain ⟨z, rfl, _, _⟩ := DataW.trod_string hu h
        exact ⟨_, _, _, rfl, h, fun _ hk => hk⟩
      · cases hl
    · rename_i e hu
      split at hl
      · rename_i hi
        subst hi
        cases hl
        rcases DataW.trod_slice hu h with ⟨rfl, _⟩ | ⟨a, len, cap, _, _, _, _, rfl, _⟩
        · exact ⟨_, _, _, rfl, h, fun _ hk => hk⟩
        · exact ⟨_, _, _, rfl, h, fun _ hk => hk⟩
      · cases hl
    · cases hl
theorem leaf_int {n : Nat} {t u : TypeId} {i fuel : Nat} {k : IntKind} {cs : List Value} {x : DataW H × List MemPlace} (hl : leafAt P n t i = some u) (hu : P.underlying u = some (.int k)) (h : DataW.trod enc P w base spare held fuel t cs = some x) :
    ∃ z, cs[i]? = some (.int k z) ∧ (Lit.int k z).wf = true := by
  obtain ⟨v, m, y, hv, hy, _⟩ := leaf_trod n hl h
  obtain ⟨z, hz, _, hw⟩ := DataW.trod_int hu hy
  exact ⟨z, by rw [hv]; cases hz; rfl, hw⟩
theorem leaf_string {n : Nat} {t u : TypeId} {i fuel : Nat} {cs : List Value} {x : DataW H × List MemPlace} (hl : leafAt P n t i = some u) (hu : P.underlying u = some .string) (h : DataW.trod enc P w base spare held fuel t cs = some x) :
    ∃ s : ByteArray, cs[i]? = some (.string s) ∧ s.size ∈ x.1.weights P t := by
  obtain ⟨v, m, y, hv, hy, hwt⟩ := leaf_trod n hl h
  obtain ⟨z, hz, hyz, _⟩ := DataW.trod_string hu hy
  exact ⟨z, by rw [hv]; cases hz; rfl, hwt _ (by rw [hyz]; simp [DataW.weights])⟩
theorem cell_spot {w : World} {a : Addr} {v : Value} (h : w.cell? a = some v) : a = ⟨a.block, a.off, none⟩ := by
  cases a with
  | mk b o s =>
    cases s with
    | none => rfl
    | some n => unfold World.cell? at h; split at h <;> simp at h
theorem add_none (b o n : Nat) : (⟨b, o, none⟩ : Addr).add n = ⟨b, o + n, none⟩ := by
  by_cases h : n = 0 <;> simp [Addr.add, h]
/-- a slice, element by element and cell by cell -/
theorem open_rows {t e : TypeId} {k n0 fuel : Nat} {L : Nat → TypeId} {cs : List Value} {x : DataW H × List MemPlace} (ht : P.underlying t = some (.slice e)) (hC : P.cellsOf e = k) (hk : 0 < k) (hL : ∀ j, j < k → leafAt P n0 e j = some (L j)) (h : DataW.trod enc P w base spare held fuel t cs = some x) :
    ∃ (a : Option Addr) (len cap : Nat), cs = [.slice a len cap] ∧ len ≤ cap ∧ cap ≤ maxLen ∧ (len = 0 ∨ ∃ more, (len + more) * P.bytesOf e ∈ x.1.weights P t) ∧
      (len = 0 ∨ ∃ b off, a = some ⟨b, off, none⟩ ∧ b < w.heap.size ∧ ∀ i j, i < len → j < k → ∃ v m y, w.cell? ⟨b, off + (i * k + j), none⟩ = some v ∧ DataW.trod enc P w base spare held m (L j) [v] = some y ∧ ∀ c ∈ y.1.weights P (L j), c ∈ x.1.weights P t) := by
  rcases open_slice ht h with ⟨rfl, _⟩ | ⟨a, len, cap, m, n, D, Pl, rfl, hb, hl, hm, hmm, hxe, hx⟩
  · exact ⟨none, 0, 0, rfl, Nat.le_refl _, Nat.zero_le _, .inl rfl, .inl rfl⟩
  · refine ⟨some a, len, cap, rfl, hl, hm, .inr ⟨m - len, by rw [hxe]; simp [DataW.weights, ht]⟩, ?_⟩
    by_cases h0 : len = 0
    · exact .inl h0
    · have hlm : len ≤ m := by rw [hmm]; split <;> omega
      have key : ∀ i j, i < len → j < k → ∃ v m y, w.cell? (a.add (i * k + j)) = some v ∧ DataW.trod enc P w base spare held m (L j) [v] = some y ∧ ∀ c ∈ y.1.weights P (L j), c ∈ x.1.weights P t := fun i j hi hj => by
        obtain ⟨cs', h1, h2⟩ := hx i (by omega)
        rw [hC] at h1
        obtain ⟨_, hcl, hat⟩ := World.cells?_some h1
        obtain ⟨v, m', y, hv, hy, hwt⟩ := leaf_trod n0 (hL j hj) h2
        refine ⟨v, m', y, ?_, hy, fun c hc => ?_⟩
        · rw [← Go.Deep.add_add, hat j hj, hv]
        · have h3 := mem_weightsAll (ds := (List.range len).map D) (j := i) (by simp [hi]) (hwt c hc)
          rw [hxe]
          simp [DataW.weights, ht, h3]
      obtain ⟨v0, _, _, hv0, _, _⟩ := key 0 0 (by omega) hk
      have hsp := cell_spot hv0
      have hsn : a = ⟨a.block, a.off, none⟩ := by
        have := congrArg Addr.spot hsp
        cases a with
        | mk b o s => simp [Addr.add] at this; simp [this]
      refine .inr ⟨a.block, a.off, by rw [← hsn], ?_, fun i j hi hj => ?_⟩
      · have := World.block_lt_of_cell? w _ hv0
        simpa [Addr.add] using this
      · obtain ⟨v, m', y, hv, hy, hwt⟩ := key i j hi hj
        refine ⟨v, m', y, ?_, hy, hwt⟩
        rw [hsn, add_none] at hv
        exact hv
/-- a slice of structs of integers -/
theorem open_rows_int {t e : TypeId} {k n0 fuel : Nat} {L : Nat → TypeId} {cs : List Value} {x : DataW H × List MemPlace} (ht : P.underlying t = some (.slice e)) (hC : P.cellsOf e = k) (hk : 0 < k) (hL : ∀ j, j < k → leafAt P n0 e j = some (L j)) (hi : ∀ j, j < k → P.underlying (L j) = some (.int .i64)) (h : DataW.trod enc P w base spare held fuel t cs = some x) :
    ∃ (a : Option Addr) (len cap : Nat) (F : Nat → Nat → Int), cs = [.slice a len cap] ∧ len ≤ cap ∧ cap ≤ maxLen ∧ (len = 0 ∨ ∃ more, (len + more) * P.bytesOf e ∈ x.1.weights P t) ∧
      (len = 0 ∨ ∃ b off, a = some ⟨b, off, none⟩ ∧ b < w.heap.size ∧ ∀ i j, i < len → j < k → w.cell? ⟨b, off + (i * k + j), none⟩ = some (.int .i64 (F i j))) := by
  obtain ⟨a, len, cap, hcs, h1, h2, h3, h0 | ⟨b, off, ha, hb, hc⟩⟩ := open_rows ht hC hk hL h
  · exact ⟨a, len, cap, fun _ _ => 0, hcs, h1, h2, h3, .inl h0⟩
  · have key : ∀ i j, ∃ z : Int, i < len → j < k → w.cell? ⟨b, off + (i * k + j), none⟩ = some (.int .i64 z) := fun i j => by
      by_cases hh : i < len ∧ j < k
      · obtain ⟨v, m, y, hv, hy, _⟩ := hc i j hh.1 hh.2
        obtain ⟨z, hz, _, _⟩ := DataW.trod_int (hi j hh.2) hy
        exact ⟨z, fun _ _ => by rw [hv]; cases hz; rfl⟩
      · exact ⟨0, fun p q => absurd ⟨p, q⟩ hh⟩
    exact ⟨a, len, cap, fun i j => Classical.choose (key i j), hcs, h1, h2, h3, .inr ⟨b, off, ha, hb, fun i j p q => Classical.choose_spec (key i j) p q⟩⟩
/-- what the row's reach says of argument j -/
theorem weights_arg {ts us : List TypeId} {ds gs : List (DataW H)} {B : Nat} (h : ((DataW.weightsEach P (ts ++ us) (ds ++ gs)).all (· ≤ B)) = true) {j : Nat} {t : TypeId} {d : DataW H} (ht : ts[j]? = some t) (hd : ds[j]? = some d) : ∀ n ∈ d.weights P t, n ≤ B := fun n hn => by
  have h1 : (ts ++ us)[j]? = some t := by rw [List.getElem?_append_left (List.getElem?_eq_some_iff.1 ht).1]; exact ht
  have h2 : (ds ++ gs)[j]? = some d := by rw [List.getElem?_append_left (List.getElem?_eq_some_iff.1 hd).1]; exact hd
  have := List.all_eq_true.1 h n (mem_weightsEach h1 h2 hn)
  simpa using this
theorem trodAll_stays (hl : laidOutB P = true) {W W' : World} (hb : Below W.heap.size W W') {sp : Nat → Bool} :
    ∀ {ts : List TypeId} {vs : List Value} {ds : List (DataW H)} {ps : List MemPlace}, (ts.all fun t => P.readableRec t && decide (t < P.types.size)) = true → DataW.TrodAll enc P W 0 (fun _ => true) true ts vs ds ps →
      (∀ x ∈ ps, x.block < W.heap.size) → (∀ x ∈ ps, sp x.block = true) → DataW.TrodAll enc P W' 0 sp true ts vs ds ps
  | [], [], [], _, _, h, _, _ => h
  | t :: ts, v :: vs, d :: ds, ps, ht, h, hlt, hsp => by
    obtain ⟨p, q, h1, h2, rfl⟩ := h
    simp only [List.all_cons, Bool.and_eq_true, decide_eq_true_eq] at ht
    exact ⟨p, q, WideElems.Trod_stays hl ht.1.1 ht.1.2 h1 (fun x hx => hb.same (hlt x (by simp [hx]))) (fun x hx => hsp x (by simp [hx])),
      trodAll_stays hl hb (by simpa using ht.2) h2 (fun x hx => hlt x (by simp [hx])) (fun x hx => hsp x (by simp [hx])), rfl⟩
end
set_option maxRecDepth 100000 in
theorem laidOutT : laidOutB Tryz.prog = true := by kernel_rfl
set_option maxRecDepth 100000 in
/-- a law that returns true and leaves all old memory: its row's post -/
theorem law_post {H : Type} {enc : TypeId × Value → H} {f : Func} {s : ChangeSpec} {W W' : World} {args : Array Value} {ds gs : List (DataW H)} {before : List MemPlace}
    (hW : DataW.Whole enc Tryz.prog f.params.toList s.vars false W args.toList ds gs before) (hv : s.vars = []) (hrt : f.resultTypes = #[4])
    (hts : (f.params.toList.all fun t => Tryz.prog.readableRec t && decide (t < Tryz.prog.types.size)) = true)
    (hr : (s.fn H (ds ++ gs)).results = [.lit (.bool true)]) (ha : (s.fn H (ds ++ gs)).args = ds) (hvr : (s.fn H (ds ++ gs)).vars = []) (hb : Below W.heap.size W W') :
    s.post enc Tryz.prog f false true false false W args (.bool true) W' := by
  have hW' := hW
  obtain ⟨p, q, hA, hV, rfl, hfz, hnd⟩ := hW
  rw [hv] at hV
  obtain ⟨rfl, rfl⟩ := trodVars_none hV
  have hlt : ∀ x ∈ p, x.block < W.heap.size := fun x hx => hW'.lt x (by simp [hx])
  refine post_of_below (pa := p) (pv := []) hW' (fun b sp hd => ?_) (fun sp hsp => ?_) (fun sp _ => ?_) (by simp) hb ?_
  · rw [hr, hrt]
    exact trodAll_cons_mk (shut_bool Tryz.underlying4 _) trodAll_mk0
  · rw [ha]
    exact trodAll_stays laidOutT hb hts hA hlt (fun x hx => hsp x (by simp [hx]))
  · rw [hv, hvr]
    rfl
  · exact ok_one hrt rfl (okWide_bool_mk Tryz.underlying4 _)
end Go.Proofs.YtmglbegbijofkaaGreatDoor
/- Openings of the laws' own argument types: crafts, spans, places, maps. -/
namespace Go.Proofs.YtmglbegbijofkaaGreatDoor
open Go.ChangeShapes Go.WideShapes Go.RowKit Go.Deep
section
variable {H : Type} {enc : TypeId × Value → H} {w : World} {base : Nat} {spare : Nat → Bool} {held : Bool}
theorem list6 {l : List Value} {a0 a1 a2 a3 a4 a5 : Value} (h : l.length = 6) (h0 : l[0]? = some a0) (h1 : l[1]? = some a1) (h2 : l[2]? = some a2) (h3 : l[3]? = some a3) (h4 : l[4]? = some a4) (h5 : l[5]? = some a5) : l = [a0, a1, a2, a3, a4, a5] := by
  match l, h with
  | [c0, c1, c2, c3, c4, c5], _ => simp at h0 h1 h2 h3 h4 h5; simp [*]
theorem cells77 : Tryz.prog.cellsOf 77 = 5 := by kernel_rfl
theorem bytes77 : Tryz.prog.bytesOf 77 = 40 := by kernel_rfl
theorem cells63 : Tryz.prog.cellsOf 63 = 6 := by kernel_rfl
theorem leaf_all {P : Program} {n k : Nat} {e u : TypeId} (h : ((List.range k).all fun j => leafAt P n e j == some u) = true) (j : Nat) (hj : j < k) : leafAt P n e j = some u := by
  have := List.all_eq_true.1 h j (List.mem_range.2 hj)
  simpa using this
theorem leaf77 : ((List.range 5).all fun j => leafAt Tryz.prog 4 77 j == some 3) = true := by kernel_rfl
set_option maxRecDepth 100000 in
theorem open_sights {fuel : Nat} {v : Value} {y : DataW H × List MemPlace} (h : DataW.trod enc Tryz.prog w base spare held fuel 61 [v] = some y) : ∃ ss, SightsAt w v ss ∧ (ss.length = 0 ∨ ∃ more, (ss.length + more) * 40 ∈ y.1.weights Tryz.prog 61) := by
  obtain ⟨a, len, cap, F, hcs, hlc, hcm, hwt, hr⟩ := open_rows_int (L := fun _ => 3) Tryz.underlying61 cells77 (by omega) (leaf_all leaf77) (fun _ _ => Tryz.underlying3) h
  obtain rfl : v = .slice a len cap := by simpa using hcs
  refine ⟨(List.range len).map fun i => ⟨F i 0, F i 1, F i 2, F i 3, F i 4⟩, ⟨a, cap, by simp, ?_⟩, by rw [bytes77] at hwt; simpa using hwt⟩
  rcases hr with h0 | ⟨b, off, rfl, hb, hc⟩
  · exact .inl (by simpa using h0)
  · refine .inr ⟨b, off, rfl, hb, fun i hi => ?_⟩
    have hi' : i < len * 5 := by simpa using hi
    have hq : i / 5 < len := by omega
    have hm : i % 5 < 5 := Nat.mod_lt _ (by omega)
    have h1 := hc (i / 5) (i % 5) hq hm
    have e : i / 5 * 5 + i % 5 = i := by omega
    rw [e] at h1
    rw [h1]
    have hs : sgAt ((List.range len).map fun i => (⟨F i 0, F i 1, F i 2, F i 3, F i 4⟩ : Sight)) (i / 5) = ⟨F (i / 5) 0, F (i / 5) 1, F (i / 5) 2, F (i / 5) 3, F (i / 5) 4⟩ := by simp [sgAt, hq]
    unfold sightF
    rw [hs]
    have : i % 5 = 0 ∨ i % 5 = 1 ∨ i % 5 = 2 ∨ i % 5 = 3 ∨ i % 5 = 4 := by omega
    rcases this with h | h | h | h | h <;> simp [h]
set_option maxRecDepth 100000 in
theorem open_craft {r : Reach} {b0 : Nat} {v : Value} {d : DataW H} {p : List MemPlace} (hv : Value.okWide Tryz.prog w r b0 63 v) (h : DataW.Trod enc Tryz.prog w base spare held 63 v d p) {B : Nat} (hB : ∀ n ∈ d.weights Tryz.prog 63, n ≤ B) :
    ∃ (nm : ByteArray) (speed climb low high : Int) (sv : Value) (ss : List Sight), v = .agg #[.string nm, .int .i64 speed, .int .i64 climb, .int .i64 low, .int .i64 high, sv] ∧ SightsAt w sv ss ∧ nm.size ≤ B ∧ ss.length * 40 ≤ B := by
  obtain ⟨cs, rfl, hsz⟩ := okWide_struct Tryz.underlying63 hv
  obtain ⟨fuel, hf⟩ := h
  obtain ⟨nm, h0, hn⟩ := leaf_string (n := 4) (i := 0) (u := 9) (by kernel_rfl) Tryz.underlying9 hf
  obtain ⟨z1, h1, _⟩ := leaf_int (n := 4) (i := 1) (u := 3) (by kernel_rfl) Tryz.underlying3 hf
  obtain ⟨z2, h2, _⟩ := leaf_int (n := 4) (i := 2) (u := 3) (by kernel_rfl) Tryz.underlying3 hf
  obtain ⟨z3, h3, _⟩ := leaf_int (n := 4) (i := 3) (u := 3) (by kernel_rfl) Tryz.underlying3 hf
  obtain ⟨z4, h4, _⟩ := leaf_int (n := 4) (i := 4) (u := 3) (by kernel_rfl) Tryz.underlying3 hf
  obtain ⟨sv, m, y, h5, hy, hwt⟩ := leaf_trod 4 (i := 5) (u := 61) (by kernel_rfl) hf
  obtain ⟨ss, hss, hl⟩ := open_sights hy
  refine ⟨nm, z1, z2, z3, z4, sv, ss, ?_, hss, hB _ hn, ?_⟩
  rotate_left
  · rcases hl with h0 | ⟨more, hm⟩
    · omega
    · have := hB _ (hwt _ hm); omega
  have hl6 : cs.toList.length = 6 := by simpa [cells63] using hsz
  have := list6 hl6 h0 h1 h2 h3 h4 h5
  rw [show cs = cs.toList.toArray by simp, this]
set_option maxRecDepth 100000 in
theorem trod_int_value {r : Reach} {b0 : Nat} {v : Value} {d : DataW H} {p : List MemPlace} (hv : Value.okWide Tryz.prog w r b0 3 v) (h : DataW.Trod enc Tryz.prog w base spare held 3 v d p) : ∃ z, v = .int .i64 z ∧ (Lit.int .i64 z).wf = true := by
  obtain ⟨z, rfl⟩ := okWide_int Tryz.underlying3 hv
  obtain ⟨fuel, hf⟩ := h
  obtain ⟨z', e, _, hw⟩ := DataW.trod_int Tryz.underlying3 hf
  simp [Value.cells] at e
  subst e
  exact ⟨_, rfl, hw⟩
end
end Go.Proofs.YtmglbegbijofkaaGreatDoor
/- Openings: structs of integers by value, slices of integers, maps. -/
namespace Go.Proofs.YtmglbegbijofkaaGreatDoor
open Go.ChangeShapes Go.WideShapes Go.RowKit Go.Deep
section
variable {H : Type} {enc : TypeId × Value → H} {w : World} {base : Nat} {spare : Nat → Bool} {held : Bool}
theorem list_of_get {k : Nat} {l : List Value} {F : Nat → Value} (hl : l.length = k) (h : ∀ i, i < k → l[i]? = some (F i)) : l = (List.range k).map F := by
  apply List.ext_getElem?
  intro i
  by_cases hi : i < k
  · rw [h i hi]; simp [hi]
  · rw [List.getElem?_eq_none (by omega), List.getElem?_eq_none (by simp; omega)]
set_option maxRecDepth 100000 in
theorem open_aggints {k n : Nat} {r : Reach} {b0 : Nat} {t : TypeId} {fs : Array Field} {v : Value} {d : DataW H} {p : List MemPlace} (hs : Tryz.prog.underlying t = some (.struct fs)) (hC : Tryz.prog.cellsOf t = k)
    (hl : ((List.range k).all fun j => leafAt Tryz.prog n t j == some 3) = true) (hv : Value.okWide Tryz.prog w r b0 t v) (h : DataW.Trod enc Tryz.prog w base spare held t v d p) :
    ∃ F : Nat → Int, v = .agg ((List.range k).map fun i => Value.int .i64 (F i)).toArray := by
  obtain ⟨cs, rfl, hsz⟩ := okWide_struct hs hv
  obtain ⟨fuel, hf⟩ := h
  have key : ∀ i, ∃ z : Int, i < k → cs.toList[i]? = some (.int .i64 z) := fun i => by
    by_cases hi : i < k
    · obtain ⟨z, hz, _⟩ := leaf_int (leaf_all hl i hi) Tryz.underlying3 hf
      exact ⟨z, fun _ => hz⟩
    · exact ⟨0, fun h => absurd h hi⟩
  have key2 : ∃ F : Nat → Int, ∀ i, i < k → cs.toList[i]? = some (.int .i64 (F i)) := ⟨fun i => Classical.choose (key i), fun i hi => Classical.choose_spec (key i) hi⟩
  obtain ⟨F, hF⟩ := key2
  refine ⟨F, ?_⟩
  have := list_of_get (l := cs.toList) (F := fun i => Value.int .i64 (F i)) (by simpa [hC] using hsz) hF
  rw [← this]
theorem leaf25 : ((List.range 4).all fun j => leafAt Tryz.prog 4 25 j == some 3) = true := by kernel_rfl
theorem leaf39 : ((List.range 2).all fun j => leafAt Tryz.prog 4 39 j == some 3) = true := by kernel_rfl
theorem cellsT25 : Tryz.prog.cellsOf 25 = 4 := by kernel_rfl
theorem cellsT39 : Tryz.prog.cellsOf 39 = 2 := by kernel_rfl
theorem cellsT42 : Tryz.prog.cellsOf 42 = 6 := by kernel_rfl
theorem cellsT3 : Tryz.prog.cellsOf 3 = 1 := by kernel_rfl
theorem bytesT3 : Tryz.prog.bytesOf 3 = 8 := by kernel_rfl
theorem leaf3 : ((List.range 1).all fun j => leafAt Tryz.prog 4 3 j == some 3) = true := by kernel_rfl
set_option maxRecDepth 100000 in
theorem open_area {r : Reach} {b0 : Nat} {v : Value} {d : DataW H} {p : List MemPlace} (hv : Value.okWide Tryz.prog w r b0 25 v) (h : DataW.Trod enc Tryz.prog w base spare held 25 v d p) : ∃ a b c e : Int, v = .agg #[.int .i64 a, .int .i64 b, .int .i64 c, .int .i64 e] := by
  obtain ⟨F, rfl⟩ := open_aggints Tryz.underlying25 cellsT25 leaf25 hv h
  exact ⟨F 0, F 1, F 2, F 3, rfl⟩
set_option maxRecDepth 100000 in
theorem open_place {r : Reach} {b0 : Nat} {v : Value} {d : DataW H} {p : List MemPlace} (hv : Value.okWide Tryz.prog w r b0 39 v) (h : DataW.Trod enc Tryz.prog w base spare held 39 v d p) : ∃ a b : Int, v = .agg #[.int .i64 a, .int .i64 b] := by
  obtain ⟨F, rfl⟩ := open_aggints Tryz.underlying39 cellsT39 leaf39 hv h
  exact ⟨F 0, F 1, rfl⟩
set_option maxRecDepth 100000 in
theorem open_intsl {fuel : Nat} {v : Value} {y : DataW H × List MemPlace} (h : DataW.trod enc Tryz.prog w base spare held fuel 40 [v] = some y) : ∃ zs, IntsAt w v zs ∧ (zs.length = 0 ∨ ∃ more, (zs.length + more) * 8 ∈ y.1.weights Tryz.prog 40) := by
  obtain ⟨a, len, cap, F, hcs, hlc, hcm, hwt, hr⟩ := open_rows_int (L := fun _ => 3) Tryz.underlying40 cellsT3 (by omega) (leaf_all leaf3) (fun _ _ => Tryz.underlying3) h
  obtain rfl : v = .slice a len cap := by simpa using hcs
  refine ⟨(List.range len).map fun i => F i 0, ⟨a, cap, by simp, ?_⟩, by rw [bytesT3] at hwt; simpa using hwt⟩
  rcases hr with h0 | ⟨b, off, rfl, hb, hc⟩
  · exact .inl (by simpa using h0)
  · refine .inr ⟨b, off, rfl, hb, fun i hi => ?_⟩
    have hi' : i < len := by simpa using hi
    have h1 := hc i 0 hi' (by omega)
    rw [show i * 1 + 0 = i by omega] at h1
    rw [h1]
    simp [intF, hi']
set_option maxRecDepth 100000 in
theorem open_map {r : Reach} {b0 : Nat} {v : Value} {d : DataW H} {p : List MemPlace} (hv : Value.okWide Tryz.prog w r b0 42 v) (h : DataW.Trod enc Tryz.prog w base spare held 42 v d p) {B : Nat} (hB : ∀ n ∈ d.weights Tryz.prog 42, n ≤ B) :
    ∃ (cx cy size cols rows : Int) (pv : Value) (zs : List Int), v = .agg #[.int .i64 cx, .int .i64 cy, .int .i64 size, .int .i64 cols, .int .i64 rows, pv] ∧ IntsAt w pv zs ∧ zs.length * 8 ≤ B := by
  obtain ⟨cs, rfl, hsz⟩ := okWide_struct Tryz.underlying42 hv
  obtain ⟨fuel, hf⟩ := h
  obtain ⟨z0, h0, _⟩ := leaf_int (n := 4) (i := 0) (u := 3) (by kernel_rfl) Tryz.underlying3 hf
  obtain ⟨z1, h1, _⟩ := leaf_int (n := 4) (i := 1) (u := 3) (by kernel_rfl) Tryz.underlying3 hf
  obtain ⟨z2, h2, _⟩ := leaf_int (n := 4) (i := 2) (u := 3) (by kernel_rfl) Tryz.underlying3 hf
  obtain ⟨z3, h3, _⟩ := leaf_int (n := 4) (i := 3) (u := 3) (by kernel_rfl) Tryz.underlying3 hf
  obtain ⟨z4, h4, _⟩ := leaf_int (n := 4) (i := 4) (u := 3) (by kernel_rfl) Tryz.underlying3 hf
  obtain ⟨sv, m, y, h5, hy, hwt⟩ := leaf_trod 4 (i := 5) (u := 40) (by kernel_rfl) hf
  obtain ⟨zs, hss, hl⟩ := open_intsl hy
  refine ⟨z0, z1, z2, z3, z4, sv, zs, ?_, hss, ?_⟩
  rotate_left
  · rcases hl with h0 | ⟨more, hm⟩
    · omega
    · have := hB _ (hwt _ hm); omega
  have hl6 : cs.toList.length = 6 := by simpa [cellsT42] using hsz
  have := list6 hl6 h0 h1 h2 h3 h4 h5
  rw [show cs = cs.toList.toArray by simp, this]
end
end Go.Proofs.YtmglbegbijofkaaGreatDoor
