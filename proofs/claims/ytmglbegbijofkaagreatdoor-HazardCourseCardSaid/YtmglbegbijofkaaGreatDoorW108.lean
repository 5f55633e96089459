/- Plain: the rows of a course: places and heights. -/
import Derived.Test.YtmglbegbijofkaaGreatDoorWA
import Derived.Laws.OwnMore
set_option linter.unusedVariables false
set_option linter.unusedSimpArgs false
namespace Go.Proofs.YtmglbegbijofkaaGreatDoor
open Go.RowKit
/-- the places and the heights in two rows that share no block, each with its own count -/
structure RowsD (B : Nat) (ps : List (Int × Int)) (hs : List Int) (n m : Nat) (vp vh : Value) (w : World) : Prop where
  p : w.ownsRow B 39 2 vp n (spc ps)
  h : w.ownsRow B 3 1 vh m (hs.map (Value.int .i64))
  ph : Apart vp vh
section
variable {B n m : Nat} {ps : List (Int × Int)} {hs : List Int} {vp vh : Value} {w w' : World}
theorem RowsD.below (h : RowsD B ps hs n m vp vh w) (hb : Below w.heap.size w w') : RowsD B ps hs n m vp vh w' := ⟨ownsRow_below h.p hb, ownsRow_below h.h hb, h.ph⟩
theorem RowsD.alloc (h : RowsD B ps hs n m vp vh w) (o : Obj) : RowsD B ps hs n m vp vh (w.alloc o) := h.below (balloc (Below.refl _ _) _)
theorem RowsD.drew (h : RowsD B ps hs n m vp vh w) : RowsD B ps hs n m vp vh w.drew := h.below (Below.refl _ _).drew
theorem RowsD.set (h : RowsD B ps hs n m vp vh w) {a : Addr} (ha : a.block < B) (u : Value) : RowsD B ps hs n m vp vh (w.setCell a u) := ⟨ownsRow_setCell_below h.p ha u, ownsRow_setCell_below h.h ha u, h.ph⟩
theorem RowsD.appP (h : RowsD B ps hs n m vp vh w) {g cap H : Nat} {a b : Int} (ho : w'.ownsRow B 39 2 (.slice (some ⟨g, 0, none⟩) (n + 1) cap) (n + 1) (spc ps ++ [.int .i64 a, .int .i64 b]))
    (hg : w.grownBy w' vp.ownBlock) (hat : vp.ownBlock = some g ∨ g = H) (hH : w.heap.size = H) : RowsD B (ps ++ [(a, b)]) hs (n + 1) m (.slice (some ⟨g, 0, none⟩) (n + 1) cap) vh w' :=
  ⟨by rw [spc_snoc]; exact ho, ownsRow_apart h.h hg h.ph.symm, apart_new h.h h.ph hat (by omega)⟩
theorem RowsD.appH (h : RowsD B ps hs n m vp vh w) {g cap H : Nat} {a : Int} (ho : w'.ownsRow B 3 1 (.slice (some ⟨g, 0, none⟩) (m + 1) cap) (m + 1) (hs.map (Value.int .i64) ++ [.int .i64 a]))
    (hg : w.grownBy w' vh.ownBlock) (hat : vh.ownBlock = some g ∨ g = H) (hH : w.heap.size = H) : RowsD B ps (hs ++ [a]) n (m + 1) vp (.slice (some ⟨g, 0, none⟩) (m + 1) cap) w' :=
  ⟨ownsRow_apart h.p hg h.ph, by rw [List.map_append]; exact ho, (apart_new h.p h.ph.symm hat (by omega)).symm⟩
end
theorem places_of_row {w : World} {B : Nat} {v : Value} {l : List (Int × Int)} (h : w.ownsRow B 39 2 v l.length (spc l)) (hn : 0 < l.length) :
    ∃ g c, v = .slice (some ⟨g, 0, none⟩) l.length c ∧ B ≤ g ∧ g < w.heap.size ∧ ∀ i, i < l.length * 2 → w.cell? ⟨g, i, none⟩ = some (spanF l i) := by
  obtain ⟨h1, ⟨_, h2⟩ | ⟨g, cap, cur, rfl, h4, h5, h6, h7, h8, h9⟩⟩ := h
  · omega
  · refine ⟨g, cap, rfl, h4, (Array.getElem?_eq_some_iff.1 h5).1, fun i hi => ?_⟩
    have hg := spc_get l i hi
    rw [← h9, List.getElem?_take_of_lt (by omega)] at hg
    unfold World.cell?
    rw [h5]
    simpa using hg
/-- the course as it lies in memory behind the first loop -/
theorem RowsD.read {B : Nat} {ps : List (Int × Int)} {hs : List Int} {n m : Nat} {vp vh : Value} {w : World} (h : RowsD B ps hs n m vp vh w) (hn : ps.length = n) (hm : hs.length = m) (n0 : 0 < n) (m0 : 0 < m) :
    ∃ g c g' c', vp = .slice (some ⟨g, 0, none⟩) n c ∧ vh = .slice (some ⟨g', 0, none⟩) m c' ∧ B ≤ g ∧ g < w.heap.size ∧ B ≤ g' ∧ g' < w.heap.size ∧
      (∀ k, k < n → w.cell? ⟨g, k * 2, none⟩ = some (.int .i64 (ps.getD k (0, 0)).1) ∧ w.cell? ⟨g, k * 2 + 1, none⟩ = some (.int .i64 (ps.getD k (0, 0)).2)) ∧
      ∀ k, k < m → w.cell? ⟨g', k, none⟩ = some (.int .i64 (hs.getD k 0)) := by
  subst hn; subst hm
  obtain ⟨g, c, e1, b1, l1, k1⟩ := places_of_row h.p n0
  obtain ⟨g', c', e2, b2, l2, k2⟩ := ints_of_row h.h m0
  refine ⟨g, c, g', c', e1, e2, b1, l1, b2, l2, fun k hk => ⟨?_, ?_⟩, fun k hk => ?_⟩
  · have := k1 (k * 2) (by omega)
    rw [this]
    simp [spanF]
  · have := k1 (k * 2 + 1) (by omega)
    rw [this]
    have e3 : (k * 2 + 1) % 2 = 1 := by omega
    have e4 : (k * 2 + 1) / 2 = k := by omega
    simp [spanF, e3, e4]
  · have := (k2 k hk).1
    rw [this]
    simp [intF]
theorem rowsD_first (w : World) (x y h : Int) :
    RowsD (w.heap.size + 1) [(x, y)] [h] 1 1 (.slice (some ⟨w.heap.size + 1, 0, none⟩) 1 1) (.slice (some ⟨w.heap.size + 1 + 1, 0, none⟩) 1 1) (((w.alloc (.cells #[.int .i64 x, .int .i64 y] 39)).alloc (.cells #[.int .i64 x, .int .i64 y] 39)).alloc (.cells #[.int .i64 h] 3)) ∧
    cellsAt (((w.alloc (.cells #[.int .i64 x, .int .i64 y] 39)).alloc (.cells #[.int .i64 x, .int .i64 y] 39)).alloc (.cells #[.int .i64 h] 3)) w.heap.size 39 #[.int .i64 x, .int .i64 y] ∧
    Below w.heap.size w (((w.alloc (.cells #[.int .i64 x, .int .i64 y] 39)).alloc (.cells #[.int .i64 x, .int .i64 y] 39)).alloc (.cells #[.int .i64 h] 3)) := by
  refine ⟨⟨?_, ?_, ?_⟩, ?_, balloc (balloc (balloc (Below.refl _ _) _) _) _⟩
  · have k := World.ownsRow_lit (base := w.heap.size + 1) (e := 39) (size := 2) (w.alloc (.cells #[.int .i64 x, .int .i64 y] 39)) #[.int .i64 x, .int .i64 y] 1 (by rw [World.size_alloc]; omega) (by decide) rfl
    rw [World.size_alloc] at k
    exact World.ownsRow.alloc k _
  · have k := World.ownsRow_lit (base := w.heap.size + 1) (e := 3) (size := 1) ((w.alloc (.cells #[.int .i64 x, .int .i64 y] 39)).alloc (.cells #[.int .i64 x, .int .i64 y] 39)) #[.int .i64 h] 1 (by rw [World.size_alloc, World.size_alloc]; omega) (by decide) rfl
    rw [World.size_alloc, World.size_alloc] at k
    exact k
  · intro g h1 h2
    simp [Value.ownBlock] at h1 h2
    omega
  · exact (cellsNew w _ 39).below (balloc (balloc (Below.refl _ _) _) _)
end Go.Proofs.YtmglbegbijofkaaGreatDoor
