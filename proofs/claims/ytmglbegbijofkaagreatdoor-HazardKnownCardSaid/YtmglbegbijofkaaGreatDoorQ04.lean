import Derived.Test.YtmglbegbijofkaaGreatDoorQ03
import Derived.Test.YtmglbegbijofkaaGreatDoorQ00
import Derived.Deep.RegionHeld3
import Derived.Deep.AppendLies
set_option linter.unusedVariables false
set_option linter.unusedSimpArgs false
namespace Go.Proofs.YtmglbegbijofkaaGreatDoor
open Go.RowKit

theorem Tryz.info23 : (Tryz.prog.info? 23).map (fun i => (i.zero, i.size, i.bytes)) = some (some (.agg #[.int .i64 0, .int .i64 0]), 2, 16) := by kernel_rfl
/-- the cells of spans -/
def spc (l : List (Int × Int)) : List Value := l.flatMap fun s => [.int .i64 s.1, .int .i64 s.2]
theorem spc_snoc (l : List (Int × Int)) (a b : Int) : spc (l ++ [(a, b)]) = spc l ++ [.int .i64 a, .int .i64 b] := by simp [spc]
/-- two slices that share no block -/
def Apart (u v : Value) : Prop := ∀ g, u.ownBlock = some g → v.ownBlock ≠ some g
theorem Apart.symm {u v : Value} (h : Apart u v) : Apart v u := fun g hv hu => h g hu hv
theorem ownsRow_below {w w' : World} {b : Nat} {e : TypeId} {size : Nat} {v : Value} {n : Nat} {xs : List Value} (h : w.ownsRow b e size v n xs) (hb : Below w.heap.size w w') : w'.ownsRow b e size v n xs := by
  obtain ⟨h1, h2 | ⟨g, cap, cur, h3, h4, h5, h6⟩⟩ := h
  · exact ⟨h1, .inl h2⟩
  · refine ⟨h1, .inr ⟨g, cap, cur, h3, h4, ?_, h6⟩⟩
    rw [hb.block g (Array.getElem?_eq_some_iff.1 h5).1]; exact h5
theorem ownsRow_apart {w w' : World} {b : Nat} {e : TypeId} {size : Nat} {v u : Value} {n : Nat} {xs : List Value} (h : w.ownsRow b e size v n xs) (hg : w.grownBy w' u.ownBlock) (ha : Apart v u) : w'.ownsRow b e size v n xs := by
  refine World.ownsRow.kept h hg ?_
  cases hv : v.ownBlock with
  | none => exact .inl rfl
  | some g => exact .inr (fun e => ha g hv e.symm)
/-- behind an append: the new slice shares no block with another row -/
theorem apart_new {w : World} {b : Nat} {e : TypeId} {size : Nat} {v u : Value} {n : Nat} {xs : List Value} {g m cap H : Nat} (h : w.ownsRow b e size v n xs) (ha : Apart u v) (hg : u.ownBlock = some g ∨ g = H) (hH : w.heap.size ≤ H) :
    Apart (.slice (some ⟨g, 0, none⟩) m cap) v := by
  intro g' hg' hv
  simp [Value.ownBlock] at hg'
  subst hg'
  rcases hg with hg | rfl
  · exact ha _ hg hv
  · have := (World.ownsRow.lt h _ hv).2; omega

/-- three rows of spans that share no block -/
structure Rows3 (B : Nat) (lx ly lz : List (Int × Int)) (nx ny nz : Nat) (vx vy vz : Value) (w : World) : Prop where
  x : w.ownsRow B 23 2 vx nx (spc lx)
  y : w.ownsRow B 23 2 vy ny (spc ly)
  z : w.ownsRow B 23 2 vz nz (spc lz)
  xy : Apart vx vy
  xz : Apart vx vz
  yz : Apart vy vz
section
variable {B : Nat} {lx ly lz : List (Int × Int)} {nx ny nz : Nat} {vx vy vz : Value} {w w' : World}
theorem Rows3.below (h : Rows3 B lx ly lz nx ny nz vx vy vz w) (hb : Below w.heap.size w w') : Rows3 B lx ly lz nx ny nz vx vy vz w' :=
  ⟨ownsRow_below h.x hb, ownsRow_below h.y hb, ownsRow_below h.z hb, h.xy, h.xz, h.yz⟩
theorem Rows3.alloc (h : Rows3 B lx ly lz nx ny nz vx vy vz w) (o : Obj) : Rows3 B lx ly lz nx ny nz vx vy vz (w.alloc o) := h.below (balloc (Below.refl _ _) _)
theorem Rows3.drew (h : Rows3 B lx ly lz nx ny nz vx vy vz w) : Rows3 B lx ly lz nx ny nz vx vy vz w.drew := h.below (Below.refl _ _).drew
theorem Rows3.appX (h : Rows3 B lx ly lz nx ny nz vx vy vz w) {g cap H : Nat} {a b : Int} (ho : w'.ownsRow B 23 2 (.slice (some ⟨g, 0, none⟩) (nx + 1) cap) (nx + 1) (spc lx ++ [.int .i64 a, .int .i64 b]))
    (hg : w.grownBy w' vx.ownBlock) (hat : vx.ownBlock = some g ∨ g = H) (hH : w.heap.size = H) : Rows3 B (lx ++ [(a, b)]) ly lz (nx + 1) ny nz (.slice (some ⟨g, 0, none⟩) (nx + 1) cap) vy vz w' :=
  ⟨by rw [spc_snoc]; exact ho, ownsRow_apart h.y hg h.xy.symm, ownsRow_apart h.z hg h.xz.symm, apart_new h.y h.xy hat (by omega), apart_new h.z h.xz hat (by omega), h.yz⟩
theorem Rows3.appY (h : Rows3 B lx ly lz nx ny nz vx vy vz w) {g cap H : Nat} {a b : Int} (ho : w'.ownsRow B 23 2 (.slice (some ⟨g, 0, none⟩) (ny + 1) cap) (ny + 1) (spc ly ++ [.int .i64 a, .int .i64 b]))
    (hg : w.grownBy w' vy.ownBlock) (hat : vy.ownBlock = some g ∨ g = H) (hH : w.heap.size = H) : Rows3 B lx (ly ++ [(a, b)]) lz nx (ny + 1) nz vx (.slice (some ⟨g, 0, none⟩) (ny + 1) cap) vz w' :=
  ⟨ownsRow_apart h.x hg h.xy, by rw [spc_snoc]; exact ho, ownsRow_apart h.z hg h.yz.symm, (apart_new h.x h.xy.symm hat (by omega)).symm, h.xz, apart_new h.z h.yz hat (by omega)⟩
theorem Rows3.appZ (h : Rows3 B lx ly lz nx ny nz vx vy vz w) {g cap H : Nat} {a b : Int} (ho : w'.ownsRow B 23 2 (.slice (some ⟨g, 0, none⟩) (nz + 1) cap) (nz + 1) (spc lz ++ [.int .i64 a, .int .i64 b]))
    (hg : w.grownBy w' vz.ownBlock) (hat : vz.ownBlock = some g ∨ g = H) (hH : w.heap.size = H) : Rows3 B lx ly (lz ++ [(a, b)]) nx ny (nz + 1) vx vy (.slice (some ⟨g, 0, none⟩) (nz + 1) cap) w' :=
  ⟨ownsRow_apart h.x hg h.xz, ownsRow_apart h.y hg h.yz, by rw [spc_snoc]; exact ho, h.xy, (apart_new h.x h.xz.symm hat (by omega)).symm, (apart_new h.y h.yz.symm hat (by omega)).symm⟩
theorem below_cell {a : Addr} {v : Value} (hb : Below w.heap.size w w') (hc : w.cell? a = some v) : w'.cell? a = some v :=
  (hb.cell (World.block_lt_of_cell? w a hc)).trans hc
theorem alloc_cell {a : Addr} {v : Value} (hc : w.cell? a = some v) (o : Obj) : (w.alloc o).cell? a = some v := below_cell (balloc (Below.refl _ _) o) hc
theorem below_grown {W : World} {row : Value} (h : Below W.heap.size W w) (hg : w.grownBy w' row.ownBlock) (hr : ∀ g, row.ownBlock = some g → W.heap.size ≤ g) : Below W.heap.size W w' := h.grown hg h.size hr
/-- a cell of a block that the row is not in -/
theorem cell_far_row {row : Value} {a : Addr} {v : Value} (hg : w.grownBy w' row.ownBlock) (hc : w.cell? a = some v) (hn : ∀ g, row.ownBlock = some g → g ≠ a.block) : w'.cell? a = some v := by
  rw [hg.cell_far a (World.block_lt_of_cell? w a hc) (fun e => hn _ e.symm rfl)]; exact hc
end

theorem spc_get : ∀ (l : List (Int × Int)) (i : Nat), i < l.length * 2 → (spc l)[i]? = some (spanF l i)
  | [], i, h => by simp at h
  | s :: l, 0, _ => by simp [spc, spanF]
  | s :: l, 1, _ => by simp [spc, spanF]
  | s :: l, i + 2, h => by
    have ih := spc_get l i (by simp at h; omega)
    have e : spc (s :: l) = .int .i64 s.1 :: .int .i64 s.2 :: spc l := by simp [spc]
    have e1 : (i + 2) % 2 = i % 2 := by omega
    have e2 : (i + 2) / 2 = i / 2 + 1 := by omega
    rw [e]
    simp only [List.getElem?_cons_succ, ih, spanF, e1, e2]
/-- a row of the call's own, as a slice of spans with a first element and a tail -/
theorem spans_of_row {w : World} {B : Nat} {v : Value} {l : List (Int × Int)} (h : w.ownsRow B 23 2 v l.length (spc l)) (hn : 0 < l.length) :
    ∃ g c, v = .slice (some ⟨g, 0, none⟩) l.length c ∧ B ≤ g ∧ g < w.heap.size ∧ l.length ≤ c ∧ c ≤ maxLen ∧ ∀ i, i < l.length * 2 → w.cell? ⟨g, i, none⟩ = some (spanF l i) := by
  obtain ⟨h1, ⟨_, h2⟩ | ⟨g, cap, cur, rfl, h4, h5, h6, h7, h8, h9⟩⟩ := h
  · omega
  · refine ⟨g, cap, rfl, h4, (Array.getElem?_eq_some_iff.1 h5).1, h6, h7, fun i hi => ?_⟩
    have hg := spc_get l i hi
    rw [← h9, List.getElem?_take_of_lt (by omega)] at hg
    unfold World.cell?
    rw [h5]
    simpa using hg

/-- 'x[1:]' of a row of the call's own: what it is, whatever the capacity -/
theorem tail_run (g m c : Nat) (hc : m + 1 ≤ c) : ∃ a, (∀ w : World, (Instr.sliceAt 184 (.slice (some ⟨g, 0, none⟩) (m + 1) c) (some (.int .i64 1)) none none).run Tryz.prog w = .ok (.slice a m (c - 1)) w) ∧
    (m = 0 ∨ a = some ⟨g, 2, none⟩) := by
  refine ⟨if c = 1 then some ⟨g, 0, none⟩ else some ⟨g, 2, none⟩, fun w => ?_, ?_⟩
  · by_cases h : c = 1
    · simp [go_sem, h, Tryz.underlying184]; intro hx; omega
    · simp [go_sem, h, Tryz.underlying184]; intro hx; omega
  · by_cases h : c = 1
    · exact .inl (by omega)
    · exact .inr (by simp [h])
/-- the spans behind the first one -/
theorem tail_spans {w : World} {g m c : Nat} {a : Option Addr} {p : Int × Int} {t : List (Int × Int)} (hm : t.length = m) (ha : m = 0 ∨ a = some ⟨g, 2, none⟩) (hg : g < w.heap.size)
    (hc : ∀ i, i < (m + 1) * 2 → w.cell? ⟨g, i, none⟩ = some (spanF (p :: t) i)) : SpansAt w (.slice a m c) t := by
  subst hm
  refine ⟨_, _, rfl, ?_⟩
  rcases ha with h | rfl
  · exact .inl h
  · refine .inr ⟨g, 2, rfl, hg, fun i hi => ?_⟩
    have e1 : (2 + i) % 2 = i % 2 := by omega
    have e2 : (2 + i) / 2 = i / 2 + 1 := by omega
    rw [hc (2 + i) (by omega)]
    simp [spanF, e1, e2]
theorem whole_spans {w : World} {g m c : Nat} {t : List (Int × Int)} (hm : t.length = m) (hg : g < w.heap.size)
    (hc : ∀ i, i < m * 2 → w.cell? ⟨g, i, none⟩ = some (spanF t i)) : SpansAt w (.slice (some ⟨g, 0, none⟩) m c) t := by
  subst hm
  exact ⟨_, _, rfl, .inr ⟨g, 0, rfl, hg, fun i hi => by rw [Nat.zero_add]; exact hc i hi⟩⟩
/-- six cells stored: a cell of another block -/
theorem store6_other {w : World} {b : Nat} {v0 v1 v2 v3 v4 v5 v : Value} {a : Addr} (hne : b ≠ a.block) (hc : w.cell? a = some v) : ((((((w.setCell ⟨b, 0, none⟩ v0).setCell ⟨b, 1, none⟩ v1).setCell ⟨b, 2, none⟩ v2).setCell ⟨b, 3, none⟩ v3).setCell ⟨b, 4, none⟩ v4).setCell ⟨b, 5, none⟩ v5).cell? a = some v := by
  have h : ∀ i, (⟨b, i, none⟩ : Addr) ≠ a := fun i e => hne (by rw [← e])
  rw [World.cell?_setCell_other _ _ _ _ (h 5), World.cell?_setCell_other _ _ _ _ (h 4), World.cell?_setCell_other _ _ _ _ (h 3), World.cell?_setCell_other _ _ _ _ (h 2), World.cell?_setCell_other _ _ _ _ (h 1), World.cell?_setCell_other _ _ _ _ (h 0)]
  exact hc
/-- a block of six cells that may be written -/
structure Six (w : World) (b : Nat) (v0 v1 v2 v3 v4 v5 : Value) : Prop where
  c0 : w.cell? ⟨b, 0, none⟩ = some v0
  f0 : w.frozen? ⟨b, 0, none⟩ = false
  c1 : w.cell? ⟨b, 1, none⟩ = some v1
  f1 : w.frozen? ⟨b, 1, none⟩ = false
  c2 : w.cell? ⟨b, 2, none⟩ = some v2
  f2 : w.frozen? ⟨b, 2, none⟩ = false
  c3 : w.cell? ⟨b, 3, none⟩ = some v3
  f3 : w.frozen? ⟨b, 3, none⟩ = false
  c4 : w.cell? ⟨b, 4, none⟩ = some v4
  f4 : w.frozen? ⟨b, 4, none⟩ = false
  c5 : w.cell? ⟨b, 5, none⟩ = some v5
  f5 : w.frozen? ⟨b, 5, none⟩ = false
theorem Six.store {w : World} {b : Nat} {v0 v1 v2 v3 v4 v5 : Value} (h : Six w b v0 v1 v2 v3 v4 v5) (u0 u1 u2 u3 u4 u5 : Value) : Six ((((((w.setCell ⟨b, 0, none⟩ u0).setCell ⟨b, 1, none⟩ u1).setCell ⟨b, 2, none⟩ u2).setCell ⟨b, 3, none⟩ u3).setCell ⟨b, 4, none⟩ u4).setCell ⟨b, 5, none⟩ u5) b u0 u1 u2 u3 u4 u5 := by
  have n : ∀ i j, i ≠ j → (⟨b, i, none⟩ : Addr) ≠ ⟨b, j, none⟩ := fun i j h e => h (by injection e)
  refine ⟨?_, ?_, ?_, ?_, ?_, ?_, ?_, ?_, ?_, ?_, ?_, ?_⟩
  · rw [World.cell?_setCell_other _ _ _ _ (n 5 0 (by omega)), World.cell?_setCell_other _ _ _ _ (n 4 0 (by omega)), World.cell?_setCell_other _ _ _ _ (n 3 0 (by omega)), World.cell?_setCell_other _ _ _ _ (n 2 0 (by omega)), World.cell?_setCell_other _ _ _ _ (n 1 0 (by omega))]; exact World.cell?_setCell_same _ _ _ (h.c0)
  · simp only [World.frozen?_setCell]; exact h.f0
  · rw [World.cell?_setCell_other _ _ _ _ (n 5 1 (by omega)), World.cell?_setCell_other _ _ _ _ (n 4 1 (by omega)), World.cell?_setCell_other _ _ _ _ (n 3 1 (by omega)), World.cell?_setCell_other _ _ _ _ (n 2 1 (by omega))]; exact World.cell?_setCell_same _ _ _ (by rw [World.cell?_setCell_other _ _ _ _ (n 0 1 (by omega))]; exact h.c1)
  · simp only [World.frozen?_setCell]; exact h.f1
  · rw [World.cell?_setCell_other _ _ _ _ (n 5 2 (by omega)), World.cell?_setCell_other _ _ _ _ (n 4 2 (by omega)), World.cell?_setCell_other _ _ _ _ (n 3 2 (by omega))]; exact World.cell?_setCell_same _ _ _ (by rw [World.cell?_setCell_other _ _ _ _ (n 1 2 (by omega)), World.cell?_setCell_other _ _ _ _ (n 0 2 (by omega))]; exact h.c2)
  · simp only [World.frozen?_setCell]; exact h.f2
  · rw [World.cell?_setCell_other _ _ _ _ (n 5 3 (by omega)), World.cell?_setCell_other _ _ _ _ (n 4 3 (by omega))]; exact World.cell?_setCell_same _ _ _ (by rw [World.cell?_setCell_other _ _ _ _ (n 2 3 (by omega)), World.cell?_setCell_other _ _ _ _ (n 1 3 (by omega)), World.cell?_setCell_other _ _ _ _ (n 0 3 (by omega))]; exact h.c3)
  · simp only [World.frozen?_setCell]; exact h.f3
  · rw [World.cell?_setCell_other _ _ _ _ (n 5 4 (by omega))]; exact World.cell?_setCell_same _ _ _ (by rw [World.cell?_setCell_other _ _ _ _ (n 3 4 (by omega)), World.cell?_setCell_other _ _ _ _ (n 2 4 (by omega)), World.cell?_setCell_other _ _ _ _ (n 1 4 (by omega)), World.cell?_setCell_other _ _ _ _ (n 0 4 (by omega))]; exact h.c4)
  · simp only [World.frozen?_setCell]; exact h.f4
  · exact World.cell?_setCell_same _ _ _ (by rw [World.cell?_setCell_other _ _ _ _ (n 4 5 (by omega)), World.cell?_setCell_other _ _ _ _ (n 3 5 (by omega)), World.cell?_setCell_other _ _ _ _ (n 2 5 (by omega)), World.cell?_setCell_other _ _ _ _ (n 1 5 (by omega)), World.cell?_setCell_other _ _ _ _ (n 0 5 (by omega))]; exact h.c5)
  · simp only [World.frozen?_setCell]; exact h.f5
theorem Six.below {w w0 : World} {b : Nat} {u0 u1 u2 u3 u4 u5 : Value} (h : Below w0.heap.size w0 w) (hb : w0.heap.size ≤ b) : Below w0.heap.size w0 ((((((w.setCell ⟨b, 0, none⟩ u0).setCell ⟨b, 1, none⟩ u1).setCell ⟨b, 2, none⟩ u2).setCell ⟨b, 3, none⟩ u3).setCell ⟨b, 4, none⟩ u4).setCell ⟨b, 5, none⟩ u5) :=
  (((((h.setCell (p := ⟨b, 0, none⟩) hb u0).setCell (p := ⟨b, 1, none⟩) hb u1).setCell (p := ⟨b, 2, none⟩) hb u2).setCell (p := ⟨b, 3, none⟩) hb u3).setCell (p := ⟨b, 4, none⟩) hb u4).setCell (p := ⟨b, 5, none⟩) hb u5
/-- what 'where' returns -/
def WhereEnd (speed climb low high tick : Int) (ss : List Sight) : Ending :=
  .returned (.tuple #[.agg #[.int .i64 (whXL speed tick ss), .int .i64 (whXH speed tick ss), .int .i64 (whYL speed tick ss), .int .i64 (whYH speed tick ss), .int .i64 (whZL climb low tick ss), .int .i64 (whZH climb high tick ss)], .bool (whB speed climb low high tick ss)])

set_option maxRecDepth 100000 in
set_option maxHeartbeats 4000000 in
theorem where_any (nm : ByteArray) (speed climb low high : Int) (v : Value) (ss : List Sight) (tick : Int) (w : World) (hv : SightsAt w v ss)
    (ht0 : 0 ≤ tick) (ht1 : tick ≤ 100000)
    (g1 : 0 ≤ speed) (g2 : speed ≤ 1000000) (g3 : 0 ≤ climb) (g4 : climb ≤ 1000000) (hn0 : 0 < ss.length) (hn1 : ss.length ≤ 10)
    (hsg : ∀ k, k < ss.length → sgBad (sgAt ss k) = false) :
    Calls Tryz.prog 94 #[.agg #[.string nm, .int .i64 speed, .int .i64 climb, .int .i64 low, .int .i64 high, v], .int .i64 tick] w fun e w' =>
      e = WhereEnd speed climb low high tick ss ∧ Below w.heap.size w w' := by
  have hv1 := hv.below (balloc (balloc (Below.refl _ w) (.cells #[.string nm, .int .i64 speed, .int .i64 climb, .int .i64 low, .int .i64 high, v] 63)) (.cells #[.int .i64 0, .int .i64 0, .int .i64 0, .int .i64 0, .int .i64 0, .int .i64 0] 161))
  obtain ⟨a, c, rfl, hx⟩ := hv
  clear hx
  have HV := Lib.hid hv1
  have HSG := Lib.hid hsg
  clear hv1 hsg
  obtain ⟨i0, hi, hz0, hz1, hz2⟩ := info_parts Tryz.info23
  go_enter Tryz.func94, Tryz.ntmps94
  go_wp2_with fail
  have hbx1 : ((w.alloc (.cells #[.string nm, .int .i64 speed, .int .i64 climb, .int .i64 low, .int .i64 high, .slice a ss.length c] 63)).alloc (.cells #[.int .i64 0, .int .i64 0, .int .i64 0, .int .i64 0, .int .i64 0, .int .i64 0] 161)).cell? ⟨w.heap.size, 1, none⟩ = some (.int .i64 speed) := by simp
  have hbx2 : ((w.alloc (.cells #[.string nm, .int .i64 speed, .int .i64 climb, .int .i64 low, .int .i64 high, .slice a ss.length c] 63)).alloc (.cells #[.int .i64 0, .int .i64 0, .int .i64 0, .int .i64 0, .int .i64 0, .int .i64 0] 161)).cell? ⟨w.heap.size, 2, none⟩ = some (.int .i64 climb) := by simp
  have hbx3 : ((w.alloc (.cells #[.string nm, .int .i64 speed, .int .i64 climb, .int .i64 low, .int .i64 high, .slice a ss.length c] 63)).alloc (.cells #[.int .i64 0, .int .i64 0, .int .i64 0, .int .i64 0, .int .i64 0, .int .i64 0] 161)).cell? ⟨w.heap.size, 3, none⟩ = some (.int .i64 low) := by simp
  have hbx4 : ((w.alloc (.cells #[.string nm, .int .i64 speed, .int .i64 climb, .int .i64 low, .int .i64 high, .slice a ss.length c] 63)).alloc (.cells #[.int .i64 0, .int .i64 0, .int .i64 0, .int .i64 0, .int .i64 0, .int .i64 0] 161)).cell? ⟨w.heap.size, 4, none⟩ = some (.int .i64 high) := by simp
  have hroom : ∀ i, i < 6 → ((w.alloc (.cells #[.string nm, .int .i64 speed, .int .i64 climb, .int .i64 low, .int .i64 high, .slice a ss.length c] 63)).alloc (.cells #[.int .i64 0, .int .i64 0, .int .i64 0, .int .i64 0, .int .i64 0, .int .i64 0] 161)).cell? ⟨w.heap.size + 1, i, none⟩ = some (.int .i64 0) ∧ ((w.alloc (.cells #[.string nm, .int .i64 speed, .int .i64 climb, .int .i64 low, .int .i64 high, .slice a ss.length c] 63)).alloc (.cells #[.int .i64 0, .int .i64 0, .int .i64 0, .int .i64 0, .int .i64 0, .int .i64 0] 161)).frozen? ⟨w.heap.size + 1, i, none⟩ = false := by
    intro i hi
    have : i = 0 ∨ i = 1 ∨ i = 2 ∨ i = 3 ∨ i = 4 ∨ i = 5 := by omega
    rcases this with rfl | rfl | rfl | rfl | rfl | rfl <;> exact ⟨by simp, by simp⟩
  have hW1 : Below w.heap.size w ((w.alloc (.cells #[.string nm, .int .i64 speed, .int .i64 climb, .int .i64 low, .int .i64 high, .slice a ss.length c] 63)).alloc (.cells #[.int .i64 0, .int .i64 0, .int .i64 0, .int .i64 0, .int .i64 0, .int .i64 0] 161)) := (by repeat (first | exact Below.refl _ _ | assumption | refine balloc ?_ _ | refine below_trans ?_ (by assumption) | refine Below.drew ?_ | refine below_drewN ?_ _ | refine Below.setCell ?_ (by simp <;> omega) _))
  have hsz1 : w.heap.size + 2 ≤ ((w.alloc (.cells #[.string nm, .int .i64 speed, .int .i64 climb, .int .i64 low, .int .i64 high, .slice a ss.length c] 63)).alloc (.cells #[.int .i64 0, .int .i64 0, .int .i64 0, .int .i64 0, .int .i64 0, .int .i64 0] 161)).heap.size := by simp
  generalize (w.alloc (.cells #[.string nm, .int .i64 speed, .int .i64 climb, .int .i64 low, .int .i64 high, .slice a ss.length c] 63)).alloc (.cells #[.int .i64 0, .int .i64 0, .int .i64 0, .int .i64 0, .int .i64 0, .int .i64 0] 161) = W1 at *
  have HX1 := Lib.hid hbx1
  have HX2 := Lib.hid hbx2
  have HX3 := Lib.hid hbx3
  have HX4 := Lib.hid hbx4
  have ROOM := Lib.hid hroom
  clear hbx1 hbx2 hbx3 hbx4 hroom
  go_loopw [6, 7, 8, 15] (fun vx vy vz i wr => ∃ k : Nat, k ≤ ss.length ∧ i = .int .i64 k ∧ Below W1.heap.size W1 wr ∧ Rows3 W1.heap.size ((ss.take k).map (sgX speed tick)) ((ss.take k).map (sgY speed tick)) ((ss.take k).map (sgZ climb tick)) k k k vx vy vz wr) (fun _ _ _ i _ => ss.length - (intOf i).toNat)
  case atStart => exact ⟨0, Nat.zero_le _, rfl, Below.refl _ _, ⟨by simpa [spc] using World.ownsRow_nil _ _ _ _, by simpa [spc] using World.ownsRow_nil _ _ _ _, by simpa [spc] using World.ownsRow_nil _ _ _ _, by intro g h; simp [Value.ownBlock] at h, by intro g h; simp [Value.ownBlock] at h, by intro g h; simp [Value.ownBlock] at h⟩⟩
  case round =>
    obtain ⟨k, hk, rfl, hBw, hR⟩ := hrel
    by_cases hlt : k < ss.length
    · have hrow := HV.out.below hBw
      have hx1 := (hBw.cell (p := ⟨w.heap.size, 1, none⟩) (show w.heap.size < W1.heap.size by omega)).trans HX1.out
      have hx2 := (hBw.cell (p := ⟨w.heap.size, 2, none⟩) (show w.heap.size < W1.heap.size by omega)).trans HX2.out
      have hszr : w.heap.size < wr.heap.size := by have := hBw.size; omega
      obtain ⟨a', c', hac, h0 | ⟨b, off, rfl, hb, hc⟩⟩ := hrow
      · omega
      · simp only [Value.slice.injEq] at hac
        obtain ⟨rfl, _, rfl⟩ := hac
        obtain ⟨s0, s1, s2, s3, s4⟩ := sight_cells hc hlt
        have hsb := sgBad_false.1 (HSG.out k hlt)
        obtain ⟨⟨b0, b1⟩, ⟨b2, b3⟩, ⟨b4, b5⟩, ⟨b6, b7⟩, ⟨b8, b9⟩⟩ := hsb
        have hge : sgAt ss k = ss[k] := by simp [sgAt, hlt]
        have HX := Lib.hid (take_snoc_map (sgX speed tick) ss k hlt)
        have HY := Lib.hid (take_snoc_map (sgY speed tick) ss k hlt)
        have HZ := Lib.hid (take_snoc_map (sgZ climb tick) ss k hlt)
        rw [← hge] at HX HY HZ
        generalize sgAt ss k = sg at *
        generalize (ss.take k).map (sgX speed tick) = Lx at hR HX
        generalize (ss.take k).map (sgY speed tick) = Ly at hR HY
        generalize (ss.take k).map (sgZ climb tick) = Lz at hR HZ
        clear hc hge
        by_cases hmx : tick - sg.t < sg.t - tick
        · have hfar := Lib.hid (show far tick sg = sg.t - tick by unfold far; omega)
          have hf0 : 0 ≤ sg.t - tick := by omega
          have hf1 : sg.t - tick ≤ 100000 := by omega
          go_wp2_with fail
          generalize sg.t - tick = f at *
          have t1 : (wr.alloc (.cells #[.int .i64 sg.t, .int .i64 sg.x, .int .i64 sg.y, .int .i64 sg.h, .int .i64 sg.e] 77)).cell? ⟨wr.heap.size, 1, none⟩ = some (.int .i64 sg.x) := by simp
          have t2 : (wr.alloc (.cells #[.int .i64 sg.t, .int .i64 sg.x, .int .i64 sg.y, .int .i64 sg.h, .int .i64 sg.e] 77)).cell? ⟨wr.heap.size, 2, none⟩ = some (.int .i64 sg.y) := by simp
          have t3 : (wr.alloc (.cells #[.int .i64 sg.t, .int .i64 sg.x, .int .i64 sg.y, .int .i64 sg.h, .int .i64 sg.e] 77)).cell? ⟨wr.heap.size, 3, none⟩ = some (.int .i64 sg.h) := by simp
          have t4 : (wr.alloc (.cells #[.int .i64 sg.t, .int .i64 sg.x, .int .i64 sg.y, .int .i64 sg.h, .int .i64 sg.e] 77)).cell? ⟨wr.heap.size, 4, none⟩ = some (.int .i64 sg.e) := by simp
          have t5 : (wr.alloc (.cells #[.int .i64 sg.t, .int .i64 sg.x, .int .i64 sg.y, .int .i64 sg.h, .int .i64 sg.e] 77)).cell? ⟨w.heap.size, 1, none⟩ = some (.int .i64 speed) := by rw [World.cell?_alloc_past _ _ _ hszr]; exact hx1
          have t6 : (wr.alloc (.cells #[.int .i64 sg.t, .int .i64 sg.x, .int .i64 sg.y, .int .i64 sg.h, .int .i64 sg.e] 77)).cell? ⟨w.heap.size, 2, none⟩ = some (.int .i64 climb) := by rw [World.cell?_alloc_past _ _ _ hszr]; exact hx2
          have t7 : (wr.alloc (.cells #[.int .i64 sg.t, .int .i64 sg.x, .int .i64 sg.y, .int .i64 sg.h, .int .i64 sg.e] 77)).heap.size = wr.heap.size + 1 := by simp
          have t8 : Below W1.heap.size W1 (wr.alloc (.cells #[.int .i64 sg.t, .int .i64 sg.x, .int .i64 sg.y, .int .i64 sg.h, .int .i64 sg.e] 77)) := hBw.alloc hBw.size _
          have hr := (hR.alloc (.cells #[.int .i64 sg.t, .int .i64 sg.x, .int .i64 sg.y, .int .i64 sg.h, .int .i64 sg.e] 77)).drew
          have n6 : ∀ g, u6.ownBlock = some g → g ≠ wr.heap.size ∧ g ≠ w.heap.size := fun g h => by have := World.ownsRow.lt hR.x g h; omega
          have n7 : ∀ g, u7.ownBlock = some g → g ≠ wr.heap.size ∧ g ≠ w.heap.size := fun g h => by have := World.ownsRow.lt hR.y g h; omega
          have n8 : ∀ g, u8.ownBlock = some g → g ≠ wr.heap.size ∧ g ≠ w.heap.size := fun g h => by have := World.ownsRow.lt hR.z g h; omega
          have hsb : W1.heap.size ≤ wr.heap.size := hBw.size
          clear hBw hR hx1 hx2 s0 s1 s2 s3 s4
          generalize (wr.alloc (.cells #[.int .i64 sg.t, .int .i64 sg.x, .int .i64 sg.y, .int .i64 sg.h, .int .i64 sg.e] 77)) = W3 at *
          generalize wr.heap.size = sb at *
          obtain ⟨p0, p1⟩ := mul_bd f speed 100000 1000000 hf0 hf1 g1 g2
          have q1 := IntWalk.i64_in (f * speed) ⟨by omega, by omega⟩
          have q2 := IntWalk.i64_in (sg.e + f * speed) ⟨by omega, by omega⟩
          have hB := t8.drew
          have m1 : W3.drew.cell? ⟨sb, 1, none⟩ = some (.int .i64 sg.x) := t1
          have m2 : W3.drew.cell? ⟨sb, 2, none⟩ = some (.int .i64 sg.y) := t2
          have m3 : W3.drew.cell? ⟨sb, 3, none⟩ = some (.int .i64 sg.h) := t3
          have m4 : W3.drew.cell? ⟨sb, 4, none⟩ = some (.int .i64 sg.e) := t4
          have m5 : W3.drew.cell? ⟨w.heap.size, 1, none⟩ = some (.int .i64 speed) := t5
          have m6 : W3.drew.cell? ⟨w.heap.size, 2, none⟩ = some (.int .i64 climb) := t6
          have N6 := Lib.hid n6
          have N7 := Lib.hid n7
          have N8 := Lib.hid n8
          clear n6 n7 n8 t8
          go_region_held3 (fun w' => w'.cell? ⟨sb, 1, none⟩ = some (.int .i64 sg.x) ∧ w'.cell? ⟨sb, 2, none⟩ = some (.int .i64 sg.y) ∧ w'.cell? ⟨sb, 4, none⟩ = some (.int .i64 sg.e) ∧ w'.cell? ⟨w.heap.size, 1, none⟩ = some (.int .i64 speed)) (first | exact ⟨m1, m2, m4, m5⟩ | exact ⟨alloc_cell m1 _, alloc_cell m2 _, alloc_cell m4 _, alloc_cell m5 _⟩ | go_keep)
            (first
              | (go_at_call 152; refine (about_any _ _ _ (by omega) (by omega) (by omega) (by omega)).mono ?_; rintro e w4 ⟨rfl, hbA⟩; have hr := hr.below hbA; have hB := below_trans hB hbA; have m1 := below_cell hbA m1; have m2 := below_cell hbA m2; have m3 := below_cell hbA m3; have m4 := below_cell hbA m4; have m5 := below_cell hbA m5; have m6 := below_cell hbA m6)
              | (refine step_append_lies _ (by rfl) _ _ _ (by rfl) W1.heap.size 23 i0 _ 2 16 Tryz.underlying184 hi hz0 hz1 hz2 rfl (by omega) u6 k _ (by rfl) (hr.x.alloc _) ⟨w4.heap.size, 0, none⟩ 1 1 [.int .i64 (sg.x - (sg.e + f * speed)), .int .i64 (sg.x + (sg.e + f * speed))] (by rfl) (by rfl) (World.news_of_block (cs := #[.int .i64 (sg.x - (sg.e + f * speed)), .int .i64 (sg.x + (sg.e + f * speed))]) (t := 23) (fr := (0, 0)) (heap_alloc_new w4 _)) (by simp [Value.oneCell']) (by omega) (by unfold maxLen; omega) (by omega) (by have := hB.size; simp; omega) (w4.heap.size + 1) (by simp) ?_
                 intro gx capx w5 hown1 hgrow hat hlt1
                 have hB := below_grown (hB.alloc hB.size _) hgrow (fun g hg => (World.ownsRow.lt hr.x g hg).1)
                 have hr := (hr.alloc _).appX hown1 hgrow hat (by simp)
                 have m1 := cell_far_row hgrow (alloc_cell m1 _) (fun g hg => (N6.out g hg).1)
                 have m2 := cell_far_row hgrow (alloc_cell m2 _) (fun g hg => (N6.out g hg).1)
                 have m3 := cell_far_row hgrow (alloc_cell m3 _) (fun g hg => (N6.out g hg).1)
                 have m4 := cell_far_row hgrow (alloc_cell m4 _) (fun g hg => (N6.out g hg).1)
                 have m5 := cell_far_row hgrow (alloc_cell m5 _) (fun g hg => (N6.out g hg).2)
                 have m6 := cell_far_row hgrow (alloc_cell m6 _) (fun g hg => (N6.out g hg).2))
              | (refine step_append_lies _ (by rfl) _ _ _ (by rfl) W1.heap.size 23 i0 _ 2 16 Tryz.underlying184 hi hz0 hz1 hz2 rfl (by omega) u7 k _ (by rfl) (hr.y.alloc _) ⟨w4.heap.size, 0, none⟩ 1 1 [.int .i64 (sg.y - (sg.e + f * speed)), .int .i64 (sg.y + (sg.e + f * speed))] (by rfl) (by rfl) (World.news_of_block (cs := #[.int .i64 (sg.y - (sg.e + f * speed)), .int .i64 (sg.y + (sg.e + f * speed))]) (t := 23) (fr := (0, 0)) (heap_alloc_new w4 _)) (by simp [Value.oneCell']) (by omega) (by unfold maxLen; omega) (by omega) (by have := hB.size; simp; omega) (w4.heap.size + 1) (by simp) ?_
                 intro gy capy w6 hown2 hgrow hat hlt2
                 have hB := below_grown (hB.alloc hB.size _) hgrow (fun g hg => (World.ownsRow.lt hr.y g hg).1)
                 have hr := (hr.alloc _).appY hown2 hgrow hat (by simp)
                 have m1 := cell_far_row hgrow (alloc_cell m1 _) (fun g hg => (N7.out g hg).1)
                 have m2 := cell_far_row hgrow (alloc_cell m2 _) (fun g hg => (N7.out g hg).1)
                 have m3 := cell_far_row hgrow (alloc_cell m3 _) (fun g hg => (N7.out g hg).1)
                 have m4 := cell_far_row hgrow (alloc_cell m4 _) (fun g hg => (N7.out g hg).1)
                 have m5 := cell_far_row hgrow (alloc_cell m5 _) (fun g hg => (N7.out g hg).2)
                 have m6 := cell_far_row hgrow (alloc_cell m6 _) (fun g hg => (N7.out g hg).2)))
          obtain ⟨p2, p3⟩ := mul_bd f climb 100000 1000000 hf0 hf1 g3 g4
          clear q1 q2 t1 t2 t3 t4 t5 t6 hown1 hown2 N6 N7 hlt1 hlt2
          go_wp2_with fail
          refine (about_any _ _ _ (by omega) (by omega) (by omega) (by omega)).mono ?_
          rintro e w8 ⟨rfl, hbA⟩
          have hr := hr.below hbA
          have hB := below_trans hB hbA
          go_wp2_with (at_builtin; refine wpList_append_lies _ (by rfl) _ _ _ (by rfl) W1.heap.size 23 i0 _ 2 16 Tryz.underlying184 hi hz0 hz1 hz2 rfl (by omega) u8 k _ (by rfl) (hr.z.alloc _) ⟨w8.heap.size, 0, none⟩ 1 1 [.int .i64 (sg.h - (sg.e + f * climb)), .int .i64 (sg.h + (sg.e + f * climb))] (by rfl) (by rfl) (World.news_of_block (cs := #[.int .i64 (sg.h - (sg.e + f * climb)), .int .i64 (sg.h + (sg.e + f * climb))]) (t := 23) (fr := (0, 0)) (heap_alloc_new w8 _)) (by simp [Value.oneCell']) (by omega) (by unfold maxLen; omega) (by omega) (by have := hB.size; simp; omega) (w8.heap.size + 1) (by simp) ?_)
          intro gz capz w9 hown3 hgrow hat hlt3
          have hB := below_grown (hB.alloc hB.size _) hgrow (fun g hg => (World.ownsRow.lt hr.z g hg).1)
          have hr := (hr.alloc _).appZ hown3 hgrow hat (by simp)
          clear hgrow hat hlt3 hown3 N8
          go_wp2_with fail
          go_roundw
          case rel => exact ⟨k + 1, by omega, by go_num, hB, by rw [HX.out, HY.out, HZ.out]; unfold sgX sgY sgZ; rw [hfar.out]; exact hr⟩
          case measure => simp [intOf]; omega
        · have hfar := Lib.hid (show far tick sg = tick - sg.t by unfold far; omega)
          have hf0 : 0 ≤ tick - sg.t := by omega
          have hf1 : tick - sg.t ≤ 100000 := by omega
          go_wp2_with fail
          generalize tick - sg.t = f at *
          have t1 : (wr.alloc (.cells #[.int .i64 sg.t, .int .i64 sg.x, .int .i64 sg.y, .int .i64 sg.h, .int .i64 sg.e] 77)).cell? ⟨wr.heap.size, 1, none⟩ = some (.int .i64 sg.x) := by simp
          have t2 : (wr.alloc (.cells #[.int .i64 sg.t, .int .i64 sg.x, .int .i64 sg.y, .int .i64 sg.h, .int .i64 sg.e] 77)).cell? ⟨wr.heap.size, 2, none⟩ = some (.int .i64 sg.y) := by simp
          have t3 : (wr.alloc (.cells #[.int .i64 sg.t, .int .i64 sg.x, .int .i64 sg.y, .int .i64 sg.h, .int .i64 sg.e] 77)).cell? ⟨wr.heap.size, 3, none⟩ = some (.int .i64 sg.h) := by simp
          have t4 : (wr.alloc (.cells #[.int .i64 sg.t, .int .i64 sg.x, .int .i64 sg.y, .int .i64 sg.h, .int .i64 sg.e] 77)).cell? ⟨wr.heap.size, 4, none⟩ = some (.int .i64 sg.e) := by simp
          have t5 : (wr.alloc (.cells #[.int .i64 sg.t, .int .i64 sg.x, .int .i64 sg.y, .int .i64 sg.h, .int .i64 sg.e] 77)).cell? ⟨w.heap.size, 1, none⟩ = some (.int .i64 speed) := by rw [World.cell?_alloc_past _ _ _ hszr]; exact hx1
          have t6 : (wr.alloc (.cells #[.int .i64 sg.t, .int .i64 sg.x, .int .i64 sg.y, .int .i64 sg.h, .int .i64 sg.e] 77)).cell? ⟨w.heap.size, 2, none⟩ = some (.int .i64 climb) := by rw [World.cell?_alloc_past _ _ _ hszr]; exact hx2
          have t7 : (wr.alloc (.cells #[.int .i64 sg.t, .int .i64 sg.x, .int .i64 sg.y, .int .i64 sg.h, .int .i64 sg.e] 77)).heap.size = wr.heap.size + 1 := by simp
          have t8 : Below W1.heap.size W1 (wr.alloc (.cells #[.int .i64 sg.t, .int .i64 sg.x, .int .i64 sg.y, .int .i64 sg.h, .int .i64 sg.e] 77)) := hBw.alloc hBw.size _
          have hr := (hR.alloc (.cells #[.int .i64 sg.t, .int .i64 sg.x, .int .i64 sg.y, .int .i64 sg.h, .int .i64 sg.e] 77)).drew
          have n6 : ∀ g, u6.ownBlock = some g → g ≠ wr.heap.size ∧ g ≠ w.heap.size := fun g h => by have := World.ownsRow.lt hR.x g h; omega
          have n7 : ∀ g, u7.ownBlock = some g → g ≠ wr.heap.size ∧ g ≠ w.heap.size := fun g h => by have := World.ownsRow.lt hR.y g h; omega
          have n8 : ∀ g, u8.ownBlock = some g → g ≠ wr.heap.size ∧ g ≠ w.heap.size := fun g h => by have := World.ownsRow.lt hR.z g h; omega
          have hsb : W1.heap.size ≤ wr.heap.size := hBw.size
          clear hBw hR hx1 hx2 s0 s1 s2 s3 s4
          generalize (wr.alloc (.cells #[.int .i64 sg.t, .int .i64 sg.x, .int .i64 sg.y, .int .i64 sg.h, .int .i64 sg.e] 77)) = W3 at *
          generalize wr.heap.size = sb at *
          obtain ⟨p0, p1⟩ := mul_bd f speed 100000 1000000 hf0 hf1 g1 g2
          have q1 := IntWalk.i64_in (f * speed) ⟨by omega, by omega⟩
          have q2 := IntWalk.i64_in (sg.e + f * speed) ⟨by omega, by omega⟩
          have hB := t8.drew
          have m1 : W3.drew.cell? ⟨sb, 1, none⟩ = some (.int .i64 sg.x) := t1
          have m2 : W3.drew.cell? ⟨sb, 2, none⟩ = some (.int .i64 sg.y) := t2
          have m3 : W3.drew.cell? ⟨sb, 3, none⟩ = some (.int .i64 sg.h) := t3
          have m4 : W3.drew.cell? ⟨sb, 4, none⟩ = some (.int .i64 sg.e) := t4
          have m5 : W3.drew.cell? ⟨w.heap.size, 1, none⟩ = some (.int .i64 speed) := t5
          have m6 : W3.drew.cell? ⟨w.heap.size, 2, none⟩ = some (.int .i64 climb) := t6
          have N6 := Lib.hid n6
          have N7 := Lib.hid n7
          have N8 := Lib.hid n8
          clear n6 n7 n8 t8
          go_region_held3 (fun w' => w'.cell? ⟨sb, 1, none⟩ = some (.int .i64 sg.x) ∧ w'.cell? ⟨sb, 2, none⟩ = some (.int .i64 sg.y) ∧ w'.cell? ⟨sb, 4, none⟩ = some (.int .i64 sg.e) ∧ w'.cell? ⟨w.heap.size, 1, none⟩ = some (.int .i64 speed)) (first | exact ⟨m1, m2, m4, m5⟩ | exact ⟨alloc_cell m1 _, alloc_cell m2 _, alloc_cell m4 _, alloc_cell m5 _⟩ | go_keep)
            (first
              | (go_at_call 152; refine (about_any _ _ _ (by omega) (by omega) (by omega) (by omega)).mono ?_; rintro e w4 ⟨rfl, hbA⟩; have hr := hr.below hbA; have hB := below_trans hB hbA; have m1 := below_cell hbA m1; have m2 := below_cell hbA m2; have m3 := below_cell hbA m3; have m4 := below_cell hbA m4; have m5 := below_cell hbA m5; have m6 := below_cell hbA m6)
              | (refine step_append_lies _ (by rfl) _ _ _ (by rfl) W1.heap.size 23 i0 _ 2 16 Tryz.underlying184 hi hz0 hz1 hz2 rfl (by omega) u6 k _ (by rfl) (hr.x.alloc _) ⟨w4.heap.size, 0, none⟩ 1 1 [.int .i64 (sg.x - (sg.e + f * speed)), .int .i64 (sg.x + (sg.e + f * speed))] (by rfl) (by rfl) (World.news_of_block (cs := #[.int .i64 (sg.x - (sg.e + f * speed)), .int .i64 (sg.x + (sg.e + f * speed))]) (t := 23) (fr := (0, 0)) (heap_alloc_new w4 _)) (by simp [Value.oneCell']) (by omega) (by unfold maxLen; omega) (by omega) (by have := hB.size; simp; omega) (w4.heap.size + 1) (by simp) ?_
                 intro gx capx w5 hown1 hgrow hat hlt1
                 have hB := below_grown (hB.alloc hB.size _) hgrow (fun g hg => (World.ownsRow.lt hr.x g hg).1)
                 have hr := (hr.alloc _).appX hown1 hgrow hat (by simp)
                 have m1 := cell_far_row hgrow (alloc_cell m1 _) (fun g hg => (N6.out g hg).1)
                 have m2 := cell_far_row hgrow (alloc_cell m2 _) (fun g hg => (N6.out g hg).1)
                 have m3 := cell_far_row hgrow (alloc_cell m3 _) (fun g hg => (N6.out g hg).1)
                 have m4 := cell_far_row hgrow (alloc_cell m4 _) (fun g hg => (N6.out g hg).1)
                 have m5 := cell_far_row hgrow (alloc_cell m5 _) (fun g hg => (N6.out g hg).2)
                 have m6 := cell_far_row hgrow (alloc_cell m6 _) (fun g hg => (N6.out g hg).2))
              | (refine step_append_lies _ (by rfl) _ _ _ (by rfl) W1.heap.size 23 i0 _ 2 16 Tryz.underlying184 hi hz0 hz1 hz2 rfl (by omega) u7 k _ (by rfl) (hr.y.alloc _) ⟨w4.heap.size, 0, none⟩ 1 1 [.int .i64 (sg.y - (sg.e + f * speed)), .int .i64 (sg.y + (sg.e + f * speed))] (by rfl) (by rfl) (World.news_of_block (cs := #[.int .i64 (sg.y - (sg.e + f * speed)), .int .i64 (sg.y + (sg.e + f * speed))]) (t := 23) (fr := (0, 0)) (heap_alloc_new w4 _)) (by simp [Value.oneCell']) (by omega) (by unfold maxLen; omega) (by omega) (by have := hB.size; simp; omega) (w4.heap.size + 1) (by simp) ?_
                 intro gy capy w6 hown2 hgrow hat hlt2
                 have hB := below_grown (hB.alloc hB.size _) hgrow (fun g hg => (World.ownsRow.lt hr.y g hg).1)
                 have hr := (hr.alloc _).appY hown2 hgrow hat (by simp)
                 have m1 := cell_far_row hgrow (alloc_cell m1 _) (fun g hg => (N7.out g hg).1)
                 have m2 := cell_far_row hgrow (alloc_cell m2 _) (fun g hg => (N7.out g hg).1)
                 have m3 := cell_far_row hgrow (alloc_cell m3 _) (fun g hg => (N7.out g hg).1)
                 have m4 := cell_far_row hgrow (alloc_cell m4 _) (fun g hg => (N7.out g hg).1)
                 have m5 := cell_far_row hgrow (alloc_cell m5 _) (fun g hg => (N7.out g hg).2)
                 have m6 := cell_far_row hgrow (alloc_cell m6 _) (fun g hg => (N7.out g hg).2)))
          obtain ⟨p2, p3⟩ := mul_bd f climb 100000 1000000 hf0 hf1 g3 g4
          clear q1 q2 t1 t2 t3 t4 t5 t6 hown1 hown2 N6 N7 hlt1 hlt2
          go_wp2_with fail
          refine (about_any _ _ _ (by omega) (by omega) (by omega) (by omega)).mono ?_
          rintro e w8 ⟨rfl, hbA⟩
          have hr := hr.below hbA
          have hB := below_trans hB hbA
          go_wp2_with (at_builtin; refine wpList_append_lies _ (by rfl) _ _ _ (by rfl) W1.heap.size 23 i0 _ 2 16 Tryz.underlying184 hi hz0 hz1 hz2 rfl (by omega) u8 k _ (by rfl) (hr.z.alloc _) ⟨w8.heap.size, 0, none⟩ 1 1 [.int .i64 (sg.h - (sg.e + f * climb)), .int .i64 (sg.h + (sg.e + f * climb))] (by rfl) (by rfl) (World.news_of_block (cs := #[.int .i64 (sg.h - (sg.e + f * climb)), .int .i64 (sg.h + (sg.e + f * climb))]) (t := 23) (fr := (0, 0)) (heap_alloc_new w8 _)) (by simp [Value.oneCell']) (by omega) (by unfold maxLen; omega) (by omega) (by have := hB.size; simp; omega) (w8.heap.size + 1) (by simp) ?_)
          intro gz capz w9 hown3 hgrow hat hlt3
          have hB := below_grown (hB.alloc hB.size _) hgrow (fun g hg => (World.ownsRow.lt hr.z g hg).1)
          have hr := (hr.alloc _).appZ hown3 hgrow hat (by simp)
          clear hgrow hat hlt3 hown3 N8
          go_wp2_with fail
          go_roundw
          case rel => exact ⟨k + 1, by omega, by go_num, hB, by rw [HX.out, HY.out, HZ.out]; unfold sgX sgY sgZ; rw [hfar.out]; exact hr⟩
          case measure => simp [intOf]; omega
    · obtain rfl : k = ss.length := by omega
      rw [List.take_length] at hR
      obtain ⟨rx, ry, rz, n1, n2, n3⟩ := hR
      clear n1 n2 n3
      have ex : (ss.map (sgX speed tick)).length = ss.length := by simp
      have ey : (ss.map (sgY speed tick)).length = ss.length := by simp
      have ez : (ss.map (sgZ climb tick)).length = ss.length := by simp
      obtain ⟨gx, cx, rfl, x1, x2, x3, x4, hx⟩ := spans_of_row (l := ss.map (sgX speed tick)) (by rw [ex]; exact rx) (by omega)
      obtain ⟨gy, cy, rfl, y1, y2, y3, y4, hy⟩ := spans_of_row (l := ss.map (sgY speed tick)) (by rw [ey]; exact ry) (by omega)
      obtain ⟨gz, cz, rfl, z1, z2, z3, z4, hz⟩ := spans_of_row (l := ss.map (sgZ climb tick)) (by rw [ez]; exact rz) (by omega)
      rw [ex] at x3 hx
      rw [ey] at y3 hy
      rw [ez] at z3 hz
      unfold maxLen at x4 y4 z4
      rw [ex, ey, ez]
      have FIN : Hid (∀ xp xq yp yq tx ty, ss.map (sgX speed tick) = (xp, xq) :: tx → ss.map (sgY speed tick) = (yp, yq) :: ty → ∀ e, e = .returned (.tuple #[.agg #[.int .i64 (comLo xp tx), .int .i64 (comHi xq tx), .int .i64 (comLo yp ty), .int .i64 (comHi yq ty), .int .i64 (comLo low (ss.map (sgZ climb tick))), .int .i64 (comHi high (ss.map (sgZ climb tick)))], .bool (decide (comLo xp tx ≤ comHi xq tx) && decide (comLo yp ty ≤ comHi yq ty) && decide (comLo low (ss.map (sgZ climb tick)) ≤ comHi high (ss.map (sgZ climb tick))))]) → e = WhereEnd speed climb low high tick ss) := by
        intro xp xq yp yq tx ty hxe hye e he
        rw [he]; unfold WhereEnd whB whXL whXH whYL whYH whZL whZH
        rw [hxe, hye]; rfl
      have HXL := Lib.hid ex
      have HYL := Lib.hid ey
      have HZL := Lib.hid ez
      clear ex ey ez rx ry rz
      obtain ⟨lx, hlx⟩ : ∃ l, l = ss.map (sgX speed tick) := ⟨_, rfl⟩
      obtain ⟨ly, hly⟩ : ∃ l, l = ss.map (sgY speed tick) := ⟨_, rfl⟩
      obtain ⟨lz, hlz⟩ : ∃ l, l = ss.map (sgZ climb tick) := ⟨_, rfl⟩
      rw [← hlx] at hx HXL
      rw [← hly] at hy HYL
      rw [← hlz] at hz HZL
      obtain ⟨⟨xp, xq⟩, tx, rfl⟩ : ∃ p t, lx = p :: t := by
        cases lx with
        | nil => have := HXL.out; simp at this; omega
        | cons p t => exact ⟨p, t, rfl⟩
      obtain ⟨⟨yp, yq⟩, ty, rfl⟩ : ∃ p t, ly = p :: t := by
        cases ly with
        | nil => have := HYL.out; simp at this; omega
        | cons p t => exact ⟨p, t, rfl⟩
      have FI := Lib.hid (FIN.out xp xq yp yq tx ty hlx.symm hly.symm)
      rw [← hlz] at FI
      have ex : tx.length + 1 = ss.length := HXL.out
      have ey : ty.length + 1 = ss.length := HYL.out
      have ez : lz.length = ss.length := HZL.out
      clear FIN hlx hly hlz HXL HYL HZL HSG HV
      generalize ss.length = n at *
      obtain ⟨m, rfl⟩ : ∃ m, n = m + 1 := ⟨n - 1, by omega⟩
      have xa : wr.cell? ⟨gx, 0, none⟩ = some (.int .i64 xp) := hx 0 (by omega)
      have xb : wr.cell? ⟨gx, 1, none⟩ = some (.int .i64 xq) := hx 1 (by omega)
      have ya : wr.cell? ⟨gy, 0, none⟩ = some (.int .i64 yp) := hy 0 (by omega)
      have yb : wr.cell? ⟨gy, 1, none⟩ = some (.int .i64 yq) := hy 1 (by omega)
      have HX := Lib.hid hx
      have HY := Lib.hid hy
      have HZ := Lib.hid hz
      have EX := Lib.hid ex
      have EY := Lib.hid ey
      have EZ := Lib.hid ez
      clear hx hy hz ex ey ez
      have l3 := (hBw.cell (p := ⟨w.heap.size, 3, none⟩) (show w.heap.size < W1.heap.size by omega)).trans HX3.out
      have l4 := (hBw.cell (p := ⟨w.heap.size, 4, none⟩) (show w.heap.size < W1.heap.size by omega)).trans HX4.out
      go_wp2_with fail
      obtain ⟨ax, hax, hax2⟩ := tail_run gx m cx x3
      obtain ⟨ay, hay, hay2⟩ := tail_run gy m cy y3
      have HTX := Lib.hid (tail_spans (c := cx - 1) (show tx.length = m by have := EX.out; omega) hax2 x2 HX.out)
      have HTY := Lib.hid (tail_spans (c := cy - 1) (show ty.length = m by have := EY.out; omega) hay2 y2 HY.out)
      have HTZ := Lib.hid (whole_spans (c := cz) EZ.out z2 HZ.out)
      clear HX HY HZ hax2 hay2
      have hnx : w.heap.size + 1 ≠ gx := by omega
      have hny : w.heap.size + 1 ≠ gy := by omega
      have hnb : w.heap.size + 1 ≠ w.heap.size := by omega
      have hB := hBw.drew
      have s1 : wr.drew.cell? ⟨gx, 0, none⟩ = some (.int .i64 xp) := xa
      have s2 : wr.drew.cell? ⟨gx, 1, none⟩ = some (.int .i64 xq) := xb
      have s3 : wr.drew.cell? ⟨gy, 0, none⟩ = some (.int .i64 yp) := ya
      have s4 : wr.drew.cell? ⟨gy, 1, none⟩ = some (.int .i64 yq) := yb
      have s5 : wr.drew.cell? ⟨w.heap.size, 3, none⟩ = some (.int .i64 low) := l3
      have s6 : wr.drew.cell? ⟨w.heap.size, 4, none⟩ = some (.int .i64 high) := l4
      have HTX := Lib.hid (HTX.out.below (Below.refl _ _).drew)
      have HTY := Lib.hid (HTY.out.below (Below.refl _ _).drew)
      have HTZ := Lib.hid (HTZ.out.below (Below.refl _ _).drew)
      have lx1 : tx.length ≤ 4611686018427387903 := by have := EX.out; omega
      have ly1 : ty.length ≤ 4611686018427387903 := by have := EY.out; omega
      have lz1 : lz.length ≤ 4611686018427387903 := by have := EZ.out; omega
      have ETX := Lib.hid (show tx.length = m by have := EX.out; omega)
      have ETY := Lib.hid (show ty.length = m by have := EY.out; omega)
      go_region_held3 (fun w' => w'.cell? ⟨gx, 0, none⟩ = some (.int .i64 xp) ∧ w'.cell? ⟨gx, 1, none⟩ = some (.int .i64 xq) ∧ w'.cell? ⟨gy, 0, none⟩ = some (.int .i64 yp) ∧ w'.cell? ⟨gy, 1, none⟩ = some (.int .i64 yq) ∧ w'.cell? ⟨w.heap.size, 3, none⟩ = some (.int .i64 low) ∧ w'.cell? ⟨w.heap.size, 4, none⟩ = some (.int .i64 high)) (first | (with_reducible exact ⟨s1, s2, s3, s4, s5, s6⟩) | (with_reducible exact ⟨store6_other hnx s1, store6_other hnx s2, store6_other hny s3, store6_other hny s4, store6_other hnb s5, store6_other hnb s6⟩) | go_keep)
        ((go_at_call 153; refine (common_any _ _ _ _ _ (by first | (with_reducible exact HTX.out) | (with_reducible exact HTY.out) | (with_reducible exact HTZ.out)) (by assumption)).mono ?_; rintro e w4 ⟨rfl, hbA⟩; have hB := below_trans hB hbA; have HTX := Lib.hid (HTX.out.below hbA); have HTY := Lib.hid (HTY.out.below hbA); have HTZ := Lib.hid (HTZ.out.below hbA); have s1 := below_cell hbA s1; have s2 := below_cell hbA s2; have s3 := below_cell hbA s3; have s4 := below_cell hbA s4; have s5 := below_cell hbA s5; have s6 := below_cell hbA s6; have r0 := (hB.cell (p := ⟨w.heap.size + 1, 0, none⟩) (show w.heap.size + 1 < W1.heap.size by omega)).trans (ROOM.out 0 (by omega)).1; have f0 := (hB.frozen (p := ⟨w.heap.size + 1, 0, none⟩) (show w.heap.size + 1 < W1.heap.size by omega)).trans (ROOM.out 0 (by omega)).2; have r1 := (hB.cell (p := ⟨w.heap.size + 1, 1, none⟩) (show w.heap.size + 1 < W1.heap.size by omega)).trans (ROOM.out 1 (by omega)).1; have f1 := (hB.frozen (p := ⟨w.heap.size + 1, 1, none⟩) (show w.heap.size + 1 < W1.heap.size by omega)).trans (ROOM.out 1 (by omega)).2; have r2 := (hB.cell (p := ⟨w.heap.size + 1, 2, none⟩) (show w.heap.size + 1 < W1.heap.size by omega)).trans (ROOM.out 2 (by omega)).1; have f2 := (hB.frozen (p := ⟨w.heap.size + 1, 2, none⟩) (show w.heap.size + 1 < W1.heap.size by omega)).trans (ROOM.out 2 (by omega)).2; have r3 := (hB.cell (p := ⟨w.heap.size + 1, 3, none⟩) (show w.heap.size + 1 < W1.heap.size by omega)).trans (ROOM.out 3 (by omega)).1; have f3 := (hB.frozen (p := ⟨w.heap.size + 1, 3, none⟩) (show w.heap.size + 1 < W1.heap.size by omega)).trans (ROOM.out 3 (by omega)).2; have r4 := (hB.cell (p := ⟨w.heap.size + 1, 4, none⟩) (show w.heap.size + 1 < W1.heap.size by omega)).trans (ROOM.out 4 (by omega)).1; have f4 := (hB.frozen (p := ⟨w.heap.size + 1, 4, none⟩) (show w.heap.size + 1 < W1.heap.size by omega)).trans (ROOM.out 4 (by omega)).2; have r5 := (hB.cell (p := ⟨w.heap.size + 1, 5, none⟩) (show w.heap.size + 1 < W1.heap.size by omega)).trans (ROOM.out 5 (by omega)).1; have f5 := (hB.frozen (p := ⟨w.heap.size + 1, 5, none⟩) (show w.heap.size + 1 < W1.heap.size by omega)).trans (ROOM.out 5 (by omega)).2))
      have h5 := Six.store ⟨r0, f0, r1, f1, r2, f2, r3, f3, r4, f4, r5, f5⟩ (.int .i64 (comLo xp tx)) (.int .i64 (comHi xq tx)) (.int .i64 (comLo yp ty)) (.int .i64 (comHi yq ty)) (.int .i64 (comLo low lz)) (.int .i64 (comHi high lz))
      have hB5 := Six.below (b := w.heap.size + 1) (u0 := (.int .i64 (comLo xp tx))) (u1 := (.int .i64 (comHi xq tx))) (u2 := (.int .i64 (comLo yp ty))) (u3 := (.int .i64 (comHi yq ty))) (u4 := (.int .i64 (comLo low lz))) (u5 := (.int .i64 (comHi high lz))) (below_trans hW1 hB) (by omega)
      clear r0 r1 r2 r3 r4 r5 f0 f1 f2 f3 f4 f5 s1 s2 s3 s4 s5 s6 hB hbA HTX HTY HTZ
      generalize ((((((w4.setCell ⟨w.heap.size + 1, 0, none⟩ (.int .i64 (comLo xp tx))).setCell ⟨w.heap.size + 1, 1, none⟩ (.int .i64 (comHi xq tx))).setCell ⟨w.heap.size + 1, 2, none⟩ (.int .i64 (comLo yp ty))).setCell ⟨w.heap.size + 1, 3, none⟩ (.int .i64 (comHi yq ty))).setCell ⟨w.heap.size + 1, 4, none⟩ (.int .i64 (comLo low lz))).setCell ⟨w.heap.size + 1, 5, none⟩ (.int .i64 (comHi high lz))) = W5 at h5 hB5 ⊢
      have h6 := h5.store (.int .i64 (comLo xp tx)) (.int .i64 (comHi xq tx)) (.int .i64 (comLo yp ty)) (.int .i64 (comHi yq ty)) (.int .i64 (comLo low lz)) (.int .i64 (comHi high lz))
      have hB6 := Six.below (b := w.heap.size + 1) (u0 := (.int .i64 (comLo xp tx))) (u1 := (.int .i64 (comHi xq tx))) (u2 := (.int .i64 (comLo yp ty))) (u3 := (.int .i64 (comHi yq ty))) (u4 := (.int .i64 (comLo low lz))) (u5 := (.int .i64 (comHi high lz))) hB5 (by omega)
      have H6 := Lib.hid h6
      have HB6 := Lib.hid hB6
      clear h6 hB6
      obtain ⟨r0, f0, r1, f1, r2, f2, r3, f3, r4, f4, r5, f5⟩ := h5
      generalize comLo xp tx = A0 at *
      generalize comHi xq tx = A1 at *
      generalize comLo yp ty = A2 at *
      generalize comHi yq ty = A3 at *
      generalize comLo low lz = A4 at *
      generalize comHi high lz = A5 at *
      go_wp2_with fail
      all_goals (refine bodyPost_ret (v := .tuple #[.agg #[.int .i64 A0, .int .i64 A1, .int .i64 A2, .int .i64 A3, .int .i64 A4, .int .i64 A5], .bool (decide (A0 ≤ A1) && decide (A2 ≤ A3) && decide (A4 ≤ A5))]) ?_ rfl ⟨FI.out _ rfl, HB6.out⟩)
      all_goals (obtain ⟨e0, _, e1, _, e2, _, e3, _, e4, _, e5, _⟩ := H6.out)
      all_goals (simp [results, Tryz.results94, go_sem, e0, e1, e2, e3, e4, e5])
      all_goals omega

end Go.Proofs.YtmglbegbijofkaaGreatDoor
namespace Go.Proofs.YtmglbegbijofkaaGreatDoor
open Go.RowKit

/-- a closure that tells a room for a tick -/
def RoomOf (g : Nat) (lb : Array Value) (o : Int → Int × Int × Int × Int × Int × Int) (lo hi : Int) (w : World) : Prop :=
  ∀ (t : Int), lo ≤ t → t ≤ hi → ∀ W : World, Below w.heap.size w W → Calls Tryz.prog g (#[.int .i64 t] ++ lb) W fun e w' =>
    e = .returned (.agg #[.int .i64 (o t).1, .int .i64 (o t).2.1, .int .i64 (o t).2.2.1, .int .i64 (o t).2.2.2.1, .int .i64 (o t).2.2.2.2.1, .int .i64 (o t).2.2.2.2.2]) ∧ Below W.heap.size W w'

set_option maxRecDepth 100000 in
set_option maxHeartbeats 2000000 in
theorem ships1_room (bx bc : Nat) (p xl xh yl yh tl th speed climb low high : Int) (nm : ByteArray) (v : Value) (lo hi : Int) (w : World) (hbx : bx < w.heap.size) (hbc : bc < w.heap.size)
    (x1 : w.cell? ⟨bx, 1, none⟩ = some (.int .i64 xl)) (x2 : w.cell? ⟨bx, 2, none⟩ = some (.int .i64 xh)) (x3 : w.cell? ⟨bx, 3, none⟩ = some (.int .i64 yl)) (x4 : w.cell? ⟨bx, 4, none⟩ = some (.int .i64 yh))
    (c3 : w.cell? ⟨bc, 3, none⟩ = some (.int .i64 low)) (c4 : w.cell? ⟨bc, 4, none⟩ = some (.int .i64 high)) :
    RoomOf 99 #[.pointer (some ⟨bx, 0, none⟩), .pointer (some ⟨bc, 0, none⟩)] (fun _ => (xl, xh, yl, yh, low, high)) lo hi w := by
  intro t h1 h2 W hb
  have k1 := below_cell hb x1
  have k2 := below_cell hb x2
  have k3 := below_cell hb x3
  have k4 := below_cell hb x4
  have k5 := below_cell hb c3
  have k6 := below_cell hb c4
  clear x1 x2 x3 x4 c3 c4 h1 h2
  have b1 : bx < W.heap.size := Nat.lt_of_lt_of_le hbx hb.size
  have b2 : bc < W.heap.size := Nat.lt_of_lt_of_le hbc hb.size
  show Calls Tryz.prog 99 #[.int .i64 t, .pointer (some ⟨bx, 0, none⟩), .pointer (some ⟨bc, 0, none⟩)] W _
  go_enter Tryz.func99, Tryz.ntmps99
  go_wp2_with fail
  exact bodyPost_ret (v := .agg #[.int .i64 xl, .int .i64 xh, .int .i64 yl, .int .i64 yh, .int .i64 low, .int .i64 high]) (by simp [results, Tryz.results99, go_sem]) rfl ⟨rfl, (by repeat (first | exact Below.refl _ _ | assumption | refine balloc ?_ _ | refine below_trans ?_ (by assumption) | refine Below.drew ?_ | refine below_drewN ?_ _ | refine Below.setCell ?_ (by simp <;> omega) _))⟩

set_option maxRecDepth 100000 in
set_option maxHeartbeats 4000000 in
theorem first_any (bx bc : Nat) (o : Int → Int × Int × Int × Int × Int × Int) (nm : ByteArray) (speed climb low high : Int) (v : Value) (ss : List Sight) (lo hi : Int) (w : World) (hv : SightsAt w v ss) (hok : CraftOK speed climb low high ss)
    (hl : 0 ≤ lo) (hh : hi ≤ 100000) (hlh : lo ≤ hi + 1) (hof : RoomOf 99 #[.pointer (some ⟨bx, 0, none⟩), .pointer (some ⟨bc, 0, none⟩)] o lo hi w) :
    Calls Tryz.prog 98 #[.agg #[.string nm, .int .i64 speed, .int .i64 climb, .int .i64 low, .int .i64 high, v], .agg #[.int .i64 lo, .int .i64 hi], .func (.func 99) #[] #[.pointer (some ⟨bx, 0, none⟩), .pointer (some ⟨bc, 0, none⟩)]] w fun e w' =>
      e = ErrPair (firstT speed climb low high ss o (hi + 1 - lo).toNat lo) (firstE speed climb low high ss o (hi + 1 - lo).toNat lo) ∧ Below w.heap.size w w' := by
  obtain ⟨a, c, rfl, hx⟩ := id hv
  clear hx
  have hbx : ∀ i : Nat, i < 6 → ((w.alloc (.cells #[.string nm, .int .i64 speed, .int .i64 climb, .int .i64 low, .int .i64 high, .slice a ss.length c] 63)).alloc (.cells #[.int .i64 lo, .int .i64 hi] 23)).cell? ⟨w.heap.size, i, none⟩ = some (#[Value.string nm, .int .i64 speed, .int .i64 climb, .int .i64 low, .int .i64 high, .slice a ss.length c].getD i undef) := by
    intro i hi
    have : i = 0 ∨ i = 1 ∨ i = 2 ∨ i = 3 ∨ i = 4 ∨ i = 5 := by omega
    rcases this with rfl | rfl | rfl | rfl | rfl | rfl <;> simp
  have htk : ((w.alloc (.cells #[.string nm, .int .i64 speed, .int .i64 climb, .int .i64 low, .int .i64 high, .slice a ss.length c] 63)).alloc (.cells #[.int .i64 lo, .int .i64 hi] 23)).cell? ⟨w.heap.size + 1, 1, none⟩ = some (.int .i64 hi) := by simp
  have hW1 : Below w.heap.size w ((w.alloc (.cells #[.string nm, .int .i64 speed, .int .i64 climb, .int .i64 low, .int .i64 high, .slice a ss.length c] 63)).alloc (.cells #[.int .i64 lo, .int .i64 hi] 23)) := (by repeat (first | exact Below.refl _ _ | assumption | refine balloc ?_ _ | refine below_trans ?_ (by assumption) | refine Below.drew ?_ | refine below_drewN ?_ _ | refine Below.setCell ?_ (by simp <;> omega) _))
  have hsz1 : w.heap.size + 2 ≤ ((w.alloc (.cells #[.string nm, .int .i64 speed, .int .i64 climb, .int .i64 low, .int .i64 high, .slice a ss.length c] 63)).alloc (.cells #[.int .i64 lo, .int .i64 hi] 23)).heap.size := by simp
  have HV := Lib.hid hv
  have HOF := Lib.hid hof
  have HOK := Lib.hid hok
  clear hv hof hok
  go_enter Tryz.func98, Tryz.ntmps98
  go_wp2_with fail
  generalize ((w.alloc (.cells #[.string nm, .int .i64 speed, .int .i64 climb, .int .i64 low, .int .i64 high, .slice a ss.length c] 63)).alloc (.cells #[.int .i64 lo, .int .i64 hi] 23)) = W1 at *
  have HBX := Lib.hid hbx
  have HTK := Lib.hid htk
  clear hbx htk
  go_loopw [8] (fun t wr => ∃ k : Nat, k ≤ (hi + 1 - lo).toNat ∧ t = .int .i64 (lo + k) ∧ Below W1.heap.size W1 wr ∧ Hid (firstT speed climb low high ss o (hi + 1 - lo).toNat lo = firstT speed climb low high ss o ((hi + 1 - lo).toNat - k) (lo + k)) ∧ Hid (firstE speed climb low high ss o (hi + 1 - lo).toNat lo = firstE speed climb low high ss o ((hi + 1 - lo).toNat - k) (lo + k))) (fun t _ => (hi + 1 - intOf t).toNat)
  case atStart => exact ⟨0, Nat.zero_le _, by simp, Below.refl _ _, by simp [Hid], by simp [Hid]⟩
  case round =>
    obtain ⟨k, hk, rfl, hBw, HT, HE⟩ := hrel
    have htk := (hBw.cell (p := ⟨w.heap.size + 1, 1, none⟩) (show w.heap.size + 1 < W1.heap.size by omega)).trans HTK.out
    by_cases hlt : lo + k ≤ hi
    · have b0 := (hBw.cell (p := ⟨w.heap.size, 0, none⟩) (show w.heap.size < W1.heap.size by omega)).trans (HBX.out 0 (by omega))
      have b1 := (hBw.cell (p := ⟨w.heap.size, 1, none⟩) (show w.heap.size < W1.heap.size by omega)).trans (HBX.out 1 (by omega))
      have b2 := (hBw.cell (p := ⟨w.heap.size, 2, none⟩) (show w.heap.size < W1.heap.size by omega)).trans (HBX.out 2 (by omega))
      have b3 := (hBw.cell (p := ⟨w.heap.size, 3, none⟩) (show w.heap.size < W1.heap.size by omega)).trans (HBX.out 3 (by omega))
      have b4 := (hBw.cell (p := ⟨w.heap.size, 4, none⟩) (show w.heap.size < W1.heap.size by omega)).trans (HBX.out 4 (by omega))
      have b5 := (hBw.cell (p := ⟨w.heap.size, 5, none⟩) (show w.heap.size < W1.heap.size by omega)).trans (HBX.out 5 (by omega))
      simp at b0 b1 b2 b3 b4 b5
      have hBv : Below w.heap.size w wr := below_trans hW1 hBw
      have hrow := Lib.hid (HV.out.below hBv)
      have HST : Hid (firstT speed climb low high ss o ((hi + 1 - lo).toNat - k) (lo + k) = if !whB speed climb low high (lo + k) ss then 0 else if roomB speed climb low high (lo + k) ss (o (lo + k)).1 (o (lo + k)).2.1 (o (lo + k)).2.2.1 (o (lo + k)).2.2.2.1 (o (lo + k)).2.2.2.2.1 (o (lo + k)).2.2.2.2.2 then lo + k else firstT speed climb low high ss o ((hi + 1 - lo).toNat - (k + 1)) (lo + k + 1)) := show _ = _ from by rw [show (hi + 1 - lo).toNat - k = ((hi + 1 - lo).toNat - (k + 1)) + 1 by omega]; rfl
      have HSE : Hid (firstE speed climb low high ss o ((hi + 1 - lo).toNat - k) (lo + k) = if !whB speed climb low high (lo + k) ss then 9 else if roomB speed climb low high (lo + k) ss (o (lo + k)).1 (o (lo + k)).2.1 (o (lo + k)).2.2.1 (o (lo + k)).2.2.2.1 (o (lo + k)).2.2.2.2.1 (o (lo + k)).2.2.2.2.2 then 0 else firstE speed climb low high ss o ((hi + 1 - lo).toNat - (k + 1)) (lo + k + 1)) := show _ = _ from by rw [show (hi + 1 - lo).toNat - k = ((hi + 1 - lo).toNat - (k + 1)) + 1 by omega]; rfl
      go_wp2_with fail
      refine (where_any _ _ _ _ _ _ _ _ _ hrow.out (by omega) (by omega) HOK.out.s0 HOK.out.s1 HOK.out.c0 HOK.out.c1 HOK.out.n0 HOK.out.n1 HOK.out.sg).mono ?_
      rintro e w2 ⟨rfl, hb2⟩
      unfold WhereEnd
      cases hwb : whB speed climb low high (lo + k) ss with
      | false =>
        have HW := Lib.hid hwb
        clear hwb
        go_wp2_with fail
        go_ret2
        refine ⟨ret_tup2 (vint ?_) (vint ?_), (by repeat (first | exact Below.refl _ _ | assumption | refine balloc ?_ _ | refine below_trans ?_ (by assumption) | refine Below.drew ?_ | refine below_drewN ?_ _ | refine Below.setCell ?_ (by simp <;> omega) _))⟩
        · rw [HT.out, HST.out, HW.out]; rfl
        · rw [HE.out, HSE.out, HW.out]; rfl
      | true =>
        have HW := Lib.hid hwb
        clear hwb
        have HR : Hid (roomB speed climb low high (lo + k) ss (o (lo + k)).1 (o (lo + k)).2.1 (o (lo + k)).2.2.1 (o (lo + k)).2.2.2.1 (o (lo + k)).2.2.2.2.1 (o (lo + k)).2.2.2.2.2 = (!apartB (whXL speed (lo + k) ss) (whXH speed (lo + k) ss) (o (lo + k)).1 (o (lo + k)).2.1 && !apartB (whYL speed (lo + k) ss) (whYH speed (lo + k) ss) (o (lo + k)).2.2.1 (o (lo + k)).2.2.2.1 && !apartB (whZL climb low (lo + k) ss) (whZH climb high (lo + k) ss) (o (lo + k)).2.2.2.2.1 (o (lo + k)).2.2.2.2.2)) := show _ = _ from rfl
        have hof := HOF.out (lo + k) (by omega) (by omega)
        rw [HR.out] at HST HSE
        have HF := Lib.hid hof
        clear hof HR
        generalize whXL speed (lo + k) ss = A0 at *
        generalize whXH speed (lo + k) ss = A1 at *
        generalize whYL speed (lo + k) ss = A2 at *
        generalize whYH speed (lo + k) ss = A3 at *
        generalize whZL climb low (lo + k) ss = A4 at *
        generalize whZH climb high (lo + k) ss = A5 at *
        go_wp2_with fail
        have hB2 : Below w.heap.size w (w2.alloc (.cells #[.int .i64 A0, .int .i64 A1, .int .i64 A2, .int .i64 A3, .int .i64 A4, .int .i64 A5] 161)) := (by repeat (first | exact Below.refl _ _ | assumption | refine balloc ?_ _ | refine below_trans ?_ (by assumption) | refine Below.drew ?_ | refine below_drewN ?_ _ | refine Below.setCell ?_ (by simp <;> omega) _))
        refine (HF.out _ hB2).mono ?_
        rintro e w3 ⟨rfl, hb3⟩
        clear HF
        generalize (o (lo + k)).1 = O0 at *
        generalize (o (lo + k)).2.1 = O1 at *
        generalize (o (lo + k)).2.2.1 = O2 at *
        generalize (o (lo + k)).2.2.2.1 = O3 at *
        generalize (o (lo + k)).2.2.2.2.1 = O4 at *
        generalize (o (lo + k)).2.2.2.2.2 = O5 at *
        have hB3 : Below w.heap.size w w3 := below_trans hB2 hb3
        have hB3' : Below W1.heap.size W1 w3 := below_trans (balloc (below_trans hBw hb2) _) hb3
        have hz3 : w2.heap.size < w3.heap.size := by have := hb3.size; simp at this; omega
        have q0 : w3.cell? ⟨w2.heap.size, 0, none⟩ = some (.int .i64 A0) := below_cell hb3 (by simp)
        have q1 : w3.cell? ⟨w2.heap.size, 1, none⟩ = some (.int .i64 A1) := below_cell hb3 (by simp)
        have q2 : w3.cell? ⟨w2.heap.size, 2, none⟩ = some (.int .i64 A2) := below_cell hb3 (by simp)
        have q3 : w3.cell? ⟨w2.heap.size, 3, none⟩ = some (.int .i64 A3) := below_cell hb3 (by simp)
        have q4 : w3.cell? ⟨w2.heap.size, 4, none⟩ = some (.int .i64 A4) := below_cell hb3 (by simp)
        have q5 : w3.cell? ⟨w2.heap.size, 5, none⟩ = some (.int .i64 A5) := below_cell hb3 (by simp)
        clear hb3 hB2 hb2 hBw hBv b0 b1 b2 b3 b4 b5 htk hrow
        go_wp2_with fail
        have z0 : (w3.alloc (.cells #[.int .i64 O0, .int .i64 O1, .int .i64 O2, .int .i64 O3, .int .i64 O4, .int .i64 O5] 161)).cell? ⟨w3.heap.size, 0, none⟩ = some (.int .i64 O0) := by simp
        have z1 : (w3.alloc (.cells #[.int .i64 O0, .int .i64 O1, .int .i64 O2, .int .i64 O3, .int .i64 O4, .int .i64 O5] 161)).cell? ⟨w3.heap.size, 1, none⟩ = some (.int .i64 O1) := by simp
        have z2 : (w3.alloc (.cells #[.int .i64 O0, .int .i64 O1, .int .i64 O2, .int .i64 O3, .int .i64 O4, .int .i64 O5] 161)).cell? ⟨w3.heap.size, 2, none⟩ = some (.int .i64 O2) := by simp
        have z3 : (w3.alloc (.cells #[.int .i64 O0, .int .i64 O1, .int .i64 O2, .int .i64 O3, .int .i64 O4, .int .i64 O5] 161)).cell? ⟨w3.heap.size, 3, none⟩ = some (.int .i64 O3) := by simp
        have z4 : (w3.alloc (.cells #[.int .i64 O0, .int .i64 O1, .int .i64 O2, .int .i64 O3, .int .i64 O4, .int .i64 O5] 161)).cell? ⟨w3.heap.size, 4, none⟩ = some (.int .i64 O4) := by simp
        have z5 : (w3.alloc (.cells #[.int .i64 O0, .int .i64 O1, .int .i64 O2, .int .i64 O3, .int .i64 O4, .int .i64 O5] 161)).cell? ⟨w3.heap.size, 5, none⟩ = some (.int .i64 O5) := by simp
        have q0 : (w3.alloc (.cells #[.int .i64 O0, .int .i64 O1, .int .i64 O2, .int .i64 O3, .int .i64 O4, .int .i64 O5] 161)).cell? ⟨w2.heap.size, 0, none⟩ = some (.int .i64 A0) := alloc_cell q0 _
        have q1 : (w3.alloc (.cells #[.int .i64 O0, .int .i64 O1, .int .i64 O2, .int .i64 O3, .int .i64 O4, .int .i64 O5] 161)).cell? ⟨w2.heap.size, 1, none⟩ = some (.int .i64 A1) := alloc_cell q1 _
        have q2 : (w3.alloc (.cells #[.int .i64 O0, .int .i64 O1, .int .i64 O2, .int .i64 O3, .int .i64 O4, .int .i64 O5] 161)).cell? ⟨w2.heap.size, 2, none⟩ = some (.int .i64 A2) := alloc_cell q2 _
        have q3 : (w3.alloc (.cells #[.int .i64 O0, .int .i64 O1, .int .i64 O2, .int .i64 O3, .int .i64 O4, .int .i64 O5] 161)).cell? ⟨w2.heap.size, 3, none⟩ = some (.int .i64 A3) := alloc_cell q3 _
        have q4 : (w3.alloc (.cells #[.int .i64 O0, .int .i64 O1, .int .i64 O2, .int .i64 O3, .int .i64 O4, .int .i64 O5] 161)).cell? ⟨w2.heap.size, 4, none⟩ = some (.int .i64 A4) := alloc_cell q4 _
        have q5 : (w3.alloc (.cells #[.int .i64 O0, .int .i64 O1, .int .i64 O2, .int .i64 O3, .int .i64 O4, .int .i64 O5] 161)).cell? ⟨w2.heap.size, 5, none⟩ = some (.int .i64 A5) := alloc_cell q5 _
        have hB4 : Below w.heap.size w (w3.alloc (.cells #[.int .i64 O0, .int .i64 O1, .int .i64 O2, .int .i64 O3, .int .i64 O4, .int .i64 O5] 161)) := balloc hB3 _
        have hB4' : Below W1.heap.size W1 (w3.alloc (.cells #[.int .i64 O0, .int .i64 O1, .int .i64 O2, .int .i64 O3, .int .i64 O4, .int .i64 O5] 161)) := balloc hB3' _
        clear hB3 hB3'
        generalize (w3.alloc (.cells #[.int .i64 O0, .int .i64 O1, .int .i64 O2, .int .i64 O3, .int .i64 O4, .int .i64 O5] 161)) = w4 at *
        generalize w3.heap.size = r3 at *
        generalize w2.heap.size = r2 at *
        refine (apart_any _ _ _ _ _).mono ?_
        rintro e w5 ⟨rfl, hb5⟩
        have hB5' := below_trans hB4' hb5
        have hB5 := below_trans hB4 hb5
        have q0 := below_cell hb5 q0
        have z0 := below_cell hb5 z0
        have q1 := below_cell hb5 q1
        have z1 := below_cell hb5 z1
        have q2 := below_cell hb5 q2
        have z2 := below_cell hb5 z2
        have q3 := below_cell hb5 q3
        have z3 := below_cell hb5 z3
        have q4 := below_cell hb5 q4
        have z4 := below_cell hb5 z4
        have q5 := below_cell hb5 q5
        have z5 := below_cell hb5 z5
        clear hb5 hB4 hB4'
        cases ha0 : apartB A0 A1 O0 O1 with
        | true =>
          have HA0 := Lib.hid ha0
          go_wp2_with fail
          go_roundw
          case rel => exact ⟨k + 1, by omega, by go_num, hB5', by unfold Hid; rw [HT.out, HST.out, HW.out]; simp [HA0.out]; congr 1; omega, by unfold Hid; rw [HE.out, HSE.out, HW.out]; simp [HA0.out]; congr 1; omega⟩
          case measure => simp [intOf]; omega
        | false =>
          have HA0 := Lib.hid ha0
          go_wp2_with fail
          refine (apart_any _ _ _ _ _).mono ?_
          rintro e w6 ⟨rfl, hb6⟩
          have hB6' := below_trans hB5' hb6
          have hB6 := below_trans hB5 hb6
          have q0 := below_cell hb6 q0
          have z0 := below_cell hb6 z0
          have q1 := below_cell hb6 q1
          have z1 := below_cell hb6 z1
          have q2 := below_cell hb6 q2
          have z2 := below_cell hb6 z2
          have q3 := below_cell hb6 q3
          have z3 := below_cell hb6 z3
          have q4 := below_cell hb6 q4
          have z4 := below_cell hb6 z4
          have q5 := below_cell hb6 q5
          have z5 := below_cell hb6 z5
          clear hb6 hB5 hB5'
          cases ha1 : apartB A2 A3 O2 O3 with
          | true =>
            have HA1 := Lib.hid ha1
            go_wp2_with fail
            go_roundw
            case rel => exact ⟨k + 1, by omega, by go_num, hB6', by unfold Hid; rw [HT.out, HST.out, HW.out]; simp [HA0.out, HA1.out]; congr 1; omega, by unfold Hid; rw [HE.out, HSE.out, HW.out]; simp [HA0.out, HA1.out]; congr 1; omega⟩
            case measure => simp [intOf]; omega
          | false =>
            have HA1 := Lib.hid ha1
            go_wp2_with fail
            refine (apart_any _ _ _ _ _).mono ?_
            rintro e w7 ⟨rfl, hb7⟩
            have hB7' := below_trans hB6' hb7
            have hB7 := below_trans hB6 hb7
            have q0 := below_cell hb7 q0
            have z0 := below_cell hb7 z0
            have q1 := below_cell hb7 q1
            have z1 := below_cell hb7 z1
            have q2 := below_cell hb7 q2
            have z2 := below_cell hb7 z2
            have q3 := below_cell hb7 q3
            have z3 := below_cell hb7 z3
            have q4 := below_cell hb7 q4
            have z4 := below_cell hb7 z4
            have q5 := below_cell hb7 q5
            have z5 := below_cell hb7 z5
            clear hb7 hB6 hB6'
            cases ha2 : apartB A4 A5 O4 O5 with
            | true =>
              have HA2 := Lib.hid ha2
              go_wp2_with fail
              go_roundw
              case rel => exact ⟨k + 1, by omega, by go_num, hB7', by unfold Hid; rw [HT.out, HST.out, HW.out]; simp [HA0.out, HA1.out, HA2.out]; congr 1; omega, by unfold Hid; rw [HE.out, HSE.out, HW.out]; simp [HA0.out, HA1.out, HA2.out]; congr 1; omega⟩
              case measure => simp [intOf]; omega
            | false =>
              have HA2 := Lib.hid ha2
              go_wp2_with fail
              go_ret2
              refine ⟨ret_tup2 (vint ?_) (vint ?_), (by repeat (first | exact Below.refl _ _ | assumption | refine balloc ?_ _ | refine below_trans ?_ (by assumption) | refine Below.drew ?_ | refine below_drewN ?_ _ | refine Below.setCell ?_ (by simp <;> omega) _))⟩
              · rw [HT.out, HST.out, HW.out]; simp [HA0.out, HA1.out, HA2.out]
              · rw [HE.out, HSE.out, HW.out]; simp [HA0.out, HA1.out, HA2.out]
    · obtain rfl : k = (hi + 1 - lo).toNat := by omega
      go_wp2_with fail
      go_ret2
      refine ⟨ret_tup2 (vint ?_) (vint ?_), (by repeat (first | exact Below.refl _ _ | assumption | refine balloc ?_ _ | refine below_trans ?_ (by assumption) | refine Below.drew ?_ | refine below_drewN ?_ _ | refine Below.setCell ?_ (by simp <;> omega) _))⟩
      · rw [HT.out, Nat.sub_self]; rfl
      · rw [HE.out, Nat.sub_self]; rfl

end Go.Proofs.YtmglbegbijofkaaGreatDoor
namespace Go.Proofs.YtmglbegbijofkaaGreatDoor
open Go.RowKit

def cellsAt (W : World) (b : Nat) (t : TypeId) (cs : Array Value) : Prop := W.heap[b]? = some (.cells cs t (0, 0))
theorem cellsAt.cell {W : World} {b : Nat} {t : TypeId} {cs : Array Value} (h : cellsAt W b t cs) (i : Nat) : W.cell? ⟨b, i, none⟩ = cs[i]? := by
  unfold cellsAt at h; simp [World.cell?, h]
theorem cellsAt.frozen {W : World} {b : Nat} {t : TypeId} {cs : Array Value} (h : cellsAt W b t cs) (i : Nat) : W.frozen? ⟨b, i, none⟩ = false := by
  unfold cellsAt at h; simp [World.frozen?, h]
theorem cellsAt.set {W : World} {b : Nat} {t : TypeId} {cs : Array Value} (h : cellsAt W b t cs) (i : Nat) (v : Value) : cellsAt (W.setCell ⟨b, i, none⟩ v) b t (cs.setIfInBounds i v) := by
  obtain ⟨hlt, hk⟩ := Array.getElem?_eq_some_iff.1 h
  show (W.heap.modify b _)[b]? = _
  rw [Array.getElem?_eq_getElem (by rw [Array.size_modify]; exact hlt), Array.getElem_modify_self, hk]
  rfl
theorem cellsAt.set_other {W : World} {b : Nat} {t : TypeId} {cs : Array Value} (h : cellsAt W b t cs) {p : Addr} (hp : p.block ≠ b) (v : Value) : cellsAt (W.setCell p v) b t cs :=
  (Below.heap_setCell W p v b (fun e => hp e.symm)).trans h
theorem cellsAt.lt {W : World} {b : Nat} {t : TypeId} {cs : Array Value} (h : cellsAt W b t cs) : b < W.heap.size := (Array.getElem?_eq_some_iff.1 h).1
theorem cellsAt.drew {W : World} {b : Nat} {t : TypeId} {cs : Array Value} (h : cellsAt W b t cs) : cellsAt W.drew b t cs := h
theorem ne_some {a b : Nat} (h : a ≠ b) : some a ≠ some b := fun e => h (Option.some.inj e)
theorem cells6 {W : World} {b : Nat} {t : TypeId} {a0 a1 a2 a3 a4 a5 : Value} (h : cellsAt W b t #[a0, a1, a2, a3, a4, a5]) : W.cell? ⟨b, 0, none⟩ = some a0 ∧ W.cell? ⟨b, 1, none⟩ = some a1 ∧ W.cell? ⟨b, 2, none⟩ = some a2 ∧ W.cell? ⟨b, 3, none⟩ = some a3 ∧ W.cell? ⟨b, 4, none⟩ = some a4 ∧ W.cell? ⟨b, 5, none⟩ = some a5 :=
  ⟨h.cell 0, h.cell 1, h.cell 2, h.cell 3, h.cell 4, h.cell 5⟩
theorem cells4 {W : World} {b : Nat} {t : TypeId} {a0 a1 a2 a3 : Value} (h : cellsAt W b t #[a0, a1, a2, a3]) : W.cell? ⟨b, 0, none⟩ = some a0 ∧ W.cell? ⟨b, 1, none⟩ = some a1 ∧ W.cell? ⟨b, 2, none⟩ = some a2 ∧ W.cell? ⟨b, 3, none⟩ = some a3 :=
  ⟨h.cell 0, h.cell 1, h.cell 2, h.cell 3⟩
theorem cells3 {W : World} {b : Nat} {t : TypeId} {a0 a1 a2 : Value} (h : cellsAt W b t #[a0, a1, a2]) : W.cell? ⟨b, 0, none⟩ = some a0 ∧ W.cell? ⟨b, 1, none⟩ = some a1 ∧ W.cell? ⟨b, 2, none⟩ = some a2 :=
  ⟨h.cell 0, h.cell 1, h.cell 2⟩
theorem cells2 {W : World} {b : Nat} {t : TypeId} {a0 a1 : Value} (h : cellsAt W b t #[a0, a1]) : W.cell? ⟨b, 0, none⟩ = some a0 ∧ W.cell? ⟨b, 1, none⟩ = some a1 :=
  ⟨h.cell 0, h.cell 1⟩
theorem cellsAt.below {W W' : World} {b : Nat} {t : TypeId} {cs : Array Value} (h : cellsAt W b t cs) (hb : Below W.heap.size W W') : cellsAt W' b t cs := (hb.block b h.lt).trans h
theorem cellsAt.grown {W W' : World} {b : Nat} {t : TypeId} {cs : Array Value} {r : Nat} (h : cellsAt W b t cs) (hg : W.grownBy W' (some r)) (hne : b ≠ r) : cellsAt W' b t cs := (hg.block b h.lt (ne_some hne)).trans h
theorem alloc4 (w : World) (a b c d : Array Value) (ta tb tc td : TypeId) :
    cellsAt ((((w.alloc (.cells a ta)).alloc (.cells b tb)).alloc (.cells c tc)).alloc (.cells d td)) w.heap.size ta a ∧ cellsAt ((((w.alloc (.cells a ta)).alloc (.cells b tb)).alloc (.cells c tc)).alloc (.cells d td)) (w.heap.size + 1) tb b ∧
    cellsAt ((((w.alloc (.cells a ta)).alloc (.cells b tb)).alloc (.cells c tc)).alloc (.cells d td)) (w.heap.size + 1 + 1) tc c ∧ cellsAt ((((w.alloc (.cells a ta)).alloc (.cells b tb)).alloc (.cells c tc)).alloc (.cells d td)) (w.heap.size + 1 + 1 + 1) td d ∧
    ((((w.alloc (.cells a ta)).alloc (.cells b tb)).alloc (.cells c tc)).alloc (.cells d td)).heap.size = w.heap.size + 4 ∧ Below w.heap.size w ((((w.alloc (.cells a ta)).alloc (.cells b tb)).alloc (.cells c tc)).alloc (.cells d td)) := by
  refine ⟨?_, ?_, ?_, ?_, by simp, (by repeat (first | exact Below.refl _ _ | assumption | refine balloc ?_ _ | refine below_trans ?_ (by assumption) | refine Below.drew ?_ | refine below_drewN ?_ _ | refine Below.setCell ?_ (by simp <;> omega) _))⟩
  · exact (Below.heap_alloc _ _ _ (by simp <;> omega)).trans ((Below.heap_alloc _ _ _ (by simp <;> omega)).trans ((Below.heap_alloc _ _ _ (by simp <;> omega)).trans (heap_alloc_new w _)))
  · have h1 := heap_alloc_new (w.alloc (.cells a ta)) (.cells b tb)
    rw [World.size_alloc] at h1
    exact (Below.heap_alloc _ _ _ (by simp <;> omega)).trans ((Below.heap_alloc _ _ _ (by simp <;> omega)).trans h1)
  · have h1 := heap_alloc_new ((w.alloc (.cells a ta)).alloc (.cells b tb)) (.cells c tc)
    rw [World.size_alloc, World.size_alloc] at h1
    exact (Below.heap_alloc _ _ _ (by simp)).trans h1
  · have h1 := heap_alloc_new (((w.alloc (.cells a ta)).alloc (.cells b tb)).alloc (.cells c tc)) (.cells d td)
    rw [World.size_alloc, World.size_alloc, World.size_alloc] at h1
    exact h1
theorem alloc2 (w : World) (a b : Array Value) (ta tb : TypeId) :
    cellsAt ((w.alloc (.cells a ta)).alloc (.cells b tb)) w.heap.size ta a ∧ cellsAt ((w.alloc (.cells a ta)).alloc (.cells b tb)) (w.heap.size + 1) tb b ∧ ((w.alloc (.cells a ta)).alloc (.cells b tb)).heap.size = w.heap.size + 2 ∧ Below w.heap.size w ((w.alloc (.cells a ta)).alloc (.cells b tb)) := by
  refine ⟨(Below.heap_alloc _ _ _ (by simp)).trans (heap_alloc_new w _), ?_, by simp, (by repeat (first | exact Below.refl _ _ | assumption | refine balloc ?_ _ | refine below_trans ?_ (by assumption) | refine Below.drew ?_ | refine below_drewN ?_ _ | refine Below.setCell ?_ (by simp <;> omega) _))⟩
  have h1 := heap_alloc_new (w.alloc (.cells a ta)) (.cells b tb)
  rw [World.size_alloc] at h1
  exact h1
theorem alloc3 (w : World) (a b c : Array Value) (ta tb tc : TypeId) :
    cellsAt (((w.alloc (.cells a ta)).alloc (.cells b tb)).alloc (.cells c tc)) w.heap.size ta a ∧ cellsAt (((w.alloc (.cells a ta)).alloc (.cells b tb)).alloc (.cells c tc)) (w.heap.size + 1) tb b ∧
    cellsAt (((w.alloc (.cells a ta)).alloc (.cells b tb)).alloc (.cells c tc)) (w.heap.size + 1 + 1) tc c ∧ (((w.alloc (.cells a ta)).alloc (.cells b tb)).alloc (.cells c tc)).heap.size = w.heap.size + 3 ∧ Below w.heap.size w (((w.alloc (.cells a ta)).alloc (.cells b tb)).alloc (.cells c tc)) := by
  refine ⟨?_, ?_, ?_, by simp, (by repeat (first | exact Below.refl _ _ | assumption | refine balloc ?_ _ | refine below_trans ?_ (by assumption) | refine Below.drew ?_ | refine below_drewN ?_ _ | refine Below.setCell ?_ (by simp <;> omega) _))⟩
  · exact (Below.heap_alloc _ _ _ (by simp <;> omega)).trans ((Below.heap_alloc _ _ _ (by simp <;> omega)).trans (heap_alloc_new w _))
  · have h1 := heap_alloc_new (w.alloc (.cells a ta)) (.cells b tb)
    rw [World.size_alloc] at h1
    exact (Below.heap_alloc _ _ _ (by simp <;> omega)).trans h1
  · have h1 := heap_alloc_new ((w.alloc (.cells a ta)).alloc (.cells b tb)) (.cells c tc)
    rw [World.size_alloc, World.size_alloc] at h1
    exact h1
/-- a store of four cells into one block and of two into another -/
theorem st42_at {W : World} {b c : Nat} {ta tb : TypeId} {a0 a1 a2 a3 b0 b1 : Value} (hA : cellsAt W b ta #[a0, a1, a2, a3]) (hB : cellsAt W c tb #[b0, b1]) (hne : b ≠ c) (u0 u1 u2 u3 u4 u5 : Value) :
    cellsAt ((((((W.setCell ⟨b, 0, none⟩ u0).setCell ⟨b, 1, none⟩ u1).setCell ⟨b, 2, none⟩ u2).setCell ⟨b, 3, none⟩ u3).setCell ⟨c, 0, none⟩ u4).setCell ⟨c, 1, none⟩ u5) b ta #[u0, u1, u2, u3] ∧
    cellsAt ((((((W.setCell ⟨b, 0, none⟩ u0).setCell ⟨b, 1, none⟩ u1).setCell ⟨b, 2, none⟩ u2).setCell ⟨b, 3, none⟩ u3).setCell ⟨c, 0, none⟩ u4).setCell ⟨c, 1, none⟩ u5) c tb #[u4, u5] := by
  refine ⟨?_, ?_⟩
  · have h := (((((hA.set 0 u0).set 1 u1).set 2 u2).set 3 u3).set_other (p := ⟨c, 0, none⟩) (fun e => hne e.symm) u4).set_other (p := ⟨c, 1, none⟩) (fun e => hne e.symm) u5
    simpa using h
  · have h := (((((hB.set_other (p := ⟨b, 0, none⟩) hne u0).set_other (p := ⟨b, 1, none⟩) hne u1).set_other (p := ⟨b, 2, none⟩) hne u2).set_other (p := ⟨b, 3, none⟩) hne u3).set 0 u4).set 1 u5
    simpa using h
theorem st42_below {w W : World} {b c : Nat} (h : Below w.heap.size w W) (hb : w.heap.size ≤ b) (hc : w.heap.size ≤ c) (u0 u1 u2 u3 u4 u5 : Value) :
    Below w.heap.size w ((((((W.setCell ⟨b, 0, none⟩ u0).setCell ⟨b, 1, none⟩ u1).setCell ⟨b, 2, none⟩ u2).setCell ⟨b, 3, none⟩ u3).setCell ⟨c, 0, none⟩ u4).setCell ⟨c, 1, none⟩ u5) :=
  (((((h.setCell (p := ⟨b, 0, none⟩) hb u0).setCell (p := ⟨b, 1, none⟩) hb u1).setCell (p := ⟨b, 2, none⟩) hb u2).setCell (p := ⟨b, 3, none⟩) hb u3).setCell (p := ⟨c, 0, none⟩) hc u4).setCell (p := ⟨c, 1, none⟩) hc u5
theorem ints_of_row {w : World} {B : Nat} {v : Value} {l : List Int} (h : w.ownsRow B 3 1 v l.length (l.map (Value.int .i64))) (hn : 0 < l.length) :
    ∃ g c, v = .slice (some ⟨g, 0, none⟩) l.length c ∧ B ≤ g ∧ g < w.heap.size ∧ ∀ i, i < l.length → w.cell? ⟨g, i, none⟩ = some (intF l i) ∧ w.frozen? ⟨g, i, none⟩ = false := by
  obtain ⟨h1, ⟨_, h2⟩ | ⟨g, cap, cur, rfl, h4, h5, h6, h7, h8, h9⟩⟩ := h
  · omega
  · refine ⟨g, cap, rfl, h4, (Array.getElem?_eq_some_iff.1 h5).1, fun i hi => ⟨?_, by simp [World.frozen?, h5]⟩⟩
    have hg : (l.map (Value.int .i64))[i]? = some (intF l i) := by simp [intF, hi]
    rw [← h9, List.getElem?_take_of_lt (by omega)] at hg
    unfold World.cell?
    rw [h5]
    simpa using hg
theorem parts_of_row {w : World} {B : Nat} {v : Value} {l : List (Int × Int)} (h : w.ownsRow B 121 2 v l.length (spc l)) (hn : 0 < l.length) :
    ∃ g c, v = .slice (some ⟨g, 0, none⟩) l.length c ∧ B ≤ g ∧ g < w.heap.size ∧ ∀ i, i < l.length * 2 → w.cell? ⟨g, i, none⟩ = some (spanF l i) ∧ w.frozen? ⟨g, i, none⟩ = false := by
  obtain ⟨h1, ⟨_, h2⟩ | ⟨g, cap, cur, rfl, h4, h5, h6, h7, h8, h9⟩⟩ := h
  · omega
  · refine ⟨g, cap, rfl, h4, (Array.getElem?_eq_some_iff.1 h5).1, fun i hi => ⟨?_, by simp [World.frozen?, h5]⟩⟩
    have hg := spc_get l i hi
    rw [← h9, List.getElem?_take_of_lt (by omega)] at hg
    unfold World.cell?
    rw [h5]
    simpa using hg
theorem ints_grown {W W' : World} {b off n c r : Nat} {zs : List Int} (h : IntsAt W (.slice (some ⟨b, off, none⟩) n c) zs) (hg : W.grownBy W' (some r)) (hne : b ≠ r) : IntsAt W' (.slice (some ⟨b, off, none⟩) n c) zs := by
  obtain ⟨a, c', he, h0 | ⟨b', off', rfl, hb, hc⟩⟩ := h
  · exact ⟨_, _, he, .inl h0⟩
  · simp only [Value.slice.injEq, Option.some.injEq, Addr.mk.injEq] at he
    obtain ⟨⟨rfl, rfl, _⟩, rfl, rfl⟩ := he
    exact ⟨_, _, rfl, .inr ⟨b, off, rfl, Nat.lt_of_lt_of_le hb hg.size, fun i hi => hg.cell (hc i hi) (ne_some hne)⟩⟩
theorem spans_grown {W W' : World} {b n c r : Nat} {qs : List (Int × Int)} (h : SpansAt W (.slice (some ⟨b, 0, none⟩) n c) qs) (hg : W.grownBy W' (some r)) (hne : b ≠ r) : SpansAt W' (.slice (some ⟨b, 0, none⟩) n c) qs := by
  obtain ⟨a, c', he, h0 | ⟨b', off', rfl, hb, hc⟩⟩ := h
  · exact ⟨_, _, he, .inl h0⟩
  · simp only [Value.slice.injEq, Option.some.injEq, Addr.mk.injEq] at he
    obtain ⟨⟨rfl, rfl, _⟩, rfl, rfl⟩ := he
    exact ⟨_, _, rfl, .inr ⟨b, 0, rfl, Nat.lt_of_lt_of_le hb hg.size, fun i hi => hg.cell (hc i hi) (ne_some hne)⟩⟩
theorem set1_grown (X : World) (b o : Nat) (u : Value) : X.grownBy (X.setCell ⟨b, o, none⟩ u) (some b) := ⟨rfl, rfl, rfl, by simp [World.setCell], fun j _ hj => Below.heap_setCell _ _ _ j (fun e => hj (by rw [e]))⟩
theorem set3_grown (X : World) (b : Nat) (u0 u1 u2 : Value) : X.grownBy (((X.setCell ⟨b, 0, none⟩ u0).setCell ⟨b, 1, none⟩ u1).setCell ⟨b, 2, none⟩ u2) (some b) := ((set1_grown X b 0 u0).trans (set1_grown _ b 1 u1)).trans (set1_grown _ b 2 u2)
theorem below_drew' {W w : World} (h : Below W.drew.heap.size W.drew w) : Below W.heap.size W w := ⟨h.os, h.tape, h.output, h.size, h.block⟩
theorem row_new {W : World} {b n k c : Nat} {t : TypeId} {cs : Array Value} {f : Nat → Value} (h : cellsAt W b t cs) (hf : ∀ i, i < n * k → cs[i]? = some (f i)) : RowAt W (.slice (some ⟨b, 0, none⟩) n c) n k f :=
  ⟨_, _, rfl, .inr ⟨b, 0, rfl, h.lt, fun i hi => by rw [Nat.zero_add, h.cell i]; exact hf i hi⟩⟩
theorem cellsNew (w : World) (cs : Array Value) (t : TypeId) : cellsAt (w.alloc (.cells cs t)) w.heap.size t cs := heap_alloc_new w _
end Go.Proofs.YtmglbegbijofkaaGreatDoor
namespace Go.Proofs.YtmglbegbijofkaaGreatDoor
open Go.RowKit

end Go.Proofs.YtmglbegbijofkaaGreatDoor
