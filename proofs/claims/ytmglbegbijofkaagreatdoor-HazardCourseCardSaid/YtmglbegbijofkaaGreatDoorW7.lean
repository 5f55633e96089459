import Derived.Test.YtmglbegbijofkaaGreatDoorW6
import Derived.Test.YtmglbegbijofkaaGreatDoorPA
import Derived.Deep.RegionHeld3
import Derived.Deep.AppendLies
set_option linter.unusedVariables false
set_option linter.unusedSimpArgs false
namespace Go.Proofs.YtmglbegbijofkaaGreatDoor
open Go.RowKit

theorem Tryz.info23 : (Tryz.prog.info? 23).map (fun i => (i.zero, i.size, i.bytes)) = some (some (.agg #[.int .i64 0, .int .i64 0]), 2, 16) := by kernel_rfl
/-- the cells of spans -/
def spc (l : List (Int × Int)) : List Value := l.flatMap fun s => [.int .i64 s.1, .int .i64 s.2]
theorem spc_snoc (l : List (Int × Int)) (a b : Int) : spc (l ++ [(a, b)]) = spc l ++ [.int .i64 a, .int .i64 b] := by simp [spc]
/-- two slices that share no block -/
def Apart (u v : Value) : Prop := ∀ g, u.ownBlock = some g → v.ownBlock ≠ some g
theorem Apart.symm {u v : Value} (h : Apart u v) : Apart v u := fun g hv hu => h g hu hv
theorem ownsRow_below {w w' : World} {b : Nat} {e : TypeId} {size : Nat} {v : Value} {n : Nat} {xs : List Value} (h : w.ownsRow b e size v n xs) (hb : Below w.heap.size w w') : w'.ownsRow b e size v n xs := by
  obtain ⟨h1, h2 | ⟨g, cap, cur, h3, h4, h5, h6⟩⟩ := h
  · exact ⟨h1, .inl h2⟩
  · refine ⟨h1, .inr ⟨g, cap, cur, h3, h4, ?_, h6⟩⟩
    rw [hb.block g (Array.getElem?_eq_some_iff.1 h5).1]; exact h5
theorem ownsRow_apart {w w' : World} {b : Nat} {e : TypeId} {size : Nat} {v u : Value} {n : Nat} {xs : List Value} (h : w.ownsRow b e size v n xs) (hg : w.grownBy w' u.ownBlock) (ha : Apart v u) : w'.ownsRow b e size v n xs := by
  refine World.ownsRow.kept h hg ?_
  cases hv : v.ownBlock with
  | none => exact .inl rfl
  | some g => exact .inr (fun e => ha g hv e.symm)
/-- behind an append: the new slice shares no block with another row -/
theorem apart_new {w : World} {b : Nat} {e : TypeId} {size : Nat} {v u : Value} {n : Nat} {xs : List Value} {g m cap H : Nat} (h : w.ownsRow b e size v n xs) (ha : Apart u v) (hg : u.ownBlock = some g ∨ g = H) (hH : w.heap.size ≤ H) :
    Apart (.slice (some ⟨g, 0, none⟩) m cap) v := by
  intro g' hg' hv
  simp [Value.ownBlock] at hg'
  subst hg'
  rcases hg with hg | rfl
  · exact ha _ hg hv
  · have := (World.ownsRow.lt h _ hv).2; omega

/-- three rows of spans that share no block -/
structure Rows3 (B : Nat) (lx ly lz : List (Int × Int)) (nx ny nz : Nat) (vx vy vz : Value) (w : World) : Prop where
  x : w.ownsRow B 23 2 vx nx (spc lx)
  y : w.ownsRow B 23 2 vy ny (spc ly)
  z : w.ownsRow B 23 2 vz nz (spc lz)
  xy : Apart vx vy
  xz : Apart vx vz
  yz : Apart vy vz
section
variable {B : Nat} {lx ly lz : List (Int × Int)} {nx ny nz : Nat} {vx vy vz : Value} {w w' : World}
theorem Rows3.below (h : Rows3 B lx ly lz nx ny nz vx vy vz w) (hb : Below w.heap.size w w') : Rows3 B lx ly lz nx ny nz vx vy vz w' :=
  ⟨ownsRow_below h.x hb, ownsRow_below h.y hb, ownsRow_below h.z hb, h.xy, h.xz, h.yz⟩
theorem Rows3.alloc (h : Rows3 B lx ly lz nx ny nz vx vy vz w) (o : Obj) : Rows3 B lx ly lz nx ny nz vx vy vz (w.alloc o) := h.below (balloc (Below.refl _ _) _)
theorem Rows3.drew (h : Rows3 B lx ly lz nx ny nz vx vy vz w) : Rows3 B lx ly lz nx ny nz vx vy vz w.drew := h.below (Below.refl _ _).drew
theorem Rows3.appX (h : Rows3 B lx ly lz nx ny nz vx vy vz w) {g cap H : Nat} {a b : Int} (ho : w'.ownsRow B 23 2 (.slice (some ⟨g, 0, none⟩) (nx + 1) cap) (nx + 1) (spc lx ++ [.int .i64 a, .int .i64 b]))
    (hg : w.grownBy w' vx.ownBlock) (hat : vx.ownBlock = some g ∨ g = H) (hH : w.heap.size = H) : Rows3 B (lx ++ [(a, b)]) ly lz (nx + 1) ny nz (.slice (some ⟨g, 0, none⟩) (nx + 1) cap) vy vz w' :=
  ⟨by rw [spc_snoc]; exact ho, ownsRow_apart h.y hg h.xy.symm, ownsRow_apart h.z hg h.xz.symm, apart_new h.y h.xy hat (by omega), apart_new h.z h.xz hat (by omega), h.yz⟩
theorem Rows3.appY (h : Rows3 B lx ly lz nx ny nz vx vy vz w) {g cap H : Nat} {a b : Int} (ho : w'.ownsRow B 23 2 (.slice (some ⟨g, 0, none⟩) (ny + 1) cap) (ny + 1) (spc ly ++ [.int .i64 a, .int .i64 b]))
    (hg : w.grownBy w' vy.ownBlock) (hat : vy.ownBlock = some g ∨ g = H) (hH : w.heap.size = H) : Rows3 B lx (ly ++ [(a, b)]) lz nx (ny + 1) nz vx (.slice (some ⟨g, 0, none⟩) (ny + 1) cap) vz w' :=
  ⟨ownsRow_apart h.x hg h.xy, by rw [spc_snoc]; exact ho, ownsRow_apart h.z hg h.yz.symm, (apart_new h.x h.xy.symm hat (by omega)).symm, h.xz, apart_new h.z h.yz hat (by omega)⟩
theorem Rows3.appZ (h : Rows3 B lx ly lz nx ny nz vx vy vz w) {g cap H : Nat} {a b : Int} (ho : w'.ownsRow B 23 2 (.slice (some ⟨g, 0, none⟩) (nz + 1) cap) (nz + 1) (spc lz ++ [.int .i64 a, .int .i64 b]))
    (hg : w.grownBy w' vz.ownBlock) (hat : vz.ownBlock = some g ∨ g = H) (hH : w.heap.size = H) : Rows3 B lx ly (lz ++ [(a, b)]) nx ny (nz + 1) vx vy (.slice (some ⟨g, 0, none⟩) (nz + 1) cap) w' :=
  ⟨ownsRow_apart h.x hg h.xz, ownsRow_apart h.y hg h.yz, by rw [spc_snoc]; exact ho, h.xy, (apart_new h.x h.xz.symm hat (by omega)).symm, (apart_new h.y h.yz.symm hat (by omega)).symm⟩
theorem below_cell {a : Addr} {v : Value} (hb : Below w.heap.size w w') (hc : w.cell? a = some v) : w'.cell? a = some v :=
  (hb.cell (World.block_lt_of_cell? w a hc)).trans hc
theorem alloc_cell {a : Addr} {v : Value} (hc : w.cell? a = some v) (o : Obj) : (w.alloc o).cell? a = some v := below_cell (balloc (Below.refl _ _) o) hc
theorem below_grown {W : World} {row : Value} (h : Below W.heap.size W w) (hg : w.grownBy w' row.ownBlock) (hr : ∀ g, row.ownBlock = some g → W.heap.size ≤ g) : Below W.heap.size W w' := h.grown hg h.size hr
/-- a cell of a block that the row is not in -/
theorem cell_far_row {row : Value} {a : Addr} {v : Value} (hg : w.grownBy w' row.ownBlock) (hc : w.cell? a = some v) (hn : ∀ g, row.ownBlock = some g → g ≠ a.block) : w'.cell? a = some v := by
  rw [hg.cell_far a (World.block_lt_of_cell? w a hc) (fun e => hn _ e.symm rfl)]; exact hc
end

theorem spc_get : ∀ (l : List (Int × Int)) (i : Nat), i < l.length * 2 → (spc l)[i]? = some (spanF l i)
  | [], i, h => by simp at h
  | s :: l, 0, _ => by simp [spc, spanF]
  | s :: l, 1, _ => by simp [spc, spanF]
  | s :: l, i + 2, h => by
    have ih := spc_get l i (by simp at h; omega)
    have e : spc (s :: l) = .int .i64 s.1 :: .int .i64 s.2 :: spc l := by simp [spc]
    have e1 : (i + 2) % 2 = i % 2 := by omega
    have e2 : (i + 2) / 2 = i / 2 + 1 := by omega
    rw [e]
    simp only [List.getElem?_cons_succ, ih, spanF, e1, e2]
/-- a row of the call's own, as a slice of spans with a first element and a tail -/
theorem spans_of_row {w : World} {B : Nat} {v : Value} {l : List (Int × Int)} (h : w.ownsRow B 23 2 v l.length (spc l)) (hn : 0 < l.length) :
    ∃ g c, v = .slice (some ⟨g, 0, none⟩) l.length c ∧ B ≤ g ∧ g < w.heap.size ∧ l.length ≤ c ∧ c ≤ maxLen ∧ ∀ i, i < l.length * 2 → w.cell? ⟨g, i, none⟩ = some (spanF l i) := by
  obtain ⟨h1, ⟨_, h2⟩ | ⟨g, cap, cur, rfl, h4, h5, h6, h7, h8, h9⟩⟩ := h
  · omega
  · refine ⟨g, cap, rfl, h4, (Array.getElem?_eq_some_iff.1 h5).1, h6, h7, fun i hi => ?_⟩
    have hg := spc_get l i hi
    rw [← h9, List.getElem?_take_of_lt (by omega)] at hg
    unfold World.cell?
    rw [h5]
    simpa using hg

/-- 'x[1:]' of a row of the call's own: what it is, whatever the capacity -/
theorem tail_run (g m c : Nat) (hc : m + 1 ≤ c) : ∃ a, (∀ w : World, (Instr.sliceAt 184 (.slice (some ⟨g, 0, none⟩) (m + 1) c) (some (.int .i64 1)) none none).run Tryz.prog w = .ok (.slice a m (c - 1)) w) ∧
    (m = 0 ∨ a = some ⟨g, 2, none⟩) := by
  refine ⟨if c = 1 then some ⟨g, 0, none⟩ else some ⟨g, 2, none⟩, fun w => ?_, ?_⟩
  · by_cases h : c = 1
    · simp [go_sem, h, Tryz.underlying184]; intro hx; omega
    · simp [go_sem, h, Tryz.underlying184]; intro hx; omega
  · by_cases h : c = 1
    · exact .inl (by omega)
    · exact .inr (by simp [h])
/-- the spans behind the first one -/
theorem tail_spans {w : World} {g m c : Nat} {a : Option Addr} {p : Int × Int} {t : List (Int × Int)} (hm : t.length = m) (ha : m = 0 ∨ a = some ⟨g, 2, none⟩) (hg : g < w.heap.size)
    (hc : ∀ i, i < (m + 1) * 2 → w.cell? ⟨g, i, none⟩ = some (spanF (p :: t) i)) : SpansAt w (.slice a m c) t := by
  subst hm
  refine ⟨_, _, rfl, ?_⟩
  rcases ha with h | rfl
  · exact .inl h
  · refine .inr ⟨g, 2, rfl, hg, fun i hi => ?_⟩
    have e1 : (2 + i) % 2 = i % 2 := by omega
    have e2 : (2 + i) / 2 = i / 2 + 1 := by omega
    rw [hc (2 + i) (by omega)]
    simp [spanF, e1, e2]
theorem whole_spans {w : World} {g m c : Nat} {t : List (Int × Int)} (hm : t.length = m) (hg : g < w.heap.size)
    (hc : ∀ i, i < m * 2 → w.cell? ⟨g, i, none⟩ = some (spanF t i)) : SpansAt w (.slice (some ⟨g, 0, none⟩) m c) t := by
  subst hm
  exact ⟨_, _, rfl, .inr ⟨g, 0, rfl, hg, fun i hi => by rw [Nat.zero_add]; exact hc i hi⟩⟩
/-- six cells stored: a cell of another block -/
theorem store6_other {w : World} {b : Nat} {v0 v1 v2 v3 v4 v5 v : Value} {a : Addr} (hne : b ≠ a.block) (hc : w.cell? a = some v) : ((((((w.setCell ⟨b, 0, none⟩ v0).setCell ⟨b, 1, none⟩ v1).setCell ⟨b, 2, none⟩ v2).setCell ⟨b, 3, none⟩ v3).setCell ⟨b, 4, none⟩ v4).setCell ⟨b, 5, none⟩ v5).cell? a = some v := by
  have h : ∀ i, (⟨b, i, none⟩ : Addr) ≠ a := fun i e => hne (by rw [← e])
  rw [World.cell?_setCell_other _ _ _ _ (h 5), World.cell?_setCell_other _ _ _ _ (h 4), World.cell?_setCell_other _ _ _ _ (h 3), World.cell?_setCell_other _ _ _ _ (h 2), World.cell?_setCell_other _ _ _ _ (h 1), World.cell?_setCell_other _ _ _ _ (h 0)]
  exact hc
/-- a block of six cells that may be written -/
structure Six (w : World) (b : Nat) (v0 v1 v2 v3 v4 v5 : Value) : Prop where
  c0 : w.cell? ⟨b, 0, none⟩ = some v0
  f0 : w.frozen? ⟨b, 0, none⟩ = false
  c1 : w.cell? ⟨b, 1, none⟩ = some v1
  f1 : w.frozen? ⟨b, 1, none⟩ = false
  c2 : w.cell? ⟨b, 2, none⟩ = some v2
  f2 : w.frozen? ⟨b, 2, none⟩ = false
  c3 : w.cell? ⟨b, 3, none⟩ = some v3
  f3 : w.frozen? ⟨b, 3, none⟩ = false
  c4 : w.cell? ⟨b, 4, none⟩ = some v4
  f4 : w.frozen? ⟨b, 4, none⟩ = false
  c5 : w.cell? ⟨b, 5, none⟩ = some v5
  f5 : w.frozen? ⟨b, 5, none⟩ = false
theorem Six.store {w : World} {b : Nat} {v0 v1 v2 v3 v4 v5 : Value} (h : Six w b v0 v1 v2 v3 v4 v5) (u0 u1 u2 u3 u4 u5 : Value) : Six ((((((w.setCell ⟨b, 0, none⟩ u0).setCell ⟨b, 1, none⟩ u1).setCell ⟨b, 2, none⟩ u2).setCell ⟨b, 3, none⟩ u3).setCell ⟨b, 4, none⟩ u4).setCell ⟨b, 5, none⟩ u5) b u0 u1 u2 u3 u4 u5 := by
  have n : ∀ i j, i ≠ j → (⟨b, i, none⟩ : Addr) ≠ ⟨b, j, none⟩ := fun i j h e => h (by injection e)
  refine ⟨?_, ?_, ?_, ?_, ?_, ?_, ?_, ?_, ?_, ?_, ?_, ?_⟩
  · rw [World.cell?_setCell_other _ _ _ _ (n 5 0 (by omega)), World.cell?_setCell_other _ _ _ _ (n 4 0 (by omega)), World.cell?_setCell_other _ _ _ _ (n 3 0 (by omega)), World.cell?_setCell_other _ _ _ _ (n 2 0 (by omega)), World.cell?_setCell_other _ _ _ _ (n 1 0 (by omega))]; exact World.cell?_setCell_same _ _ _ (h.c0)
  · simp only [World.frozen?_setCell]; exact h.f0
  · rw [World.cell?_setCell_other _ _ _ _ (n 5 1 (by omega)), World.cell?_setCell_other _ _ _ _ (n 4 1 (by omega)), World.cell?_setCell_other _ _ _ _ (n 3 1 (by omega)), World.cell?_setCell_other _ _ _ _ (n 2 1 (by omega))]; exact World.cell?_setCell_same _ _ _ (by rw [World.cell?_setCell_other _ _ _ _ (n 0 1 (by omega))]; exact h.c1)
  · simp only [World.frozen?_setCell]; exact h.f1
  · rw [World.cell?_setCell_other _ _ _ _ (n 5 2 (by omega)), World.cell?_setCell_other _ _ _ _ (n 4 2 (by omega)), World.cell?_setCell_other _ _ _ _ (n 3 2 (by omega))]; exact World.cell?_setCell_same _ _ _ (by rw [World.cell?_setCell_other _ _ _ _ (n 1 2 (by omega)), World.cell?_setCell_other _ _ _ _ (n 0 2 (by omega))]; exact h.c2)
  · simp only [World.frozen?_setCell]; exact h.f2
  · rw [World.cell?_setCell_other _ _ _ _ (n 5 3 (by omega)), World.cell?_setCell_other _ _ _ _ (n 4 3 (by omega))]; exact World.cell?_setCell_same _ _ _ (by rw [World.cell?_setCell_other _ _ _ _ (n 2 3 (by omega)), World.cell?_setCell_other _ _ _ _ (n 1 3 (by omega)), World.cell?_setCell_other _ _ _ _ (n 0 3 (by omega))]; exact h.c3)
  · simp only [World.frozen?_setCell]; exact h.f3
  · rw [World.cell?_setCell_other _ _ _ _ (n 5 4 (by omega))]; exact World.cell?_setCell_same _ _ _ (by rw [World.cell?_setCell_other _ _ _ _ (n 3 4 (by omega)), World.cell?_setCell_other _ _ _ _ (n 2 4 (by omega)), World.cell?_setCell_other _ _ _ _ (n 1 4 (by omega)), World.cell?_setCell_other _ _ _ _ (n 0 4 (by omega))]; exact h.c4)
  · simp only [World.frozen?_setCell]; exact h.f4
  · exact World.cell?_setCell_same _ _ _ (by rw [World.cell?_setCell_other _ _ _ _ (n 4 5 (by omega)), World.cell?_setCell_other _ _ _ _ (n 3 5 (by omega)), World.cell?_setCell_other _ _ _ _ (n 2 5 (by omega)), World.cell?_setCell_other _ _ _ _ (n 1 5 (by omega)), World.cell?_setCell_other _ _ _ _ (n 0 5 (by omega))]; exact h.c5)
  · simp only [World.frozen?_setCell]; exact h.f5
theorem Six.below {w w0 : World} {b : Nat} {u0 u1 u2 u3 u4 u5 : Value} (h : Below w0.heap.size w0 w) (hb : w0.heap.size ≤ b) : Below w0.heap.size w0 ((((((w.setCell ⟨b, 0, none⟩ u0).setCell ⟨b, 1, none⟩ u1).setCell ⟨b, 2, none⟩ u2).setCell ⟨b, 3, none⟩ u3).setCell ⟨b, 4, none⟩ u4).setCell ⟨b, 5, none⟩ u5) :=
  (((((h.setCell (p := ⟨b, 0, none⟩) hb u0).setCell (p := ⟨b, 1, none⟩) hb u1).setCell (p := ⟨b, 2, none⟩) hb u2).setCell (p := ⟨b, 3, none⟩) hb u3).setCell (p := ⟨b, 4, none⟩) hb u4).setCell (p := ⟨b, 5, none⟩) hb u5
/-- what 'where' returns -/
def WhereEnd (speed climb low high tick : Int) (ss : List Sight) : Ending :=
  .returned (.tuple #[.agg #[.int .i64 (whXL speed tick ss), .int .i64 (whXH speed tick ss), .int .i64 (whYL speed tick ss), .int .i64 (whYH speed tick ss), .int .i64 (whZL climb low tick ss), .int .i64 (whZH climb high tick ss)], .bool (whB speed climb low high tick ss)])

set_option maxRecDepth 100000 in
set_option maxHeartbeats 4000000 in
theorem where_any (nm : ByteArray) (speed climb low high : Int) (v : Value) (ss : List Sight) (tick : Int) (w : World) (hv : SightsAt w v ss)
    (ht0 : 0 ≤ tick) (ht1 : tick ≤ 100000)
    (g1 : 0 ≤ speed) (g2 : speed ≤ 1000000) (g3 : 0 ≤ climb) (g4 : climb ≤ 1000000) (hn0 : 0 < ss.length) (hn1 : ss.length ≤ 10)
    (hsg : ∀ k, k < ss.length → sgBad (sgAt ss k) = false) :
    Calls Tryz.prog 94 #[.agg #[.string nm, .int .i64 speed, .int .i64 climb, .int .i64 low, .int .i64 high, v], .int .i64 tick] w fun e w' =>
      e = WhereEnd speed climb low high tick ss ∧ Below w.heap.size w w' := by
  have hv1 := hv.below (balloc (balloc (Below.refl _ w) (.cells #[.string nm, .int .i64 speed, .int .i64 climb, .int .i64 low, .int .i64 high, v] 63)) (.cells #[.int .i64 0, .int .i64 0, .int .i64 0, .int .i64 0, .int .i64 0, .int .i64 0] 161))
  obtain ⟨a, c, rfl, hx⟩ := hv
  clear hx
  have HV := Lib.hid hv1
  have HSG := Lib.hid hsg
  clear hv1 hsg
  obtain ⟨i0, hi, hz0, hz1, hz2⟩ := info_parts Tryz.info23
  go_enter Tryz.func94, Tryz.ntmps94
  go_wp2_with fail
  have hbx1 : ((w.alloc (.cells #[.string nm, .int .i64 speed, .int .i64 climb, .int .i64 low, .int .i64 high, .slice a ss.length c] 63)).alloc (.cells #[.int .i64 0, .int .i64 0, .int .i64 0, .int .i64 0, .int .i64 0, .int .i64 0] 161)).cell? ⟨w.heap.size, 1, none⟩ = some (.int .i64 speed) := by simp
  have hbx2 : ((w.alloc (.cells #[.string nm, .int .i64 speed, .int .i64 climb, .int .i64 low, .int .i64 high, .slice a ss.length c] 63)).alloc (.cells #[.int .i64 0, .int .i64 0, .int .i64 0, .int .i64 0, .int .i64 0, .int .i64 0] 161)).cell? ⟨w.heap.size, 2, none⟩ = some (.int .i64 climb) := by simp
  have hbx3 : ((w.alloc (.cells #[.string nm, .int .i64 speed, .int .i64 climb, .int .i64 low, .int .i64 high, .slice a ss.length c] 63)).alloc (.cells #[.int .i64 0, .int .i64 0, .int .i64 0, .int .i64 0, .int .i64 0, .int .i64 0] 161)).cell? ⟨w.heap.size, 3, none⟩ = some (.int .i64 low) := by simp
  have hbx4 : ((w.alloc (.cells #[.string nm, .int .i64 speed, .int .i64 climb, .int .i64 low, .int .i64 high, .slice a ss.length c] 63)).alloc (.cells #[.int .i64 0, .int .i64 0, .int .i64 0, .int .i64 0, .int .i64 0, .int .i64 0] 161)).cell? ⟨w.heap.size, 4, none⟩ = some (.int .i64 high) := by simp
  have hroom : ∀ i, i < 6 → ((w.alloc (.cells #[.string nm, .int .i64 speed, .int .i64 climb, .int .i64 low, .int .i64 high, .slice a ss.length c] 63)).alloc (.cells #[.int .i64 0, .int .i64 0, .int .i64 0, .int .i64 0, .int .i64 0, .int .i64 0] 161)).cell? ⟨w.heap.size + 1, i, none⟩ = some (.int .i64 0) ∧ ((w.alloc (.cells #[.string nm, .int .i64 speed, .int .i64 climb, .int .i64 low, .int .i64 high, .slice a ss.length c] 63)).alloc (.cells #[.int .i64 0, .int .i64 0, .int .i64 0, .int .i64 0, .int .i64 0, .int .i64 0] 161)).frozen? ⟨w.heap.size + 1, i, none⟩ = false := by
    intro i hi
    have : i = 0 ∨ i = 1 ∨ i = 2 ∨ i = 3 ∨ i = 4 ∨ i = 5 := by omega
    rcases this with rfl | rfl | rfl | rfl | rfl | rfl <;> exact ⟨by simp, by simp⟩
  have hW1 : Below w.heap.size w ((w.alloc (.cells #[.string nm, .int .i64 speed, .int .i64 climb, .int .i64 low, .int .i64 high, .slice a ss.length c] 63)).alloc (.cells #[.int .i64 0, .int .i64 0, .int .i64 0, .int .i64 0, .int .i64 0, .int .i64 0] 161)) := (by repeat (first | exact Below.refl _ _ | assumption | refine balloc ?_ _ | refine below_trans ?_ (by assumption) | refine Below.drew ?_ | refine below_drewN ?_ _ | refine Below.setCell ?_ (by simp <;> omega) _))
  have hsz1 : w.heap.size + 2 ≤ ((w.alloc (.cells #[.string nm, .int .i64 speed, .int .i64 climb, .int .i64 low, .int .i64 high, .slice a ss.length c] 63)).alloc (.cells #[.int .i64 0, .int .i64 0, .int .i64 0, .int .i64 0, .int .i64 0, .int .i64 0] 161)).heap.size := by simp
  generalize (w.alloc (.cells #[.string nm, .int .i64 speed, .int .i64 climb, .int .i64 low, .int .i64 high, .slice a ss.length c] 63)).alloc (.cells #[.int .i64 0, .int .i64 0, .int .i64 0, .int .i64 0, .int .i64 0, .int .i64 0] 161) = W1 at *
  have HX1 := Lib.hid hbx1
  have HX2 := Lib.hid hbx2
  have HX3 := Lib.hid hbx3
  have HX4 := Lib.hid hbx4
  have ROOM := Lib.hid hroom
  clear hbx1 hbx2 hbx3 hbx4 hroom
  go_loopw [6, 7, 8, 15] (fun vx vy vz i wr => ∃ k : Nat, k ≤ ss.length ∧ i = .int .i64 k ∧ Below W1.heap.size W1 wr ∧ Rows3 W1.heap.size ((ss.take k).map (sgX speed tick)) ((ss.take k).map (sgY speed tick)) ((ss.take k).map (sgZ climb tick)) k k k vx vy vz wr) (fun _ _ _ i _ => ss.length - (intOf i).toNat)
  case atStart => exact ⟨0, Nat.zero_le _, rfl, Below.refl _ _, ⟨by simpa [spc] using World.ownsRow_nil _ _ _ _, by simpa [spc] using World.ownsRow_nil _ _ _ _, by simpa [spc] using World.ownsRow_nil _ _ _ _, by intro g h; simp [Value.ownBlock] at h, by intro g h; simp [Value.ownBlock] at h, by intro g h; simp [Value.ownBlock] at h⟩⟩
  case round =>
    obtain ⟨k, hk, rfl, hBw, hR⟩ := hrel
    by_cases hlt : k < ss.length
    · have hrow := HV.out.below hBw
      have hx1 := (hBw.cell (p := ⟨w.heap.size, 1, none⟩) (show w.heap.size < W1.heap.size by omega)).trans HX1.out
      have hx2 := (hBw.cell (p := ⟨w.heap.size, 2, none⟩) (show w.heap.size < W1.heap.size by omega)).trans HX2.out
      have hszr : w.heap.size < wr.heap.size := by have := hBw.size; omega
      obtain ⟨a', c', hac, h0 | ⟨b, off, rfl, hb, hc⟩⟩ := hrow
      · omega
      · simp only [Value.slice.injEq] at hac
        obtain ⟨rfl, _, rfl⟩ := hac
        obtain ⟨s0, s1, s2, s3, s4⟩ := sight_cells hc hlt
        have hsb := sgBad_false.1 (HSG.out k hlt)
        obtain ⟨⟨b0, b1⟩, ⟨b2, b3⟩, ⟨b4, b5⟩, ⟨b6, b7⟩, ⟨b8, b9⟩⟩ := hsb
        have hge : sgAt ss k = ss[k] := by simp [sgAt, hlt]
        have HX := Lib.hid (take_snoc_map (sgX speed tick) ss k hlt)
        have HY := Lib.hid (take_snoc_map (sgY speed tick) ss k hlt)
        have HZ := Lib.hid (take_snoc_map (sgZ climb tick) ss k hlt)
        rw [← hge] at HX HY HZ
        generalize sgAt ss k = sg at *
        generalize (ss.take k).map (sgX speed tick) = Lx at hR HX
        generalize (ss.take k).map (sgY speed tick) = Ly at hR HY
        generalize (ss.take k).map (sgZ climb tick) = Lz at hR HZ
        clear hc hge
        by_cases hmx : tick - sg.t < sg.t - tick
        · have hfar := Lib.hid (show far tick sg = sg.t - tick by unfold far; omega)
          have hf0 : 0 ≤ sg.t - tick := by omega
          have hf1 : sg.t - tick ≤ 100000 := by omega
          go_wp2_with fail
          generalize sg.t - tick = f at *
          have t1 : (wr.alloc (.cells #[.int .i64 sg.t, .int .i64 sg.x, .int .i64 sg.y, .int .i64 sg.h, .int .i64 sg.e] 77)).cell? ⟨wr.heap.size, 1, none⟩ = some (.int .i64 sg.x) := by simp
          have t2 : (wr.alloc (.cells #[.int .i64 sg.t, .int .i64 sg.x, .int .i64 sg.y, .int .i64 sg.h, .int .i64 sg.e] 77)).cell? ⟨wr.heap.size, 2, none⟩ = some (.int .i64 sg.y) := by simp
          have t3 : (wr.alloc (.cells #[.int .i64 sg.t, .int .i64 sg.x, .int .i64 sg.y, .int .i64 sg.h, .int .i64 sg.e] 77)).cell? ⟨wr.heap.size, 3, none⟩ = some (.int .i64 sg.h) := by simp
          have t4 : (wr.alloc (.cells #[.int .i64 sg.t, .int .i64 sg.x, .int .i64 sg.y, .int .i64 sg.h, .int .i64 sg.e] 77)).cell? ⟨wr.heap.size, 4, none⟩ = some (.int .i64 sg.e) := by simp
          have t5 : (wr.alloc (.cells #[.int .i64 sg.t, .int .i64 sg.x, .int .i64 sg.y, .int .i64 sg.h, .int .i64 sg.e] 77)).cell? ⟨w.heap.size, 1, none⟩ = some (.int .i64 speed) := by rw [World.cell?_alloc_past _ _ _ hszr]; exact hx1
          have t6 : (wr.alloc (.cells #[.int .i64 sg.t, .int .i64 sg.x, .int .i64 sg.y, .int .i64 sg.h, .int .i64 sg.e] 77)).cell? ⟨w.heap.size, 2, none⟩ = some (.int .i64 climb) := by rw [World.cell?_alloc_past _ _ _ hszr]; exact hx2
          have t7 : (wr.alloc (.cells #[.int .i64 sg.t, .int .i64 sg.x, .int .i64 sg.y, .int .i64 sg.h, .int .i64 sg.e] 77)).heap.size = wr.heap.size + 1 := by simp
          have t8 : Below W1.heap.size W1 (wr.alloc (.cells #[.int .i64 sg.t, .int .i64 sg.x, .int .i64 sg.y, .int .i64 sg.h, .int .i64 sg.e] 77)) := hBw.alloc hBw.size _
          have hr := (hR.alloc (.cells #[.int .i64 sg.t, .int .i64 sg.x, .int .i64 sg.y, .int .i64 sg.h, .int .i64 sg.e] 77)).drew
          have n6 : ∀ g, u6.ownBlock = some g → g ≠ wr.heap.size ∧ g ≠ w.heap.size := fun g h => by have := World.ownsRow.lt hR.x g h; omega
          have n7 : ∀ g, u7.ownBlock = some g → g ≠ wr.heap.size ∧ g ≠ w.heap.size := fun g h => by have := World.ownsRow.lt hR.y g h; omega
          have n8 : ∀ g, u8.ownBlock = some g → g ≠ wr.heap.size ∧ g ≠ w.heap.size := fun g h => by have := World.ownsRow.lt hR.z g h; omega
          have hsb : W1.heap.size ≤ wr.heap.size := hBw.size
          clear hBw hR hx1 hx2 s0 s1 s2 s3 s4
          generalize (wr.alloc (.cells #[.int .i64 sg.t, .int .i64 sg.x, .int .i64 sg.y, .int .i64 sg.h, .int .i64 sg.e] 77)) = W3 at *
          generalize wr.heap.size = sb at *
          obtain ⟨p0, p1⟩ := mul_bd f speed 100000 1000000 hf0 hf1 g1 g2
          have q1 := IntWalk.i64_in (f * speed) ⟨by omega, by omega⟩
          have q2 := IntWalk.i64_in (sg.e + f * speed) ⟨by omega, by omega⟩
          have hB := t8.drew
          have m1 : W3.drew.cell? ⟨sb, 1, none⟩ = some (.int .i64 sg.x) := t1
          have m2 : W3.drew.cell? ⟨sb, 2, none⟩ = some (.int .i64 sg.y) := t2
          have m3 : W3.drew.cell? ⟨sb, 3, none⟩ = some (.int .i64 sg.h) := t3
          have m4 : W3.drew.cell? ⟨sb, 4, none⟩ = some (.int .i64 sg.e) := t4
          have m5 : W3.drew.cell? ⟨w.heap.size, 1, none⟩ = some (.int .i64 speed) := t5
          have m6 : W3.drew.cell? ⟨w.heap.size, 2, none⟩ = some (.int .i64 climb) := t6
          have N6 := Lib.hid n6
          have N7 := Lib.hid n7
          have N8 := Lib.hid n8
          clear n6 n7 n8 t8
          go_region_held3 (fun w' => w'.cell? ⟨sb, 1, none⟩ = some (.int .i64 sg.x) ∧ w'.cell? ⟨sb, 2, none⟩ = some (.int .i64 sg.y) ∧ w'.cell? ⟨sb, 4, none⟩ = some (.int .i64 sg.e) ∧ w'.cell? ⟨w.heap.size, 1, none⟩ = some (.int .i64 speed)) (first | exact ⟨m1, m2, m4, m5⟩ | exact ⟨alloc_cell m1 _, alloc_cell m2 _, alloc_cell m4 _, alloc_cell m5 _⟩ | go_keep)
            (first
              | (go_at_call 152; refine (about_any _ _ _ (by omega) (by omega) (by omega) (by omega)).mono ?_; rintro e w4 ⟨rfl, hbA⟩; have hr := hr.below hbA; have hB := below_trans hB hbA; have m1 := below_cell hbA m1; have m2 := below_cell hbA m2; have m3 := below_cell hbA m3; have m4 := below_cell hbA m4; have m5 := below_cell hbA m5; have m6 := below_cell hbA m6)
              | (refine step_append_lies _ (by rfl) _ _ _ (by rfl) W1.heap.size 23 i0 _ 2 16 Tryz.underlying184 hi hz0 hz1 hz2 rfl (by omega) u6 k _ (by rfl) (hr.x.alloc _) ⟨w4.heap.size, 0, none⟩ 1 1 [.int .i64 (sg.x - (sg.e + f * speed)), .int .i64 (sg.x + (sg.e + f * speed))] (by rfl) (by rfl) (World.news_of_block (cs := #[.int .i64 (sg.x - (sg.e + f * speed)), .int .i64 (sg.x + (sg.e + f * speed))]) (t := 23) (fr := (0, 0)) (heap_alloc_new w4 _)) (by simp [Value.oneCell']) (by omega) (by unfold maxLen; omega) (by omega) (by have := hB.size; simp; omega) (w4.heap.size + 1) (by simp) ?_
                 intro gx capx w5 hown1 hgrow hat hlt1
                 have hB := below_grown (hB.alloc hB.size _) hgrow (fun g hg => (World.ownsRow.lt hr.x g hg).1)
                 have hr := (hr.alloc _).appX hown1 hgrow hat (by simp)
                 have m1 := cell_far_row hgrow (alloc_cell m1 _) (fun g hg => (N6.out g hg).1)
                 have m2 := cell_far_row hgrow (alloc_cell m2 _) (fun g hg => (N6.out g hg).1)
                 have m3 := cell_far_row hgrow (alloc_cell m3 _) (fun g hg => (N6.out g hg).1)
                 have m4 := cell_far_row hgrow (alloc_cell m4 _) (fun g hg => (N6.out g hg).1)
                 have m5 := cell_far_row hgrow (alloc_cell m5 _) (fun g hg => (N6.out g hg).2)
                 have m6 := cell_far_row hgrow (alloc_cell m6 _) (fun g hg => (N6.out g hg).2))
              | (refine step_append_lies _ (by rfl) _ _ _ (by rfl) W1.heap.size 23 i0 _ 2 16 Tryz.underlying184 hi hz0 hz1 hz2 rfl (by omega) u7 k _ (by rfl) (hr.y.alloc _) ⟨w4.heap.size, 0, none⟩ 1 1 [.int .i64 (sg.y - (sg.e + f * speed)), .int .i64 (sg.y + (sg.e + f * speed))] (by rfl) (by rfl) (World.news_of_block (cs := #[.int .i64 (sg.y - (sg.e + f * speed)), .int .i64 (sg.y + (sg.e + f * speed))]) (t := 23) (fr := (0, 0)) (heap_alloc_new w4 _)) (by simp [Value.oneCell']) (by omega) (by unfold maxLen; omega) (by omega) (by have := hB.size; simp; omega) (w4.heap.size + 1) (by simp) ?_
                 intro gy capy w6 hown2 hgrow hat hlt2
                 have hB := below_grown (hB.alloc hB.size _) hgrow (fun g hg => (World.ownsRow.lt hr.y g hg).1)
                 have hr := (hr.alloc _).appY hown2 hgrow hat (by simp)
                 have m1 := cell_far_row hgrow (alloc_cell m1 _) (fun g hg => (N7.out g hg).1)
                 have m2 := cell_far_row hgrow (alloc_cell m2 _) (fun g hg => (N7.out g hg).1)
                 have m3 := cell_far_row hgrow (alloc_cell m3 _) (fun g hg => (N7.out g hg).1)
                 have m4 := cell_far_row hgrow (alloc_cell m4 _) (fun g hg => (N7.out g hg).1)
                 have m5 := cell_far_row hgrow (alloc_cell m5 _) (fun g hg => (N7.out g hg).2)
                 have m6 := cell_far_row hgrow (alloc_cell m6 _) (fun g hg => (N7.out g hg).2)))
          obtain ⟨p2, p3⟩ := mul_bd f climb 100000 1000000 hf0 hf1 g3 g4
          clear q1 q2 t1 t2 t3 t4 t5 t6 hown1 hown2 N6 N7 hlt1 hlt2
          go_wp2_with fail
          refine (about_any _ _ _ (by omega) (by omega) (by omega) (by omega)).mono ?_
          rintro e w8 ⟨rfl, hbA⟩
          have hr := hr.below hbA
          have hB := below_trans hB hbA
          go_wp2_with (at_builtin; refine wpList_append_lies _ (by rfl) _ _ _ (by rfl) W1.heap.size 23 i0 _ 2 16 Tryz.underlying184 hi hz0 hz1 hz2 rfl (by omega) u8 k _ (by rfl) (hr.z.alloc _) ⟨w8.heap.size, 0, none⟩ 1 1 [.int .i64 (sg.h - (sg.e + f * climb)), .int .i64 (sg.h + (sg.e + f * climb))] (by rfl) (by rfl) (World.news_of_block (cs := #[.int .i64 (sg.h - (sg.e + f * climb)), .int .i64 (sg.h + (sg.e + f * climb))]) (t := 23) (fr := (0, 0)) (heap_alloc_new w8 _)) (by simp [Value.oneCell']) (by omega) (by unfold maxLen; omega) (by omega) (by have := hB.size; simp; omega) (w8.heap.size + 1) (by simp) ?_)
          intro gz capz w9 hown3 hgrow hat hlt3
          have hB := below_grown (hB.alloc hB.size _) hgrow (fun g hg => (World.ownsRow.lt hr.z g hg).1)
          have hr := (hr.alloc _).appZ hown3 hgrow hat (by simp)
          clear hgrow hat hlt3 hown3 N8
          go_wp2_with fail
          go_roundw
          case rel => exact ⟨k + 1, by omega, by go_num, hB, by rw [HX.out, HY.out, HZ.out]; unfold sgX sgY sgZ; rw [hfar.out]; exact hr⟩
          case measure => simp [intOf]; omega
        · have hfar := Lib.hid (show far tick sg = tick - sg.t by unfold far; omega)
          have hf0 : 0 ≤ tick - sg.t := by omega
          have hf1 : tick - sg.t ≤ 100000 := by omega
          go_wp2_with fail
          generalize tick - sg.t = f at *
          have t1 : (wr.alloc (.cells #[.int .i64 sg.t, .int .i64 sg.x, .int .i64 sg.y, .int .i64 sg.h, .int .i64 sg.e] 77)).cell? ⟨wr.heap.size, 1, none⟩ = some (.int .i64 sg.x) := by simp
          have t2 : (wr.alloc (.cells #[.int .i64 sg.t, .int .i64 sg.x, .int .i64 sg.y, .int .i64 sg.h, .int .i64 sg.e] 77)).cell? ⟨wr.heap.size, 2, none⟩ = some (.int .i64 sg.y) := by simp
          have t3 : (wr.alloc (.cells #[.int .i64 sg.t, .int .i64 sg.x, .int .i64 sg.y, .int .i64 sg.h, .int .i64 sg.e] 77)).cell? ⟨wr.heap.size, 3, none⟩ = some (.int .i64 sg.h) := by simp
          have t4 : (wr.alloc (.cells #[.int .i64 sg.t, .int .i64 sg.x, .int .i64 sg.y, .int .i64 sg.h, .int .i64 sg.e] 77)).cell? ⟨wr.heap.size, 4, none⟩ = some (.int .i64 sg.e) := by simp
          have t5 : (wr.alloc (.cells #[.int .i64 sg.t, .int .i64 sg.x, .int .i64 sg.y, .int .i64 sg.h, .int .i64 sg.e] 77)).cell? ⟨w.heap.size, 1, none⟩ = some (.int .i64 speed) := by rw [World.cell?_alloc_past _ _ _ hszr]; exact hx1
          have t6 : (wr.alloc (.cells #[.int .i64 sg.t, .int .i64 sg.x, .int .i64 sg.y, .int .i64 sg.h, .int .i64 sg.e] 77)).cell? ⟨w.heap.size, 2, none⟩ = some (.int .i64 climb) := by rw [World.cell?_alloc_past _ _ _ hszr]; exact hx2
          have t7 : (wr.alloc (.cells #[.int .i64 sg.t, .int .i64 sg.x, .int .i64 sg.y, .int .i64 sg.h, .int .i64 sg.e] 77)).heap.size = wr.heap.size + 1 := by simp
          have t8 : Below W1.heap.size W1 (wr.alloc (.cells #[.int .i64 sg.t, .int .i64 sg.x, .int .i64 sg.y, .int .i64 sg.h, .int .i64 sg.e] 77)) := hBw.alloc hBw.size _
          have hr := (hR.alloc (.cells #[.int .i64 sg.t, .int .i64 sg.x, .int .i64 sg.y, .int .i64 sg.h, .int .i64 sg.e] 77)).drew
          have n6 : ∀ g, u6.ownBlock = some g → g ≠ wr.heap.size ∧ g ≠ w.heap.size := fun g h => by have := World.ownsRow.lt hR.x g h; omega
          have n7 : ∀ g, u7.ownBlock = some g → g ≠ wr.heap.size ∧ g ≠ w.heap.size := fun g h => by have := World.ownsRow.lt hR.y g h; omega
          have n8 : ∀ g, u8.ownBlock = some g → g ≠ wr.heap.size ∧ g ≠ w.heap.size := fun g h => by have := World.ownsRow.lt hR.z g h; omega
          have hsb : W1.heap.size ≤ wr.heap.size := hBw.size
          clear hBw hR hx1 hx2 s0 s1 s2 s3 s4
          generalize (wr.alloc (.cells #[.int .i64 sg.t, .int .i64 sg.x, .int .i64 sg.y, .int .i64 sg.h, .int .i64 sg.e] 77)) = W3 at *
          generalize wr.heap.size = sb at *
          obtain ⟨p0, p1⟩ := mul_bd f speed 100000 1000000 hf0 hf1 g1 g2
          have q1 := IntWalk.i64_in (f * speed) ⟨by omega, by omega⟩
          have q2 := IntWalk.i64_in (sg.e + f * speed) ⟨by omega, by omega⟩
          have hB := t8.drew
          have m1 : W3.drew.cell? ⟨sb, 1, none⟩ = some (.int .i64 sg.x) := t1
          have m2 : W3.drew.cell? ⟨sb, 2, none⟩ = some (.int .i64 sg.y) := t2
          have m3 : W3.drew.cell? ⟨sb, 3, none⟩ = some (.int .i64 sg.h) := t3
          have m4 : W3.drew.cell? ⟨sb, 4, none⟩ = some (.int .i64 sg.e) := t4
          have m5 : W3.drew.cell? ⟨w.heap.size, 1, none⟩ = some (.int .i64 speed) := t5
          have m6 : W3.drew.cell? ⟨w.heap.size, 2, none⟩ = some (.int .i64 climb) := t6
          have N6 := Lib.hid n6
          have N7 := Lib.hid n7
          have N8 := Lib.hid n8
          clear n6 n7 n8 t8
          go_region_held3 (fun w' => w'.cell? ⟨sb, 1, none⟩ = some (.int .i64 sg.x) ∧ w'.cell? ⟨sb, 2, none⟩ = some (.int .i64 sg.y) ∧ w'.cell? ⟨sb, 4, none⟩ = some (.int .i64 sg.e) ∧ w'.cell? ⟨w.heap.size, 1, none⟩ = some (.int .i64 speed)) (first | exact ⟨m1, m2, m4, m5⟩ | exact ⟨alloc_cell m1 _, alloc_cell m2 _, alloc_cell m4 _, alloc_cell m5 _⟩ | go_keep)
            (first
              | (go_at_call 152; refine (about_any _ _ _ (by omega) (by omega) (by omega) (by omega)).mono ?_; rintro e w4 ⟨rfl, hbA⟩; have hr := hr.below hbA; have hB := below_trans hB hbA; have m1 := below_cell hbA m1; have m2 := below_cell hbA m2; have m3 := below_cell hbA m3; have m4 := below_cell hbA m4; have m5 := below_cell hbA m5; have m6 := below_cell hbA m6)
              | (refine step_append_lies _ (by rfl) _ _ _ (by rfl) W1.heap.size 23 i0 _ 2 16 Tryz.underlying184 hi hz0 hz1 hz2 rfl (by omega) u6 k _ (by rfl) (hr.x.alloc _) ⟨w4.heap.size, 0, none⟩ 1 1 [.int .i64 (sg.x - (sg.e + f * speed)), .int .i64 (sg.x + (sg.e + f * speed))] (by rfl) (by rfl) (World.news_of_block (cs := #[.int .i64 (sg.x - (sg.e + f * speed)), .int .i64 (sg.x + (sg.e + f * speed))]) (t := 23) (fr := (0, 0)) (heap_alloc_new w4 _)) (by simp [Value.oneCell']) (by omega) (by unfold maxLen; omega) (by omega) (by have := hB.size; simp; omega) (w4.heap.size + 1) (by simp) ?_
                 intro gx capx w5 hown1 hgrow hat hlt1
                 have hB := below_grown (hB.alloc hB.size _) hgrow (fun g hg => (World.ownsRow.lt hr.x g hg).1)
                 have hr := (hr.alloc _).appX hown1 hgrow hat (by simp)
                 have m1 := cell_far_row hgrow (alloc_cell m1 _) (fun g hg => (N6.out g hg).1)
                 have m2 := cell_far_row hgrow (alloc_cell m2 _) (fun g hg => (N6.out g hg).1)
                 have m3 := cell_far_row hgrow (alloc_cell m3 _) (fun g hg => (N6.out g hg).1)
                 have m4 := cell_far_row hgrow (alloc_cell m4 _) (fun g hg => (N6.out g hg).1)
                 have m5 := cell_far_row hgrow (alloc_cell m5 _) (fun g hg => (N6.out g hg).2)
                 have m6 := cell_far_row hgrow (alloc_cell m6 _) (fun g hg => (N6.out g hg).2))
              | (refine step_append_lies _ (by rfl) _ _ _ (by rfl) W1.heap.size 23 i0 _ 2 16 Tryz.underlying184 hi hz0 hz1 hz2 rfl (by omega) u7 k _ (by rfl) (hr.y.alloc _) ⟨w4.heap.size, 0, none⟩ 1 1 [.int .i64 (sg.y - (sg.e + f * speed)), .int .i64 (sg.y + (sg.e + f * speed))] (by rfl) (by rfl) (World.news_of_block (cs := #[.int .i64 (sg.y - (sg.e + f * speed)), .int .i64 (sg.y + (sg.e + f * speed))]) (t := 23) (fr := (0, 0)) (heap_alloc_new w4 _)) (by simp [Value.oneCell']) (by omega) (by unfold maxLen; omega) (by omega) (by have := hB.size; simp; omega) (w4.heap.size + 1) (by simp) ?_
                 intro gy capy w6 hown2 hgrow hat hlt2
                 have hB := below_grown (hB.alloc hB.size _) hgrow (fun g hg => (World.ownsRow.lt hr.y g hg).1)
                 have hr := (hr.alloc _).appY hown2 hgrow hat (by simp)
                 have m1 := cell_far_row hgrow (alloc_cell m1 _) (fun g hg => (N7.out g hg).1)
                 have m2 := cell_far_row hgrow (alloc_cell m2 _) (fun g hg => (N7.out g hg).1)
                 have m3 := cell_far_row hgrow (alloc_cell m3 _) (fun g hg => (N7.out g hg).1)
                 have m4 := cell_far_row hgrow (alloc_cell m4 _) (fun g hg => (N7.out g hg).1)
                 have m5 := cell_far_row hgrow (alloc_cell m5 _) (fun g hg => (N7.out g hg).2)
                 have m6 := cell_far_row hgrow (alloc_cell m6 _) (fun g hg => (N7.out g hg).2)))
          obtain ⟨p2, p3⟩ := mul_bd f climb 100000 1000000 hf0 hf1 g3 g4
          clear q1 q2 t1 t2 t3 t4 t5 t6 hown1 hown2 N6 N7 hlt1 hlt2
          go_wp2_with fail
          refine (about_any _ _ _ (by omega) (by omega) (by omega) (by omega)).mono ?_
          rintro e w8 ⟨rfl, hbA⟩
          have hr := hr.below hbA
          have hB := below_trans hB hbA
          go_wp2_with (at_builtin; refine wpList_append_lies _ (by rfl) _ _ _ (by rfl) W1.heap.size 23 i0 _ 2 16 Tryz.underlying184 hi hz0 hz1 hz2 rfl (by omega) u8 k _ (by rfl) (hr.z.alloc _) ⟨w8.heap.size, 0, none⟩ 1 1 [.int .i64 (sg.h - (sg.e + f * climb)), .int .i64 (sg.h + (sg.e + f * climb))] (by rfl) (by rfl) (World.news_of_block (cs := #[.int .i64 (sg.h - (sg.e + f * climb)), .int .i64 (sg.h + (sg.e + f * climb))]) (t := 23) (fr := (0, 0)) (heap_alloc_new w8 _)) (by simp [Value.oneCell']) (by omega) (by unfold maxLen; omega) (by omega) (by have := hB.size; simp; omega) (w8.heap.size + 1) (by simp) ?_)
          intro gz capz w9 hown3 hgrow hat hlt3
          have hB := below_grown (hB.alloc hB.size _) hgrow (fun g hg => (World.ownsRow.lt hr.z g hg).1)
          have hr := (hr.alloc _).appZ hown3 hgrow hat (by simp)
          clear hgrow hat hlt3 hown3 N8
          go_wp2_with fail
          go_roundw
          case rel => exact ⟨k + 1, by omega, by go_num, hB, by rw [HX.out, HY.out, HZ.out]; unfold sgX sgY sgZ; rw [hfar.out]; exact hr⟩
          case measure => simp [intOf]; omega
    · obtain rfl : k = ss.length := by omega
      rw [List.take_length] at hR
      obtain ⟨rx, ry, rz, n1, n2, n3⟩ := hR
      clear n1 n2 n3
      have ex : (ss.map (sgX speed tick)).length = ss.length := by simp
      have ey : (ss.map (sgY speed tick)).length = ss.length := by simp
      have ez : (ss.map (sgZ climb tick)).length = ss.length := by simp
      obtain ⟨gx, cx, rfl, x1, x2, x3, x4, hx⟩ := spans_of_row (l := ss.map (sgX speed tick)) (by rw [ex]; exact rx) (by omega)
      obtain ⟨gy, cy, rfl, y1, y2, y3, y4, hy⟩ := spans_of_row (l := ss.map (sgY speed tick)) (by rw [ey]; exact ry) (by omega)
      obtain ⟨gz, cz, rfl, z1, z2, z3, z4, hz⟩ := spans_of_row (l := ss.map (sgZ climb tick)) (by rw [ez]; exact rz) (by omega)
      rw [ex] at x3 hx
      rw [ey] at y3 hy
      rw [ez] at z3 hz
      unfold maxLen at x4 y4 z4
      rw [ex, ey, ez]
      have FIN : Hid (∀ xp xq yp yq tx ty, ss.map (sgX speed tick) = (xp, xq) :: tx → ss.map (sgY speed tick) = (yp, yq) :: ty → ∀ e, e = .returned (.tuple #[.agg #[.int .i64 (comLo xp tx), .int .i64 (comHi xq tx), .int .i64 (comLo yp ty), .int .i64 (comHi yq ty), .int .i64 (comLo low (ss.map (sgZ climb tick))), .int .i64 (comHi high (ss.map (sgZ climb tick)))], .bool (decide (comLo xp tx ≤ comHi xq tx) && decide (comLo yp ty ≤ comHi yq ty) && decide (comLo low (ss.map (sgZ climb tick)) ≤ comHi high (ss.map (sgZ climb tick))))]) → e = WhereEnd speed climb low high tick ss) := by
        intro xp xq yp yq tx ty hxe hye e he
        rw [he]; unfold WhereEnd whB whXL whXH whYL whYH whZL whZH
        rw [hxe, hye]; rfl
      have HXL := Lib.hid ex
      have HYL := Lib.hid ey
      have HZL := Lib.hid ez
      clear ex ey ez rx ry rz
      obtain ⟨lx, hlx⟩ : ∃ l, l = ss.map (sgX speed tick) := ⟨_, rfl⟩
      obtain ⟨ly, hly⟩ : ∃ l, l = ss.map (sgY speed tick) := ⟨_, rfl⟩
      obtain ⟨lz, hlz⟩ : ∃ l, l = ss.map (sgZ climb tick) := ⟨_, rfl⟩
      rw [← hlx] at hx HXL
      rw [← hly] at hy HYL
      rw [← hlz] at hz HZL
      obtain ⟨⟨xp, xq⟩, tx, rfl⟩ : ∃ p t, lx = p :: t := by
        cases lx with
        | nil => have := HXL.out; simp at this; omega
        | cons p t => exact ⟨p, t, rfl⟩
      obtain ⟨⟨yp, yq⟩, ty, rfl⟩ : ∃ p t, ly = p :: t := by
        cases ly with
        | nil => have := HYL.out; simp at this; omega
        | cons p t => exact ⟨p, t, rfl⟩
      have FI := Lib.hid (FIN.out xp xq yp yq tx ty hlx.symm hly.symm)
      rw [← hlz] at FI
      have ex : tx.length + 1 = ss.length := HXL.out
      have ey : ty.length + 1 = ss.length := HYL.out
      have ez : lz.length = ss.length := HZL.out
      clear FIN hlx hly hlz HXL HYL HZL HSG HV
      generalize ss.length = n at *
      obtain ⟨m, rfl⟩ : ∃ m, n = m + 1 := ⟨n - 1, by omega⟩
      have xa : wr.cell? ⟨gx, 0, none⟩ = some (.int .i64 xp) := hx 0 (by omega)
      have xb : wr.cell? ⟨gx, 1, none⟩ = some (.int .i64 xq) := hx 1 (by omega)
      have ya : wr.cell? ⟨gy, 0, none⟩ = some (.int .i64 yp) := hy 0 (by omega)
      have yb : wr.cell? ⟨gy, 1, none⟩ = some (.int .i64 yq) := hy 1 (by omega)
      have HX := Lib.hid hx
      have HY := Lib.hid hy
      have HZ := Lib.hid hz
      have EX := Lib.hid ex
      have EY := Lib.hid ey
      have EZ := Lib.hid ez
      clear hx hy hz ex ey ez
      have l3 := (hBw.cell (p := ⟨w.heap.size, 3, none⟩) (show w.heap.size < W1.heap.size by omega)).trans HX3.out
      have l4 := (hBw.cell (p := ⟨w.heap.size, 4, none⟩) (show w.heap.size < W1.heap.size by omega)).trans HX4.out
      go_wp2_with fail
      obtain ⟨ax, hax, hax2⟩ := tail_run gx m cx x3
      obtain ⟨ay, hay, hay2⟩ := tail_run gy m cy y3
      have HTX := Lib.hid (tail_spans (c := cx - 1) (show tx.length = m by have := EX.out; omega) hax2 x2 HX.out)
      have HTY := Lib.hid (tail_spans (c := cy - 1) (show ty.length = m by have := EY.out; omega) hay2 y2 HY.out)
      have HTZ := Lib.hid (whole_spans (c := cz) EZ.out z2 HZ.out)
      clear HX HY HZ hax2 hay2
      have hnx : w.heap.size + 1 ≠ gx := by omega
      have hny : w.heap.size + 1 ≠ gy := by omega
      have hnb : w.heap.size + 1 ≠ w.heap.size := by omega
      have hB := hBw.drew
      have s1 : wr.drew.cell? ⟨gx, 0, none⟩ = some (.int .i64 xp) := xa
      have s2 : wr.drew.cell? ⟨gx, 1, none⟩ = some (.int .i64 xq) := xb
      have s3 : wr.drew.cell? ⟨gy, 0, none⟩ = some (.int .i64 yp) := ya
      have s4 : wr.drew.cell? ⟨gy, 1, none⟩ = some (.int .i64 yq) := yb
      have s5 : wr.drew.cell? ⟨w.heap.size, 3, none⟩ = some (.int .i64 low) := l3
      have s6 : wr.drew.cell? ⟨w.heap.size, 4, none⟩ = some (.int .i64 high) := l4
      have HTX := Lib.hid (HTX.out.below (Below.refl _ _).drew)
      have HTY := Lib.hid (HTY.out.below (Below.refl _ _).drew)
      have HTZ := Lib.hid (HTZ.out.below (Below.refl _ _).drew)
      have lx1 : tx.length ≤ 4611686018427387903 := by have := EX.out; omega
      have ly1 : ty.length ≤ 4611686018427387903 := by have := EY.out; omega
      have lz1 : lz.length ≤ 4611686018427387903 := by have := EZ.out; omega
      have ETX := Lib.hid (show tx.length = m by have := EX.out; omega)
      have ETY := Lib.hid (show ty.length = m by have := EY.out; omega)
      go_region_held3 (fun w' => w'.cell? ⟨gx, 0, none⟩ = some (.int .i64 xp) ∧ w'.cell? ⟨gx, 1, none⟩ = some (.int .i64 xq) ∧ w'.cell? ⟨gy, 0, none⟩ = some (.int .i64 yp) ∧ w'.cell? ⟨gy, 1, none⟩ = some (.int .i64 yq) ∧ w'.cell? ⟨w.heap.size, 3, none⟩ = some (.int .i64 low) ∧ w'.cell? ⟨w.heap.size, 4, none⟩ = some (.int .i64 high)) (first | (with_reducible exact ⟨s1, s2, s3, s4, s5, s6⟩) | (with_reducible exact ⟨store6_other hnx s1, store6_other hnx s2, store6_other hny s3, store6_other hny s4, store6_other hnb s5, store6_other hnb s6⟩) | go_keep)
        ((go_at_call 153; refine (common_any _ _ _ _ _ (by first | (with_reducible exact HTX.out) | (with_reducible exact HTY.out) | (with_reducible exact HTZ.out)) (by assumption)).mono ?_; rintro e w4 ⟨rfl, hbA⟩; have hB := below_trans hB hbA; have HTX := Lib.hid (HTX.out.below hbA); have HTY := Lib.hid (HTY.out.below hbA); have HTZ := Lib.hid (HTZ.out.below hbA); have s1 := below_cell hbA s1; have s2 := below_cell hbA s2; have s3 := below_cell hbA s3; have s4 := below_cell hbA s4; have s5 := below_cell hbA s5; have s6 := below_cell hbA s6; have r0 := (hB.cell (p := ⟨w.heap.size + 1, 0, none⟩) (show w.heap.size + 1 < W1.heap.size by omega)).trans (ROOM.out 0 (by omega)).1; have f0 := (hB.frozen (p := ⟨w.heap.size + 1, 0, none⟩) (show w.heap.size + 1 < W1.heap.size by omega)).trans (ROOM.out 0 (by omega)).2; have r1 := (hB.cell (p := ⟨w.heap.size + 1, 1, none⟩) (show w.heap.size + 1 < W1.heap.size by omega)).trans (ROOM.out 1 (by omega)).1; have f1 := (hB.frozen (p := ⟨w.heap.size + 1, 1, none⟩) (show w.heap.size + 1 < W1.heap.size by omega)).trans (ROOM.out 1 (by omega)).2; have r2 := (hB.cell (p := ⟨w.heap.size + 1, 2, none⟩) (show w.heap.size + 1 < W1.heap.size by omega)).trans (ROOM.out 2 (by omega)).1; have f2 := (hB.frozen (p := ⟨w.heap.size + 1, 2, none⟩) (show w.heap.size + 1 < W1.heap.size by omega)).trans (ROOM.out 2 (by omega)).2; have r3 := (hB.cell (p := ⟨w.heap.size + 1, 3, none⟩) (show w.heap.size + 1 < W1.heap.size by omega)).trans (ROOM.out 3 (by omega)).1; have f3 := (hB.frozen (p := ⟨w.heap.size + 1, 3, none⟩) (show w.heap.size + 1 < W1.heap.size by omega)).trans (ROOM.out 3 (by omega)).2; have r4 := (hB.cell (p := ⟨w.heap.size + 1, 4, none⟩) (show w.heap.size + 1 < W1.heap.size by omega)).trans (ROOM.out 4 (by omega)).1; have f4 := (hB.frozen (p := ⟨w.heap.size + 1, 4, none⟩) (show w.heap.size + 1 < W1.heap.size by omega)).trans (ROOM.out 4 (by omega)).2; have r5 := (hB.cell (p := ⟨w.heap.size + 1, 5, none⟩) (show w.heap.size + 1 < W1.heap.size by omega)).trans (ROOM.out 5 (by omega)).1; have f5 := (hB.frozen (p := ⟨w.heap.size + 1, 5, none⟩) (show w.heap.size + 1 < W1.heap.size by omega)).trans (ROOM.out 5 (by omega)).2))
      have h5 := Six.store ⟨r0, f0, r1, f1, r2, f2, r3, f3, r4, f4, r5, f5⟩ (.int .i64 (comLo xp tx)) (.int .i64 (comHi xq tx)) (.int .i64 (comLo yp ty)) (.int .i64 (comHi yq ty)) (.int .i64 (comLo low lz)) (.int .i64 (comHi high lz))
      have hB5 := Six.below (b := w.heap.size + 1) (u0 := (.int .i64 (comLo xp tx))) (u1 := (.int .i64 (comHi xq tx))) (u2 := (.int .i64 (comLo yp ty))) (u3 := (.int .i64 (comHi yq ty))) (u4 := (.int .i64 (comLo low lz))) (u5 := (.int .i64 (comHi high lz))) (below_trans hW1 hB) (by omega)
      clear r0 r1 r2 r3 r4 r5 f0 f1 f2 f3 f4 f5 s1 s2 s3 s4 s5 s6 hB hbA HTX HTY HTZ
      generalize ((((((w4.setCell ⟨w.heap.size + 1, 0, none⟩ (.int .i64 (comLo xp tx))).setCell ⟨w.heap.size + 1, 1, none⟩ (.int .i64 (comHi xq tx))).setCell ⟨w.heap.size + 1, 2, none⟩ (.int .i64 (comLo yp ty))).setCell ⟨w.heap.size + 1, 3, none⟩ (.int .i64 (comHi yq ty))).setCell ⟨w.heap.size + 1, 4, none⟩ (.int .i64 (comLo low lz))).setCell ⟨w.heap.size + 1, 5, none⟩ (.int .i64 (comHi high lz))) = W5 at h5 hB5 ⊢
      have h6 := h5.store (.int .i64 (comLo xp tx)) (.int .i64 (comHi xq tx)) (.int .i64 (comLo yp ty)) (.int .i64 (comHi yq ty)) (.int .i64 (comLo low lz)) (.int .i64 (comHi high lz))
      have hB6 := Six.below (b := w.heap.size + 1) (u0 := (.int .i64 (comLo xp tx))) (u1 := (.int .i64 (comHi xq tx))) (u2 := (.int .i64 (comLo yp ty))) (u3 := (.int .i64 (comHi yq ty))) (u4 := (.int .i64 (comLo low lz))) (u5 := (.int .i64 (comHi high lz))) hB5 (by omega)
      have H6 := Lib.hid h6
      have HB6 := Lib.hid hB6
      clear h6 hB6
      obtain ⟨r0, f0, r1, f1, r2, f2, r3, f3, r4, f4, r5, f5⟩ := h5
      generalize comLo xp tx = A0 at *
      generalize comHi xq tx = A1 at *
      generalize comLo yp ty = A2 at *
      generalize comHi yq ty = A3 at *
      generalize comLo low lz = A4 at *
      generalize comHi high lz = A5 at *
      go_wp2_with fail
      all_goals (refine bodyPost_ret (v := .tuple #[.agg #[.int .i64 A0, .int .i64 A1, .int .i64 A2, .int .i64 A3, .int .i64 A4, .int .i64 A5], .bool (decide (A0 ≤ A1) && decide (A2 ≤ A3) && decide (A4 ≤ A5))]) ?_ rfl ⟨FI.out _ rfl, HB6.out⟩)
      all_goals (obtain ⟨e0, _, e1, _, e2, _, e3, _, e4, _, e5, _⟩ := H6.out)
      all_goals (simp [results, Tryz.results94, go_sem, e0, e1, e2, e3, e4, e5])
      all_goals omega

end Go.Proofs.YtmglbegbijofkaaGreatDoor
