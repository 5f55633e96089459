import Derived.Test.YtmglbegbijofkaaGreatDoorW7
set_option linter.unusedVariables false
set_option linter.unusedSimpArgs false
namespace Go.Proofs.YtmglbegbijofkaaGreatDoor
open Go.RowKit

def cellsAt (W : World) (b : Nat) (t : TypeId) (cs : Array Value) : Prop := W.heap[b]? = some (.cells cs t (0, 0))
theorem cellsAt.cell {W : World} {b : Nat} {t : TypeId} {cs : Array Value} (h : cellsAt W b t cs) (i : Nat) : W.cell? ⟨b, i, none⟩ = cs[i]? := by
  unfold cellsAt at h; simp [World.cell?, h]
theorem cellsAt.frozen {W : World} {b : Nat} {t : TypeId} {cs : Array Value} (h : cellsAt W b t cs) (i : Nat) : W.frozen? ⟨b, i, none⟩ = false := by
  unfold cellsAt at h; simp [World.frozen?, h]
theorem cellsAt.set {W : World} {b : Nat} {t : TypeId} {cs : Array Value} (h : cellsAt W b t cs) (i : Nat) (v : Value) : cellsAt (W.setCell ⟨b, i, none⟩ v) b t (cs.setIfInBounds i v) := by
  obtain ⟨hlt, hk⟩ := Array.getElem?_eq_some_iff.1 h
  show (W.heap.modify b _)[b]? = _
  rw [Array.getElem?_eq_getElem (by rw [Array.size_modify]; exact hlt), Array.getElem_modify_self, hk]
  rfl
theorem cellsAt.set_other {W : World} {b : Nat} {t : TypeId} {cs : Array Value} (h : cellsAt W b t cs) {p : Addr} (hp : p.block ≠ b) (v : Value) : cellsAt (W.setCell p v) b t cs :=
  (Below.heap_setCell W p v b (fun e => hp e.symm)).trans h
theorem cellsAt.lt {W : World} {b : Nat} {t : TypeId} {cs : Array Value} (h : cellsAt W b t cs) : b < W.heap.size := (Array.getElem?_eq_some_iff.1 h).1
theorem cellsAt.drew {W : World} {b : Nat} {t : TypeId} {cs : Array Value} (h : cellsAt W b t cs) : cellsAt W.drew b t cs := h
theorem ne_some {a b : Nat} (h : a ≠ b) : some a ≠ some b := fun e => h (Option.some.inj e)
theorem cells6 {W : World} {b : Nat} {t : TypeId} {a0 a1 a2 a3 a4 a5 : Value} (h : cellsAt W b t #[a0, a1, a2, a3, a4, a5]) : W.cell? ⟨b, 0, none⟩ = some a0 ∧ W.cell? ⟨b, 1, none⟩ = some a1 ∧ W.cell? ⟨b, 2, none⟩ = some a2 ∧ W.cell? ⟨b, 3, none⟩ = some a3 ∧ W.cell? ⟨b, 4, none⟩ = some a4 ∧ W.cell? ⟨b, 5, none⟩ = some a5 :=
  ⟨h.cell 0, h.cell 1, h.cell 2, h.cell 3, h.cell 4, h.cell 5⟩
theorem cells4 {W : World} {b : Nat} {t : TypeId} {a0 a1 a2 a3 : Value} (h : cellsAt W b t #[a0, a1, a2, a3]) : W.cell? ⟨b, 0, none⟩ = some a0 ∧ W.cell? ⟨b, 1, none⟩ = some a1 ∧ W.cell? ⟨b, 2, none⟩ = some a2 ∧ W.cell? ⟨b, 3, none⟩ = some a3 :=
  ⟨h.cell 0, h.cell 1, h.cell 2, h.cell 3⟩
theorem cells3 {W : World} {b : Nat} {t : TypeId} {a0 a1 a2 : Value} (h : cellsAt W b t #[a0, a1, a2]) : W.cell? ⟨b, 0, none⟩ = some a0 ∧ W.cell? ⟨b, 1, none⟩ = some a1 ∧ W.cell? ⟨b, 2, none⟩ = some a2 :=
  ⟨h.cell 0, h.cell 1, h.cell 2⟩
theorem cells2 {W : World} {b : Nat} {t : TypeId} {a0 a1 : Value} (h : cellsAt W b t #[a0, a1]) : W.cell? ⟨b, 0, none⟩ = some a0 ∧ W.cell? ⟨b, 1, none⟩ = some a1 :=
  ⟨h.cell 0, h.cell 1⟩
theorem cellsAt.below {W W' : World} {b : Nat} {t : TypeId} {cs : Array Value} (h : cellsAt W b t cs) (hb : Below W.heap.size W W') : cellsAt W' b t cs := (hb.block b h.lt).trans h
theorem cellsAt.grown {W W' : World} {b : Nat} {t : TypeId} {cs : Array Value} {r : Nat} (h : cellsAt W b t cs) (hg : W.grownBy W' (some r)) (hne : b ≠ r) : cellsAt W' b t cs := (hg.block b h.lt (ne_some hne)).trans h
theorem alloc4 (w : World) (a b c d : Array Value) (ta tb tc td : TypeId) :
    cellsAt ((((w.alloc (.cells a ta)).alloc (.cells b tb)).alloc (.cells c tc)).alloc (.cells d td)) w.heap.size ta a ∧ cellsAt ((((w.alloc (.cells a ta)).alloc (.cells b tb)).alloc (.cells c tc)).alloc (.cells d td)) (w.heap.size + 1) tb b ∧
    cellsAt ((((w.alloc (.cells a ta)).alloc (.cells b tb)).alloc (.cells c tc)).alloc (.cells d td)) (w.heap.size + 1 + 1) tc c ∧ cellsAt ((((w.alloc (.cells a ta)).alloc (.cells b tb)).alloc (.cells c tc)).alloc (.cells d td)) (w.heap.size + 1 + 1 + 1) td d ∧
    ((((w.alloc (.cells a ta)).alloc (.cells b tb)).alloc (.cells c tc)).alloc (.cells d td)).heap.size = w.heap.size + 4 ∧ Below w.heap.size w ((((w.alloc (.cells a ta)).alloc (.cells b tb)).alloc (.cells c tc)).alloc (.cells d td)) := by
  refine ⟨?_, ?_, ?_, ?_, by simp, (by repeat (first | exact Below.refl _ _ | assumption | refine balloc ?_ _ | refine below_trans ?_ (by assumption) | refine Below.drew ?_ | refine below_drewN ?_ _ | refine Below.setCell ?_ (by simp <;> omega) _))⟩
  · exact (Below.heap_alloc _ _ _ (by simp <;> omega)).trans ((Below.heap_alloc _ _ _ (by simp <;> omega)).trans ((Below.heap_alloc _ _ _ (by simp <;> omega)).trans (heap_alloc_new w _)))
  · have h1 := heap_alloc_new (w.alloc (.cells a ta)) (.cells b tb)
    rw [World.size_alloc] at h1
    exact (Below.heap_alloc _ _ _ (by simp <;> omega)).trans ((Below.heap_alloc _ _ _ (by simp <;> omega)).trans h1)
  · have h1 := heap_alloc_new ((w.alloc (.cells a ta)).alloc (.cells b tb)) (.cells c tc)
    rw [World.size_alloc, World.size_alloc] at h1
    exact (Below.heap_alloc _ _ _ (by simp)).trans h1
  · have h1 := heap_alloc_new (((w.alloc (.cells a ta)).alloc (.cells b tb)).alloc (.cells c tc)) (.cells d td)
    rw [World.size_alloc, World.size_alloc, World.size_alloc] at h1
    exact h1
theorem alloc2 (w : World) (a b : Array Value) (ta tb : TypeId) :
    cellsAt ((w.alloc (.cells a ta)).alloc (.cells b tb)) w.heap.size ta a ∧ cellsAt ((w.alloc (.cells a ta)).alloc (.cells b tb)) (w.heap.size + 1) tb b ∧ ((w.alloc (.cells a ta)).alloc (.cells b tb)).heap.size = w.heap.size + 2 ∧ Below w.heap.size w ((w.alloc (.cells a ta)).alloc (.cells b tb)) := by
  refine ⟨(Below.heap_alloc _ _ _ (by simp)).trans (heap_alloc_new w _), ?_, by simp, (by repeat (first | exact Below.refl _ _ | assumption | refine balloc ?_ _ | refine below_trans ?_ (by assumption) | refine Below.drew ?_ | refine below_drewN ?_ _ | refine Below.setCell ?_ (by simp <;> omega) _))⟩
  have h1 := heap_alloc_new (w.alloc (.cells a ta)) (.cells b tb)
  rw [World.size_alloc] at h1
  exact h1
theorem alloc3 (w : World) (a b c : Array Value) (ta tb tc : TypeId) :
    cellsAt (((w.alloc (.cells a ta)).alloc (.cells b tb)).alloc (.cells c tc)) w.heap.size ta a ∧ cellsAt (((w.alloc (.cells a ta)).alloc (.cells b tb)).alloc (.cells c tc)) (w.heap.size + 1) tb b ∧
    cellsAt (((w.alloc (.cells a ta)).alloc (.cells b tb)).alloc (.cells c tc)) (w.heap.size + 1 + 1) tc c ∧ (((w.alloc (.cells a ta)).alloc (.cells b tb)).alloc (.cells c tc)).heap.size = w.heap.size + 3 ∧ Below w.heap.size w (((w.alloc (.cells a ta)).alloc (.cells b tb)).alloc (.cells c tc)) := by
  refine ⟨?_, ?_, ?_, by simp, (by repeat (first | exact Below.refl _ _ | assumption | refine balloc ?_ _ | refine below_trans ?_ (by assumption) | refine Below.drew ?_ | refine below_drewN ?_ _ | refine Below.setCell ?_ (by simp <;> omega) _))⟩
  · exact (Below.heap_alloc _ _ _ (by simp <;> omega)).trans ((Below.heap_alloc _ _ _ (by simp <;> omega)).trans (heap_alloc_new w _))
  · have h1 := heap_alloc_new (w.alloc (.cells a ta)) (.cells b tb)
    rw [World.size_alloc] at h1
    exact (Below.heap_alloc _ _ _ (by simp <;> omega)).trans h1
  · have h1 := heap_alloc_new ((w.alloc (.cells a ta)).alloc (.cells b tb)) (.cells c tc)
    rw [World.size_alloc, World.size_alloc] at h1
    exact h1
theorem alloc5 (w : World) (a b c d e : Array Value) (ta tb tc td te : TypeId) :
    cellsAt (((((w.alloc (.cells a ta)).alloc (.cells b tb)).alloc (.cells c tc)).alloc (.cells d td)).alloc (.cells e te)) w.heap.size ta a ∧ cellsAt (((((w.alloc (.cells a ta)).alloc (.cells b tb)).alloc (.cells c tc)).alloc (.cells d td)).alloc (.cells e te)) (w.heap.size + 1) tb b ∧
    cellsAt (((((w.alloc (.cells a ta)).alloc (.cells b tb)).alloc (.cells c tc)).alloc (.cells d td)).alloc (.cells e te)) (w.heap.size + 1 + 1) tc c ∧ cellsAt (((((w.alloc (.cells a ta)).alloc (.cells b tb)).alloc (.cells c tc)).alloc (.cells d td)).alloc (.cells e te)) (w.heap.size + 1 + 1 + 1) td d ∧
    cellsAt (((((w.alloc (.cells a ta)).alloc (.cells b tb)).alloc (.cells c tc)).alloc (.cells d td)).alloc (.cells e te)) (w.heap.size + 1 + 1 + 1 + 1) te e ∧
    (((((w.alloc (.cells a ta)).alloc (.cells b tb)).alloc (.cells c tc)).alloc (.cells d td)).alloc (.cells e te)).heap.size = w.heap.size + 5 ∧ Below w.heap.size w (((((w.alloc (.cells a ta)).alloc (.cells b tb)).alloc (.cells c tc)).alloc (.cells d td)).alloc (.cells e te)) := by
  obtain ⟨h1, h2, h3, h4, hz, hb⟩ := alloc4 w a b c d ta tb tc td
  have h5 := heap_alloc_new ((((w.alloc (.cells a ta)).alloc (.cells b tb)).alloc (.cells c tc)).alloc (.cells d td)) (.cells e te)
  rw [hz] at h5
  exact ⟨h1.below (balloc (Below.refl _ _) _), h2.below (balloc (Below.refl _ _) _), h3.below (balloc (Below.refl _ _) _), h4.below (balloc (Below.refl _ _) _), h5, by simp, balloc hb _⟩
/-- a store of four cells into one block and of two into another -/
theorem st42_at {W : World} {b c : Nat} {ta tb : TypeId} {a0 a1 a2 a3 b0 b1 : Value} (hA : cellsAt W b ta #[a0, a1, a2, a3]) (hB : cellsAt W c tb #[b0, b1]) (hne : b ≠ c) (u0 u1 u2 u3 u4 u5 : Value) :
    cellsAt ((((((W.setCell ⟨b, 0, none⟩ u0).setCell ⟨b, 1, none⟩ u1).setCell ⟨b, 2, none⟩ u2).setCell ⟨b, 3, none⟩ u3).setCell ⟨c, 0, none⟩ u4).setCell ⟨c, 1, none⟩ u5) b ta #[u0, u1, u2, u3] ∧
    cellsAt ((((((W.setCell ⟨b, 0, none⟩ u0).setCell ⟨b, 1, none⟩ u1).setCell ⟨b, 2, none⟩ u2).setCell ⟨b, 3, none⟩ u3).setCell ⟨c, 0, none⟩ u4).setCell ⟨c, 1, none⟩ u5) c tb #[u4, u5] := by
  refine ⟨?_, ?_⟩
  · have h := (((((hA.set 0 u0).set 1 u1).set 2 u2).set 3 u3).set_other (p := ⟨c, 0, none⟩) (fun e => hne e.symm) u4).set_other (p := ⟨c, 1, none⟩) (fun e => hne e.symm) u5
    simpa using h
  · have h := (((((hB.set_other (p := ⟨b, 0, none⟩) hne u0).set_other (p := ⟨b, 1, none⟩) hne u1).set_other (p := ⟨b, 2, none⟩) hne u2).set_other (p := ⟨b, 3, none⟩) hne u3).set 0 u4).set 1 u5
    simpa using h
theorem st42_below {w W : World} {b c : Nat} (h : Below w.heap.size w W) (hb : w.heap.size ≤ b) (hc : w.heap.size ≤ c) (u0 u1 u2 u3 u4 u5 : Value) :
    Below w.heap.size w ((((((W.setCell ⟨b, 0, none⟩ u0).setCell ⟨b, 1, none⟩ u1).setCell ⟨b, 2, none⟩ u2).setCell ⟨b, 3, none⟩ u3).setCell ⟨c, 0, none⟩ u4).setCell ⟨c, 1, none⟩ u5) :=
  (((((h.setCell (p := ⟨b, 0, none⟩) hb u0).setCell (p := ⟨b, 1, none⟩) hb u1).setCell (p := ⟨b, 2, none⟩) hb u2).setCell (p := ⟨b, 3, none⟩) hb u3).setCell (p := ⟨c, 0, none⟩) hc u4).setCell (p := ⟨c, 1, none⟩) hc u5
theorem ints_of_row {w : World} {B : Nat} {v : Value} {l : List Int} (h : w.ownsRow B 3 1 v l.length (l.map (Value.int .i64))) (hn : 0 < l.length) :
    ∃ g c, v = .slice (some ⟨g, 0, none⟩) l.length c ∧ B ≤ g ∧ g < w.heap.size ∧ ∀ i, i < l.length → w.cell? ⟨g, i, none⟩ = some (intF l i) ∧ w.frozen? ⟨g, i, none⟩ = false := by
  obtain ⟨h1, ⟨_, h2⟩ | ⟨g, cap, cur, rfl, h4, h5, h6, h7, h8, h9⟩⟩ := h
  · omega
  · refine ⟨g, cap, rfl, h4, (Array.getElem?_eq_some_iff.1 h5).1, fun i hi => ⟨?_, by simp [World.frozen?, h5]⟩⟩
    have hg : (l.map (Value.int .i64))[i]? = some (intF l i) := by simp [intF, hi]
    rw [← h9, List.getElem?_take_of_lt (by omega)] at hg
    unfold World.cell?
    rw [h5]
    simpa using hg
theorem parts_of_row {w : World} {B : Nat} {v : Value} {l : List (Int × Int)} (h : w.ownsRow B 121 2 v l.length (spc l)) (hn : 0 < l.length) :
    ∃ g c, v = .slice (some ⟨g, 0, none⟩) l.length c ∧ B ≤ g ∧ g < w.heap.size ∧ ∀ i, i < l.length * 2 → w.cell? ⟨g, i, none⟩ = some (spanF l i) ∧ w.frozen? ⟨g, i, none⟩ = false := by
  obtain ⟨h1, ⟨_, h2⟩ | ⟨g, cap, cur, rfl, h4, h5, h6, h7, h8, h9⟩⟩ := h
  · omega
  · refine ⟨g, cap, rfl, h4, (Array.getElem?_eq_some_iff.1 h5).1, fun i hi => ⟨?_, by simp [World.frozen?, h5]⟩⟩
    have hg := spc_get l i hi
    rw [← h9, List.getElem?_take_of_lt (by omega)] at hg
    unfold World.cell?
    rw [h5]
    simpa using hg
theorem ints_grown {W W' : World} {b off n c r : Nat} {zs : List Int} (h : IntsAt W (.slice (some ⟨b, off, none⟩) n c) zs) (hg : W.grownBy W' (some r)) (hne : b ≠ r) : IntsAt W' (.slice (some ⟨b, off, none⟩) n c) zs := by
  obtain ⟨a, c', he, h0 | ⟨b', off', rfl, hb, hc⟩⟩ := h
  · exact ⟨_, _, he, .inl h0⟩
  · simp only [Value.slice.injEq, Option.some.injEq, Addr.mk.injEq] at he
    obtain ⟨⟨rfl, rfl, _⟩, rfl, rfl⟩ := he
    exact ⟨_, _, rfl, .inr ⟨b, off, rfl, Nat.lt_of_lt_of_le hb hg.size, fun i hi => hg.cell (hc i hi) (ne_some hne)⟩⟩
theorem spans_grown {W W' : World} {b n c r : Nat} {qs : List (Int × Int)} (h : SpansAt W (.slice (some ⟨b, 0, none⟩) n c) qs) (hg : W.grownBy W' (some r)) (hne : b ≠ r) : SpansAt W' (.slice (some ⟨b, 0, none⟩) n c) qs := by
  obtain ⟨a, c', he, h0 | ⟨b', off', rfl, hb, hc⟩⟩ := h
  · exact ⟨_, _, he, .inl h0⟩
  · simp only [Value.slice.injEq, Option.some.injEq, Addr.mk.injEq] at he
    obtain ⟨⟨rfl, rfl, _⟩, rfl, rfl⟩ := he
    exact ⟨_, _, rfl, .inr ⟨b, 0, rfl, Nat.lt_of_lt_of_le hb hg.size, fun i hi => hg.cell (hc i hi) (ne_some hne)⟩⟩
theorem set1_grown (X : World) (b o : Nat) (u : Value) : X.grownBy (X.setCell ⟨b, o, none⟩ u) (some b) := ⟨rfl, rfl, rfl, by simp [World.setCell], fun j _ hj => Below.heap_setCell _ _ _ j (fun e => hj (by rw [e]))⟩
theorem set3_grown (X : World) (b : Nat) (u0 u1 u2 : Value) : X.grownBy (((X.setCell ⟨b, 0, none⟩ u0).setCell ⟨b, 1, none⟩ u1).setCell ⟨b, 2, none⟩ u2) (some b) := ((set1_grown X b 0 u0).trans (set1_grown _ b 1 u1)).trans (set1_grown _ b 2 u2)
theorem below_drew' {W w : World} (h : Below W.drew.heap.size W.drew w) : Below W.heap.size W w := ⟨h.os, h.tape, h.output, h.size, h.block⟩
theorem row_new {W : World} {b n k c : Nat} {t : TypeId} {cs : Array Value} {f : Nat → Value} (h : cellsAt W b t cs) (hf : ∀ i, i < n * k → cs[i]? = some (f i)) : RowAt W (.slice (some ⟨b, 0, none⟩) n c) n k f :=
  ⟨_, _, rfl, .inr ⟨b, 0, rfl, h.lt, fun i hi => by rw [Nat.zero_add, h.cell i]; exact hf i hi⟩⟩
theorem cellsNew (w : World) (cs : Array Value) (t : TypeId) : cellsAt (w.alloc (.cells cs t)) w.heap.size t cs := heap_alloc_new w _
set_option maxHeartbeats 400000 in
theorem in_any (n lo hi : Int) (w : World) :
    Calls Tryz.prog 69 #[.int .i64 n, .int .i64 lo, .int .i64 hi] w fun e w' => e = .returned (.bool (!outB n lo hi)) ∧ w = w' := by
  by_cases p1 : n < lo
  · have HE : Hid ((!outB n lo hi) = false) := show _ = _ from by simp [outB, p1]
    go_enter Tryz.func69, Tryz.ntmps69
    go_wp2
    go_ret; exact ⟨ret_bool HE.out.symm, rfl⟩
  · have p1' : lo ≤ n := by omega
    have HE : Hid ((!outB n lo hi) = decide (n ≤ hi)) := show _ = _ from by by_cases p2 : hi < n <;> simp [outB, p1, p2] <;> omega
    go_enter Tryz.func69, Tryz.ntmps69
    go_wp2
    all_goals (go_ret; exact ⟨ret_bool (by rw [HE.out]), rfl⟩)
theorem cells5 {W : World} {b : Nat} {t : TypeId} {a0 a1 a2 a3 a4 : Value} (h : cellsAt W b t #[a0, a1, a2, a3, a4]) : W.cell? ⟨b, 0, none⟩ = some a0 ∧ W.cell? ⟨b, 1, none⟩ = some a1 ∧ W.cell? ⟨b, 2, none⟩ = some a2 ∧ W.cell? ⟨b, 3, none⟩ = some a3 ∧ W.cell? ⟨b, 4, none⟩ = some a4 :=
  ⟨h.cell 0, h.cell 1, h.cell 2, h.cell 3, h.cell 4⟩
end Go.Proofs.YtmglbegbijofkaaGreatDoor
