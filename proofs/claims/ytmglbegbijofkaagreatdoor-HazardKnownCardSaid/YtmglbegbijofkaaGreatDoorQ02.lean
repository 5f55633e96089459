import Derived.Test.YtmglbegbijofkaaGreatDoorQ01
import Derived.Test.YtmglbegbijofkaaGreatDoorQ00
import Derived.RegionTactic
import Derived.Laws.NewBlocks
set_option linter.unusedVariables false
set_option linter.unusedSimpArgs false
namespace Go.Proofs.YtmglbegbijofkaaGreatDoor
open Go.RowKit

set_option maxHeartbeats 400000 in
theorem about_any (n d : Int) (w : World) (h1 : -9223372036854775808 ≤ n - d) (h2 : n - d ≤ 9223372036854775807) (h3 : -9223372036854775808 ≤ n + d) (h4 : n + d ≤ 9223372036854775807) :
    Calls Tryz.prog 152 #[.int .i64 n, .int .i64 d] w fun e w' => e = .returned (.agg #[.int .i64 (n - d), .int .i64 (n + d)]) ∧ Below w.heap.size w w' := by
  go_enter Tryz.func152, Tryz.ntmps152
  go_wp2
  exact bodyPost_ret (v := .agg #[.int .i64 (n - d), .int .i64 (n + d)]) (by simp [results, Tryz.results152, go_sem]) rfl ⟨rfl, (by repeat (first | exact Below.refl _ _ | assumption | refine balloc ?_ _ | refine below_trans ?_ (by assumption) | refine Below.drew ?_ | refine below_drewN ?_ _ | refine Below.setCell ?_ (by simp <;> omega) _))⟩

/-- the cells of a row of spans -/
def spanF (ss : List (Int × Int)) (i : Nat) : Value := .int .i64 (if i % 2 = 0 then (ss[i / 2]?.getD (0, 0)).1 else (ss[i / 2]?.getD (0, 0)).2)
abbrev SpansAt (w : World) (v : Value) (ss : List (Int × Int)) : Prop := RowAt w v ss.length 2 (spanF ss)
theorem spanF_even (ss : List (Int × Int)) (k : Nat) (h : k < ss.length) : spanF ss (k * 2) = .int .i64 ss[k].1 := by
  unfold spanF
  have e1 : k * 2 % 2 = 0 := by omega
  have e2 : k * 2 / 2 = k := by omega
  simp [e1, e2, List.getElem?_eq_getElem h]
theorem spanF_odd (ss : List (Int × Int)) (k : Nat) (h : k < ss.length) : spanF ss (k * 2 + 1) = .int .i64 ss[k].2 := by
  unfold spanF
  have e1 : (k * 2 + 1) % 2 = 1 := by omega
  have e2 : (k * 2 + 1) / 2 = k := by omega
  simp [e1, e2, List.getElem?_eq_getElem h]

/-- a block of two integers that may be written -/
def SpanBox (w : World) (b : Nat) (lo hi : Int) : Prop :=
  w.cell? ⟨b, 0, none⟩ = some (.int .i64 lo) ∧ w.cell? ⟨b, 1, none⟩ = some (.int .i64 hi) ∧ w.frozen? ⟨b, 0, none⟩ = false ∧ w.frozen? ⟨b, 1, none⟩ = false
theorem SpanBox.alloc {w : World} {b : Nat} {lo hi : Int} (h : SpanBox w b lo hi) (hb : b < w.heap.size) (o : Obj) : SpanBox (w.alloc o) b lo hi := by
  obtain ⟨h1, h2, h3, h4⟩ := h
  refine ⟨?_, ?_, ?_, ?_⟩
  · rw [World.cell?_alloc_past _ _ _ hb]; exact h1
  · rw [World.cell?_alloc_past _ _ _ hb]; exact h2
  · rw [World.frozen?_alloc_past _ _ _ hb]; exact h3
  · rw [World.frozen?_alloc_past _ _ _ hb]; exact h4

theorem SpanBox.set {w : World} {b : Nat} {l h : Int} (k : SpanBox w b l h) (l' h' : Int) : SpanBox ((w.setCell ⟨b, 0, none⟩ (.int .i64 l')).setCell ⟨b, 1, none⟩ (.int .i64 h')) b l' h' := by
  obtain ⟨k1, k2, k3, k4⟩ := k
  have e1 : (w.setCell ⟨b, 0, none⟩ (.int .i64 l')).cell? ⟨b, 0, none⟩ = some (.int .i64 l') := World.cell?_setCell_same _ _ _ k1
  have e2 : (w.setCell ⟨b, 0, none⟩ (.int .i64 l')).cell? ⟨b, 1, none⟩ = some (.int .i64 h) := (World.cell?_setCell_other _ _ _ _ (by simp)).trans k2
  refine ⟨(World.cell?_setCell_other _ _ _ _ (by simp)).trans e1, World.cell?_setCell_same _ _ _ e2, ?_, ?_⟩
  · rw [World.frozen?_setCell, World.frozen?_setCell]; exact k3
  · rw [World.frozen?_setCell, World.frozen?_setCell]; exact k4
theorem SpanBox.other {w : World} {b c : Nat} {l h : Int} (k : SpanBox w b l h) (hne : b ≠ c) (v v' : Value) : SpanBox ((w.setCell ⟨c, 0, none⟩ v).setCell ⟨c, 1, none⟩ v') b l h := by
  obtain ⟨k1, k2, k3, k4⟩ := k
  refine ⟨?_, ?_, ?_, ?_⟩
  · rw [World.cell?_setCell_other _ _ _ _ (by simp <;> omega), World.cell?_setCell_other _ _ _ _ (by simp <;> omega)]; exact k1
  · rw [World.cell?_setCell_other _ _ _ _ (by simp <;> omega), World.cell?_setCell_other _ _ _ _ (by simp <;> omega)]; exact k2
  · rw [World.frozen?_setCell, World.frozen?_setCell]; exact k3
  · rw [World.frozen?_setCell, World.frozen?_setCell]; exact k4
theorem SpanBox.drew {w : World} {b : Nat} {l h : Int} (k : SpanBox w b l h) : SpanBox w.drew b l h := k
theorem ite_max (l x : Int) : (if l < x then x else l) = max l x := by split <;> omega
theorem ite_min (h y : Int) : (if y < h then y else h) = min h y := by split <;> omega

set_option maxRecDepth 100000 in
set_option maxHeartbeats 800000 in
theorem common_any (lo hi : Int) (v : Value) (ss : List (Int × Int)) (w : World) (hv : SpansAt w v ss) (hn : ss.length ≤ 4611686018427387903) :
    Calls Tryz.prog 153 #[.agg #[.int .i64 lo, .int .i64 hi], v] w fun e w' => e = .returned (.agg #[.int .i64 (comLo lo ss), .int .i64 (comHi hi ss)]) ∧ Below w.heap.size w w' := by
  obtain ⟨a, c, rfl, hr⟩ := hv
  go_enter Tryz.func153, Tryz.ntmps153
  go_wp2_with fail
  go_loopw [9] (fun i wr => ∃ (k : Nat) (l h : Int), k ≤ ss.length ∧ i = .int .i64 k ∧ Below w.heap.size w wr ∧ w.heap.size + 2 ≤ wr.heap.size ∧ SpanBox wr w.heap.size l h ∧ SpanBox wr (w.heap.size + 1) 0 0 ∧ Hid (comLo lo ss = comLo l (ss.drop k)) ∧ Hid (comHi hi ss = comHi h (ss.drop k))) (fun i _ => ss.length - (intOf i).toNat)
  case atStart => exact ⟨0, lo, hi, Nat.zero_le _, rfl, (by repeat (first | exact Below.refl _ _ | assumption | refine balloc ?_ _ | refine below_trans ?_ (by assumption) | refine Below.drew ?_ | refine below_drewN ?_ _ | refine Below.setCell ?_ (by simp <;> omega) _)), by simp, ⟨by simp, by simp, by simp, by simp⟩, ⟨by simp, by simp, by simp, by simp⟩, rfl, rfl⟩
  case round =>
    obtain ⟨k, l, h, hk, rfl, hB, hz, hs1, hs2, HL, HH⟩ := hrel
    by_cases hlt : k < ss.length
    · rcases hr with h0 | ⟨b, off, rfl, hb, hc⟩
      · omega
      · have hck := hc (k * 2) (by omega)
        have hck1 := hc (k * 2 + 1) (by omega)
        rw [spanF_even ss k hlt] at hck
        rw [spanF_odd ss k hlt] at hck1
        rw [← hB.cell (p := ⟨b, off + k * 2, none⟩) hb] at hck
        rw [← hB.cell (p := ⟨b, off + (k * 2 + 1), none⟩) hb, ← Nat.add_assoc] at hck1
        have HS1 := Lib.hid (comLo_drop l ss k hlt)
        have HS2 := Lib.hid (comHi_drop h ss k hlt)
        generalize ss[k].1 = x at *
        generalize ss[k].2 = y at *
        clear hc
        go_wp2_with fail
        have t1 := hs1.alloc (show w.heap.size < wr.heap.size by omega) (.cells #[.int .i64 x, .int .i64 y] 23)
        have t2 := hs2.alloc (show w.heap.size + 1 < wr.heap.size by omega) (.cells #[.int .i64 x, .int .i64 y] 23)
        have t3 : SpanBox (wr.alloc (.cells #[.int .i64 x, .int .i64 y] 23)) wr.heap.size x y := ⟨by simp, by simp, by simp, by simp⟩
        have hB3 : Below w.heap.size w (wr.alloc (.cells #[.int .i64 x, .int .i64 y] 23)) := (by repeat (first | exact Below.refl _ _ | assumption | refine balloc ?_ _ | refine below_trans ?_ (by assumption) | refine Below.drew ?_ | refine below_drewN ?_ _ | refine Below.setCell ?_ (by simp <;> omega) _))
        have hz3 : w.heap.size + 2 ≤ (wr.alloc (.cells #[.int .i64 x, .int .i64 y] 23)).heap.size := by simp; omega
        clear hs1 hs2 hB hck hck1
        generalize wr.alloc (.cells #[.int .i64 x, .int .i64 y] 23) = w3 at *
        generalize wr.heap.size = nb at *
        obtain ⟨a1, a2, a3, a4⟩ := t1
        obtain ⟨b1, b2, b3, b4⟩ := t3
        go_region
        go_wp2_with fail
        go_roundw
        case rel => exact ⟨k + 1, _, _, by omega, by go_num, (by repeat (first | exact Below.refl _ _ | assumption | refine balloc ?_ _ | refine below_trans ?_ (by assumption) | refine Below.drew ?_ | refine below_drewN ?_ _ | refine Below.setCell ?_ (by simp <;> omega) _)), by simpa using hz3, SpanBox.drew (SpanBox.set ⟨a1, a2, a3, a4⟩ _ _), (t2.other (by omega) _ _).drew, by unfold Hid; rw [HL.out, HS1.out, ite_max], by unfold Hid; rw [HH.out, HS2.out, ite_min]⟩
        case measure => simp [intOf]; omega
    · obtain rfl : k = ss.length := by omega
      obtain ⟨a1, a2, a3, a4⟩ := hs1
      have hs3 := hs2.set l h
      obtain ⟨b1, b2, b3, b4⟩ := hs2
      obtain ⟨c1, c2, c3, c4⟩ := hs3
      go_wp2_with fail
      exact bodyPost_ret (v := .agg #[.int .i64 l, .int .i64 h]) (by simp [results, Tryz.results153, go_sem, c1, c2]) rfl ⟨by rw [HL.out, HH.out, List.drop_length]; rfl, (by repeat (first | exact Below.refl _ _ | assumption | refine balloc ?_ _ | refine below_trans ?_ (by assumption) | refine Below.drew ?_ | refine below_drewN ?_ _ | refine Below.setCell ?_ (by simp <;> omega) _))⟩

theorem row_new1 (w : World) (a b : Int) : SpansAt (w.alloc (.cells #[.int .i64 a, .int .i64 b] 23)) (.slice (some ⟨w.heap.size, 0, none⟩) 1 1) [(a, b)] := by
  refine ⟨_, _, rfl, .inr ⟨_, _, rfl, by simp, fun i hi => ?_⟩⟩
  have : i = 0 ∨ i = 1 := by simp at hi; omega
  rcases this with rfl | rfl <;> simp [spanF]

def apartB (a b c d : Int) : Bool := decide (min b d < max a c)

set_option maxHeartbeats 400000 in
theorem apart_any (a b c d : Int) (w : World) :
    Calls Tryz.prog 157 #[.agg #[.int .i64 a, .int .i64 b], .agg #[.int .i64 c, .int .i64 d]] w fun e w' => e = .returned (.bool (apartB a b c d)) ∧ Below w.heap.size w w' := by
  go_enter Tryz.func157, Tryz.ntmps157
  go_wp2_with fail
  have hr := row_new1 ((w.alloc (.cells #[.int .i64 a, .int .i64 b] 23)).alloc (.cells #[.int .i64 c, .int .i64 d] 23)) c d
  simp only [World.size_alloc] at hr
  refine (common_any _ _ _ [(c, d)] _ hr (by simp)).mono ?_
  rintro e w1 ⟨rfl, hb1⟩
  clear hr
  go_wp2_with fail
  all_goals (go_ret; exact ⟨ret_bool (by rw [Bool.eq_iff_iff]; simp only [apartB, comLo, comHi, List.foldl]; exact ⟨fun h => decide_eq_true (of_decide_eq_true h), fun h => decide_eq_true (of_decide_eq_true h)⟩), (by repeat (first | exact Below.refl _ _ | assumption | refine balloc ?_ _ | refine below_trans ?_ (by assumption) | refine Below.drew ?_ | refine below_drewN ?_ _ | refine Below.setCell ?_ (by simp <;> omega) _))⟩)

end Go.Proofs.YtmglbegbijofkaaGreatDoor
