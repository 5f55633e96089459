import Derived.Test.YtmglbegbijofkaaGreatDoorW1
import Derived.Test.YtmglbegbijofkaaGreatDoorPA
set_option linter.unusedVariables false
set_option linter.unusedSimpArgs false
namespace Go.Proofs.YtmglbegbijofkaaGreatDoor
open Go.RowKit

theorem ownsRow_base {w : World} {b b' : Nat} {e : TypeId} {size : Nat} {v : Value} {n : Nat} {xs : List Value} (h : w.ownsRow b e size v n xs) (hb : b' ≤ b) : w.ownsRow b' e size v n xs := by
  obtain ⟨h1, h2 | ⟨g, cap, cur, h3, h4, h5⟩⟩ := h
  · exact ⟨h1, .inl h2⟩
  · exact ⟨h1, .inr ⟨g, cap, cur, h3, by omega, h5⟩⟩
theorem Tryz.info3 : (Tryz.prog.info? 3).map (fun i => (i.zero, i.size, i.bytes)) = some (some (.int .i64 0), 1, 8) := by kernel_rfl

/-- what 'cells' leaves -/
def CellsPost (w : World) (l : List Int) (mo : Bool) (e : Ending) (w' : World) : Prop :=
  ∃ v, e = .returned (.tuple #[v, .bool mo]) ∧ w'.ownsRow w.heap.size 3 1 v l.length (l.map (Value.int .i64)) ∧ Below w.heap.size w w'

set_option maxRecDepth 100000 in
set_option maxHeartbeats 800000 in
theorem cells_any (cx cy size cols rows : Int) (pv : Value) (xl xh yl yh : Int) (w : World)
    (h1 : -2000000000 ≤ cx) (h2 : cx ≤ 2000000000) (h3 : -2000000000 ≤ cy) (h4 : cy ≤ 2000000000) (h5 : 1 ≤ size) (h6 : size ≤ 100000) (h7 : 1 ≤ cols) (h8 : cols ≤ 20) (h9 : 1 ≤ rows) (h10 : rows ≤ 20)
    (h11 : -2000000000 ≤ xl) (h12 : xh ≤ 2000000000) (h13 : -2000000000 ≤ yl) (h14 : yh ≤ 2000000000) (h15 : xl ≤ xh) (h16 : yl ≤ yh) :
    Calls Tryz.prog 81 #[.agg #[.int .i64 cx, .int .i64 cy, .int .i64 size, .int .i64 cols, .int .i64 rows, pv], .agg #[.int .i64 xl, .int .i64 xh, .int .i64 yl, .int .i64 yh]] w
      (CellsPost w (rowsL (stepsLo xl cx (1000 * size)) (stepsLo yl cy (1000 * size)) cols (stepsHi xh cx (1000 * size) cols - stepsLo xl cx (1000 * size) + 1).toNat (stepsHi yh cy (1000 * size) rows - stepsLo yl cy (1000 * size) + 1).toNat)
        (stepsMo xl xh cx (1000 * size) cols || stepsMo yl yh cy (1000 * size) rows)) := by
  go_enter Tryz.func81, Tryz.ntmps81
  go_wp2_with fail
  refine ((steps_any _ _ _ _ _ _ (by omega) (by omega) (by omega) (by omega) (by omega) (by omega) (by omega) (by omega) (by omega) (by omega)).mono ?_)
  rintro e w1 ⟨rfl, hb1⟩
  obtain ⟨hc1, hf1⟩ := bcell hb1
  go_wp2_with fail
  refine ((steps_any _ _ _ _ _ _ (by omega) (by omega) (by omega) (by omega) (by omega) (by omega) (by omega) (by omega) (by omega) (by omega)).mono ?_)
  rintro e w2 ⟨rfl, hb2⟩
  obtain ⟨hc2, hf2⟩ := bcell hb2
  go_wp2_with fail
  obtain ⟨c1, c2⟩ := stepsLo_bd xl cx (1000 * size) (by omega) (by omega) (by omega) (by omega) (by omega)
  obtain ⟨r1, r2⟩ := stepsLo_bd yl cy (1000 * size) (by omega) (by omega) (by omega) (by omega) (by omega)
  obtain ⟨d1, d2⟩ := stepsHi_bd xh cx (1000 * size) cols (by omega) (by omega) (by omega) (by omega) (by omega) (by omega)
  obtain ⟨s1, s2⟩ := stepsHi_bd yh cy (1000 * size) rows (by omega) (by omega) (by omega) (by omega) (by omega) (by omega)
  generalize stepsLo xl cx (1000 * size) = c at *
  generalize stepsLo yl cy (1000 * size) = r at *
  generalize stepsHi xh cx (1000 * size) cols = d at *
  generalize stepsHi yh cy (1000 * size) rows = s at *
  generalize (stepsMo xl xh cx (1000 * size) cols) = mo1 at *
  generalize (stepsMo yl yh cy (1000 * size) rows) = mo2 at *
  have hB : Below w.heap.size w w2 := (by repeat (first | exact Below.refl _ _ | assumption | refine balloc ?_ _ | refine below_trans ?_ (by assumption) | refine Below.drew ?_ | refine below_drewN ?_ _ | refine Below.setCell ?_ (by simp <;> omega) _))
  have hM : w2.cell? ⟨w.heap.size, 3, none⟩ = some (.int .i64 cols) := by
    have := hB.size
    have := hb1.size
    simp at this
    rw [hc2 _ _ (by omega), hc1 _ _ (by simp; omega)]
    simp [go_sem]
  have hsz : w.heap.size + 2 ≤ w2.heap.size := by
    have k1 := hb1.size
    have k2 := hb2.size
    simp at k1
    omega
  obtain ⟨i0, hi, hz0, hz1, hz2⟩ := info_parts Tryz.info3
  clear hb2 hc2 hf2 hb1 hc1 hf1
  go_loopw [4, 12] (fun v y wr => ∃ k : Nat, k ≤ (s - r + 1).toNat ∧ y = .int .i64 (r + k) ∧ wr.ownsRow w2.heap.size 3 1 v (rowsL c r cols (d - c + 1).toNat k).length ((rowsL c r cols (d - c + 1).toNat k).map (Value.int .i64)) ∧ Below w2.heap.size w2 wr) (fun _ y _ => (s + 1 - intOf y).toNat)
  case atStart => exact ⟨0, Nat.zero_le _, by simp, by simpa [rowsL] using World.ownsRow_nil _ _ _ _, Below.refl _ _⟩
  case round =>
    obtain ⟨k, hk, rfl, hown, hBw⟩ := hrel
    obtain ⟨wo, rfl⟩ : ∃ wo : World, wo = wr := ⟨_, rfl⟩
    by_cases hlt : r + k ≤ s
    · have hp1 : 0 ≤ (r + k) * cols := Int.mul_nonneg (by omega) (by omega)
      have hp2 : (r + k) * cols ≤ 400 := Int.le_trans (Int.mul_le_mul (a := r + k) (b := cols) (c := 20) (d := 20) (by omega) (by omega) (by omega) (by omega)) (by omega)
      go_wp2_with fail
      go_loopw [4, 13] (fun v x wr => ∃ i : Nat, i ≤ (d - c + 1).toNat ∧ x = .int .i64 (c + i) ∧ wr.ownsRow w2.heap.size 3 1 v (rowsL c r cols (d - c + 1).toNat k ++ rowL c (r + k) cols i).length ((rowsL c r cols (d - c + 1).toNat k ++ rowL c (r + k) cols i).map (Value.int .i64)) ∧ Below w2.heap.size w2 wr) (fun _ x _ => (d + 1 - intOf x).toNat)
      case atStart => exact ⟨0, Nat.zero_le _, by simp, by simpa [rowL] using hown, hBw⟩
      case round =>
        obtain ⟨i, hii, rfl, hown2, hBw2⟩ := hrel
        have hcm := (hBw2.cell (p := ⟨w.heap.size, 3, none⟩) (show w.heap.size < w2.heap.size by omega)).trans hM
        have hlen : (rowsL c r cols (d - c + 1).toNat k ++ rowL c (r + k) cols i).length + 1 ≤ 1000 := by
          rw [List.length_append, rowsL_length, rowL_length]
          have := Nat.mul_le_mul (show k ≤ 20 by omega) (show (d - c + 1).toNat ≤ 20 by omega)
          omega
        by_cases hlt2 : c + i ≤ d
        · obtain ⟨L, hL⟩ : ∃ L, L = rowsL c r cols (d - c + 1).toNat k ++ rowL c (r + k) cols i := ⟨_, rfl⟩
          rw [← hL] at hown2 hlen
          have HL := Lib.hid hL
          clear hL hown
          go_wp2_with (at_builtin; refine wpList_append_own _ rfl _ _ 40 rfl w2.heap.size 3 i0 (.int .i64 0) 1 8 Tryz.underlying40 hi hz0 hz1 hz2 rfl (by decide) _ _ _ rfl (hown2.alloc _) ⟨wr.heap.size, 0, none⟩ 1 1 [.int .i64 ((r + k) * cols + (c + i))] rfl rfl ?c1 ?c2 ?c3 ?c4 ?c5 ?_)
          case c1 => exact cell_one_new _ _ _
          case c2 => simp [Value.oneCell']
          case c3 => unfold maxLen; omega
          case c4 => omega
          case c5 => have := hBw2.size; simp; omega
          intro v' w3 hown' hgrow _
          have hB3 : Below w2.heap.size w2 w3 := (hBw2.alloc hBw2.size _).grown hgrow (by have := hBw2.size; simp; omega) (fun g hg => (World.ownsRow.lt hown2 g hg).1)
          clear hgrow hown2 hBw2 hcm
          go_wp2_with fail
          go_roundw
          case rel => exact ⟨i + 1, by omega, by go_num, by rw [rowL_succ, ← List.append_assoc, ← HL.out]; simpa using hown', hB3⟩
          case measure => simp [intOf]; omega
        · obtain rfl : i = (d - c + 1).toNat := by omega
          clear hlen
          rw [← rowsL_succ] at hown2
          have hk1 : k + 1 ≤ (s - r + 1).toNat := by omega
          go_wp2_with fail
          go_roundw
          case rel => exact ⟨k + 1, by omega, by go_num, hown2, hBw2⟩
          case measure => simp [intOf]; omega
    · obtain rfl : k = (s - r + 1).toNat := by omega
      go_wp2_with fail
      all_goals (go_ret2; exact ⟨_, rfl, ownsRow_base hown (by omega), below_trans hB hBw⟩)

end Go.Proofs.YtmglbegbijofkaaGreatDoor
