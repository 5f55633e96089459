import Derived.Test.YtmglbegbijofkaaGreatDoorW31
import Derived.Test.YtmglbegbijofkaaGreatDoorW11
set_option linter.unusedVariables false
set_option linter.unusedSimpArgs false
namespace Go.Proofs.YtmglbegbijofkaaGreatDoor
open Go.RowKit

set_option maxRecDepth 100000 in
set_option maxHeartbeats 800000 in
theorem rimpact_any (p xl xh yl yh tl th : Int) (w : World) :
    Calls Tryz.prog 68 #[.agg #[.int .i64 p, .int .i64 xl, .int .i64 xh, .int .i64 yl, .int .i64 yh, .int .i64 tl, .int .i64 th]] w fun e w' => e = .returned (.bool (!strangeB p xl xh yl yh tl th)) ∧ Below w.heap.size w w' := by
  by_cases hp : 0 ≤ p
  · cases o1 : wildB xl xh yl yh with
    | true =>
      have HE : Hid ((!strangeB p xl xh yl yh tl th) = false) := show _ = _ from by simp [strangeB, o1]
      cases o2 : outB tl 0 100000 <;> cases o3 : outB th tl 100000
      all_goals
        have HA := Lib.hid (fun W => rarea_any xl xh yl yh W)
        have HL := Lib.hid (fun W => in_any tl 0 100000 W)
        have HH := Lib.hid (fun W => in_any th tl 100000 W)
        simp only [o1, Bool.not_true] at HA
        simp only [o2, Bool.not_true, Bool.not_false] at HL
        simp only [o3, Bool.not_true, Bool.not_false] at HH
        have hA := cellsNew w #[.int .i64 p, .int .i64 xl, .int .i64 xh, .int .i64 yl, .int .i64 yh, .int .i64 tl, .int .i64 th] 27
        have hB : Below w.heap.size w (w.alloc (.cells #[.int .i64 p, .int .i64 xl, .int .i64 xh, .int .i64 yl, .int .i64 yh, .int .i64 tl, .int .i64 th] 27)) := balloc (Below.refl _ _) _
        go_enter Tryz.func68, Tryz.ntmps68
        go_wp2_with fail
        generalize w.alloc (.cells #[.int .i64 p, .int .i64 xl, .int .i64 xh, .int .i64 yl, .int .i64 yh, .int .i64 tl, .int .i64 th] 27) = W0 at *
        refine (HA.out _).mono ?_
        rintro e w1 ⟨rfl, hb1⟩
        have hA := hA.below hb1
        have hB := below_trans hB hb1
        have c5 := hA.cell 5
        have c6 := hA.cell 6
        simp at c5 c6
        go_wp2_with (first | (go_at_call 69; (with_reducible refine (HL.out _).mono ?_); rintro e w' ⟨rfl, rfl⟩) | (go_at_call 69; (with_reducible refine (HH.out _).mono ?_); rintro e w' ⟨rfl, rfl⟩))
        go_ret
        exact ⟨ret_bool (by first | (rw [HE.out]; done) | (rw [HE.out]; simp; omega)), hB⟩
    | false =>
      cases o2 : outB tl 0 100000 with
      | true =>
        have HE : Hid ((!strangeB p xl xh yl yh tl th) = false) := show _ = _ from by
          have h2 := outB_true.1 o2
          cases hs : strangeB p xl xh yl yh tl th with
          | true => rfl
          | false => have := strangeB_false.1 hs; omega
        cases o3 : outB th tl 100000
        all_goals
          have HA := Lib.hid (fun W => rarea_any xl xh yl yh W)
          have HL := Lib.hid (fun W => in_any tl 0 100000 W)
          have HH := Lib.hid (fun W => in_any th tl 100000 W)
          simp only [o1, Bool.not_false] at HA
          simp only [o2, Bool.not_true] at HL
          simp only [o3, Bool.not_true, Bool.not_false] at HH
          have hA := cellsNew w #[.int .i64 p, .int .i64 xl, .int .i64 xh, .int .i64 yl, .int .i64 yh, .int .i64 tl, .int .i64 th] 27
          have hB : Below w.heap.size w (w.alloc (.cells #[.int .i64 p, .int .i64 xl, .int .i64 xh, .int .i64 yl, .int .i64 yh, .int .i64 tl, .int .i64 th] 27)) := balloc (Below.refl _ _) _
          go_enter Tryz.func68, Tryz.ntmps68
          go_wp2_with fail
          generalize w.alloc (.cells #[.int .i64 p, .int .i64 xl, .int .i64 xh, .int .i64 yl, .int .i64 yh, .int .i64 tl, .int .i64 th] 27) = W0 at *
          refine (HA.out _).mono ?_
          rintro e w1 ⟨rfl, hb1⟩
          have hA := hA.below hb1
          have hB := below_trans hB hb1
          have c5 := hA.cell 5
          have c6 := hA.cell 6
          simp at c5 c6
          go_wp2_with (first | (go_at_call 69; (with_reducible refine (HL.out _).mono ?_); rintro e w' ⟨rfl, rfl⟩) | (go_at_call 69; (with_reducible refine (HH.out _).mono ?_); rintro e w' ⟨rfl, rfl⟩))
          go_ret
          exact ⟨ret_bool (by first | (rw [HE.out]; done) | (rw [HE.out]; simp; omega)), hB⟩
      | false =>
        have h2 := outB_false.1 o2
        cases o3 : outB th tl 100000 with
        | true =>
          have HE : Hid ((!strangeB p xl xh yl yh tl th) = false) := show _ = _ from by
            have h3 := outB_true.1 o3
            cases hs : strangeB p xl xh yl yh tl th with
            | true => rfl
            | false => have := strangeB_false.1 hs; omega
          have HA := Lib.hid (fun W => rarea_any xl xh yl yh W)
          have HL := Lib.hid (fun W => in_any tl 0 100000 W)
          have HH := Lib.hid (fun W => in_any th tl 100000 W)
          simp only [o1, Bool.not_false] at HA
          simp only [o2, Bool.not_false] at HL
          simp only [o3, Bool.not_true] at HH
          have hA := cellsNew w #[.int .i64 p, .int .i64 xl, .int .i64 xh, .int .i64 yl, .int .i64 yh, .int .i64 tl, .int .i64 th] 27
          have hB : Below w.heap.size w (w.alloc (.cells #[.int .i64 p, .int .i64 xl, .int .i64 xh, .int .i64 yl, .int .i64 yh, .int .i64 tl, .int .i64 th] 27)) := balloc (Below.refl _ _) _
          go_enter Tryz.func68, Tryz.ntmps68
          go_wp2_with fail
          generalize w.alloc (.cells #[.int .i64 p, .int .i64 xl, .int .i64 xh, .int .i64 yl, .int .i64 yh, .int .i64 tl, .int .i64 th] 27) = W0 at *
          refine (HA.out _).mono ?_
          rintro e w1 ⟨rfl, hb1⟩
          have hA := hA.below hb1
          have hB := below_trans hB hb1
          have c5 := hA.cell 5
          have c6 := hA.cell 6
          simp at c5 c6
          go_wp2_with (first | (go_at_call 69; (with_reducible refine (HL.out _).mono ?_); rintro e w' ⟨rfl, rfl⟩) | (go_at_call 69; (with_reducible refine (HH.out _).mono ?_); rintro e w' ⟨rfl, rfl⟩))
          go_ret
          exact ⟨ret_bool (by first | (rw [HE.out]; done) | (rw [HE.out]; simp; omega)), hB⟩
        | false =>
          have h3 := outB_false.1 o3
          have HE : Hid ((!strangeB p xl xh yl yh tl th) = decide (th - tl + 1 ≤ 3001)) := show _ = _ from by
            have e1 : outB th 0 100000 = false := outB_false.2 (by omega)
            have e2 : outB tl 0 th = false := outB_false.2 (by omega)
            have e3 : decide (p < 0) = false := decide_eq_false (by omega)
            unfold strangeB
            rw [e3, o1, e1, e2]
            by_cases hq : 3001 ≤ th - tl
            · rw [decide_eq_true hq, decide_eq_false (by omega)]; rfl
            · rw [decide_eq_false hq, decide_eq_true (by omega)]; rfl
          obtain ⟨h4, h5⟩ := h2
          obtain ⟨h6, h7⟩ := h3
          have HA := Lib.hid (fun W => rarea_any xl xh yl yh W)
          have HL := Lib.hid (fun W => in_any tl 0 100000 W)
          have HH := Lib.hid (fun W => in_any th tl 100000 W)
          simp only [o1, Bool.not_false] at HA
          simp only [o2, Bool.not_false] at HL
          simp only [o3, Bool.not_false] at HH
          have hA := cellsNew w #[.int .i64 p, .int .i64 xl, .int .i64 xh, .int .i64 yl, .int .i64 yh, .int .i64 tl, .int .i64 th] 27
          have hB : Below w.heap.size w (w.alloc (.cells #[.int .i64 p, .int .i64 xl, .int .i64 xh, .int .i64 yl, .int .i64 yh, .int .i64 tl, .int .i64 th] 27)) := balloc (Below.refl _ _) _
          go_enter Tryz.func68, Tryz.ntmps68
          go_wp2_with fail
          generalize w.alloc (.cells #[.int .i64 p, .int .i64 xl, .int .i64 xh, .int .i64 yl, .int .i64 yh, .int .i64 tl, .int .i64 th] 27) = W0 at *
          refine (HA.out _).mono ?_
          rintro e w1 ⟨rfl, hb1⟩
          have hA := hA.below hb1
          have hB := below_trans hB hb1
          have c5 := hA.cell 5
          have c6 := hA.cell 6
          simp at c5 c6
          go_wp2_with (first | (go_at_call 69; (with_reducible refine (HL.out _).mono ?_); rintro e w' ⟨rfl, rfl⟩) | (go_at_call 69; (with_reducible refine (HH.out _).mono ?_); rintro e w' ⟨rfl, rfl⟩))
          go_ret
          exact ⟨ret_bool (by first | (rw [HE.out]; done) | (rw [HE.out]; simp; omega)), hB⟩
  · have HE : Hid ((!strangeB p xl xh yl yh tl th) = false) := show _ = _ from by simp [strangeB]; omega
    have hd : decide (0 ≤ p) = false := decide_eq_false hp
    go_enter Tryz.func68, Tryz.ntmps68
    go_wp2_with fail
    go_ret
    exact ⟨ret_bool HE.out.symm, (by repeat (first | exact Below.refl _ _ | assumption | refine balloc ?_ _ | refine below_trans ?_ (by assumption) | refine Below.drew ?_ | refine below_drewN ?_ _ | refine Below.setCell ?_ (by simp <;> omega) _))⟩
def touchB (a b c d : Int) : Bool := decide (a ≤ d) && decide (c ≤ b)
set_option maxHeartbeats 400000 in
theorem rtouch_any (a b c d : Int) (w : World) : Calls Tryz.prog 110 #[.agg #[.int .i64 a, .int .i64 b], .agg #[.int .i64 c, .int .i64 d]] w fun e w' => e = .returned (.bool (touchB a b c d)) ∧ Below w.heap.size w w' := by
  go_enter Tryz.func110, Tryz.ntmps110
  go_wp2_with fail
  all_goals (go_ret; exact ⟨ret_bool (by simp [touchB, *] <;> omega), (by repeat (first | exact Below.refl _ _ | assumption | refine balloc ?_ _ | refine below_trans ?_ (by assumption) | refine Below.drew ?_ | refine below_drewN ?_ _ | refine Below.setCell ?_ (by simp <;> omega) _))⟩)
/-- the cells of a row of meets -/
def mtF (l : List (Int × Int × Int)) (i : Nat) : Value := .int .i64 (if i % 3 = 0 then (l[i / 3]?.getD (0, 0, 0)).1 else if i % 3 = 1 then (l[i / 3]?.getD (0, 0, 0)).2.1 else (l[i / 3]?.getD (0, 0, 0)).2.2)
abbrev MtAt (w : World) (v : Value) (l : List (Int × Int × Int)) : Prop := RowAt w v l.length 3 (mtF l)
theorem mtc_get : ∀ (l : List (Int × Int × Int)) (i : Nat), i < l.length * 3 → (mtc l)[i]? = some (mtF l i)
  | [], i, h => by simp at h
  | s :: l, 0, _ => by simp [mtc, mtF]
  | s :: l, 1, _ => by simp [mtc, mtF]
  | s :: l, 2, _ => by simp [mtc, mtF]
  | s :: l, i + 3, h => by
    have ih := mtc_get l i (by simp at h; omega)
    have e : mtc (s :: l) = .int .i64 s.1 :: .int .i64 s.2.1 :: .int .i64 s.2.2 :: mtc l := by simp [mtc]
    have e1 : (i + 3) % 3 = i % 3 := by omega
    have e2 : (i + 3) / 3 = i / 3 + 1 := by omega
    rw [e]
    simp only [List.getElem?_cons_succ, ih, mtF, e1, e2]
theorem mt_at_row {w : World} {B : Nat} {v : Value} {l : List (Int × Int × Int)} (h : w.ownsRow B 85 3 v l.length (mtc l)) : MtAt w v l := by
  obtain ⟨h1, ⟨rfl, h2⟩ | ⟨g, cap, cur, rfl, h4, h5, h6, h7, h8, h9⟩⟩ := h
  · exact ⟨_, _, by rw [h2], .inl h2⟩
  · refine ⟨_, _, rfl, .inr ⟨g, 0, rfl, (Array.getElem?_eq_some_iff.1 h5).1, fun i hi => ?_⟩⟩
    have hg := mtc_get l i hi
    rw [← h9, List.getElem?_take_of_lt (by omega)] at hg
    unfold World.cell?
    rw [h5]
    simpa using hg
theorem mt_cells {w : World} {b off : Nat} {l : List (Int × Int × Int)} {k : Nat} (hc : ∀ i, i < l.length * 3 → w.cell? ⟨b, off + i, none⟩ = some (mtF l i)) (hk : k < l.length) :
    w.cell? ⟨b, off + k * 3, none⟩ = some (.int .i64 (l[k]?.getD (0, 0, 0)).1) ∧ w.cell? ⟨b, off + k * 3 + 1, none⟩ = some (.int .i64 (l[k]?.getD (0, 0, 0)).2.1) ∧ w.cell? ⟨b, off + k * 3 + 2, none⟩ = some (.int .i64 (l[k]?.getD (0, 0, 0)).2.2) := by
  have h := fun j (hj : j < 3) => hc (k * 3 + j) (by omega)
  have m : ∀ j, j < 3 → (k * 3 + j) % 3 = j ∧ (k * 3 + j) / 3 = k := fun j hj => by omega
  refine ⟨?_, ?_, ?_⟩
  · have := h 0 (by omega); rw [Nat.add_zero] at this; rw [this]; simp [mtF, show k * 3 % 3 = 0 by omega, show k * 3 / 3 = k by omega]
  · rw [Nat.add_assoc, h 1 (by omega)]; simp [mtF, m 1 (by omega)]
  · rw [Nat.add_assoc, h 2 (by omega)]; simp [mtF, m 2 (by omega)]
set_option maxRecDepth 100000 in
set_option maxHeartbeats 800000 in
theorem sameMeets_same (va vb : Value) (l : List (Int × Int × Int)) (w : World) (ha : MtAt w va l) (hb : MtAt w vb l) (hn : l.length ≤ 1000000) : Calls Tryz.prog 46 #[va, vb] w fun e w' => e = .returned (.bool true) ∧ Below w.heap.size w w' := by
  obtain ⟨a1, c1, rfl, hr1⟩ := ha
  obtain ⟨a2, c2, rfl, hr2⟩ := hb
  go_enter Tryz.func46, Tryz.ntmps46
  go_wp2_with fail
  go_loopw [5] (fun i wr => ∃ k : Nat, k ≤ l.length ∧ i = .int .i64 k ∧ Below w.heap.size w wr) (fun i _ => l.length - (intOf i).toNat)
  case atStart => exact ⟨0, Nat.zero_le _, rfl, Below.refl _ _⟩
  case round =>
    obtain ⟨k, hk, rfl, hB⟩ := hrel
    by_cases hlt : k < l.length
    · rcases hr1 with h0 | ⟨b, off, rfl, hb, hc⟩
      · omega
      · rcases hr2 with h0 | ⟨b', off', rfl, hb', hc'⟩
        · omega
        · obtain ⟨e0, e1, e2⟩ := mt_cells hc hlt
          obtain ⟨d0, d1, d2⟩ := mt_cells hc' hlt
          have e0 := (hB.cell (p := ⟨b, off + k * 3, none⟩) hb).trans e0
          have e1 := (hB.cell (p := ⟨b, off + k * 3 + 1, none⟩) hb).trans e1
          have e2 := (hB.cell (p := ⟨b, off + k * 3 + 2, none⟩) hb).trans e2
          have d0 := (hB.cell (p := ⟨b', off' + k * 3, none⟩) hb').trans d0
          have d1 := (hB.cell (p := ⟨b', off' + k * 3 + 1, none⟩) hb').trans d1
          have d2 := (hB.cell (p := ⟨b', off' + k * 3 + 2, none⟩) hb').trans d2
          generalize (l[k]?.getD (0, 0, 0)) = z at *
          have i1 : (0 : Int) ≤ (k : Int) := by omega
          have i2 : (k : Int) < (l.length : Int) := by omega
          clear hc hc'
          go_wp2_with fail
          go_quiet (fail)
          go_wp2_with fail
          go_roundw
          case rel => exact ⟨k + 1, by omega, by go_num, below_drewN' hB _⟩
          case measure => simp [intOf]; omega
    · obtain rfl : k = l.length := by omega
      go_wp2_with fail
      go_ret
      exact ⟨rfl, hB⟩
end Go.Proofs.YtmglbegbijofkaaGreatDoor
