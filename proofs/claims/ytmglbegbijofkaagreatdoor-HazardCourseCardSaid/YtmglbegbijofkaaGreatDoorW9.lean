import Derived.Test.YtmglbegbijofkaaGreatDoorW6
import Derived.Test.YtmglbegbijofkaaGreatDoorPA
set_option linter.unusedVariables false
set_option linter.unusedSimpArgs false
namespace Go.Proofs.YtmglbegbijofkaaGreatDoor
open Go.RowKit

/-- the cells of a row of impacts -/
def impF (l : List Impact) (i : Nat) : Value :=
  .int .i64 (if i % 7 = 0 then (imAt l (i / 7)).p else if i % 7 = 1 then (imAt l (i / 7)).xl else if i % 7 = 2 then (imAt l (i / 7)).xh else if i % 7 = 3 then (imAt l (i / 7)).yl else if i % 7 = 4 then (imAt l (i / 7)).yh else if i % 7 = 5 then (imAt l (i / 7)).tl else (imAt l (i / 7)).th)
abbrev ImpactsAt (w : World) (v : Value) (l : List Impact) : Prop := RowAt w v l.length 7 (impF l)
theorem impF_at (l : List Impact) (k j : Nat) (hj : j < 7) : impF l (k * 7 + j) = .int .i64 (if j = 0 then (imAt l k).p else if j = 1 then (imAt l k).xl else if j = 2 then (imAt l k).xh else if j = 3 then (imAt l k).yl else if j = 4 then (imAt l k).yh else if j = 5 then (imAt l k).tl else (imAt l k).th) := by
  unfold impF
  rw [show (k * 7 + j) % 7 = j by omega, show (k * 7 + j) / 7 = k by omega]
/-- the cells of the impact k, as the walk spells them -/
theorem impact_cells {w : World} {b off : Nat} {l : List Impact} {k : Nat} (hc : ∀ i, i < l.length * 7 → w.cell? ⟨b, off + i, none⟩ = some (impF l i)) (hk : k < l.length) :
    w.cell? ⟨b, off + k * 7, none⟩ = some (.int .i64 (imAt l k).p) ∧ w.cell? ⟨b, off + k * 7 + 1, none⟩ = some (.int .i64 (imAt l k).xl) ∧ w.cell? ⟨b, off + k * 7 + 2, none⟩ = some (.int .i64 (imAt l k).xh) ∧ w.cell? ⟨b, off + k * 7 + 3, none⟩ = some (.int .i64 (imAt l k).yl) ∧ w.cell? ⟨b, off + k * 7 + 4, none⟩ = some (.int .i64 (imAt l k).yh) ∧ w.cell? ⟨b, off + k * 7 + 5, none⟩ = some (.int .i64 (imAt l k).tl) ∧ w.cell? ⟨b, off + k * 7 + 6, none⟩ = some (.int .i64 (imAt l k).th) := by
  have h := fun j (hj : j < 7) => (hc (k * 7 + j) (by omega)).trans (congrArg some (impF_at l k j hj))
  refine ⟨?_, ?_, ?_, ?_, ?_, ?_, ?_⟩
  · exact h 0 (by omega)
  · rw [Nat.add_assoc]; exact h 1 (by omega)
  · rw [Nat.add_assoc]; exact h 2 (by omega)
  · rw [Nat.add_assoc]; exact h 3 (by omega)
  · rw [Nat.add_assoc]; exact h 4 (by omega)
  · rw [Nat.add_assoc]; exact h 5 (by omega)
  · rw [Nat.add_assoc]; exact h 6 (by omega)

set_option maxRecDepth 100000 in
set_option maxHeartbeats 800000 in
theorem indexStrange_any (v : Value) (l : List Impact) (w : World) (hv : ImpactsAt w v l) (hn : l.length ≤ 1000000) :
    Calls Tryz.prog 156 #[v, .func (.func 63) #[] #[]] w fun e w' => e = .returned (.int .i64 (strIdx l l.length 0)) ∧ Below w.heap.size w w' := by
  obtain ⟨a, c, rfl, hx⟩ := id hv
  clear hx
  have HV := Lib.hid hv
  clear hv
  go_enter Tryz.func156, Tryz.ntmps156
  go_wp2_with fail
  go_loopw [8] (fun i wr => ∃ k : Nat, k ≤ l.length ∧ i = .int .i64 k ∧ Below w.heap.size w wr ∧ Hid (strIdx l l.length 0 = strIdx l (l.length - k) k)) (fun i _ => l.length - (intOf i).toNat)
  case atStart => exact ⟨0, Nat.zero_le _, rfl, Below.refl _ _, rfl⟩
  case round =>
    obtain ⟨k, hk, rfl, hB, HI⟩ := hrel
    by_cases hlt : k < l.length
    · obtain ⟨a', c', hac, h0 | ⟨b, off, rfl, hb, hc⟩⟩ := HV.out.below hB
      · omega
      · simp only [Value.slice.injEq] at hac
        obtain ⟨rfl, _, rfl⟩ := hac
        obtain ⟨s0, s1, s2, s3, s4, s5, s6⟩ := impact_cells hc hlt
        have HS : Hid (strIdx l (l.length - k) k = if strangeI (imAt l k) then (k : Int) else strIdx l (l.length - (k + 1)) (k + 1)) := show _ = _ from by rw [show l.length - k = (l.length - (k + 1)) + 1 by omega]; rfl
        have HX : Hid (strangeI (imAt l k) = strangeB (imAt l k).p (imAt l k).xl (imAt l k).xh (imAt l k).yl (imAt l k).yh (imAt l k).tl (imAt l k).th) := show _ = _ from rfl
        generalize imAt l k = x at *
        clear hc
        go_wp2_with fail
        refine (strange_any _ _ _ _ _ _ _ _).mono ?_
        rintro e w2 ⟨rfl, hb2⟩
        go_wp2_with fail
        · go_ret
          exact ⟨ret_int (by rw [HI.out, HS.out, HX.out, if_pos ‹_›]), (by repeat (first | exact Below.refl _ _ | assumption | refine balloc ?_ _ | refine below_trans ?_ (by assumption) | refine Below.drew ?_ | refine below_drewN ?_ _ | refine Below.setCell ?_ (by simp <;> omega) _))⟩
        · go_roundw
          case rel => exact ⟨k + 1, by omega, by go_num, (by repeat (first | exact Below.refl _ _ | assumption | refine balloc ?_ _ | refine below_trans ?_ (by assumption) | refine Below.drew ?_ | refine below_drewN ?_ _ | refine Below.setCell ?_ (by simp <;> omega) _)), by unfold Hid; rw [HI.out, HS.out, HX.out, if_neg (by simp [*])]⟩
          case measure => simp [intOf]; omega
    · obtain rfl : k = l.length := by omega
      go_wp2_with fail
      go_ret
      exact ⟨ret_int (by rw [HI.out, Nat.sub_self]; rfl), (by repeat (first | exact Below.refl _ _ | assumption | refine balloc ?_ _ | refine below_trans ?_ (by assumption) | refine Below.drew ?_ | refine below_drewN ?_ _ | refine Below.setCell ?_ (by simp <;> omega) _))⟩

set_option maxHeartbeats 400000 in
theorem containsStrange_any (v : Value) (l : List Impact) (w : World) (hv : ImpactsAt w v l) (hn : l.length ≤ 1000000) :
    Calls Tryz.prog 96 #[v, .func (.func 63) #[] #[]] w fun e w' => e = .returned (.bool (l.any strangeI)) ∧ Below w.heap.size w w' := by
  have hk := strIdx_any l l.length 0 (by omega)
  have HK := Lib.hid hk
  have HV := Lib.hid hv
  clear hk hv
  go_enter Tryz.func96, Tryz.ntmps96
  go_wp2_with fail
  refine (indexStrange_any _ _ _ HV.out hn).mono ?_
  rintro e w2 ⟨rfl, hb2⟩
  go_wp2_with fail
  all_goals (go_ret; refine ⟨ret_bool ?_, (by repeat (first | exact Below.refl _ _ | assumption | refine balloc ?_ _ | refine below_trans ?_ (by assumption) | refine Below.drew ?_ | refine below_drewN ?_ _ | refine Below.setCell ?_ (by simp <;> omega) _))⟩)
  all_goals (have hq := HK.out; rw [List.drop_zero] at hq; rw [Bool.eq_iff_iff, ← hq]; simp)

end Go.Proofs.YtmglbegbijofkaaGreatDoor
