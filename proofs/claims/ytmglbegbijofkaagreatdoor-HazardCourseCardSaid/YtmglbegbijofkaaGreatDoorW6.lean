import Derived.Test.YtmglbegbijofkaaGreatDoorW5
import Derived.Test.YtmglbegbijofkaaGreatDoorPA
set_option linter.unusedVariables false
set_option linter.unusedSimpArgs false
namespace Go.Proofs.YtmglbegbijofkaaGreatDoor
open Go.RowKit

/-- the cells of a row of sights -/
def sightF (ss : List Sight) (i : Nat) : Value :=
  .int .i64 (if i % 5 = 0 then (sgAt ss (i / 5)).t else if i % 5 = 1 then (sgAt ss (i / 5)).x else if i % 5 = 2 then (sgAt ss (i / 5)).y else if i % 5 = 3 then (sgAt ss (i / 5)).h else (sgAt ss (i / 5)).e)
theorem sightF0 (ss : List Sight) (k : Nat) : sightF ss (k * 5) = .int .i64 (sgAt ss k).t := by
  unfold sightF; rw [if_pos (by omega), show k * 5 / 5 = k by omega]
theorem sightF1 (ss : List Sight) (k : Nat) : sightF ss (k * 5 + 1) = .int .i64 (sgAt ss k).x := by
  unfold sightF; rw [if_neg (by omega), if_pos (by omega), show (k * 5 + 1) / 5 = k by omega]
theorem sightF2 (ss : List Sight) (k : Nat) : sightF ss (k * 5 + 2) = .int .i64 (sgAt ss k).y := by
  unfold sightF; rw [if_neg (by omega), if_neg (by omega), if_pos (by omega), show (k * 5 + 2) / 5 = k by omega]
theorem sightF3 (ss : List Sight) (k : Nat) : sightF ss (k * 5 + 3) = .int .i64 (sgAt ss k).h := by
  unfold sightF; rw [if_neg (by omega), if_neg (by omega), if_neg (by omega), if_pos (by omega), show (k * 5 + 3) / 5 = k by omega]
theorem sightF4 (ss : List Sight) (k : Nat) : sightF ss (k * 5 + 4) = .int .i64 (sgAt ss k).e := by
  unfold sightF; rw [if_neg (by omega), if_neg (by omega), if_neg (by omega), if_neg (by omega), show (k * 5 + 4) / 5 = k by omega]
abbrev SightsAt (w : World) (v : Value) (ss : List Sight) : Prop := RowAt w v ss.length 5 (sightF ss)
/-- the cells of the sight k, as the walk spells them -/
theorem sight_cells {w : World} {b off : Nat} {ss : List Sight} {k : Nat} (hc : ∀ i, i < ss.length * 5 → w.cell? ⟨b, off + i, none⟩ = some (sightF ss i)) (hk : k < ss.length) :
    w.cell? ⟨b, off + k * 5, none⟩ = some (.int .i64 (sgAt ss k).t) ∧ w.cell? ⟨b, off + k * 5 + 1, none⟩ = some (.int .i64 (sgAt ss k).x) ∧ w.cell? ⟨b, off + k * 5 + 2, none⟩ = some (.int .i64 (sgAt ss k).y) ∧ w.cell? ⟨b, off + k * 5 + 3, none⟩ = some (.int .i64 (sgAt ss k).h) ∧ w.cell? ⟨b, off + k * 5 + 4, none⟩ = some (.int .i64 (sgAt ss k).e) := by
  refine ⟨?_, ?_, ?_, ?_, ?_⟩
  · rw [hc _ (by omega), sightF0]
  · rw [Nat.add_assoc, hc _ (by omega), sightF1]
  · rw [Nat.add_assoc, hc _ (by omega), sightF2]
  · rw [Nat.add_assoc, hc _ (by omega), sightF3]
  · rw [Nat.add_assoc, hc _ (by omega), sightF4]

def ErrPair (a e : Int) : Ending := .returned (.tuple #[.int .i64 a, .int .i64 e])

set_option maxRecDepth 100000 in
set_option maxHeartbeats 800000 in
theorem craft_any (nm : ByteArray) (speed climb low high : Int) (v : Value) (ss : List Sight) (w : World) (hv : SightsAt w v ss) (hs : nm.size ≤ 9223372036854775806) (hn : ss.length ≤ 9223372036854775806) :
    Calls Tryz.prog 28 #[.agg #[.string nm, .int .i64 speed, .int .i64 climb, .int .i64 low, .int .i64 high, v]] w fun e w' =>
      e = ErrPair (crI nm.data.toList speed climb low high ss) (crE nm.data.toList speed climb low high ss) ∧ Below w.heap.size w w' := by
  have hv1 := hv.below (balloc (Below.refl _ w) (.cells #[.string nm, .int .i64 speed, .int .i64 climb, .int .i64 low, .int .i64 high, v] 63))
  obtain ⟨a, c, rfl, hx⟩ := hv
  clear hx
  have HV := Lib.hid hv1
  clear hv1
  go_enter Tryz.func28, Tryz.ntmps28
  go_wp2_with fail
  refine (name_any _ _ hs).mono ?_
  rintro e w1 ⟨rfl, hb1⟩
  obtain ⟨hc1, hf1⟩ := bcell hb1
  have hx0 : w.heap.size < w1.heap.size := by have := hb1.size; simp at this; omega
  cases hnm : nameB nm.data.toList with
  | false =>
    have HN := Lib.hid hnm
    clear hnm
    go_wp2_with fail
    go_ret2
    exact ⟨ret_tup2 (vint (by simp [crI, HN.out])) (vint (by simp [crE, HN.out])), (by repeat (first | exact Below.refl _ _ | assumption | refine balloc ?_ _ | refine below_trans ?_ (by assumption) | refine Below.drew ?_ | refine below_drewN ?_ _ | refine Below.setCell ?_ (by simp <;> omega) _))⟩
  | true =>
    have HN := Lib.hid hnm
    clear hnm
    cases hcb : crB speed climb low high with
    | true =>
      have HC := Lib.hid hcb
      clear hcb
      go_wp2_with (go_at_call 64; refine (out_any _ _ _ _).mono ?_; rintro e w' ⟨rfl, rfl⟩)
      all_goals (first
        | (exfalso; have hq := HC.out; simp [crB, *] at hq; done)
        | (go_ret2; refine ⟨ret_tup2 (vint ?_) (vint ?_), (by repeat (first | exact Below.refl _ _ | assumption | refine balloc ?_ _ | refine below_trans ?_ (by assumption) | refine Below.drew ?_ | refine below_drewN ?_ _ | refine Below.setCell ?_ (by simp <;> omega) _))⟩ <;> simp [crI, crE, HN.out, HC.out]))
    | false =>
      have hcr := crB_false.1 hcb
      have e1 : outB speed 0 1000000 = false := outB_false.2 (by omega)
      have e2 : outB climb 0 1000000 = false := outB_false.2 (by omega)
      have e3 : outB high 0 2000000000 = false := outB_false.2 (by omega)
      have e4 : outB low 0 high = false := outB_false.2 (by omega)
      have HC := Lib.hid hcb
      clear hcb hcr
      cases hln : outB ss.length 1 10 with
      | true =>
        have HL := Lib.hid hln
        go_wp2_with (go_at_call 64; refine (out_any _ _ _ _).mono ?_; rintro e w' ⟨rfl, rfl⟩)
        go_ret2
        refine ⟨ret_tup2 (vint ?_) (vint ?_), (by repeat (first | exact Below.refl _ _ | assumption | refine balloc ?_ _ | refine below_trans ?_ (by assumption) | refine Below.drew ?_ | refine below_drewN ?_ _ | refine Below.setCell ?_ (by simp <;> omega) _))⟩ <;> simp [crI, crE, HN.out, HC.out, HL.out]
      | false =>
        have HL := Lib.hid hln
        go_wp2_with (go_at_call 64; refine (out_any _ _ _ _).mono ?_; rintro e w' ⟨rfl, rfl⟩)
        have HV1 := Lib.hid (HV.out.below hb1)
        have hbx : w1.cell? ⟨w.heap.size, 5, none⟩ = some (.slice a ss.length c) := by rw [hc1 _ _ (by simp)]; simp
        have hB1 : Below w.heap.size w w1 := (by repeat (first | exact Below.refl _ _ | assumption | refine balloc ?_ _ | refine below_trans ?_ (by assumption) | refine Below.drew ?_ | refine below_drewN ?_ _ | refine Below.setCell ?_ (by simp <;> omega) _))
        clear hc1 hf1 hb1 HV e1 e2 e3 e4 hln
        go_loopw [40] (fun i wr => ∃ k : Nat, k ≤ ss.length ∧ i = .int .i64 k ∧ Below w1.heap.size w1 wr ∧ Hid (sgI ss ss.length 0 = sgI ss (ss.length - k) k) ∧ Hid (sgE ss ss.length 0 = sgE ss (ss.length - k) k)) (fun i _ => ss.length - (intOf i).toNat)
        case atStart => exact ⟨0, Nat.zero_le _, rfl, Below.refl _ _, rfl, rfl⟩
        case round =>
          obtain ⟨k, hk, rfl, hBw, HI, HE⟩ := hrel
          by_cases hlt : k < ss.length
          · have hrow := HV1.out.below hBw
            have hbx2 := (hBw.cell (p := ⟨w.heap.size, 5, none⟩) hx0).trans hbx
            obtain ⟨a', c', hac, h0 | ⟨b, off, rfl, hb, hc⟩⟩ := hrow
            · omega
            · simp only [Value.slice.injEq] at hac
              obtain ⟨rfl, _, rfl⟩ := hac
              obtain ⟨s0, s1, s2, s3, s4⟩ := sight_cells hc hlt
              have HSI : Hid (sgI ss (ss.length - k) k = if sgEarly ss k then (k : Int) else if sgBad (sgAt ss k) then (k : Int) else sgI ss (ss.length - (k + 1)) (k + 1)) := show _ = _ from by rw [show ss.length - k = (ss.length - (k + 1)) + 1 by omega]; rfl
              have HSE : Hid (sgE ss (ss.length - k) k = if sgEarly ss k then 2 else if sgBad (sgAt ss k) then 7 else sgE ss (ss.length - (k + 1)) (k + 1)) := show _ = _ from by rw [show ss.length - k = (ss.length - (k + 1)) + 1 by omega]; rfl
              have HB : Hid (sgBad (sgAt ss k) = (outB (sgAt ss k).t 0 100000 || offB (sgAt ss k).x || offB (sgAt ss k).y || outB (sgAt ss k).h 0 2000000000 || outB (sgAt ss k).e 0 2000000000)) := show _ = _ from rfl
              have hx3 : w.heap.size < wr.heap.size := by have := hBw.size; omega
              by_cases hk0 : 0 < k
              · obtain ⟨q, hq⟩ : ∃ q, q + 1 = k := ⟨k - 1, by omega⟩
                have zk : (k : Int) = (q : Int) + 1 := by omega
                have hd0 : decide ((0 : Int) < (q : Int) + 1) = true := decide_eq_true (by omega)
                obtain ⟨p0, p1, p2, p3, p4⟩ := sight_cells hc (show q < ss.length by omega)
                have HEq : Hid (sgEarly ss k = decide ((sgAt ss k).t ≤ (sgAt ss q).t)) := show _ = _ from by unfold sgEarly; rw [show k - 1 = q by omega]; simp [hk0]
                generalize sgAt ss k = sg at *
                generalize sgAt ss q = sp at *
                subst hq
                clear hc zk
                by_cases hle : sg.t ≤ sp.t
                · go_wp2_with fail
                  go_quiet (fail)
                  go_wp2_with fail
                  go_ret2
                  refine ⟨ret_tup2 (vint ?_) (vint ?_), (by repeat (first | exact Below.refl _ _ | assumption | refine balloc ?_ _ | refine below_trans ?_ (by assumption) | refine Below.drew ?_ | refine below_drewN ?_ _ | refine Below.setCell ?_ (by simp <;> omega) _))⟩
                  · simp [crI, HN.out, HC.out, HL.out, HI.out, HSI.out, HEq.out, hle]
                  · simp [crE, HN.out, HC.out, HL.out, HE.out, HSE.out, HEq.out, hle]
                · have HEa : Hid (sgEarly ss (q + 1) = false) := show _ = _ from by rw [HEq.out]; simpa using hle
                  have hle' : sp.t < sg.t := by omega
                  clear hle
                  go_wp2_with fail
                  go_quiet (fail)
                  (go_wp2_with (first | (go_at_call 91; refine (off_any _ _).mono ?_; rintro e w' ⟨rfl, rfl⟩) | (go_at_call 64; refine (out_any _ _ _ _).mono ?_; rintro e w' ⟨rfl, rfl⟩))); all_goals (first | (go_ret2; (have hbd : sgBad sg = true := by rw [HB.out]; simp [*]); (refine ⟨ret_tup2 (vint ?_) (vint ?_), (by repeat (first | exact Below.refl _ _ | assumption | refine balloc ?_ _ | refine below_trans ?_ (by assumption) | refine Below.drew ?_ | refine below_drewN ?_ _ | refine Below.setCell ?_ (by simp <;> omega) _))⟩) <;> (simp [crI, crE, HN.out, HC.out, HL.out, HI.out, HSI.out, HE.out, HSE.out, HEa.out, hbd])) | ((have hbd : sgBad sg = false := by rw [HB.out]; simp [*]); go_roundw; (case rel => exact ⟨(q + 1) + 1, by omega, by go_num, (by repeat (first | exact Below.refl _ _ | assumption | refine balloc ?_ _ | refine below_trans ?_ (by assumption) | refine Below.drew ?_ | refine below_drewN ?_ _ | refine Below.setCell ?_ (by simp <;> omega) _)), by unfold Hid; rw [HI.out, HSI.out, HEa.out, hbd]; rfl, by unfold Hid; rw [HE.out, HSE.out, HEa.out, hbd]; rfl⟩); (case measure => simp [intOf]; omega)))
              · have hd0 : decide ((0 : Int) < (k : Int)) = false := decide_eq_false (by omega)
                have HEa : Hid (sgEarly ss k = false) := show _ = _ from by unfold sgEarly; simp; omega
                generalize sgAt ss k = sg at *
                clear hc
                go_wp2_with fail
                go_quiet (fail)
                (go_wp2_with (first | (go_at_call 91; refine (off_any _ _).mono ?_; rintro e w' ⟨rfl, rfl⟩) | (go_at_call 64; refine (out_any _ _ _ _).mono ?_; rintro e w' ⟨rfl, rfl⟩))); all_goals (first | (go_ret2; (have hbd : sgBad sg = true := by rw [HB.out]; simp [*]); (refine ⟨ret_tup2 (vint ?_) (vint ?_), (by repeat (first | exact Below.refl _ _ | assumption | refine balloc ?_ _ | refine below_trans ?_ (by assumption) | refine Below.drew ?_ | refine below_drewN ?_ _ | refine Below.setCell ?_ (by simp <;> omega) _))⟩) <;> (simp [crI, crE, HN.out, HC.out, HL.out, HI.out, HSI.out, HE.out, HSE.out, HEa.out, hbd])) | ((have hbd : sgBad sg = false := by rw [HB.out]; simp [*]); go_roundw; (case rel => exact ⟨k + 1, by omega, by go_num, (by repeat (first | exact Below.refl _ _ | assumption | refine balloc ?_ _ | refine below_trans ?_ (by assumption) | refine Below.drew ?_ | refine below_drewN ?_ _ | refine Below.setCell ?_ (by simp <;> omega) _)), by unfold Hid; rw [HI.out, HSI.out, HEa.out, hbd]; rfl, by unfold Hid; rw [HE.out, HSE.out, HEa.out, hbd]; rfl⟩); (case measure => simp [intOf]; omega)))
          · obtain rfl : k = ss.length := by omega
            go_wp2_with fail
            go_ret2
            refine ⟨ret_tup2 (vint ?_) (vint ?_), (by repeat (first | exact Below.refl _ _ | assumption | refine balloc ?_ _ | refine below_trans ?_ (by assumption) | refine Below.drew ?_ | refine below_drewN ?_ _ | refine Below.setCell ?_ (by simp <;> omega) _))⟩
            · simp [crI, HN.out, HC.out, HL.out, HI.out, sgI]
            · simp [crE, HN.out, HC.out, HL.out, HE.out, sgE]

end Go.Proofs.YtmglbegbijofkaaGreatDoor
