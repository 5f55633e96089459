import Derived.Test.YtmglbegbijofkaaGreatDoorQ02
import Derived.Test.YtmglbegbijofkaaGreatDoorQ00
import Derived.Lib.ConvBytes
set_option linter.unusedVariables false
set_option linter.unusedSimpArgs false
namespace Go.Proofs.YtmglbegbijofkaaGreatDoor
open Go.RowKit

set_option maxHeartbeats 400000 in
theorem wout_any (n lo hi : Int) (w : World) :
    Calls Tryz.prog 150 #[.int .i64 n, .int .i64 lo, .int .i64 hi] w fun e w' => e = .returned (.bool (outB n lo hi)) ∧ w = w' := by
  go_enter Tryz.func150, Tryz.ntmps150
  go_wp2
  all_goals (go_ret; exact ⟨ret_bool (by simp [outB, *] <;> omega), rfl⟩)

theorem bytesWorld_below (w : World) (e : TypeId) (s : ByteArray) : Below w.heap.size w (Lib.bytesWorld w e s) :=
  ⟨rfl, rfl, rfl, by rw [Lib.bytesWorld_size]; omega, fun k hk => Lib.bytesWorld_at_old w e s k hk⟩

set_option maxRecDepth 100000 in
set_option maxHeartbeats 800000 in
theorem name_any (s : ByteArray) (w : World) (hs : s.size ≤ 9223372036854775806) :
    Calls Tryz.prog 90 #[.string s] w fun e w' => e = .returned (.bool (nameB s.data.toList)) ∧ Below w.heap.size w w' := by
  have hconv := Lib.run_convert_string_bytes (P := Tryz.prog) w 9 156 5 s Tryz.underlying9 Tryz.underlying156 Tryz.underlying5
  have hB := bytesWorld_below w 5 s
  have hC := Lib.bytesWorld_cell w 5 s
  generalize Lib.bytesWorld w 5 s = w1 at hconv hB hC
  have HC := Lib.hid hC
  clear hC
  go_enter Tryz.func90, Tryz.ntmps90
  go_wp2_with fail
  clear hconv
  go_loop [8] (fun i => ∃ k : Nat, k ≤ s.size ∧ i = .int .i64 k ∧ Hid (badFrom s.data.toList 0 = badFrom (s.data.toList.drop k) k)) (fun i => s.size - (intOf i).toNat)
  case atStart => exact ⟨0, Nat.zero_le _, rfl, rfl⟩
  case round =>
    obtain ⟨k, hk, rfl, HI⟩ := hrel
    by_cases hlt : k < s.size
    · have hck := HC.out k hlt
      have HS := Lib.hid (badFrom_drop s.data.toList k (by simpa using hlt))
      have hx0 : (0 : Int) ≤ (s.data.toList.getD k 0).toNat := by omega
      have hx1 : ((s.data.toList.getD k 0).toNat : Int) < 256 := by have := (s.data.toList.getD k 0).toNat_lt; omega
      generalize ((s.data.toList.getD k 0).toNat : Int) = x at *
      have hx : x < 45 ∨ (45 ≤ x ∧ x ≤ 45) ∨ (46 ≤ x ∧ x ≤ 47) ∨ (48 ≤ x ∧ x ≤ 57) ∨ (58 ≤ x ∧ x ≤ 96) ∨ (97 ≤ x ∧ x ≤ 122) ∨ 123 ≤ x := by omega
      have hkk : k ≤ 0 ∨ 1 ≤ k := by omega
      rcases hx with h | ⟨h, h'⟩ | ⟨h, h'⟩ | ⟨h, h'⟩ | ⟨h, h'⟩ | ⟨h, h'⟩ | h <;> rcases hkk with hk0 | hk0
      all_goals (try have q1 : ((k : Int) == 0) = false := beq_eq_false_iff_ne.2 (by omega))
      all_goals (try have q2 : (x != 45) = true := bne_iff_ne.2 (by omega))
      all_goals (try have q3 : decide (x ≤ 57) = false := decide_eq_false (by omega))
      all_goals (try have q4 : decide (x ≤ 122) = false := decide_eq_false (by omega))
      all_goals (go_wp2_with fail)
      all_goals (first
        | (go_ret; refine ⟨ret_bool ?_, hB⟩
           have hcb : chBad k x = true := by (unfold chBad; simp; omega)
           unfold nameB; rw [HI.out, HS.out, hcb]; simp; done)
        | (go_round
           case rel =>
             have hcb : chBad k x = false := by (unfold chBad; simp; omega)
             exact ⟨k + 1, by omega, by go_num, by unfold Hid; rw [HI.out, HS.out, hcb]; simp⟩
           case measure => (simp [intOf]; omega)))
    · obtain rfl : k = s.size := by omega
      go_wp2_with (go_at_call 150; refine (wout_any _ _ _ _).mono ?_; rintro e w' ⟨rfl, rfl⟩)
      go_ret
      refine ⟨ret_bool ?_, hB⟩
      have e : s.data.toList.length = s.size := by simp
      unfold nameB
      rw [HI.out, ← e, badFrom_end]
      simp

end Go.Proofs.YtmglbegbijofkaaGreatDoor
namespace Go.Proofs.YtmglbegbijofkaaGreatDoor
open Go.RowKit

/-- the cells of a row of sights -/
def sightF (ss : List Sight) (i : Nat) : Value :=
  .int .i64 (if i % 5 = 0 then (sgAt ss (i / 5)).t else if i % 5 = 1 then (sgAt ss (i / 5)).x else if i % 5 = 2 then (sgAt ss (i / 5)).y else if i % 5 = 3 then (sgAt ss (i / 5)).h else (sgAt ss (i / 5)).e)
theorem sightF0 (ss : List Sight) (k : Nat) : sightF ss (k * 5) = .int .i64 (sgAt ss k).t := by
  unfold sightF; rw [if_pos (by omega), show k * 5 / 5 = k by omega]
theorem sightF1 (ss : List Sight) (k : Nat) : sightF ss (k * 5 + 1) = .int .i64 (sgAt ss k).x := by
  unfold sightF; rw [if_neg (by omega), if_pos (by omega), show (k * 5 + 1) / 5 = k by omega]
theorem sightF2 (ss : List Sight) (k : Nat) : sightF ss (k * 5 + 2) = .int .i64 (sgAt ss k).y := by
  unfold sightF; rw [if_neg (by omega), if_neg (by omega), if_pos (by omega), show (k * 5 + 2) / 5 = k by omega]
theorem sightF3 (ss : List Sight) (k : Nat) : sightF ss (k * 5 + 3) = .int .i64 (sgAt ss k).h := by
  unfold sightF; rw [if_neg (by omega), if_neg (by omega), if_neg (by omega), if_pos (by omega), show (k * 5 + 3) / 5 = k by omega]
theorem sightF4 (ss : List Sight) (k : Nat) : sightF ss (k * 5 + 4) = .int .i64 (sgAt ss k).e := by
  unfold sightF; rw [if_neg (by omega), if_neg (by omega), if_neg (by omega), if_neg (by omega), show (k * 5 + 4) / 5 = k by omega]
abbrev SightsAt (w : World) (v : Value) (ss : List Sight) : Prop := RowAt w v ss.length 5 (sightF ss)
/-- the cells of the sight k, as the walk spells them -/
theorem sight_cells {w : World} {b off : Nat} {ss : List Sight} {k : Nat} (hc : ∀ i, i < ss.length * 5 → w.cell? ⟨b, off + i, none⟩ = some (sightF ss i)) (hk : k < ss.length) :
    w.cell? ⟨b, off + k * 5, none⟩ = some (.int .i64 (sgAt ss k).t) ∧ w.cell? ⟨b, off + k * 5 + 1, none⟩ = some (.int .i64 (sgAt ss k).x) ∧ w.cell? ⟨b, off + k * 5 + 2, none⟩ = some (.int .i64 (sgAt ss k).y) ∧ w.cell? ⟨b, off + k * 5 + 3, none⟩ = some (.int .i64 (sgAt ss k).h) ∧ w.cell? ⟨b, off + k * 5 + 4, none⟩ = some (.int .i64 (sgAt ss k).e) := by
  refine ⟨?_, ?_, ?_, ?_, ?_⟩
  · rw [hc _ (by omega), sightF0]
  · rw [Nat.add_assoc, hc _ (by omega), sightF1]
  · rw [Nat.add_assoc, hc _ (by omega), sightF2]
  · rw [Nat.add_assoc, hc _ (by omega), sightF3]
  · rw [Nat.add_assoc, hc _ (by omega), sightF4]

def ErrPair (a e : Int) : Ending := .returned (.tuple #[.int .i64 a, .int .i64 e])

set_option maxRecDepth 100000 in
set_option maxHeartbeats 800000 in
theorem craft_any (nm : ByteArray) (speed climb low high : Int) (v : Value) (ss : List Sight) (w : World) (hv : SightsAt w v ss) (hs : nm.size ≤ 9223372036854775806) (hn : ss.length ≤ 9223372036854775806) :
    Calls Tryz.prog 28 #[.agg #[.string nm, .int .i64 speed, .int .i64 climb, .int .i64 low, .int .i64 high, v]] w fun e w' =>
      e = ErrPair (crI nm.data.toList speed climb low high ss) (crE nm.data.toList speed climb low high ss) ∧ Below w.heap.size w w' := by
  have hv1 := hv.below (balloc (Below.refl _ w) (.cells #[.string nm, .int .i64 speed, .int .i64 climb, .int .i64 low, .int .i64 high, v] 63))
  obtain ⟨a, c, rfl, hx⟩ := hv
  clear hx
  have HV := Lib.hid hv1
  clear hv1
  go_enter Tryz.func28, Tryz.ntmps28
  go_wp2_with fail
  refine (name_any _ _ hs).mono ?_
  rintro e w1 ⟨rfl, hb1⟩
  obtain ⟨hc1, hf1⟩ := bcell hb1
  have hx0 : w.heap.size < w1.heap.size := by have := hb1.size; simp at this; omega
  cases hnm : nameB nm.data.toList with
  | false =>
    have HN := Lib.hid hnm
    clear hnm
    go_wp2_with fail
    go_ret2
    exact ⟨ret_tup2 (vint (by simp [crI, HN.out])) (vint (by simp [crE, HN.out])), (by repeat (first | exact Below.refl _ _ | assumption | refine balloc ?_ _ | refine below_trans ?_ (by assumption) | refine Below.drew ?_ | refine below_drewN ?_ _ | refine Below.setCell ?_ (by simp <;> omega) _))⟩
  | true =>
    have HN := Lib.hid hnm
    clear hnm
    cases hcb : crB speed climb low high with
    | true =>
      have HC := Lib.hid hcb
      clear hcb
      go_wp2_with (go_at_call 64; refine (out_any _ _ _ _).mono ?_; rintro e w' ⟨rfl, rfl⟩)
      all_goals (first
        | (exfalso; have hq := HC.out; simp [crB, *] at hq; done)
        | (go_ret2; refine ⟨ret_tup2 (vint ?_) (vint ?_), (by repeat (first | exact Below.refl _ _ | assumption | refine balloc ?_ _ | refine below_trans ?_ (by assumption) | refine Below.drew ?_ | refine below_drewN ?_ _ | refine Below.setCell ?_ (by simp <;> omega) _))⟩ <;> simp [crI, crE, HN.out, HC.out]))
    | false =>
      have hcr := crB_false.1 hcb
      have e1 : outB speed 0 1000000 = false := outB_false.2 (by omega)
      have e2 : outB climb 0 1000000 = false := outB_false.2 (by omega)
      have e3 : outB high 0 2000000000 = false := outB_false.2 (by omega)
      have e4 : outB low 0 high = false := outB_false.2 (by omega)
      have HC := Lib.hid hcb
      clear hcb hcr
      cases hln : outB ss.length 1 10 with
      | true =>
        have HL := Lib.hid hln
        go_wp2_with (go_at_call 64; refine (out_any _ _ _ _).mono ?_; rintro e w' ⟨rfl, rfl⟩)
        go_ret2
        refine ⟨ret_tup2 (vint ?_) (vint ?_), (by repeat (first | exact Below.refl _ _ | assumption | refine balloc ?_ _ | refine below_trans ?_ (by assumption) | refine Below.drew ?_ | refine below_drewN ?_ _ | refine Below.setCell ?_ (by simp <;> omega) _))⟩ <;> simp [crI, crE, HN.out, HC.out, HL.out]
      | false =>
        have HL := Lib.hid hln
        go_wp2_with (go_at_call 64; refine (out_any _ _ _ _).mono ?_; rintro e w' ⟨rfl, rfl⟩)
        have HV1 := Lib.hid (HV.out.below hb1)
        have hbx : w1.cell? ⟨w.heap.size, 5, none⟩ = some (.slice a ss.length c) := by rw [hc1 _ _ (by simp)]; simp
        have hB1 : Below w.heap.size w w1 := (by repeat (first | exact Below.refl _ _ | assumption | refine balloc ?_ _ | refine below_trans ?_ (by assumption) | refine Below.drew ?_ | refine below_drewN ?_ _ | refine Below.setCell ?_ (by simp <;> omega) _))
        clear hc1 hf1 hb1 HV e1 e2 e3 e4 hln
        go_loopw [40] (fun i wr => ∃ k : Nat, k ≤ ss.length ∧ i = .int .i64 k ∧ Below w1.heap.size w1 wr ∧ Hid (sgI ss ss.length 0 = sgI ss (ss.length - k) k) ∧ Hid (sgE ss ss.length 0 = sgE ss (ss.length - k) k)) (fun i _ => ss.length - (intOf i).toNat)
        case atStart => exact ⟨0, Nat.zero_le _, rfl, Below.refl _ _, rfl, rfl⟩
        case round =>
          obtain ⟨k, hk, rfl, hBw, HI, HE⟩ := hrel
          by_cases hlt : k < ss.length
          · have hrow := HV1.out.below hBw
            have hbx2 := (hBw.cell (p := ⟨w.heap.size, 5, none⟩) hx0).trans hbx
            obtain ⟨a', c', hac, h0 | ⟨b, off, rfl, hb, hc⟩⟩ := hrow
            · omega
            · simp only [Value.slice.injEq] at hac
              obtain ⟨rfl, _, rfl⟩ := hac
              obtain ⟨s0, s1, s2, s3, s4⟩ := sight_cells hc hlt
              have HSI : Hid (sgI ss (ss.length - k) k = if sgEarly ss k then (k : Int) else if sgBad (sgAt ss k) then (k : Int) else sgI ss (ss.length - (k + 1)) (k + 1)) := show _ = _ from by rw [show ss.length - k = (ss.length - (k + 1)) + 1 by omega]; rfl
              have HSE : Hid (sgE ss (ss.length - k) k = if sgEarly ss k then 2 else if sgBad (sgAt ss k) then 7 else sgE ss (ss.length - (k + 1)) (k + 1)) := show _ = _ from by rw [show ss.length - k = (ss.length - (k + 1)) + 1 by omega]; rfl
              have HB : Hid (sgBad (sgAt ss k) = (outB (sgAt ss k).t 0 100000 || offB (sgAt ss k).x || offB (sgAt ss k).y || outB (sgAt ss k).h 0 2000000000 || outB (sgAt ss k).e 0 2000000000)) := show _ = _ from rfl
              have hx3 : w.heap.size < wr.heap.size := by have := hBw.size; omega
              by_cases hk0 : 0 < k
              · obtain ⟨q, hq⟩ : ∃ q, q + 1 = k := ⟨k - 1, by omega⟩
                have zk : (k : Int) = (q : Int) + 1 := by omega
                have hd0 : decide ((0 : Int) < (q : Int) + 1) = true := decide_eq_true (by omega)
                obtain ⟨p0, p1, p2, p3, p4⟩ := sight_cells hc (show q < ss.length by omega)
                have HEq : Hid (sgEarly ss k = decide ((sgAt ss k).t ≤ (sgAt ss q).t)) := show _ = _ from by unfold sgEarly; rw [show k - 1 = q by omega]; simp [hk0]
                generalize sgAt ss k = sg at *
                generalize sgAt ss q = sp at *
                subst hq
                clear hc zk
                by_cases hle : sg.t ≤ sp.t
                · go_wp2_with fail
                  go_quiet (fail)
                  go_wp2_with fail
                  go_ret2
                  refine ⟨ret_tup2 (vint ?_) (vint ?_), (by repeat (first | exact Below.refl _ _ | assumption | refine balloc ?_ _ | refine below_trans ?_ (by assumption) | refine Below.drew ?_ | refine below_drewN ?_ _ | refine Below.setCell ?_ (by simp <;> omega) _))⟩
                  · simp [crI, HN.out, HC.out, HL.out, HI.out, HSI.out, HEq.out, hle]
                  · simp [crE, HN.out, HC.out, HL.out, HE.out, HSE.out, HEq.out, hle]
                · have HEa : Hid (sgEarly ss (q + 1) = false) := show _ = _ from by rw [HEq.out]; simpa using hle
                  have hle' : sp.t < sg.t := by omega
                  clear hle
                  go_wp2_with fail
                  go_quiet (fail)
                  (go_wp2_with (first | (go_at_call 91; refine (off_any _ _).mono ?_; rintro e w' ⟨rfl, rfl⟩) | (go_at_call 64; refine (out_any _ _ _ _).mono ?_; rintro e w' ⟨rfl, rfl⟩))); all_goals (first | (go_ret2; (have hbd : sgBad sg = true := by rw [HB.out]; simp [*]); (refine ⟨ret_tup2 (vint ?_) (vint ?_), (by repeat (first | exact Below.refl _ _ | assumption | refine balloc ?_ _ | refine below_trans ?_ (by assumption) | refine Below.drew ?_ | refine below_drewN ?_ _ | refine Below.setCell ?_ (by simp <;> omega) _))⟩) <;> (simp [crI, crE, HN.out, HC.out, HL.out, HI.out, HSI.out, HE.out, HSE.out, HEa.out, hbd])) | ((have hbd : sgBad sg = false := by rw [HB.out]; simp [*]); go_roundw; (case rel => exact ⟨(q + 1) + 1, by omega, by go_num, (by repeat (first | exact Below.refl _ _ | assumption | refine balloc ?_ _ | refine below_trans ?_ (by assumption) | refine Below.drew ?_ | refine below_drewN ?_ _ | refine Below.setCell ?_ (by simp <;> omega) _)), by unfold Hid; rw [HI.out, HSI.out, HEa.out, hbd]; rfl, by unfold Hid; rw [HE.out, HSE.out, HEa.out, hbd]; rfl⟩); (case measure => simp [intOf]; omega)))
              · have hd0 : decide ((0 : Int) < (k : Int)) = false := decide_eq_false (by omega)
                have HEa : Hid (sgEarly ss k = false) := show _ = _ from by unfold sgEarly; simp; omega
                generalize sgAt ss k = sg at *
                clear hc
                go_wp2_with fail
                go_quiet (fail)
                (go_wp2_with (first | (go_at_call 91; refine (off_any _ _).mono ?_; rintro e w' ⟨rfl, rfl⟩) | (go_at_call 64; refine (out_any _ _ _ _).mono ?_; rintro e w' ⟨rfl, rfl⟩))); all_goals (first | (go_ret2; (have hbd : sgBad sg = true := by rw [HB.out]; simp [*]); (refine ⟨ret_tup2 (vint ?_) (vint ?_), (by repeat (first | exact Below.refl _ _ | assumption | refine balloc ?_ _ | refine below_trans ?_ (by assumption) | refine Below.drew ?_ | refine below_drewN ?_ _ | refine Below.setCell ?_ (by simp <;> omega) _))⟩) <;> (simp [crI, crE, HN.out, HC.out, HL.out, HI.out, HSI.out, HE.out, HSE.out, HEa.out, hbd])) | ((have hbd : sgBad sg = false := by rw [HB.out]; simp [*]); go_roundw; (case rel => exact ⟨k + 1, by omega, by go_num, (by repeat (first | exact Below.refl _ _ | assumption | refine balloc ?_ _ | refine below_trans ?_ (by assumption) | refine Below.drew ?_ | refine below_drewN ?_ _ | refine Below.setCell ?_ (by simp <;> omega) _)), by unfold Hid; rw [HI.out, HSI.out, HEa.out, hbd]; rfl, by unfold Hid; rw [HE.out, HSE.out, HEa.out, hbd]; rfl⟩); (case measure => simp [intOf]; omega)))
          · obtain rfl : k = ss.length := by omega
            go_wp2_with fail
            go_ret2
            refine ⟨ret_tup2 (vint ?_) (vint ?_), (by repeat (first | exact Below.refl _ _ | assumption | refine balloc ?_ _ | refine below_trans ?_ (by assumption) | refine Below.drew ?_ | refine below_drewN ?_ _ | refine Below.setCell ?_ (by simp <;> omega) _))⟩
            · simp [crI, HN.out, HC.out, HL.out, HI.out, sgI]
            · simp [crE, HN.out, HC.out, HL.out, HE.out, sgE]

end Go.Proofs.YtmglbegbijofkaaGreatDoor
namespace Go.Proofs.YtmglbegbijofkaaGreatDoor
open Go.RowKit

/-- the cells of a row of impacts -/
def impF (l : List Impact) (i : Nat) : Value :=
  .int .i64 (if i % 7 = 0 then (imAt l (i / 7)).p else if i % 7 = 1 then (imAt l (i / 7)).xl else if i % 7 = 2 then (imAt l (i / 7)).xh else if i % 7 = 3 then (imAt l (i / 7)).yl else if i % 7 = 4 then (imAt l (i / 7)).yh else if i % 7 = 5 then (imAt l (i / 7)).tl else (imAt l (i / 7)).th)
abbrev ImpactsAt (w : World) (v : Value) (l : List Impact) : Prop := RowAt w v l.length 7 (impF l)
theorem impF_at (l : List Impact) (k j : Nat) (hj : j < 7) : impF l (k * 7 + j) = .int .i64 (if j = 0 then (imAt l k).p else if j = 1 then (imAt l k).xl else if j = 2 then (imAt l k).xh else if j = 3 then (imAt l k).yl else if j = 4 then (imAt l k).yh else if j = 5 then (imAt l k).tl else (imAt l k).th) := by
  unfold impF
  rw [show (k * 7 + j) % 7 = j by omega, show (k * 7 + j) / 7 = k by omega]
/-- the cells of the impact k, as the walk spells them -/
theorem impact_cells {w : World} {b off : Nat} {l : List Impact} {k : Nat} (hc : ∀ i, i < l.length * 7 → w.cell? ⟨b, off + i, none⟩ = some (impF l i)) (hk : k < l.length) :
    w.cell? ⟨b, off + k * 7, none⟩ = some (.int .i64 (imAt l k).p) ∧ w.cell? ⟨b, off + k * 7 + 1, none⟩ = some (.int .i64 (imAt l k).xl) ∧ w.cell? ⟨b, off + k * 7 + 2, none⟩ = some (.int .i64 (imAt l k).xh) ∧ w.cell? ⟨b, off + k * 7 + 3, none⟩ = some (.int .i64 (imAt l k).yl) ∧ w.cell? ⟨b, off + k * 7 + 4, none⟩ = some (.int .i64 (imAt l k).yh) ∧ w.cell? ⟨b, off + k * 7 + 5, none⟩ = some (.int .i64 (imAt l k).tl) ∧ w.cell? ⟨b, off + k * 7 + 6, none⟩ = some (.int .i64 (imAt l k).th) := by
  have h := fun j (hj : j < 7) => (hc (k * 7 + j) (by omega)).trans (congrArg some (impF_at l k j hj))
  refine ⟨?_, ?_, ?_, ?_, ?_, ?_, ?_⟩
  · exact h 0 (by omega)
  · rw [Nat.add_assoc]; exact h 1 (by omega)
  · rw [Nat.add_assoc]; exact h 2 (by omega)
  · rw [Nat.add_assoc]; exact h 3 (by omega)
  · rw [Nat.add_assoc]; exact h 4 (by omega)
  · rw [Nat.add_assoc]; exact h 5 (by omega)
  · rw [Nat.add_assoc]; exact h 6 (by omega)

set_option maxRecDepth 100000 in
set_option maxHeartbeats 800000 in
theorem indexStrange_any (v : Value) (l : List Impact) (w : World) (hv : ImpactsAt w v l) (hn : l.length ≤ 1000000) :
    Calls Tryz.prog 156 #[v, .func (.func 63) #[] #[]] w fun e w' => e = .returned (.int .i64 (strIdx l l.length 0)) ∧ Below w.heap.size w w' := by
  obtain ⟨a, c, rfl, hx⟩ := id hv
  clear hx
  have HV := Lib.hid hv
  clear hv
  go_enter Tryz.func156, Tryz.ntmps156
  go_wp2_with fail
  go_loopw [8] (fun i wr => ∃ k : Nat, k ≤ l.length ∧ i = .int .i64 k ∧ Below w.heap.size w wr ∧ Hid (strIdx l l.length 0 = strIdx l (l.length - k) k)) (fun i _ => l.length - (intOf i).toNat)
  case atStart => exact ⟨0, Nat.zero_le _, rfl, Below.refl _ _, rfl⟩
  case round =>
    obtain ⟨k, hk, rfl, hB, HI⟩ := hrel
    by_cases hlt : k < l.length
    · obtain ⟨a', c', hac, h0 | ⟨b, off, rfl, hb, hc⟩⟩ := HV.out.below hB
      · omega
      · simp only [Value.slice.injEq] at hac
        obtain ⟨rfl, _, rfl⟩ := hac
        obtain ⟨s0, s1, s2, s3, s4, s5, s6⟩ := impact_cells hc hlt
        have HS : Hid (strIdx l (l.length - k) k = if strangeI (imAt l k) then (k : Int) else strIdx l (l.length - (k + 1)) (k + 1)) := show _ = _ from by rw [show l.length - k = (l.length - (k + 1)) + 1 by omega]; rfl
        have HX : Hid (strangeI (imAt l k) = strangeB (imAt l k).p (imAt l k).xl (imAt l k).xh (imAt l k).yl (imAt l k).yh (imAt l k).tl (imAt l k).th) := show _ = _ from rfl
        generalize imAt l k = x at *
        clear hc
        go_wp2_with fail
        refine (strange_any _ _ _ _ _ _ _ _).mono ?_
        rintro e w2 ⟨rfl, hb2⟩
        go_wp2_with fail
        · go_ret
          exact ⟨ret_int (by rw [HI.out, HS.out, HX.out, if_pos ‹_›]), (by repeat (first | exact Below.refl _ _ | assumption | refine balloc ?_ _ | refine below_trans ?_ (by assumption) | refine Below.drew ?_ | refine below_drewN ?_ _ | refine Below.setCell ?_ (by simp <;> omega) _))⟩
        · go_roundw
          case rel => exact ⟨k + 1, by omega, by go_num, (by repeat (first | exact Below.refl _ _ | assumption | refine balloc ?_ _ | refine below_trans ?_ (by assumption) | refine Below.drew ?_ | refine below_drewN ?_ _ | refine Below.setCell ?_ (by simp <;> omega) _)), by unfold Hid; rw [HI.out, HS.out, HX.out, if_neg (by simp [*])]⟩
          case measure => simp [intOf]; omega
    · obtain rfl : k = l.length := by omega
      go_wp2_with fail
      go_ret
      exact ⟨ret_int (by rw [HI.out, Nat.sub_self]; rfl), (by repeat (first | exact Below.refl _ _ | assumption | refine balloc ?_ _ | refine below_trans ?_ (by assumption) | refine Below.drew ?_ | refine below_drewN ?_ _ | refine Below.setCell ?_ (by simp <;> omega) _))⟩

set_option maxHeartbeats 400000 in
theorem containsStrange_any (v : Value) (l : List Impact) (w : World) (hv : ImpactsAt w v l) (hn : l.length ≤ 1000000) :
    Calls Tryz.prog 96 #[v, .func (.func 63) #[] #[]] w fun e w' => e = .returned (.bool (l.any strangeI)) ∧ Below w.heap.size w w' := by
  have hk := strIdx_any l l.length 0 (by omega)
  have HK := Lib.hid hk
  have HV := Lib.hid hv
  clear hk hv
  go_enter Tryz.func96, Tryz.ntmps96
  go_wp2_with fail
  refine (indexStrange_any _ _ _ HV.out hn).mono ?_
  rintro e w2 ⟨rfl, hb2⟩
  go_wp2_with fail
  all_goals (go_ret; refine ⟨ret_bool ?_, (by repeat (first | exact Below.refl _ _ | assumption | refine balloc ?_ _ | refine below_trans ?_ (by assumption) | refine Below.drew ?_ | refine below_drewN ?_ _ | refine Below.setCell ?_ (by simp <;> omega) _))⟩)
  all_goals (have hq := HK.out; rw [List.drop_zero] at hq; rw [Bool.eq_iff_iff, ← hq]; simp)

end Go.Proofs.YtmglbegbijofkaaGreatDoor
