import Derived.Test.YtmglbegbijofkaaGreatDoorW25
set_option linter.unusedVariables false
set_option linter.unusedSimpArgs false
namespace Go.Proofs.YtmglbegbijofkaaGreatDoor
open Go.RowKit

set_option maxRecDepth 100000 in
set_option maxHeartbeats 400000 in
theorem rspan_any (a b : Int) (w : World) : Calls Tryz.prog 158 #[.agg #[.int .i64 a, .int .i64 b]] w fun e w' => e = .returned (.bool (!badB a b)) ∧ Below w.heap.size w w' := by
  by_cases h : a ≤ b
  · have HE : Hid ((!badB a b) = (!offB a && !offB b)) := show _ = _ from by unfold badB; rw [decide_eq_false (show ¬ b < a by omega)]; simp
    cases o1 : offB a
    all_goals cases o2 : offB b
    all_goals
      have HO1 := Lib.hid (fun W => rcoord_any a W)
      have HO2 := Lib.hid (fun W => rcoord_any b W)
      rw [o1] at HO1
      rw [o2] at HO2
      rw [o1, o2] at HE
      clear o1 o2
      go_enter Tryz.func158, Tryz.ntmps158
      go_wp2_with (first | (go_at_call 151; refine (HO1.out _).mono ?_; rintro e w' ⟨rfl, rfl⟩) | (go_at_call 151; refine (HO2.out _).mono ?_; rintro e w' ⟨rfl, rfl⟩))
      go_ret
      exact ⟨ret_bool (by rw [HE.out]; rfl), (by repeat (first | exact Below.refl _ _ | assumption | refine balloc ?_ _ | refine below_trans ?_ (by assumption) | refine Below.drew ?_ | refine below_drewN ?_ _ | refine Below.setCell ?_ (by simp <;> omega) _))⟩
  · have HE : Hid ((!badB a b) = false) := show _ = _ from by unfold badB; rw [decide_eq_true (show b < a by omega)]; simp
    have hd : decide (a ≤ b) = false := decide_eq_false h
    clear h
    go_enter Tryz.func158, Tryz.ntmps158
    go_wp2_with fail
    go_ret
    exact ⟨ret_bool HE.out.symm, (by repeat (first | exact Below.refl _ _ | assumption | refine balloc ?_ _ | refine below_trans ?_ (by assumption) | refine Below.drew ?_ | refine below_drewN ?_ _ | refine Below.setCell ?_ (by simp <;> omega) _))⟩
set_option maxHeartbeats 400000 in
theorem rarea_any (a b c d : Int) (w : World) : Calls Tryz.prog 103 #[.agg #[.int .i64 a, .int .i64 b, .int .i64 c, .int .i64 d]] w fun e w' => e = .returned (.bool (!wildB a b c d)) ∧ Below w.heap.size w w' := by
  go_enter Tryz.func103, Tryz.ntmps103
  go_wp2_with (go_at_call 158; refine (rspan_any _ _ _).mono ?_; rintro e w' ⟨rfl, hb⟩; obtain ⟨hc, hf⟩ := bcell hb; have hz := hb.size; (try simp at hz))
  all_goals (go_ret; exact ⟨ret_bool (by simp [wildB, *]), (by repeat (first | exact Below.refl _ _ | assumption | refine balloc ?_ _ | refine below_trans ?_ (by assumption) | refine Below.drew ?_ | refine below_drewN ?_ _ | refine Below.setCell ?_ (by simp <;> omega) _))⟩)
set_option maxHeartbeats 400000 in
theorem rside_any (cx cy size cols rows : Int) (pv : Value) (w : World) (h1 : 1 ≤ size) (h2 : size ≤ 100000) : Calls Tryz.prog 160 #[.agg #[.int .i64 cx, .int .i64 cy, .int .i64 size, .int .i64 cols, .int .i64 rows, pv]] w fun e w' => e = .returned (.int .i64 (1000 * size)) ∧ Below w.heap.size w w' := by
  go_enter Tryz.func160, Tryz.ntmps160
  go_wp2_with fail
  go_ret
  exact ⟨rfl, (by repeat (first | exact Below.refl _ _ | assumption | refine balloc ?_ _ | refine below_trans ?_ (by assumption) | refine Below.drew ?_ | refine below_drewN ?_ _ | refine Below.setCell ?_ (by simp <;> omega) _))⟩
set_option maxHeartbeats 800000 in
theorem rcheck_any (cx cy size cols rows : Int) (pv : Value) (zs : List Int) (w : World) (hv : IntsAt w pv zs) (hn : zs.length ≤ 9223372036854775806) :
    Calls Tryz.prog 36 #[.agg #[.int .i64 cx, .int .i64 cy, .int .i64 size, .int .i64 cols, .int .i64 rows, pv]] w fun e w' =>
      e = ErrTup (chkPart cx cy size cols rows zs) (chkAt cx cy size cols rows zs) (chkE cx cy size cols rows zs) ∧ Below w.heap.size w w' := by
  have hv1 := hv.below (balloc (Below.refl _ w) (.cells #[.int .i64 cx, .int .i64 cy, .int .i64 size, .int .i64 cols, .int .i64 rows, pv] 42))
  obtain ⟨a, c, rfl, hx⟩ := hv
  clear hx
  have HV := Lib.hid hv1
  clear hv1
  by_cases hm : mapB cx cy size cols rows = true
  · have HM := Lib.hid hm
    have HM2 : Hid ((plB cx cy || outB size 1 100000 || outB cols 1 20 || outB rows 1 20) = true) := show _ = _ from by rw [← hm]; unfold mapB plB; rfl
    clear hm
    go_enter Tryz.func36, Tryz.ntmps36
    go_wp2_with (first | (go_at_call 93; refine (place_any _ _ _).mono ?_; rintro e w' ⟨rfl, hb⟩; obtain ⟨hc, hf⟩ := bcell hb; have hz := hb.size; (try simp at hz)) | (go_at_call 69; refine (in_any _ _ _ _).mono ?_; rintro e w' ⟨rfl, rfl⟩))
    all_goals (first
      | (exfalso; have hx := HM2.out; simp [*] at hx; done)
      | (go_ret3; refine ⟨ret_tup3 (vint ?_) (vint ?_) (vint ?_), (by repeat (first | exact Below.refl _ _ | assumption | refine balloc ?_ _ | refine below_trans ?_ (by assumption) | refine Below.drew ?_ | refine below_drewN ?_ _ | refine Below.setCell ?_ (by simp <;> omega) _))⟩ <;> (simp [chkPart, chkAt, chkE, HM.out]; done)))
  · have hm' : mapB cx cy size cols rows = false := by simpa using hm
    have hbd := mapB_false.1 hm'
    have e1 : plB cx cy = false := by unfold plB; rw [offB_false.2 (by omega), offB_false.2 (by omega)]; rfl
    have e3 : outB size 1 100000 = false := outB_false.2 (by omega)
    have e4 : outB cols 1 20 = false := outB_false.2 (by omega)
    have e5 : outB rows 1 20 = false := outB_false.2 (by omega)
    have p1 : 0 ≤ cols * rows := Int.mul_nonneg (by omega) (by omega)
    have p2 : cols * rows ≤ 400 := Int.le_trans (Int.mul_le_mul (c := 20) (d := 20) (by omega) (by omega) (by omega) (by omega)) (by omega)
    clear hbd
    have HM := Lib.hid hm'
    clear hm hm'
    have hA := cellsNew w #[.int .i64 cx, .int .i64 cy, .int .i64 size, .int .i64 cols, .int .i64 rows, .slice a zs.length c] 42
    have HA := Lib.hid hA
    clear hA
    go_enter Tryz.func36, Tryz.ntmps36
    go_wp2_with fail
    have hB : Below w.heap.size w (w.alloc (.cells #[.int .i64 cx, .int .i64 cy, .int .i64 size, .int .i64 cols, .int .i64 rows, .slice a zs.length c] 42)) := (by repeat (first | exact Below.refl _ _ | assumption | refine balloc ?_ _ | refine below_trans ?_ (by assumption) | refine Below.drew ?_ | refine below_drewN ?_ _ | refine Below.setCell ?_ (by simp <;> omega) _))
    generalize w.alloc (.cells #[.int .i64 cx, .int .i64 cy, .int .i64 size, .int .i64 cols, .int .i64 rows, .slice a zs.length c] 42) = W0 at *
    refine (place_any _ _ _).mono ?_
    rintro e w1 ⟨rfl, hb1⟩
    have hA := HA.out.below hb1
    have HV1 := Lib.hid (HV.out.below hb1)
    have hB := below_trans hB hb1
    clear hb1
    obtain ⟨m0, m1, m2, m3, m4, m5⟩ := cells6 hA
    by_cases hlen : (zs.length : Int) = cols * rows
    · have hx : ((zs.length : Int) != cols * rows) = false := by simpa using hlen
      have HLN := Lib.hid hlen
      clear hlen
      go_wp2_with (go_at_call 69; refine (in_any _ _ _ _).mono ?_; rintro e w' ⟨rfl, rfl⟩)
      go_loop [5] (fun i => ∃ k : Nat, k ≤ zs.length ∧ i = .int .i64 k ∧ Hid (idxP outP zs 0 = idxP outP (zs.drop k) k)) (fun i => zs.length - (intOf i).toNat)
      case atStart => exact ⟨0, Nat.zero_le _, rfl, rfl⟩
      case round =>
        obtain ⟨k, hk, rfl, HI⟩ := hrel
        by_cases hlt : k < zs.length
        · obtain ⟨a', c', hac, h0 | ⟨b, off, rfl, hb, hc⟩⟩ := HV1.out
          · omega
          · simp only [Value.slice.injEq] at hac
            obtain ⟨rfl, _, rfl⟩ := hac
            have hck := hc k (by omega)
            unfold intF at hck
            have HS := Lib.hid (idxP_drop outP zs k hlt)
            have hge : zs[k]?.getD 0 = zs[k] := by simp [hlt]
            rw [hge] at hck
            have HO := Lib.hid (fun W => in_any zs[k] 0 1000000 W)
            have HP : Hid (outP zs[k] = outB zs[k] 0 1000000) := show _ = _ from rfl
            generalize zs[k] = z at *
            clear hc hge
            cases ho : outB z 0 1000000 with
            | true =>
              simp only [ho, Bool.not_true] at HO
              have HP := Lib.hid (HP.out.trans ho)
              clear ho
              go_wp2_with fail
              refine (HO.out _).mono ?_
              rintro e w' ⟨rfl, rfl⟩
              go_wp2_with fail
              go_ret3
              have hI : idxP outP zs 0 = (k : Int) := by rw [HI.out, HS.out, if_pos HP.out]
              refine ⟨ret_tup3 (vint ?_) (vint ?_) (vint ?_), hB⟩ <;> (simp [chkPart, chkAt, chkE, HM.out, HLN.out, hI]; done)
            | false =>
              simp only [ho, Bool.not_false] at HO
              have HP := Lib.hid (HP.out.trans ho)
              clear ho
              go_wp2_with fail
              refine (HO.out _).mono ?_
              rintro e w' ⟨rfl, rfl⟩
              go_wp2_with fail
              go_round
              case rel => exact ⟨k + 1, by omega, by go_num, by unfold Hid; rw [HI.out, HS.out, if_neg (by rw [HP.out]; simp)]⟩
              case measure => simp [intOf]; omega
        · obtain rfl : k = zs.length := by omega
          go_wp2_with fail
          go_ret3
          have hI : idxP outP zs 0 = -1 := by rw [HI.out, idxP_end]
          refine ⟨ret_tup3 (vint ?_) (vint ?_) (vint ?_), hB⟩ <;> (simp [chkPart, chkAt, chkE, HM.out, HLN.out, hI]; done)
    · have hx : ((zs.length : Int) != cols * rows) = true := by simpa using hlen
      have HLN := Lib.hid hlen
      clear hlen
      go_wp2_with (go_at_call 69; refine (in_any _ _ _ _).mono ?_; rintro e w' ⟨rfl, rfl⟩)
      go_ret3
      refine ⟨ret_tup3 (vint ?_) (vint ?_) (vint ?_), hB⟩ <;> (simp [chkPart, chkAt, chkE, HM.out, HLN.out]; done)
set_option maxHeartbeats 400000 in
theorem rgood_any (cx cy size cols rows : Int) (pv : Value) (zs : List Int) (w : World) (hv : IntsAt w pv zs) (hn : zs.length ≤ 9223372036854775806) :
    Calls Tryz.prog 102 #[.agg #[.int .i64 cx, .int .i64 cy, .int .i64 size, .int .i64 cols, .int .i64 rows, pv]] w fun e w' => e = .returned (.int .i64 (chkE cx cy size cols rows zs)) ∧ Below w.heap.size w w' := by
  have HV := Lib.hid hv
  clear hv
  have HC := Lib.hid (fun W h => rcheck_any cx cy size cols rows pv zs W h hn)
  unfold ErrTup at HC
  generalize chkPart cx cy size cols rows zs = A0 at *
  generalize chkAt cx cy size cols rows zs = A1 at *
  generalize chkE cx cy size cols rows zs = A2 at *
  go_enter Tryz.func102, Tryz.ntmps102
  go_wp2_with fail
  refine (HC.out _ (HV.out.below (balloc (Below.refl _ _) _))).mono ?_
  rintro e w1 ⟨rfl, hb1⟩
  go_wp2_with fail
  go_ret
  exact ⟨rfl, below_trans (balloc (Below.refl _ _) _) hb1⟩
end Go.Proofs.YtmglbegbijofkaaGreatDoor
