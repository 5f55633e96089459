import Derived.Test.YtmglbegbijofkaaGreatDoorBx
set_option linter.unusedVariables false
set_option linter.unusedSimpArgs false
namespace Go.Proofs.YtmglbegbijofkaaGreatDoor
open Go.RowKit

set_option maxRecDepth 100000 in
set_option maxHeartbeats 800000 in
/-- the reference's Name -/
theorem rname_any (s : ByteArray) (w : World) (hs : s.size ≤ 9223372036854775806) :
    Calls Tryz.prog 92 #[.string s] w fun e w' => e = .returned (.bool (nameB s.data.toList)) ∧ w = w' := by
  have e0 : s.data.toList.length = s.size := by simp
  by_cases h1 : s.size < 1
  · have HN : Hid (nameB s.data.toList = false) := show _ = _ from by unfold nameB outB; rw [e0]; simp; omega
    clear e0
    go_enter Tryz.func92, Tryz.ntmps92
    go_wp2_with fail
    go_ret
    exact ⟨ret_bool HN.out.symm, rfl⟩
  · by_cases h2 : 24 < s.size
    · have HN : Hid (nameB s.data.toList = false) := show _ = _ from by unfold nameB outB; rw [e0]; simp; omega
      clear e0
      go_enter Tryz.func92, Tryz.ntmps92
      go_wp2_with fail
      go_ret
      exact ⟨ret_bool HN.out.symm, rfl⟩
    · have HN : Hid (nameB s.data.toList = !badFrom s.data.toList 0) := show _ = _ from by
        have : outB s.data.toList.length 1 24 = false := outB_false.2 (by rw [e0]; omega)
        unfold nameB; rw [this]; simp
      have HE0 := Lib.hid e0
      clear e0
      go_enter Tryz.func92, Tryz.ntmps92
      go_wp2_with fail
      go_loop [3] (fun i => ∃ k : Nat, k ≤ s.size ∧ i = .int .i64 k ∧ Hid (badFrom s.data.toList 0 = badFrom (s.data.toList.drop k) k)) (fun i => s.size - (intOf i).toNat)
      case atStart => exact ⟨0, Nat.zero_le _, rfl, rfl⟩
      case round =>
        obtain ⟨k, hk, rfl, HI⟩ := hrel
        by_cases hlt : k < s.size
        · have HS : Hid (badFrom (s.data.toList.drop k) k = (chBad k (s[k].toNat : Int) || badFrom (s.data.toList.drop (k + 1)) (k + 1))) := show _ = _ from by
            have h := badFrom_drop s.data.toList k (by rw [HE0.out]; exact hlt)
            have hg : s.data.toList.getD k 0 = s[k] := by
              rw [List.getD_eq_getElem?_getD, List.getElem?_eq_getElem (by rw [HE0.out]; exact hlt)]
              simp
              rfl
            rw [hg] at h
            exact h
          have hx0 : (0 : Int) ≤ (s[k].toNat : Int) := by omega
          have hx1 : (s[k].toNat : Int) < 256 := by have := s[k].toNat_lt; omega
          have hx : (s[k].toNat : Int) < 45 ∨ (45 ≤ (s[k].toNat : Int) ∧ (s[k].toNat : Int) ≤ 45) ∨ (46 ≤ (s[k].toNat : Int) ∧ (s[k].toNat : Int) ≤ 47) ∨ (48 ≤ (s[k].toNat : Int) ∧ (s[k].toNat : Int) ≤ 57) ∨ (58 ≤ (s[k].toNat : Int) ∧ (s[k].toNat : Int) ≤ 96) ∨ (97 ≤ (s[k].toNat : Int) ∧ (s[k].toNat : Int) ≤ 122) ∨ 123 ≤ (s[k].toNat : Int) := by omega
          generalize hgx : (s[k].toNat : Int) = x at *
          have HGX := Lib.hid hgx
          clear hgx
          have hkk : k ≤ 0 ∨ 1 ≤ k := by omega
          rcases hx with h | ⟨h, h'⟩ | ⟨h, h'⟩ | ⟨h, h'⟩ | ⟨h, h'⟩ | ⟨h, h'⟩ | h <;> rcases hkk with hk0 | hk0
          all_goals (try have q1 : ((k : Int) == 0) = false := beq_eq_false_iff_ne.2 (by omega))
          all_goals (try have q5 : (x == 45) = false := beq_eq_false_iff_ne.2 (by omega))
          all_goals (try have q6 : (x == 45) = true := beq_iff_eq.2 (by omega))
          all_goals (try have q3 : decide (x ≤ 57) = false := decide_eq_false (by omega))
          all_goals (try have q4 : decide (x ≤ 122) = false := decide_eq_false (by omega))
          all_goals (have HGY := HGX.out; clear HGX)
          all_goals (go_wp2_with fail)
          all_goals (first
            | (go_ret; refine ⟨ret_bool ?_, rfl⟩
               have hcb : chBad k x = true := by (unfold chBad; simp; omega)
               rw [HN.out, HI.out, HS.out, hcb]; simp; done)
            | (go_round
               case rel =>
                 have hcb : chBad k x = false := by (unfold chBad; simp; omega)
                 exact ⟨k + 1, by omega, by go_num, by unfold Hid; rw [HI.out, HS.out, hcb]; simp⟩
               case measure => (simp [intOf]; omega))
            | (obtain rfl : k = 0 := by omega
               have hcb : chBad 0 x = false := by (unfold chBad; simp; omega)
               refine ⟨⟨1, by omega, rfl, ?_⟩, ?_⟩
               · unfold Hid; rw [HI.out, HS.out, hcb]; simp
               · simp [intOf]; omega))
        · obtain rfl : k = s.size := by omega
          go_wp2_with fail
          go_ret
          refine ⟨ret_bool ?_, rfl⟩
          rw [HN.out, HI.out, ← HE0.out, badFrom_end]
          rfl
set_option maxHeartbeats 400000 in
theorem rcoord_any (n : Int) (w : World) : Calls Tryz.prog 151 #[.int .i64 n] w fun e w' => e = .returned (.bool (!offB n)) ∧ w = w' := by
  go_enter Tryz.func151, Tryz.ntmps151
  go_wp2_with (go_at_call 69; refine (in_any _ _ _ _).mono ?_; rintro e w' ⟨rfl, rfl⟩)
  go_ret; exact ⟨rfl, rfl⟩
def plB (x y : Int) : Bool := offB x || offB y
set_option maxHeartbeats 400000 in
theorem place_any (x y : Int) (w : World) : Calls Tryz.prog 93 #[.agg #[.int .i64 x, .int .i64 y]] w fun e w' => e = .returned (.bool (!plB x y)) ∧ Below w.heap.size w w' := by
  go_enter Tryz.func93, Tryz.ntmps93
  go_wp2_with (go_at_call 151; refine (rcoord_any _ _).mono ?_; rintro e w' ⟨rfl, rfl⟩)
  all_goals (go_ret; exact ⟨ret_bool (by simp [plB, *]), (by repeat (first | exact Below.refl _ _ | assumption | refine balloc ?_ _ | refine below_trans ?_ (by assumption) | refine Below.drew ?_ | refine below_drewN ?_ _ | refine Below.setCell ?_ (by simp <;> omega) _))⟩)
theorem rcrB_eq (speed climb low high : Int) : (outB speed 0 1000000 || outB climb 0 1000000 || outB low 0 2000000000 || outB high low 2000000000) = crB speed climb low high := by
  rw [Bool.eq_iff_iff]
  simp only [crB, Bool.or_eq_true, outB_true]
  omega

set_option maxRecDepth 100000 in
set_option maxHeartbeats 1600000 in
/-- the reference's CheckCraft -/
theorem rcraft_any (nm : ByteArray) (speed climb low high : Int) (v : Value) (ss : List Sight) (w : World) (hv : SightsAt w v ss) (hs : nm.size ≤ 9223372036854775806) (hn : ss.length ≤ 9223372036854775806) :
    Calls Tryz.prog 29 #[.agg #[.string nm, .int .i64 speed, .int .i64 climb, .int .i64 low, .int .i64 high, v]] w fun e w' =>
      e = ErrPair (crI nm.data.toList speed climb low high ss) (crE nm.data.toList speed climb low high ss) ∧ Below w.heap.size w w' := by
  obtain ⟨a, c, rfl, hx⟩ := id hv
  clear hx
  have HV := Lib.hid hv
  clear hv
  go_enter Tryz.func29, Tryz.ntmps29
  go_wp2_with fail
  have hM0 := cellsNew w #[.string nm, .int .i64 speed, .int .i64 climb, .int .i64 low, .int .i64 high, .slice a ss.length c] 63
  have hB1 : Below w.heap.size w (w.alloc (.cells #[.string nm, .int .i64 speed, .int .i64 climb, .int .i64 low, .int .i64 high, .slice a ss.length c] 63)) := (by repeat (first | exact Below.refl _ _ | assumption | refine balloc ?_ _ | refine below_trans ?_ (by assumption) | refine Below.drew ?_ | refine below_drewN ?_ _ | refine Below.setCell ?_ (by simp <;> omega) _))
  have HV1 := Lib.hid (HV.out.below hB1)
  have HM := Lib.hid hM0
  clear hM0 HV
  generalize w.alloc (.cells #[.string nm, .int .i64 speed, .int .i64 climb, .int .i64 low, .int .i64 high, .slice a ss.length c] 63) = W0 at *
  obtain ⟨m0, m1, m2, m3, m4, m5⟩ := cells6 HM.out
  refine (rname_any nm W0 hs).mono ?_
  rintro e w1 ⟨rfl, rfl⟩
  cases hnm : nameB nm.data.toList with
  | false =>
    have HN := Lib.hid hnm
    clear hnm
    go_wp2_with fail
    go_ret2
    exact ⟨ret_tup2 (vint (by simp [crI, HN.out])) (vint (by simp [crE, HN.out])), hB1⟩
  | true =>
    have HN := Lib.hid hnm
    clear hnm
    cases hcb : crB speed climb low high with
    | true =>
      have HC := Lib.hid hcb
      have HC2 := Lib.hid ((rcrB_eq speed climb low high).trans hcb)
      clear hcb
      go_wp2_with (go_at_call 69; refine (in_any _ _ _ _).mono ?_; rintro e w' ⟨rfl, rfl⟩)
      all_goals (first
        | (exfalso; have hq := HC2.out; simp [*] at hq; done)
        | (go_ret2; refine ⟨ret_tup2 (vint ?_) (vint ?_), hB1⟩ <;> simp [crI, crE, HN.out, HC.out]))
    | false =>
      have hcr := crB_false.1 hcb
      have e1 : outB speed 0 1000000 = false := outB_false.2 (by omega)
      have e2 : outB climb 0 1000000 = false := outB_false.2 (by omega)
      have e3 : outB low 0 2000000000 = false := outB_false.2 (by omega)
      have e4 : outB high low 2000000000 = false := outB_false.2 (by omega)
      have HC := Lib.hid hcb
      clear hcb hcr
      cases hln : outB ss.length 1 10 with
      | true =>
        have HL := Lib.hid hln
        go_wp2_with (go_at_call 69; refine (in_any _ _ _ _).mono ?_; rintro e w' ⟨rfl, rfl⟩)
        go_ret2
        refine ⟨ret_tup2 (vint ?_) (vint ?_), hB1⟩ <;> simp [crI, crE, HN.out, HC.out, HL.out]
      | false =>
        have HL := Lib.hid hln
        go_wp2_with (go_at_call 69; refine (in_any _ _ _ _).mono ?_; rintro e w' ⟨rfl, rfl⟩)
        clear e1 e2 e3 e4 hln m0 m1 m2 m3 m4 m5
        go_loopw [4] (fun i wr => ∃ k : Nat, k ≤ ss.length ∧ i = .int .i64 k ∧ Below W0.heap.size W0 wr ∧ Hid (sgI ss ss.length 0 = sgI ss (ss.length - k) k) ∧ Hid (sgE ss ss.length 0 = sgE ss (ss.length - k) k)) (fun i _ => ss.length - (intOf i).toNat)
        case atStart => exact ⟨0, Nat.zero_le _, rfl, Below.refl _ _, rfl, rfl⟩
        case round =>
          obtain ⟨k, hk, rfl, hBw, HI, HE⟩ := hrel
          have m5 := (cells6 (HM.out.below hBw)).2.2.2.2.2
          by_cases hlt : k < ss.length
          · have hrow := HV1.out.below hBw
            obtain ⟨a', c', hac, h0 | ⟨b, off, rfl, hb, hc⟩⟩ := hrow
            · omega
            · simp only [Value.slice.injEq] at hac
              obtain ⟨rfl, _, rfl⟩ := hac
              obtain ⟨s0, s1, s2, s3, s4⟩ := sight_cells hc hlt
              have HSI : Hid (sgI ss (ss.length - k) k = if sgEarly ss k then (k : Int) else if sgBad (sgAt ss k) then (k : Int) else sgI ss (ss.length - (k + 1)) (k + 1)) := show _ = _ from by rw [show ss.length - k = (ss.length - (k + 1)) + 1 by omega]; rfl
              have HSE : Hid (sgE ss (ss.length - k) k = if sgEarly ss k then 2 else if sgBad (sgAt ss k) then 7 else sgE ss (ss.length - (k + 1)) (k + 1)) := show _ = _ from by rw [show ss.length - k = (ss.length - (k + 1)) + 1 by omega]; rfl
              by_cases hk0 : 0 < k
              · obtain ⟨q, hq⟩ : ∃ q, q + 1 = k := ⟨k - 1, by omega⟩
                have hd0 : decide ((0 : Int) < (q : Int) + 1) = true := decide_eq_true (by omega)
                have hp0 := alloc_cell (sight_cells hc (show q < ss.length by omega)).1 (.cells #[.int .i64 (sgAt ss k).t, .int .i64 (sgAt ss k).x, .int .i64 (sgAt ss k).y, .int .i64 (sgAt ss k).h, .int .i64 (sgAt ss k).e] 77)
                have hm5 := alloc_cell m5 (.cells #[.int .i64 (sgAt ss k).t, .int .i64 (sgAt ss k).x, .int .i64 (sgAt ss k).y, .int .i64 (sgAt ss k).h, .int .i64 (sgAt ss k).e] 77)
                have hbx := cellsNew wr #[.int .i64 (sgAt ss k).t, .int .i64 (sgAt ss k).x, .int .i64 (sgAt ss k).y, .int .i64 (sgAt ss k).h, .int .i64 (sgAt ss k).e] 77
                have HEq : Hid (sgEarly ss k = decide ((sgAt ss k).t ≤ (sgAt ss q).t)) := show _ = _ from by unfold sgEarly; rw [show k - 1 = q by omega]; simp [hk0]
                generalize sgAt ss k = sg at *
                generalize sgAt ss q = sp at *
                subst hq
                clear hc
                go_wp2_with fail
                have hB3 : Below W0.heap.size W0 (wr.alloc (.cells #[.int .i64 sg.t, .int .i64 sg.x, .int .i64 sg.y, .int .i64 sg.h, .int .i64 sg.e] 77)) := balloc hBw _
                have hbw : b < (wr.alloc (.cells #[.int .i64 sg.t, .int .i64 sg.x, .int .i64 sg.y, .int .i64 sg.h, .int .i64 sg.e] 77)).heap.size := by simp; omega
                clear s0 s1 s2 s3 s4 m5
                generalize wr.alloc (.cells #[.int .i64 sg.t, .int .i64 sg.x, .int .i64 sg.y, .int .i64 sg.h, .int .i64 sg.e] 77) = w3 at *
                obtain ⟨t0, t1, t2, t3, t4⟩ := cells5 hbx
                by_cases hle : sg.t ≤ sp.t
                · go_quiet (fail)
                  go_wp2_with fail
                  go_ret2
                  refine ⟨ret_tup2 (vint ?_) (vint ?_), below_trans hB1 (below_drewN' hB3 _)⟩
                  · simp [crI, HN.out, HC.out, HL.out, HI.out, HSI.out, HEq.out, hle]
                  · simp [crE, HN.out, HC.out, HL.out, HE.out, HSE.out, HEq.out, hle]
                · have HEa : Hid (sgEarly ss (q + 1) = false) := show _ = _ from by rw [HEq.out]; simpa using hle
                  have hle' : sp.t < sg.t := by omega
                  clear hle
                  go_quiet (fail)
                  clear hp0 hm5
                  have HBX : Hid (cellsAt (w3.drewN nq) wr.heap.size 77 #[.int .i64 sg.t, .int .i64 sg.x, .int .i64 sg.y, .int .i64 sg.h, .int .i64 sg.e]) := hbx
                  have hB3 := below_drewN' hB3 nq
                  clear hbx t0 t1 t2 t3 t4
                  generalize w3.drewN nq = w3d at *
                  obtain ⟨t0, t1, t2, t3, t4⟩ := cells5 HBX.out
                  have HO1 := Lib.hid (fun W => in_any sg.t 0 100000 W)
                  have HP := Lib.hid (fun W => place_any sg.x sg.y W)
                  have HO2 := Lib.hid (fun W => in_any sg.h 0 2000000000 W)
                  have HO3 := Lib.hid (fun W => in_any sg.e 0 2000000000 W)
                  have HBE : Hid (sgBad sg = (outB sg.t 0 100000 || plB sg.x sg.y || outB sg.h 0 2000000000 || outB sg.e 0 2000000000)) := show _ = _ from by simp only [sgBad, plB, Bool.or_assoc]
                  cases o1 : outB sg.t 0 100000
                  · simp only [o1, Bool.not_false] at HO1
                    cases o2 : plB sg.x sg.y
                    · simp only [o2, Bool.not_false] at HP
                      cases o3 : outB sg.h 0 2000000000
                      · simp only [o3, Bool.not_false] at HO2
                        cases o4 : outB sg.e 0 2000000000
                        · simp only [o4, Bool.not_false] at HO3
                          have HBD : Hid (sgBad sg = false) := show _ = _ from by rw [HBE.out, o1, o2, o3, o4]; rfl
                          clear o1 o2 o3 o4 HBE
                          go_wp2_with fail
                          refine (HO1.out _).mono ?_
                          rintro e w4 ⟨rfl, rfl⟩
                          go_wp2_with fail
                          refine (HP.out _).mono ?_
                          rintro e w4 ⟨rfl, hb4⟩
                          clear t0 t1 t2 t3 t4
                          obtain ⟨t0, t1, t2, t3, t4⟩ := cells5 (HBX.out.below hb4)
                          have hB4 := below_trans hB3 hb4
                          go_wp2_with fail
                          refine (HO2.out _).mono ?_
                          rintro e w5 ⟨rfl, rfl⟩
                          go_wp2_with fail
                          refine (HO3.out _).mono ?_
                          rintro e w5 ⟨rfl, rfl⟩
                          go_wp2_with fail
                          go_roundw
                          case rel => exact ⟨(q + 1) + 1, by omega, by go_num, hB4, by unfold Hid; rw [HI.out, HSI.out, HEa.out, HBD.out]; simp, by unfold Hid; rw [HE.out, HSE.out, HEa.out, HBD.out]; simp⟩
                          case measure => simp [intOf]; omega
                        · simp only [o4, Bool.not_true] at HO3
                          have HBD : Hid (sgBad sg = true) := show _ = _ from by rw [HBE.out, o4]; simp
                          clear o1 o2 o3 o4 HBE
                          go_wp2_with fail
                          refine (HO1.out _).mono ?_
                          rintro e w4 ⟨rfl, rfl⟩
                          go_wp2_with fail
                          refine (HP.out _).mono ?_
                          rintro e w4 ⟨rfl, hb4⟩
                          clear t0 t1 t2 t3 t4
                          obtain ⟨t0, t1, t2, t3, t4⟩ := cells5 (HBX.out.below hb4)
                          have hB4 := below_trans hB3 hb4
                          go_wp2_with fail
                          refine (HO2.out _).mono ?_
                          rintro e w5 ⟨rfl, rfl⟩
                          go_wp2_with fail
                          refine (HO3.out _).mono ?_
                          rintro e w5 ⟨rfl, rfl⟩
                          go_wp2_with fail
                          go_ret2
                          exact ⟨ret_tup2 (vint (by simp [crI, HN.out, HC.out, HL.out, HI.out, HSI.out, HEa.out, HBD.out])) (vint (by simp [crE, HN.out, HC.out, HL.out, HE.out, HSE.out, HEa.out, HBD.out])), below_trans hB1 hB4⟩
                      · simp only [o3, Bool.not_true] at HO2
                        have HBD : Hid (sgBad sg = true) := show _ = _ from by rw [HBE.out, o3]; simp
                        clear o1 o2 o3 HBE
                        go_wp2_with fail
                        refine (HO1.out _).mono ?_
                        rintro e w4 ⟨rfl, rfl⟩
                        go_wp2_with fail
                        refine (HP.out _).mono ?_
                        rintro e w4 ⟨rfl, hb4⟩
                        clear t0 t1 t2 t3 t4
                        obtain ⟨t0, t1, t2, t3, t4⟩ := cells5 (HBX.out.below hb4)
                        have hB4 := below_trans hB3 hb4
                        go_wp2_with fail
                        refine (HO2.out _).mono ?_
                        rintro e w5 ⟨rfl, rfl⟩
                        go_wp2_with fail
                        go_ret2
                        exact ⟨ret_tup2 (vint (by simp [crI, HN.out, HC.out, HL.out, HI.out, HSI.out, HEa.out, HBD.out])) (vint (by simp [crE, HN.out, HC.out, HL.out, HE.out, HSE.out, HEa.out, HBD.out])), below_trans hB1 hB4⟩
                    · simp only [o2, Bool.not_true] at HP
                      have HBD : Hid (sgBad sg = true) := show _ = _ from by rw [HBE.out, o2]; simp
                      clear o1 o2 HBE
                      go_wp2_with fail
                      refine (HO1.out _).mono ?_
                      rintro e w4 ⟨rfl, rfl⟩
                      go_wp2_with fail
                      refine (HP.out _).mono ?_
                      rintro e w4 ⟨rfl, hb4⟩
                      have hB4 := below_trans hB3 hb4
                      go_wp2_with fail
                      go_ret2
                      exact ⟨ret_tup2 (vint (by simp [crI, HN.out, HC.out, HL.out, HI.out, HSI.out, HEa.out, HBD.out])) (vint (by simp [crE, HN.out, HC.out, HL.out, HE.out, HSE.out, HEa.out, HBD.out])), below_trans hB1 hB4⟩
                  · simp only [o1, Bool.not_true] at HO1
                    have HBD : Hid (sgBad sg = true) := show _ = _ from by rw [HBE.out, o1]; simp
                    clear o1 HBE
                    go_wp2_with fail
                    refine (HO1.out _).mono ?_
                    rintro e w4 ⟨rfl, rfl⟩
                    go_wp2_with fail
                    go_ret2
                    exact ⟨ret_tup2 (vint (by simp [crI, HN.out, HC.out, HL.out, HI.out, HSI.out, HEa.out, HBD.out])) (vint (by simp [crE, HN.out, HC.out, HL.out, HE.out, HSE.out, HEa.out, HBD.out])), below_trans hB1 hB3⟩
              · have hd0 : decide ((0 : Int) < (k : Int)) = false := decide_eq_false (by omega)
                have HEa : Hid (sgEarly ss k = false) := show _ = _ from by unfold sgEarly; simp; omega
                have hbx := cellsNew wr #[.int .i64 (sgAt ss k).t, .int .i64 (sgAt ss k).x, .int .i64 (sgAt ss k).y, .int .i64 (sgAt ss k).h, .int .i64 (sgAt ss k).e] 77
                generalize sgAt ss k = sg at *
                clear hc
                go_wp2_with fail
                have hB3 : Below W0.heap.size W0 (wr.alloc (.cells #[.int .i64 sg.t, .int .i64 sg.x, .int .i64 sg.y, .int .i64 sg.h, .int .i64 sg.e] 77)) := balloc hBw _
                clear s0 s1 s2 s3 s4 m5
                generalize wr.alloc (.cells #[.int .i64 sg.t, .int .i64 sg.x, .int .i64 sg.y, .int .i64 sg.h, .int .i64 sg.e] 77) = w3 at *
                go_quiet (fail)
                have HBX : Hid (cellsAt (w3.drewN nq) wr.heap.size 77 #[.int .i64 sg.t, .int .i64 sg.x, .int .i64 sg.y, .int .i64 sg.h, .int .i64 sg.e]) := hbx
                have hB3 := below_drewN' hB3 nq
                clear hbx
                generalize w3.drewN nq = w3d at *
                obtain ⟨t0, t1, t2, t3, t4⟩ := cells5 HBX.out
                have HO1 := Lib.hid (fun W => in_any sg.t 0 100000 W)
                have HP := Lib.hid (fun W => place_any sg.x sg.y W)
                have HO2 := Lib.hid (fun W => in_any sg.h 0 2000000000 W)
                have HO3 := Lib.hid (fun W => in_any sg.e 0 2000000000 W)
                have HBE : Hid (sgBad sg = (outB sg.t 0 100000 || plB sg.x sg.y || outB sg.h 0 2000000000 || outB sg.e 0 2000000000)) := show _ = _ from by simp only [sgBad, plB, Bool.or_assoc]
                cases o1 : outB sg.t 0 100000
                · simp only [o1, Bool.not_false] at HO1
                  cases o2 : plB sg.x sg.y
                  · simp only [o2, Bool.not_false] at HP
                    cases o3 : outB sg.h 0 2000000000
                    · simp only [o3, Bool.not_false] at HO2
                      cases o4 : outB sg.e 0 2000000000
                      · simp only [o4, Bool.not_false] at HO3
                        have HBD : Hid (sgBad sg = false) := show _ = _ from by rw [HBE.out, o1, o2, o3, o4]; rfl
                        clear o1 o2 o3 o4 HBE
                        go_wp2_with fail
                        refine (HO1.out _).mono ?_
                        rintro e w4 ⟨rfl, rfl⟩
                        go_wp2_with fail
                        refine (HP.out _).mono ?_
                        rintro e w4 ⟨rfl, hb4⟩
                        clear t0 t1 t2 t3 t4
                        obtain ⟨t0, t1, t2, t3, t4⟩ := cells5 (HBX.out.below hb4)
                        have hB4 := below_trans hB3 hb4
                        go_wp2_with fail
                        refine (HO2.out _).mono ?_
                        rintro e w5 ⟨rfl, rfl⟩
                        go_wp2_with fail
                        refine (HO3.out _).mono ?_
                        rintro e w5 ⟨rfl, rfl⟩
                        go_wp2_with fail
                        go_roundw
                        case rel => exact ⟨k + 1, by omega, by go_num, hB4, by unfold Hid; rw [HI.out, HSI.out, HEa.out, HBD.out]; simp, by unfold Hid; rw [HE.out, HSE.out, HEa.out, HBD.out]; simp⟩
                        case measure => simp [intOf]; omega
                      · simp only [o4, Bool.not_true] at HO3
                        have HBD : Hid (sgBad sg = true) := show _ = _ from by rw [HBE.out, o4]; simp
                        clear o1 o2 o3 o4 HBE
                        go_wp2_with fail
                        refine (HO1.out _).mono ?_
                        rintro e w4 ⟨rfl, rfl⟩
                        go_wp2_with fail
                        refine (HP.out _).mono ?_
                        rintro e w4 ⟨rfl, hb4⟩
                        clear t0 t1 t2 t3 t4
                        obtain ⟨t0, t1, t2, t3, t4⟩ := cells5 (HBX.out.below hb4)
                        have hB4 := below_trans hB3 hb4
                        go_wp2_with fail
                        refine (HO2.out _).mono ?_
                        rintro e w5 ⟨rfl, rfl⟩
                        go_wp2_with fail
                        refine (HO3.out _).mono ?_
                        rintro e w5 ⟨rfl, rfl⟩
                        go_wp2_with fail
                        go_ret2
                        exact ⟨ret_tup2 (vint (by simp [crI, HN.out, HC.out, HL.out, HI.out, HSI.out, HEa.out, HBD.out])) (vint (by simp [crE, HN.out, HC.out, HL.out, HE.out, HSE.out, HEa.out, HBD.out])), below_trans hB1 hB4⟩
                    · simp only [o3, Bool.not_true] at HO2
                      have HBD : Hid (sgBad sg = true) := show _ = _ from by rw [HBE.out, o3]; simp
                      clear o1 o2 o3 HBE
                      go_wp2_with fail
                      refine (HO1.out _).mono ?_
                      rintro e w4 ⟨rfl, rfl⟩
                      go_wp2_with fail
                      refine (HP.out _).mono ?_
                      rintro e w4 ⟨rfl, hb4⟩
                      clear t0 t1 t2 t3 t4
                      obtain ⟨t0, t1, t2, t3, t4⟩ := cells5 (HBX.out.below hb4)
                      have hB4 := below_trans hB3 hb4
                      go_wp2_with fail
                      refine (HO2.out _).mono ?_
                      rintro e w5 ⟨rfl, rfl⟩
                      go_wp2_with fail
                      go_ret2
                      exact ⟨ret_tup2 (vint (by simp [crI, HN.out, HC.out, HL.out, HI.out, HSI.out, HEa.out, HBD.out])) (vint (by simp [crE, HN.out, HC.out, HL.out, HE.out, HSE.out, HEa.out, HBD.out])), below_trans hB1 hB4⟩
                  · simp only [o2, Bool.not_true] at HP
                    have HBD : Hid (sgBad sg = true) := show _ = _ from by rw [HBE.out, o2]; simp
                    clear o1 o2 HBE
                    go_wp2_with fail
                    refine (HO1.out _).mono ?_
                    rintro e w4 ⟨rfl, rfl⟩
                    go_wp2_with fail
                    refine (HP.out _).mono ?_
                    rintro e w4 ⟨rfl, hb4⟩
                    have hB4 := below_trans hB3 hb4
                    go_wp2_with fail
                    go_ret2
                    exact ⟨ret_tup2 (vint (by simp [crI, HN.out, HC.out, HL.out, HI.out, HSI.out, HEa.out, HBD.out])) (vint (by simp [crE, HN.out, HC.out, HL.out, HE.out, HSE.out, HEa.out, HBD.out])), below_trans hB1 hB4⟩
                · simp only [o1, Bool.not_true] at HO1
                  have HBD : Hid (sgBad sg = true) := show _ = _ from by rw [HBE.out, o1]; simp
                  clear o1 HBE
                  go_wp2_with fail
                  refine (HO1.out _).mono ?_
                  rintro e w4 ⟨rfl, rfl⟩
                  go_wp2_with fail
                  go_ret2
                  exact ⟨ret_tup2 (vint (by simp [crI, HN.out, HC.out, HL.out, HI.out, HSI.out, HEa.out, HBD.out])) (vint (by simp [crE, HN.out, HC.out, HL.out, HE.out, HSE.out, HEa.out, HBD.out])), below_trans hB1 hB3⟩
          · obtain rfl : k = ss.length := by omega
            go_wp2_with fail
            go_ret2
            refine ⟨ret_tup2 (vint ?_) (vint ?_), below_trans hB1 hBw⟩
            · simp [crI, HN.out, HC.out, HL.out, HI.out, sgI]
            · simp [crE, HN.out, HC.out, HL.out, HE.out, sgE]
end Go.Proofs.YtmglbegbijofkaaGreatDoor
