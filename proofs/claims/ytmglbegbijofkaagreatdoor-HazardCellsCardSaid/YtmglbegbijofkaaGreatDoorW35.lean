import Derived.Test.YtmglbegbijofkaaGreatDoorW34
set_option linter.unusedVariables false
set_option linter.unusedSimpArgs false
namespace Go.Proofs.YtmglbegbijofkaaGreatDoor
open Go.RowKit

theorem wild_pl (px py : Int) : wildB px px py py = plB px py := by
  unfold wildB badB plB
  cases offB px <;> cases offB py <;> simp
def ceV (k : Int) (l : List Int) : Int := if k ≠ 0 then 0 else match l with | [] => -1 | z :: _ => z
set_option maxRecDepth 100000 in
set_option maxHeartbeats 800000 in
theorem Cell_any (cx cy size cols rows : Int) (pv : Value) (zs : List Int) (px py : Int) (w : World) (hv : IntsAt w pv zs) (hn : zs.length ≤ 9223372036854775806) :
    Calls Tryz.prog 39 #[.agg #[.int .i64 cx, .int .i64 cy, .int .i64 size, .int .i64 cols, .int .i64 rows, pv], .agg #[.int .i64 px, .int .i64 py]] w fun e w' =>
      e = ErrPair (ceV (clE cx cy size cols rows zs px px py py) (clL cx cy size cols rows zs px px py py)) (clE cx cy size cols rows zs px px py py) ∧ Below w.heap.size w w' := by
  obtain ⟨a, c, rfl, hx⟩ := id hv
  clear hx
  have HV := Lib.hid hv
  clear hv
  have HC := Lib.hid (fun W (h : IntsAt W (.slice a zs.length c) zs) => Cells_any cx cy size cols rows _ zs px px py py W h hn)
  generalize clE cx cy size cols rows zs px px py py = k at *
  generalize clL cx cy size cols rows zs px px py py = L at *
  generalize clM cx cy size cols rows zs px px py py = mo at *
  go_enter Tryz.func39, Tryz.ntmps39
  go_wp2_with fail
  obtain ⟨hM, hA, hz, hB⟩ := alloc2 w #[.int .i64 cx, .int .i64 cy, .int .i64 size, .int .i64 cols, .int .i64 rows, .slice a zs.length c] #[.int .i64 px, .int .i64 py] 42 39
  clear hz
  generalize (w.alloc (.cells #[.int .i64 cx, .int .i64 cy, .int .i64 size, .int .i64 cols, .int .i64 rows, .slice a zs.length c] 42)).alloc (.cells #[.int .i64 px, .int .i64 py] 39) = W0 at *
  refine (HC.out _ (HV.out.below hB)).mono ?_
  rintro e w1 ⟨v, rfl, hown, hb1⟩
  have hB := below_trans hB hb1
  have hin := ints_at_row hown
  obtain ⟨a1, c1, rfl, hr⟩ := hin
  clear hown hb1
  by_cases hk0 : k = 0
  · subst hk0
    cases L with
    | nil =>
      go_wp2_with fail
      go_ret2
      exact ⟨rfl, hB⟩
    | cons z t =>
      rcases hr with h0 | ⟨b, off, rfl, hb, hc⟩
      · simp at h0
      · have hc0 := hc 0 (by simp)
        have e0 : intF (z :: t) 0 = .int .i64 z := by simp [intF]
        rw [e0, Nat.add_zero] at hc0
        have hl1 : (((z :: t).length : Int) == 0) = false := by rw [beq_eq_false_iff_ne]; simp; omega
        have hl2 : (0 : Int) < ((z :: t).length : Int) := by simp <;> omega
        have hl3 : 0 < (z :: t).length := by simp
        have HCV : Hid (ceV 0 (z :: t) = z) := show _ = _ from rfl
        generalize (z :: t).length = n at *
        clear hc e0
        go_wp2_with fail
        go_ret2
        exact ⟨ret_tup2 (vint HCV.out.symm) rfl, hB⟩
  · have hkb : (k != 0) = true := by simpa using hk0
    have HCV : Hid (ceV k L = 0) := show _ = _ from by unfold ceV; simp [hk0]
    clear hk0
    go_wp2_with fail
    go_ret2
    exact ⟨ret_tup2 (vint HCV.out.symm) rfl, hB⟩
theorem clL_zero {cx cy size cols rows : Int} {zs : List Int} {xl xh yl yh : Int} (h : clE cx cy size cols rows zs xl xh yl yh = 0) : clL cx cy size cols rows zs xl xh yl yh = rowsL (stepsLo xl cx (1000 * size)) (stepsLo yl cy (1000 * size)) cols (stepsHi xh cx (1000 * size) cols - stepsLo xl cx (1000 * size) + 1).toNat (stepsHi yh cy (1000 * size) rows - stepsLo yl cy (1000 * size) + 1).toNat := by
  unfold clL; rw [if_pos h]
set_option maxRecDepth 100000 in
set_option maxHeartbeats 800000 in
theorem RCell_any (cx cy size cols rows : Int) (pv : Value) (zs : List Int) (px py : Int) (w : World) (hv : IntsAt w pv zs) (hn : zs.length ≤ 9223372036854775806) :
    Calls Tryz.prog 40 #[.agg #[.int .i64 cx, .int .i64 cy, .int .i64 size, .int .i64 cols, .int .i64 rows, pv], .agg #[.int .i64 px, .int .i64 py]] w fun e w' =>
      e = ErrPair (ceV (clE cx cy size cols rows zs px px py py) (clL cx cy size cols rows zs px px py py)) (clE cx cy size cols rows zs px px py py) ∧ Below w.heap.size w w' := by
  obtain ⟨a, c, rfl, hx⟩ := id hv
  clear hx
  have HV := Lib.hid hv
  clear hv
  have HC := Lib.hid (fun W (h : IntsAt W (.slice a zs.length c) zs) => rgood_any cx cy size cols rows _ zs W h hn)
  have HW := Lib.hid (fun W => place_any px py W)
  generalize hk : chkE cx cy size cols rows zs = k at *
  have HK := Lib.hid hk
  clear hk
  by_cases hk0 : k = 0
  · subst hk0
    obtain ⟨hmb, hzl, hix⟩ := chkE_zero HK.out
    have hbd := mapB_false.1 hmb
    obtain ⟨⟨g1, g2⟩, ⟨g3, g4⟩, ⟨g5, g6⟩, ⟨g7, g8⟩, ⟨g9, g10⟩⟩ := hbd
    have hz4 : zs.length ≤ 400 := by
      have p2 : cols * rows ≤ 400 := Int.le_trans (Int.mul_le_mul (c := 20) (d := 20) (by omega) (by omega) (by omega) (by omega)) (by omega)
      omega
    have HZL := Lib.hid hzl
    clear hmb hzl hix
    cases hw : plB px py with
    | true =>
      simp only [hw, Bool.not_true] at HW
      have HE : Hid (clE cx cy size cols rows zs px px py py = 7) := show _ = _ from by unfold clE; rw [HK.out, wild_pl, hw]; simp
      clear hw
      have HCV : Hid (ErrPair (ceV (clE cx cy size cols rows zs px px py py) (clL cx cy size cols rows zs px px py py)) (clE cx cy size cols rows zs px px py py) = ErrPair 0 7) := show _ = _ from by rw [HE.out]; rfl
      go_enter Tryz.func40, Tryz.ntmps40
      go_wp2_with fail
      obtain ⟨hM, hA, hz, hB⟩ := alloc2 w #[.int .i64 cx, .int .i64 cy, .int .i64 size, .int .i64 cols, .int .i64 rows, .slice a zs.length c] #[.int .i64 px, .int .i64 py] 42 39
      clear hz
      generalize (w.alloc (.cells #[.int .i64 cx, .int .i64 cy, .int .i64 size, .int .i64 cols, .int .i64 rows, .slice a zs.length c] 42)).alloc (.cells #[.int .i64 px, .int .i64 py] 39) = W0 at *
      refine (HC.out _ (HV.out.below hB)).mono ?_
      rintro e w1 ⟨rfl, hb1⟩
      have hA := hA.below hb1
      have hB := below_trans hB hb1
      obtain ⟨a0, a1⟩ := cells2 hA
      go_wp2_with fail
      refine (HW.out _).mono ?_
      rintro e w2 ⟨rfl, hb2⟩
      have hB := below_trans hB hb2
      go_wp2_with fail
      go_ret2
      exact ⟨by rw [HCV.out]; rfl, hB⟩
    | false =>
      simp only [hw, Bool.not_false] at HW
      have HE : Hid (clE cx cy size cols rows zs px px py py = 0) := show _ = _ from by unfold clE; rw [HK.out, wild_pl, hw]; simp
      clear hw
      have HCE := Lib.hid (fun W (h : IntsAt W (.slice a zs.length c) zs) => rcells_any cx cy size cols rows _ zs px px py py W h g1 g2 g3 g4 g5 g6 g7 g8 hz4)
      have HLE : Hid (clL cx cy size cols rows zs px px py py = flL cx cy (1000 * size) cols px px py py zs.length) := show _ = _ from (clL_zero HE.out).trans (flL_rows g5 g7 g9 HZL.out).symm
      have HCV : Hid (ErrPair (ceV (clE cx cy size cols rows zs px px py py) (clL cx cy size cols rows zs px px py py)) (clE cx cy size cols rows zs px px py py) = ErrPair (ceV 0 (flL cx cy (1000 * size) cols px px py py zs.length)) 0) := show _ = _ from by rw [HE.out, HLE.out]
      clear HLE
      generalize flL cx cy (1000 * size) cols px px py py zs.length = L at *
      go_enter Tryz.func40, Tryz.ntmps40
      go_wp2_with fail
      obtain ⟨hM, hA, hz, hB⟩ := alloc2 w #[.int .i64 cx, .int .i64 cy, .int .i64 size, .int .i64 cols, .int .i64 rows, .slice a zs.length c] #[.int .i64 px, .int .i64 py] 42 39
      clear hz
      generalize (w.alloc (.cells #[.int .i64 cx, .int .i64 cy, .int .i64 size, .int .i64 cols, .int .i64 rows, .slice a zs.length c] 42)).alloc (.cells #[.int .i64 px, .int .i64 py] 39) = W0 at *
      refine (HC.out _ (HV.out.below hB)).mono ?_
      rintro e w1 ⟨rfl, hb1⟩
      have hA := hA.below hb1
      have hM := hM.below hb1
      have hB := below_trans hB hb1
      obtain ⟨a0, a1⟩ := cells2 hA
      go_wp2_with fail
      refine (HW.out _).mono ?_
      rintro e w2 ⟨rfl, hb2⟩
      clear a0 a1
      have hA := hA.below hb2
      have hM := hM.below hb2
      have hB := below_trans hB hb2
      obtain ⟨a0, a1⟩ := cells2 hA
      obtain ⟨m0, m1, m2, m3, m4, m5⟩ := cells6 hM
      go_wp2_with fail
      refine (HCE.out _ (HV.out.below hB)).mono ?_
      rintro e w3 ⟨v, rfl, hown, hb3⟩
      have hB := below_trans hB hb3
      have hin := ints_at_row hown
      obtain ⟨a1, c1, rfl, hr⟩ := hin
      clear hown hb3
      cases L with
      | nil =>
        go_wp2_with fail
        go_ret2
        exact ⟨by rw [HCV.out]; rfl, hB⟩
      | cons z t =>
        rcases hr with h0 | ⟨b, off, rfl, hb, hc⟩
        · simp at h0
        · have hc0 := hc 0 (by simp)
          have e0 : intF (z :: t) 0 = .int .i64 z := by simp [intF]
          rw [e0, Nat.add_zero] at hc0
          have hl1 : (((z :: t).length : Int) == 0) = false := by rw [beq_eq_false_iff_ne]; simp; omega
          have hl2 : (0 : Int) < ((z :: t).length : Int) := by simp <;> omega
          have hl3 : 0 < (z :: t).length := by simp
          have HCW : Hid (ceV 0 (z :: t) = z) := show _ = _ from rfl
          generalize (z :: t).length = n at *
          generalize ceV 0 (z :: t) = q at *
          clear hc e0
          go_wp2_with fail
          go_ret2
          exact ⟨by rw [HCV.out, HCW.out]; rfl, hB⟩
  · have hkb : (k != 0) = true := by simpa using hk0
    have hkc : (k == 0) = false := by simpa using hk0
    have HE : Hid (clE cx cy size cols rows zs px px py py = k) := show _ = _ from by unfold clE; rw [HK.out]; simp [hk0]
    have HCV : Hid (ErrPair (ceV (clE cx cy size cols rows zs px px py py) (clL cx cy size cols rows zs px px py py)) (clE cx cy size cols rows zs px px py py) = ErrPair 0 k) := show _ = _ from by rw [HE.out]; unfold ceV; simp [hk0]
    clear hk0 HE
    go_enter Tryz.func40, Tryz.ntmps40
    go_wp2_with fail
    obtain ⟨hM, hA, hz, hB⟩ := alloc2 w #[.int .i64 cx, .int .i64 cy, .int .i64 size, .int .i64 cols, .int .i64 rows, .slice a zs.length c] #[.int .i64 px, .int .i64 py] 42 39
    clear hz
    generalize (w.alloc (.cells #[.int .i64 cx, .int .i64 cy, .int .i64 size, .int .i64 cols, .int .i64 rows, .slice a zs.length c] 42)).alloc (.cells #[.int .i64 px, .int .i64 py] 39) = W0 at *
    refine (HC.out _ (HV.out.below hB)).mono ?_
    rintro e w1 ⟨rfl, hb1⟩
    have hB := below_trans hB hb1
    go_wp2_with fail
    go_ret2
    exact ⟨by rw [HCV.out]; rfl, hB⟩
theorem clL_len {cx cy size cols rows : Int} {zs : List Int} {xl xh yl yh : Int} : (clL cx cy size cols rows zs xl xh yl yh).length ≤ 1000000 := by
  by_cases h : clE cx cy size cols rows zs xl xh yl yh = 0
  · have hk : chkE cx cy size cols rows zs = 0 := by
      unfold clE at h
      by_cases h0 : chkE cx cy size cols rows zs = 0
      · exact h0
      · rw [if_pos h0] at h; exact h
    obtain ⟨hmb, hzl, _⟩ := chkE_zero hk
    obtain ⟨⟨g1, g2⟩, ⟨g3, g4⟩, ⟨g5, g6⟩, ⟨g7, g8⟩, ⟨g9, g10⟩⟩ := mapB_false.1 hmb
    rw [clL_zero h, ← flL_rows g5 g7 g9 hzl]
    have h1 := flL_len cx cy (1000 * size) cols xl xh yl yh zs.length
    have p2 : cols * rows ≤ 400 := Int.le_trans (Int.mul_le_mul (c := 20) (d := 20) (by omega) (by omega) (by omega) (by omega)) (by omega)
    omega
  · unfold clL; rw [if_neg h]; simp
end Go.Proofs.YtmglbegbijofkaaGreatDoor
