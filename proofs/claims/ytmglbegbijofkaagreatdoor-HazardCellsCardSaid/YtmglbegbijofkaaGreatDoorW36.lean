import Derived.Test.YtmglbegbijofkaaGreatDoorW35
import Derived.Test.YtmglbegbijofkaaGreatDoorW22
set_option linter.unusedVariables false
set_option linter.unusedSimpArgs false
namespace Go.Proofs.YtmglbegbijofkaaGreatDoor
open Go.RowKit
set_option maxRecDepth 100000 in
set_option maxHeartbeats 800000 in
theorem law9 (cx cy size cols rows : Int) (pv : Value) (zs : List Int) (xl xh yl yh px py : Int) (w : World) (hv : IntsAt w pv zs) (hn : zs.length ≤ 9223372036854775806) (ht : Tab10 w) :
    Calls Tryz.prog 9 #[.agg #[.int .i64 cx, .int .i64 cy, .int .i64 size, .int .i64 cols, .int .i64 rows, pv], .agg #[.int .i64 xl, .int .i64 xh, .int .i64 yl, .int .i64 yh], .agg #[.int .i64 px, .int .i64 py]] w fun e w' => e = .returned (.bool true) ∧ Below w.heap.size w w' := by
  obtain ⟨a, c, rfl, hx⟩ := id hv
  clear hx
  have HV := Lib.hid hv
  have HT := Lib.hid ht
  clear hv ht
  have HC1 := Lib.hid (fun W (h : IntsAt W (.slice a zs.length c) zs) => check_any cx cy size cols rows _ zs W h hn)
  have HC2 := Lib.hid (fun W (h : IntsAt W (.slice a zs.length c) zs) => rcheck_any cx cy size cols rows _ zs W h hn)
  have HL1 := Lib.hid (fun W (h : IntsAt W (.slice a zs.length c) zs) => Cells_any cx cy size cols rows _ zs xl xh yl yh W h hn)
  have HL2 := Lib.hid (fun W (h : IntsAt W (.slice a zs.length c) zs) => RCells_any cx cy size cols rows _ zs xl xh yl yh W h hn)
  have HP1 := Lib.hid (fun W (h : IntsAt W (.slice a zs.length c) zs) => Cell_any cx cy size cols rows _ zs px py W h hn)
  have HP2 := Lib.hid (fun W (h : IntsAt W (.slice a zs.length c) zs) => RCell_any cx cy size cols rows _ zs px py W h hn)
  have hln : (clL cx cy size cols rows zs xl xh yl yh).length ≤ 1000000 := clL_len
  unfold ErrTup at HC1 HC2
  unfold ErrPair at HP1 HP2
  generalize chkPart cx cy size cols rows zs = A0 at *
  generalize chkAt cx cy size cols rows zs = A1 at *
  generalize chkE cx cy size cols rows zs = A2 at *
  generalize ceV (clE cx cy size cols rows zs px px py py) (clL cx cy size cols rows zs px px py py) = V0 at *
  generalize clE cx cy size cols rows zs px px py py = V1 at *
  generalize clL cx cy size cols rows zs xl xh yl yh = L at *
  generalize clM cx cy size cols rows zs xl xh yl yh = mo at *
  generalize clE cx cy size cols rows zs xl xh yl yh = E at *
  go_enter Tryz.func9, Tryz.ntmps9
  go_wp2_with fail
  obtain ⟨hM, hA, hP, hz, hB⟩ := alloc3 w #[.int .i64 cx, .int .i64 cy, .int .i64 size, .int .i64 cols, .int .i64 rows, .slice a zs.length c] #[.int .i64 xl, .int .i64 xh, .int .i64 yl, .int .i64 yh] #[.int .i64 px, .int .i64 py] 42 25 39
  clear hz
  generalize ((w.alloc (.cells #[.int .i64 cx, .int .i64 cy, .int .i64 size, .int .i64 cols, .int .i64 rows, .slice a zs.length c] 42)).alloc (.cells #[.int .i64 xl, .int .i64 xh, .int .i64 yl, .int .i64 yh] 25)).alloc (.cells #[.int .i64 px, .int .i64 py] 39) = W0 at *
  refine (HC1.out _ (HV.out.below hB)).mono ?_
  rintro e w1 ⟨rfl, hb1⟩
  have hM := hM.below hb1
  have hA := hA.below hb1
  have hP := hP.below hb1
  have hB := below_trans hB hb1
  obtain ⟨m0, m1, m2, m3, m4, m5⟩ := cells6 hM
  go_wp2_with fail
  refine (HC2.out _ (HV.out.below hB)).mono ?_
  rintro e w2 ⟨rfl, hb2⟩
  clear m0 m1 m2 m3 m4 m5
  have hM := hM.below hb2
  have hA := hA.below hb2
  have hP := hP.below hb2
  have hB := below_trans hB hb2
  obtain ⟨m0, m1, m2, m3, m4, m5⟩ := cells6 hM
  obtain ⟨a0, a1, a2, a3⟩ := cells4 hA
  go_wp2_with fail
  refine (HL1.out _ (HV.out.below hB)).mono ?_
  rintro e w3 ⟨v1, rfl, ho1, hb3⟩
  clear m0 m1 m2 m3 m4 m5 a0 a1 a2 a3
  have hM := hM.below hb3
  have hA := hA.below hb3
  have hP := hP.below hb3
  have hB := below_trans hB hb3
  obtain ⟨m0, m1, m2, m3, m4, m5⟩ := cells6 hM
  obtain ⟨a0, a1, a2, a3⟩ := cells4 hA
  have HI1 := Lib.hid (ints_at_row ho1)
  clear ho1
  go_wp2_with fail
  refine (HL2.out _ (HV.out.below hB)).mono ?_
  rintro e w4 ⟨v2, rfl, ho2, hb4⟩
  clear m0 m1 m2 m3 m4 m5 a0 a1 a2 a3
  have hM := hM.below hb4
  have hP := hP.below hb4
  have hB := below_trans hB hb4
  obtain ⟨m0, m1, m2, m3, m4, m5⟩ := cells6 hM
  obtain ⟨p0, p1⟩ := cells2 hP
  have HI1 := Lib.hid (HI1.out.below hb4)
  have HI2 := Lib.hid (ints_at_row ho2)
  clear ho2
  go_wp2_with fail
  refine (ints_same v1 v2 L w4 HI1.out HI2.out hln).mono ?_
  rintro e w5 ⟨rfl, hb5⟩
  clear m0 m1 m2 m3 m4 m5 p0 p1
  have hM := hM.below hb5
  have hP := hP.below hb5
  have hB := below_trans hB hb5
  obtain ⟨m0, m1, m2, m3, m4, m5⟩ := cells6 hM
  obtain ⟨p0, p1⟩ := cells2 hP
  go_wp2_with fail
  refine (HP1.out _ (HV.out.below hB)).mono ?_
  rintro e w6 ⟨rfl, hb6⟩
  clear m0 m1 m2 m3 m4 m5 p0 p1
  have hM := hM.below hb6
  have hP := hP.below hb6
  have hB := below_trans hB hb6
  obtain ⟨m0, m1, m2, m3, m4, m5⟩ := cells6 hM
  obtain ⟨p0, p1⟩ := cells2 hP
  go_wp2_with fail
  refine (HP2.out _ (HV.out.below hB)).mono ?_
  rintro e w7 ⟨rfl, hb7⟩
  clear m0 m1 m2 m3 m4 m5 p0 p1
  have hB := below_trans hB hb7
  go_wp2_with fail
  refine (awake_true _ (HT.out.below hB)).mono ?_
  rintro e w8 ⟨rfl, hb8⟩
  go_wp2_with fail
  go_ret
  exact ⟨rfl, below_trans hB hb8⟩
end Go.Proofs.YtmglbegbijofkaaGreatDoor
