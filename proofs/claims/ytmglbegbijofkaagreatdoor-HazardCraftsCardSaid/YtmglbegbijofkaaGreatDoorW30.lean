import Derived.Test.YtmglbegbijofkaaGreatDoorW29
import Derived.Test.YtmglbegbijofkaaGreatDoorW22
set_option linter.unusedVariables false
set_option linter.unusedSimpArgs false
namespace Go.Proofs.YtmglbegbijofkaaGreatDoor
open Go.RowKit
set_option maxRecDepth 100000 in
set_option maxHeartbeats 800000 in
theorem law7 (nm : ByteArray) (speed climb low high : Int) (v : Value) (ss : List Sight) (tick : Int) (w : World) (hv : SightsAt w v ss) (hs : nm.size ≤ 9223372036854775806) (hn : ss.length ≤ 9223372036854775806) (ht : Tab10 w) :
    Calls Tryz.prog 7 #[.agg #[.string nm, .int .i64 speed, .int .i64 climb, .int .i64 low, .int .i64 high, v], .int .i64 tick] w fun e w' => e = .returned (.bool true) ∧ Below w.heap.size w w' := by
  obtain ⟨a, c, rfl, hx⟩ := id hv
  clear hx
  have HV := Lib.hid hv
  have HT := Lib.hid ht
  clear hv ht
  have HC1 := Lib.hid (fun W (h : SightsAt W (.slice a ss.length c) ss) => craft_any nm speed climb low high _ ss W h hs hn)
  have HC2 := Lib.hid (fun W (h : SightsAt W (.slice a ss.length c) ss) => rcraft_any nm speed climb low high _ ss W h hs hn)
  have HW1 := Lib.hid (fun W (h : SightsAt W (.slice a ss.length c) ss) => Where_any nm speed climb low high _ ss tick W h hs hn)
  have HW2 := Lib.hid (fun W (h : SightsAt W (.slice a ss.length c) ss) => RWhere_any nm speed climb low high _ ss tick W h hs hn)
  unfold ErrPair at HC1 HC2
  unfold WhEnd whTup at HW1 HW2
  generalize crI nm.data.toList speed climb low high ss = ci at *
  generalize crE nm.data.toList speed climb low high ss = k at *
  generalize wx (WhE nm.data.toList speed climb low high tick ss) (whXL speed tick ss) = A0 at *
  generalize wx (WhE nm.data.toList speed climb low high tick ss) (whXH speed tick ss) = A1 at *
  generalize wx (WhE nm.data.toList speed climb low high tick ss) (whYL speed tick ss) = A2 at *
  generalize wx (WhE nm.data.toList speed climb low high tick ss) (whYH speed tick ss) = A3 at *
  generalize wx (WhE nm.data.toList speed climb low high tick ss) (whZL climb low tick ss) = A4 at *
  generalize wx (WhE nm.data.toList speed climb low high tick ss) (whZH climb high tick ss) = A5 at *
  generalize WhE nm.data.toList speed climb low high tick ss = E at *
  go_enter Tryz.func7, Tryz.ntmps7
  go_wp2_with fail
  have hA := cellsNew w #[.string nm, .int .i64 speed, .int .i64 climb, .int .i64 low, .int .i64 high, .slice a ss.length c] 63
  have hB : Below w.heap.size w (w.alloc (.cells #[.string nm, .int .i64 speed, .int .i64 climb, .int .i64 low, .int .i64 high, .slice a ss.length c] 63)) := (by repeat (first | exact Below.refl _ _ | assumption | refine balloc ?_ _ | refine below_trans ?_ (by assumption) | refine Below.drew ?_ | refine below_drewN ?_ _ | refine Below.setCell ?_ (by simp <;> omega) _))
  generalize w.alloc (.cells #[.string nm, .int .i64 speed, .int .i64 climb, .int .i64 low, .int .i64 high, .slice a ss.length c] 63) = W0 at *
  refine (HC1.out _ (HV.out.below hB)).mono ?_
  rintro e w1 ⟨rfl, hb1⟩
  have hA := hA.below hb1
  have hB := below_trans hB hb1
  obtain ⟨m0, m1, m2, m3, m4, m5⟩ := cells6 hA
  go_wp2_with fail
  refine (HC2.out _ (HV.out.below hB)).mono ?_
  rintro e w2 ⟨rfl, hb2⟩
  clear m0 m1 m2 m3 m4 m5
  have hA := hA.below hb2
  have hB := below_trans hB hb2
  obtain ⟨m0, m1, m2, m3, m4, m5⟩ := cells6 hA
  go_wp2_with fail
  refine (HW1.out _ (HV.out.below hB)).mono ?_
  rintro e w3 ⟨rfl, hb3⟩
  clear m0 m1 m2 m3 m4 m5
  obtain ⟨hN, hM, hzz, hbN⟩ := alloc2 w3 #[.int .i64 A0, .int .i64 A1, .int .i64 A2, .int .i64 A3] #[.int .i64 A4, .int .i64 A5] 25 23
  clear hzz
  have hA := (hA.below hb3).below hbN
  have hB := below_trans (below_trans hB hb3) hbN
  obtain ⟨m0, m1, m2, m3, m4, m5⟩ := cells6 hA
  go_wp2_with fail
  generalize (w3.alloc (.cells #[.int .i64 A0, .int .i64 A1, .int .i64 A2, .int .i64 A3] 25)).alloc (.cells #[.int .i64 A4, .int .i64 A5] 23) = W4 at *
  refine (HW2.out _ (HV.out.below hB)).mono ?_
  rintro e w5 ⟨rfl, hb5⟩
  clear m0 m1 m2 m3 m4 m5
  obtain ⟨hN2, hM2, hzz, hbN2⟩ := alloc2 w5 #[.int .i64 A0, .int .i64 A1, .int .i64 A2, .int .i64 A3] #[.int .i64 A4, .int .i64 A5] 25 23
  clear hzz
  have hN := (hN.below hb5).below hbN2
  have hM := (hM.below hb5).below hbN2
  have hB := below_trans (below_trans hB hb5) hbN2
  obtain ⟨n0, n1, n2, n3⟩ := cells4 hN
  obtain ⟨o0, o1⟩ := cells2 hM
  obtain ⟨x0, x1, x2, x3⟩ := cells4 hN2
  obtain ⟨y0, y1⟩ := cells2 hM2
  go_wp2_with fail
  refine (awake_true _ (HT.out.below hB)).mono ?_
  rintro e w6 ⟨rfl, hb6⟩
  go_wp2_with fail
  go_ret
  exact ⟨rfl, below_trans hB hb6⟩
end Go.Proofs.YtmglbegbijofkaaGreatDoor
