import Derived.Test.YtmglbegbijofkaaGreatDoorW27
import Derived.Test.YtmglbegbijofkaaGreatDoorW28
set_option linter.unusedVariables false
set_option linter.unusedSimpArgs false
namespace Go.Proofs.YtmglbegbijofkaaGreatDoor
open Go.RowKit

set_option maxRecDepth 100000 in
set_option maxHeartbeats 800000 in
theorem RWhere_any (nm : ByteArray) (speed climb low high : Int) (v : Value) (ss : List Sight) (tick : Int) (w : World) (hv : SightsAt w v ss) (hs : nm.size ≤ 9223372036854775806) (hn : ss.length ≤ 9223372036854775806) :
    Calls Tryz.prog 31 #[.agg #[.string nm, .int .i64 speed, .int .i64 climb, .int .i64 low, .int .i64 high, v], .int .i64 tick] w fun e w' =>
      e = WhEnd nm.data.toList speed climb low high tick ss ∧ Below w.heap.size w w' := by
  obtain ⟨a, c, rfl, hx⟩ := id hv
  clear hx
  have HV := Lib.hid hv
  clear hv
  have HC := Lib.hid (fun W (h : SightsAt W (.slice a ss.length c) ss) => rcraft_any nm speed climb low high _ ss W h hs hn)
  have HO := Lib.hid (fun W => in_any tick 0 100000 W)
  have HW := Lib.hid (fun W (h : SightsAt W (.slice a ss.length c) ss) (t0 : 0 ≤ tick) (t1 : tick ≤ 100000) (ok : CraftOK speed climb low high ss) => rwhere_any nm speed climb low high _ ss tick W h t0 t1 ok.s0 ok.s1 ok.c0 ok.c1 ok.n0 ok.n1 ok.sg)
  generalize crI nm.data.toList speed climb low high ss = ci at *
  generalize hk : crE nm.data.toList speed climb low high ss = k at *
  have HK := Lib.hid hk
  clear hk
  by_cases hk0 : k = 0
  · subst hk0
    have hok := Lib.hid (craft_ok HK.out)
    cases ho : outB tick 0 100000 with
    | true =>
      simp only [ho, Bool.not_true] at HO
      have HE : Hid (WhE nm.data.toList speed climb low high tick ss = 7) := show _ = _ from by unfold WhE; rw [HK.out, ho]; simp
      clear ho
      go_enter Tryz.func31, Tryz.ntmps31
      go_wp2_with fail
      obtain ⟨hA, hR, hH, hz, hB⟩ := alloc3 w #[.string nm, .int .i64 speed, .int .i64 climb, .int .i64 low, .int .i64 high, .slice a ss.length c] #[.int .i64 0, .int .i64 0, .int .i64 0, .int .i64 0] #[.int .i64 0, .int .i64 0] 63 25 23
      clear hz
      generalize ((w.alloc (.cells #[.string nm, .int .i64 speed, .int .i64 climb, .int .i64 low, .int .i64 high, .slice a ss.length c] 63)).alloc (.cells #[.int .i64 0, .int .i64 0, .int .i64 0, .int .i64 0] 25)).alloc (.cells #[.int .i64 0, .int .i64 0] 23) = W0 at *
      refine (HC.out _ (HV.out.below hB)).mono ?_
      rintro e w1 ⟨rfl, hb1⟩
      unfold ErrPair
      have hA := hA.below hb1
      have hR := hR.below hb1
      have hH := hH.below hb1
      have hB := below_trans hB hb1
      clear hb1
      obtain ⟨m0, m1, m2, m3, m4, m5⟩ := cells6 hA
      obtain ⟨r0, r1, r2, r3⟩ := cells4 hR
      obtain ⟨h0, h1⟩ := cells2 hH
      have f0 := hR.frozen 0
      have f1 := hR.frozen 1
      have f2 := hR.frozen 2
      have f3 := hR.frozen 3
      have g0 := hH.frozen 0
      have g1 := hH.frozen 1
      go_wp2_with fail
      refine (HO.out _).mono ?_
      rintro e w2 ⟨rfl, rfl⟩
      go_wp2_with fail
      obtain ⟨y1, y2⟩ := st42_at hR hH (by omega) (.int .i64 0) (.int .i64 0) (.int .i64 0) (.int .i64 0) (.int .i64 0) (.int .i64 0)
      obtain ⟨x0, x1, x2, x3⟩ := cells4 y1
      obtain ⟨x4, x5⟩ := cells2 y2
      refine bodyPost_ret (v := .tuple #[.agg #[.int .i64 0, .int .i64 0, .int .i64 0, .int .i64 0], .agg #[.int .i64 0, .int .i64 0], .int .i64 7]) (by simp [results, Tryz.results31, go_sem, x0, x1, x2, x3, x4, x5]) rfl ⟨?_, st42_below hB (by omega) (by omega) _ _ _ _ _ _⟩
      exact whEnd_bad HE.out (by omega)
    | false =>
      simp only [ho, Bool.not_false] at HO
      have hto := outB_false.1 ho
      obtain ⟨ht0, ht1⟩ := hto
      cases hw : whB speed climb low high tick ss with
      | false =>
        have HE : Hid (WhE nm.data.toList speed climb low high tick ss = 9) := show _ = _ from by unfold WhE; rw [HK.out, ho, hw]; simp
        unfold RWhereEnd at HW
        rw [hw] at HW
        clear ho hw
        generalize whXL speed tick ss = A0 at *
        generalize whXH speed tick ss = A1 at *
        generalize whYL speed tick ss = A2 at *
        generalize whYH speed tick ss = A3 at *
        generalize whZL climb low tick ss = A4 at *
        generalize whZH climb high tick ss = A5 at *
        go_enter Tryz.func31, Tryz.ntmps31
        go_wp2_with fail
        obtain ⟨hA, hR, hH, hz, hB⟩ := alloc3 w #[.string nm, .int .i64 speed, .int .i64 climb, .int .i64 low, .int .i64 high, .slice a ss.length c] #[.int .i64 0, .int .i64 0, .int .i64 0, .int .i64 0] #[.int .i64 0, .int .i64 0] 63 25 23
        clear hz
        generalize ((w.alloc (.cells #[.string nm, .int .i64 speed, .int .i64 climb, .int .i64 low, .int .i64 high, .slice a ss.length c] 63)).alloc (.cells #[.int .i64 0, .int .i64 0, .int .i64 0, .int .i64 0] 25)).alloc (.cells #[.int .i64 0, .int .i64 0] 23) = W0 at *
        refine (HC.out _ (HV.out.below hB)).mono ?_
        rintro e w1 ⟨rfl, hb1⟩
        unfold ErrPair
        have hA := hA.below hb1
        have hR := hR.below hb1
        have hH := hH.below hb1
        have hB := below_trans hB hb1
        clear hb1
        obtain ⟨m0, m1, m2, m3, m4, m5⟩ := cells6 hA
        obtain ⟨r0, r1, r2, r3⟩ := cells4 hR
        obtain ⟨h0, h1⟩ := cells2 hH
        have f0 := hR.frozen 0
        have f1 := hR.frozen 1
        have f2 := hR.frozen 2
        have f3 := hR.frozen 3
        have g0 := hH.frozen 0
        have g1 := hH.frozen 1
        go_wp2_with fail
        refine (HO.out _).mono ?_
        rintro e w2 ⟨rfl, rfl⟩
        go_wp2_with fail
        refine (HW.out _ (HV.out.below hB) ht0 ht1 hok.out).mono ?_
        rintro e w3 ⟨rfl, hb3⟩
        clear m0 m1 m2 m3 m4 m5 r0 r1 r2 r3 h0 h1 f0 f1 f2 f3 g0 g1
        obtain ⟨hN, hM, hzz, hbN⟩ := alloc2 w3 #[.int .i64 A0, .int .i64 A1, .int .i64 A2, .int .i64 A3] #[.int .i64 A4, .int .i64 A5] 25 23
        clear hzz
        have hl3 : w.heap.size + 1 + 1 < w3.heap.size := (hH.below hb3).lt
        have hR := (hR.below hb3).below hbN
        have hH := (hH.below hb3).below hbN
        have hB := below_trans (below_trans hB hb3) hbN
        obtain ⟨r0, r1, r2, r3⟩ := cells4 hR
        obtain ⟨h0, h1⟩ := cells2 hH
        obtain ⟨n0, n1, n2, n3⟩ := cells4 hN
        obtain ⟨o0, o1⟩ := cells2 hM
        have f0 := hR.frozen 0
        have f1 := hR.frozen 1
        have f2 := hR.frozen 2
        have f3 := hR.frozen 3
        have g0 := hH.frozen 0
        have g1 := hH.frozen 1
        go_wp2_with fail
        obtain ⟨y1, y2⟩ := st42_at hR hH (by omega) (.int .i64 0) (.int .i64 0) (.int .i64 0) (.int .i64 0) (.int .i64 0) (.int .i64 0)
        obtain ⟨x0, x1, x2, x3⟩ := cells4 y1
        obtain ⟨x4, x5⟩ := cells2 y2
        refine bodyPost_ret (v := .tuple #[.agg #[.int .i64 0, .int .i64 0, .int .i64 0, .int .i64 0], .agg #[.int .i64 0, .int .i64 0], .int .i64 9]) (by simp [results, Tryz.results31, go_sem, x0, x1, x2, x3, x4, x5]) rfl ⟨?_, st42_below hB (by omega) (by omega) _ _ _ _ _ _⟩
        exact whEnd_bad HE.out (by omega)
      | true =>
        have HE : Hid (WhE nm.data.toList speed climb low high tick ss = 0) := show _ = _ from by unfold WhE; rw [HK.out, ho, hw]; simp
        have HF := Lib.hid (whEnd_ok HE.out)
        clear HE
        unfold RWhereEnd at HW
        rw [hw] at HW
        clear ho hw
        generalize whXL speed tick ss = A0 at *
        generalize whXH speed tick ss = A1 at *
        generalize whYL speed tick ss = A2 at *
        generalize whYH speed tick ss = A3 at *
        generalize whZL climb low tick ss = A4 at *
        generalize whZH climb high tick ss = A5 at *
        go_enter Tryz.func31, Tryz.ntmps31
        go_wp2_with fail
        obtain ⟨hA, hR, hH, hz, hB⟩ := alloc3 w #[.string nm, .int .i64 speed, .int .i64 climb, .int .i64 low, .int .i64 high, .slice a ss.length c] #[.int .i64 0, .int .i64 0, .int .i64 0, .int .i64 0] #[.int .i64 0, .int .i64 0] 63 25 23
        clear hz
        generalize ((w.alloc (.cells #[.string nm, .int .i64 speed, .int .i64 climb, .int .i64 low, .int .i64 high, .slice a ss.length c] 63)).alloc (.cells #[.int .i64 0, .int .i64 0, .int .i64 0, .int .i64 0] 25)).alloc (.cells #[.int .i64 0, .int .i64 0] 23) = W0 at *
        refine (HC.out _ (HV.out.below hB)).mono ?_
        rintro e w1 ⟨rfl, hb1⟩
        unfold ErrPair
        have hA := hA.below hb1
        have hR := hR.below hb1
        have hH := hH.below hb1
        have hB := below_trans hB hb1
        clear hb1
        obtain ⟨m0, m1, m2, m3, m4, m5⟩ := cells6 hA
        obtain ⟨r0, r1, r2, r3⟩ := cells4 hR
        obtain ⟨h0, h1⟩ := cells2 hH
        have f0 := hR.frozen 0
        have f1 := hR.frozen 1
        have f2 := hR.frozen 2
        have f3 := hR.frozen 3
        have g0 := hH.frozen 0
        have g1 := hH.frozen 1
        go_wp2_with fail
        refine (HO.out _).mono ?_
        rintro e w2 ⟨rfl, rfl⟩
        go_wp2_with fail
        refine (HW.out _ (HV.out.below hB) ht0 ht1 hok.out).mono ?_
        rintro e w3 ⟨rfl, hb3⟩
        clear m0 m1 m2 m3 m4 m5 r0 r1 r2 r3 h0 h1 f0 f1 f2 f3 g0 g1
        obtain ⟨hN, hM, hzz, hbN⟩ := alloc2 w3 #[.int .i64 A0, .int .i64 A1, .int .i64 A2, .int .i64 A3] #[.int .i64 A4, .int .i64 A5] 25 23
        clear hzz
        have hl3 : w.heap.size + 1 + 1 < w3.heap.size := (hH.below hb3).lt
        have hR := (hR.below hb3).below hbN
        have hH := (hH.below hb3).below hbN
        have hB := below_trans (below_trans hB hb3) hbN
        obtain ⟨r0, r1, r2, r3⟩ := cells4 hR
        obtain ⟨h0, h1⟩ := cells2 hH
        obtain ⟨n0, n1, n2, n3⟩ := cells4 hN
        obtain ⟨o0, o1⟩ := cells2 hM
        have f0 := hR.frozen 0
        have f1 := hR.frozen 1
        have f2 := hR.frozen 2
        have f3 := hR.frozen 3
        have g0 := hH.frozen 0
        have g1 := hH.frozen 1
        go_wp2_with fail
        generalize (w3.alloc (.cells #[.int .i64 A0, .int .i64 A1, .int .i64 A2, .int .i64 A3] 25)).alloc (.cells #[.int .i64 A4, .int .i64 A5] 23) = W4 at *
        generalize w3.heap.size = sb at *
        have k1 : w.heap.size + 1 ≠ sb + 1 := by omega
        have k2 : w.heap.size + 1 ≠ sb := by omega
        have k3 : w.heap.size + 1 + 1 ≠ sb + 1 := by omega
        have k4 : w.heap.size + 1 + 1 ≠ sb := by omega
        go_region
        all_goals go_wp2_with fail
        obtain ⟨y1, y2⟩ := st42_at hR hH (by omega) (.int .i64 A0) (.int .i64 A1) (.int .i64 A2) (.int .i64 A3) (.int .i64 A4) (.int .i64 A5)
        obtain ⟨x0, x1, x2, x3⟩ := cells4 y1
        obtain ⟨x4, x5⟩ := cells2 y2
        refine bodyPost_ret (v := .tuple #[.agg #[.int .i64 A0, .int .i64 A1, .int .i64 A2, .int .i64 A3], .agg #[.int .i64 A4, .int .i64 A5], .int .i64 0]) (by simp [results, Tryz.results31, go_sem, x0, x1, x2, x3, x4, x5]) rfl ⟨HF.out, (st42_below hB (by omega) (by omega) _ _ _ _ _ _).drew⟩
  · have hkb : (k != 0) = true := by simpa using hk0
    have hkc : (k == 0) = false := by simpa using hk0
    have HE : Hid (WhE nm.data.toList speed climb low high tick ss = k) := show _ = _ from by unfold WhE; rw [HK.out]; simp [hk0]
    have HK0 := Lib.hid hk0
    clear hk0
    go_enter Tryz.func31, Tryz.ntmps31
    go_wp2_with fail
    obtain ⟨hA, hR, hH, hz, hB⟩ := alloc3 w #[.string nm, .int .i64 speed, .int .i64 climb, .int .i64 low, .int .i64 high, .slice a ss.length c] #[.int .i64 0, .int .i64 0, .int .i64 0, .int .i64 0] #[.int .i64 0, .int .i64 0] 63 25 23
    clear hz
    generalize ((w.alloc (.cells #[.string nm, .int .i64 speed, .int .i64 climb, .int .i64 low, .int .i64 high, .slice a ss.length c] 63)).alloc (.cells #[.int .i64 0, .int .i64 0, .int .i64 0, .int .i64 0] 25)).alloc (.cells #[.int .i64 0, .int .i64 0] 23) = W0 at *
    refine (HC.out _ (HV.out.below hB)).mono ?_
    rintro e w1 ⟨rfl, hb1⟩
    unfold ErrPair
    have hA := hA.below hb1
    have hR := hR.below hb1
    have hH := hH.below hb1
    have hB := below_trans hB hb1
    clear hb1
    obtain ⟨m0, m1, m2, m3, m4, m5⟩ := cells6 hA
    obtain ⟨r0, r1, r2, r3⟩ := cells4 hR
    obtain ⟨h0, h1⟩ := cells2 hH
    have f0 := hR.frozen 0
    have f1 := hR.frozen 1
    have f2 := hR.frozen 2
    have f3 := hR.frozen 3
    have g0 := hH.frozen 0
    have g1 := hH.frozen 1
    go_wp2_with fail
    obtain ⟨y1, y2⟩ := st42_at hR hH (by omega) (.int .i64 0) (.int .i64 0) (.int .i64 0) (.int .i64 0) (.int .i64 0) (.int .i64 0)
    obtain ⟨x0, x1, x2, x3⟩ := cells4 y1
    obtain ⟨x4, x5⟩ := cells2 y2
    refine bodyPost_ret (v := .tuple #[.agg #[.int .i64 0, .int .i64 0, .int .i64 0, .int .i64 0], .agg #[.int .i64 0, .int .i64 0], .int .i64 k]) (by simp [results, Tryz.results31, go_sem, x0, x1, x2, x3, x4, x5]) rfl ⟨?_, st42_below hB (by omega) (by omega) _ _ _ _ _ _⟩
    exact whEnd_bad HE.out HK0.out
end Go.Proofs.YtmglbegbijofkaaGreatDoor
