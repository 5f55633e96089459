import Derived.Test.YtmglbegbijofkaaGreatDoorBx
import Derived.RegionTactic
set_option linter.unusedVariables false
set_option linter.unusedSimpArgs false
namespace Go.Proofs.YtmglbegbijofkaaGreatDoor
open Go.RowKit

def WhE (nm : List UInt8) (speed climb low high tick : Int) (ss : List Sight) : Int :=
  if crE nm speed climb low high ss ≠ 0 then crE nm speed climb low high ss else if outB tick 0 100000 then 7 else if whB speed climb low high tick ss then 0 else 9
def wx (e x : Int) : Int := if e = 0 then x else 0
def whTup (a0 a1 a2 a3 a4 a5 e : Int) : Ending := .returned (.tuple #[.agg #[.int .i64 a0, .int .i64 a1, .int .i64 a2, .int .i64 a3], .agg #[.int .i64 a4, .int .i64 a5], .int .i64 e])
/-- what Where returns -/
def WhEnd (nm : List UInt8) (speed climb low high tick : Int) (ss : List Sight) : Ending :=
  whTup (wx (WhE nm speed climb low high tick ss) (whXL speed tick ss)) (wx (WhE nm speed climb low high tick ss) (whXH speed tick ss)) (wx (WhE nm speed climb low high tick ss) (whYL speed tick ss)) (wx (WhE nm speed climb low high tick ss) (whYH speed tick ss))
    (wx (WhE nm speed climb low high tick ss) (whZL climb low tick ss)) (wx (WhE nm speed climb low high tick ss) (whZH climb high tick ss)) (WhE nm speed climb low high tick ss)
theorem whEnd_bad {nm : List UInt8} {speed climb low high tick : Int} {ss : List Sight} {k : Int} (h : WhE nm speed climb low high tick ss = k) (hk : ¬ k = 0) : Ending.returned (.tuple #[.agg #[.int .i64 0, .int .i64 0, .int .i64 0, .int .i64 0], .agg #[.int .i64 0, .int .i64 0], .int .i64 k]) = WhEnd nm speed climb low high tick ss := by
  unfold WhEnd whTup wx
  rw [h]
  simp [hk]
theorem whEnd_ok {nm : List UInt8} {speed climb low high tick : Int} {ss : List Sight} (h : WhE nm speed climb low high tick ss = 0) : Ending.returned (.tuple #[.agg #[.int .i64 (whXL speed tick ss), .int .i64 (whXH speed tick ss), .int .i64 (whYL speed tick ss), .int .i64 (whYH speed tick ss)], .agg #[.int .i64 (whZL climb low tick ss), .int .i64 (whZH climb high tick ss)], .int .i64 0]) = WhEnd nm speed climb low high tick ss := by
  unfold WhEnd whTup wx
  rw [h]
  simp

set_option maxRecDepth 100000 in
set_option maxHeartbeats 800000 in
theorem Where_any (nm : ByteArray) (speed climb low high : Int) (v : Value) (ss : List Sight) (tick : Int) (w : World) (hv : SightsAt w v ss) (hs : nm.size ≤ 9223372036854775806) (hn : ss.length ≤ 9223372036854775806) :
    Calls Tryz.prog 30 #[.agg #[.string nm, .int .i64 speed, .int .i64 climb, .int .i64 low, .int .i64 high, v], .int .i64 tick] w fun e w' =>
      e = WhEnd nm.data.toList speed climb low high tick ss ∧ Below w.heap.size w w' := by
  obtain ⟨a, c, rfl, hx⟩ := id hv
  clear hx
  have HV := Lib.hid hv
  clear hv
  have HC := Lib.hid (fun W (h : SightsAt W (.slice a ss.length c) ss) => craft_any nm speed climb low high _ ss W h hs hn)
  have HO := Lib.hid (fun W => out_any tick 0 100000 W)
  have HW := Lib.hid (fun W (h : SightsAt W (.slice a ss.length c) ss) (t0 : 0 ≤ tick) (t1 : tick ≤ 100000) (ok : CraftOK speed climb low high ss) => where_any nm speed climb low high _ ss tick W h t0 t1 ok.s0 ok.s1 ok.c0 ok.c1 ok.n0 ok.n1 ok.sg)
  generalize crI nm.data.toList speed climb low high ss = ci at *
  generalize hk : crE nm.data.toList speed climb low high ss = k at *
  have HK := Lib.hid hk
  clear hk
  by_cases hk0 : k = 0
  · subst hk0
    have hok := Lib.hid (craft_ok HK.out)
    cases ho : outB tick 0 100000 with
    | true =>
      rw [ho] at HO
      have HE : Hid (WhE nm.data.toList speed climb low high tick ss = 7) := show _ = _ from by unfold WhE; rw [HK.out, ho]; simp
      clear ho
      go_enter Tryz.func30, Tryz.ntmps30
      go_wp2_with fail
      obtain ⟨hA, hR, hH, hz, hB⟩ := alloc3 w #[.string nm, .int .i64 speed, .int .i64 climb, .int .i64 low, .int .i64 high, .slice a ss.length c] #[.int .i64 0, .int .i64 0, .int .i64 0, .int .i64 0] #[.int .i64 0, .int .i64 0] 63 25 23
      clear hz
      generalize ((w.alloc (.cells #[.string nm, .int .i64 speed, .int .i64 climb, .int .i64 low, .int .i64 high, .slice a ss.length c] 63)).alloc (.cells #[.int .i64 0, .int .i64 0, .int .i64 0, .int .i64 0] 25)).alloc (.cells #[.int .i64 0, .int .i64 0] 23) = W0 at *
      refine (HC.out _ (HV.out.below hB)).mono ?_
      rintro e w1 ⟨rfl, hb1⟩
      unfold ErrPair
      have hA := hA.below hb1
      have hR := hR.below hb1
      have hH := hH.below hb1
      have hB := below_trans hB hb1
      clear hb1
      obtain ⟨m0, m1, m2, m3, m4, m5⟩ := cells6 hA
      obtain ⟨r0, r1, r2, r3⟩ := cells4 hR
      obtain ⟨h0, h1⟩ := cells2 hH
      have f0 := hR.frozen 0
      have f1 := hR.frozen 1
      have f2 := hR.frozen 2
      have f3 := hR.frozen 3
      have g0 := hH.frozen 0
      have g1 := hH.frozen 1
      go_wp2_with fail
      refine (HO.out _).mono ?_
      rintro e w2 ⟨rfl, rfl⟩
      go_wp2_with fail
      obtain ⟨y1, y2⟩ := st42_at hR hH (by omega) (.int .i64 0) (.int .i64 0) (.int .i64 0) (.int .i64 0) (.int .i64 0) (.int .i64 0)
      obtain ⟨x0, x1, x2, x3⟩ := cells4 y1
      obtain ⟨x4, x5⟩ := cells2 y2
      refine bodyPost_ret (v := .tuple #[.agg #[.int .i64 0, .int .i64 0, .int .i64 0, .int .i64 0], .agg #[.int .i64 0, .int .i64 0], .int .i64 7]) (by simp [results, Tryz.results30, go_sem, x0, x1, x2, x3, x4, x5]) rfl ⟨?_, st42_below hB (by omega) (by omega) _ _ _ _ _ _⟩
      exact whEnd_bad HE.out (by omega)
    | false =>
      rw [ho] at HO
      have hto := outB_false.1 ho
      obtain ⟨ht0, ht1⟩ := hto
      cases hw : whB speed climb low high tick ss with
      | false =>
        have HE : Hid (WhE nm.data.toList speed climb low high tick ss = 9) := show _ = _ from by unfold WhE; rw [HK.out, ho, hw]; simp
        unfold WhereEnd at HW
        rw [hw] at HW
        clear ho hw
        generalize whXL speed tick ss = A0 at *
        generalize whXH speed tick ss = A1 at *
        generalize whYL speed tick ss = A2 at *
        generalize whYH speed tick ss = A3 at *
        generalize whZL climb low tick ss = A4 at *
        generalize whZH climb high tick ss = A5 at *
        go_enter Tryz.func30, Tryz.ntmps30
        go_wp2_with fail
        obtain ⟨hA, hR, hH, hz, hB⟩ := alloc3 w #[.string nm, .int .i64 speed, .int .i64 climb, .int .i64 low, .int .i64 high, .slice a ss.length c] #[.int .i64 0, .int .i64 0, .int .i64 0, .int .i64 0] #[.int .i64 0, .int .i64 0] 63 25 23
        clear hz
        generalize ((w.alloc (.cells #[.string nm, .int .i64 speed, .int .i64 climb, .int .i64 low, .int .i64 high, .slice a ss.length c] 63)).alloc (.cells #[.int .i64 0, .int .i64 0, .int .i64 0, .int .i64 0] 25)).alloc (.cells #[.int .i64 0, .int .i64 0] 23) = W0 at *
        refine (HC.out _ (HV.out.below hB)).mono ?_
        rintro e w1 ⟨rfl, hb1⟩
        unfold ErrPair
        have hA := hA.below hb1
        have hR := hR.below hb1
        have hH := hH.below hb1
        have hB := below_trans hB hb1
        clear hb1
        obtain ⟨m0, m1, m2, m3, m4, m5⟩ := cells6 hA
        obtain ⟨r0, r1, r2, r3⟩ := cells4 hR
        obtain ⟨h0, h1⟩ := cells2 hH
        have f0 := hR.frozen 0
        have f1 := hR.frozen 1
        have f2 := hR.frozen 2
        have f3 := hR.frozen 3
        have g0 := hH.frozen 0
        have g1 := hH.frozen 1
        go_wp2_with fail
        refine (HO.out _).mono ?_
        rintro e w2 ⟨rfl, rfl⟩
        go_wp2_with fail
        refine (HW.out _ (HV.out.below hB) ht0 ht1 hok.out).mono ?_
        rintro e w3 ⟨rfl, hb3⟩
        clear m0 m1 m2 m3 m4 m5 r0 r1 r2 r3 h0 h1 f0 f1 f2 f3 g0 g1
        have hR := (hR.below hb3).below (balloc (Below.refl _ _) (.cells #[.int .i64 A0, .int .i64 A1, .int .i64 A2, .int .i64 A3, .int .i64 A4, .int .i64 A5] 161))
        have hH := (hH.below hb3).below (balloc (Below.refl _ _) (.cells #[.int .i64 A0, .int .i64 A1, .int .i64 A2, .int .i64 A3, .int .i64 A4, .int .i64 A5] 161))
        have hA := (hA.below hb3).below (balloc (Below.refl _ _) (.cells #[.int .i64 A0, .int .i64 A1, .int .i64 A2, .int .i64 A3, .int .i64 A4, .int .i64 A5] 161))
        have hB := balloc (below_trans hB hb3) (.cells #[.int .i64 A0, .int .i64 A1, .int .i64 A2, .int .i64 A3, .int .i64 A4, .int .i64 A5] 161)
        obtain ⟨m0, m1, m2, m3, m4, m5⟩ := cells6 hA
        obtain ⟨r0, r1, r2, r3⟩ := cells4 hR
        obtain ⟨h0, h1⟩ := cells2 hH
        have f0 := hR.frozen 0
        have f1 := hR.frozen 1
        have f2 := hR.frozen 2
        have f3 := hR.frozen 3
        have g0 := hH.frozen 0
        have g1 := hH.frozen 1
        go_wp2_with fail
        obtain ⟨y1, y2⟩ := st42_at hR hH (by omega) (.int .i64 0) (.int .i64 0) (.int .i64 0) (.int .i64 0) (.int .i64 0) (.int .i64 0)
        obtain ⟨x0, x1, x2, x3⟩ := cells4 y1
        obtain ⟨x4, x5⟩ := cells2 y2
        refine bodyPost_ret (v := .tuple #[.agg #[.int .i64 0, .int .i64 0, .int .i64 0, .int .i64 0], .agg #[.int .i64 0, .int .i64 0], .int .i64 9]) (by simp [results, Tryz.results30, go_sem, x0, x1, x2, x3, x4, x5]) rfl ⟨?_, st42_below hB (by omega) (by omega) _ _ _ _ _ _⟩
        exact whEnd_bad HE.out (by omega)
      | true =>
        have HE : Hid (WhE nm.data.toList speed climb low high tick ss = 0) := show _ = _ from by unfold WhE; rw [HK.out, ho, hw]; simp
        have HF := Lib.hid (whEnd_ok HE.out)
        unfold WhereEnd at HW
        rw [hw] at HW
        clear ho hw HE
        generalize whXL speed tick ss = A0 at *
        generalize whXH speed tick ss = A1 at *
        generalize whYL speed tick ss = A2 at *
        generalize whYH speed tick ss = A3 at *
        generalize whZL climb low tick ss = A4 at *
        generalize whZH climb high tick ss = A5 at *
        go_enter Tryz.func30, Tryz.ntmps30
        go_wp2_with fail
        obtain ⟨hA, hR, hH, hz, hB⟩ := alloc3 w #[.string nm, .int .i64 speed, .int .i64 climb, .int .i64 low, .int .i64 high, .slice a ss.length c] #[.int .i64 0, .int .i64 0, .int .i64 0, .int .i64 0] #[.int .i64 0, .int .i64 0] 63 25 23
        clear hz
        generalize ((w.alloc (.cells #[.string nm, .int .i64 speed, .int .i64 climb, .int .i64 low, .int .i64 high, .slice a ss.length c] 63)).alloc (.cells #[.int .i64 0, .int .i64 0, .int .i64 0, .int .i64 0] 25)).alloc (.cells #[.int .i64 0, .int .i64 0] 23) = W0 at *
        refine (HC.out _ (HV.out.below hB)).mono ?_
        rintro e w1 ⟨rfl, hb1⟩
        unfold ErrPair
        have hA := hA.below hb1
        have hR := hR.below hb1
        have hH := hH.below hb1
        have hB := below_trans hB hb1
        clear hb1
        obtain ⟨m0, m1, m2, m3, m4, m5⟩ := cells6 hA
        obtain ⟨r0, r1, r2, r3⟩ := cells4 hR
        obtain ⟨h0, h1⟩ := cells2 hH
        have f0 := hR.frozen 0
        have f1 := hR.frozen 1
        have f2 := hR.frozen 2
        have f3 := hR.frozen 3
        have g0 := hH.frozen 0
        have g1 := hH.frozen 1
        go_wp2_with fail
        refine (HO.out _).mono ?_
        rintro e w2 ⟨rfl, rfl⟩
        go_wp2_with fail
        refine (HW.out _ (HV.out.below hB) ht0 ht1 hok.out).mono ?_
        rintro e w3 ⟨rfl, hb3⟩
        clear m0 m1 m2 m3 m4 m5 r0 r1 r2 r3 h0 h1 f0 f1 f2 f3 g0 g1
        have hR := (hR.below hb3).below (balloc (Below.refl _ _) (.cells #[.int .i64 A0, .int .i64 A1, .int .i64 A2, .int .i64 A3, .int .i64 A4, .int .i64 A5] 161))
        have hH := (hH.below hb3).below (balloc (Below.refl _ _) (.cells #[.int .i64 A0, .int .i64 A1, .int .i64 A2, .int .i64 A3, .int .i64 A4, .int .i64 A5] 161))
        have hA := cellsNew w3 #[.int .i64 A0, .int .i64 A1, .int .i64 A2, .int .i64 A3, .int .i64 A4, .int .i64 A5] 161
        have hB := balloc (below_trans hB hb3) (.cells #[.int .i64 A0, .int .i64 A1, .int .i64 A2, .int .i64 A3, .int .i64 A4, .int .i64 A5] 161)
        go_wp2_with fail
        generalize (w3.alloc (.cells #[.int .i64 A0, .int .i64 A1, .int .i64 A2, .int .i64 A3, .int .i64 A4, .int .i64 A5] 161)) = W4 at *
        generalize w3.heap.size = sb at *
        obtain ⟨m0, m1, m2, m3, m4, m5⟩ := cells6 hA
        obtain ⟨r0, r1, r2, r3⟩ := cells4 hR
        obtain ⟨h0, h1⟩ := cells2 hH
        have f0 := hR.frozen 0
        have f1 := hR.frozen 1
        have f2 := hR.frozen 2
        have f3 := hR.frozen 3
        have g0 := hH.frozen 0
        have g1 := hH.frozen 1
        go_region
        all_goals go_wp2_with fail
        obtain ⟨y1, y2⟩ := st42_at hR hH (by omega) (.int .i64 A0) (.int .i64 A1) (.int .i64 A2) (.int .i64 A3) (.int .i64 A4) (.int .i64 A5)
        obtain ⟨x0, x1, x2, x3⟩ := cells4 y1
        obtain ⟨x4, x5⟩ := cells2 y2
        refine bodyPost_ret (v := .tuple #[.agg #[.int .i64 A0, .int .i64 A1, .int .i64 A2, .int .i64 A3], .agg #[.int .i64 A4, .int .i64 A5], .int .i64 0]) (by simp [results, Tryz.results30, go_sem, x0, x1, x2, x3, x4, x5]) rfl ⟨HF.out, (st42_below hB (by omega) (by omega) _ _ _ _ _ _).drew⟩
  · have hkb : (k != 0) = true := by simpa using hk0
    have HE : Hid (WhE nm.data.toList speed climb low high tick ss = k) := show _ = _ from by unfold WhE; rw [HK.out]; simp [hk0]
    have HK0 := Lib.hid hk0
    clear hk0
    go_enter Tryz.func30, Tryz.ntmps30
    go_wp2_with fail
    obtain ⟨hA, hR, hH, hz, hB⟩ := alloc3 w #[.string nm, .int .i64 speed, .int .i64 climb, .int .i64 low, .int .i64 high, .slice a ss.length c] #[.int .i64 0, .int .i64 0, .int .i64 0, .int .i64 0] #[.int .i64 0, .int .i64 0] 63 25 23
    clear hz
    generalize ((w.alloc (.cells #[.string nm, .int .i64 speed, .int .i64 climb, .int .i64 low, .int .i64 high, .slice a ss.length c] 63)).alloc (.cells #[.int .i64 0, .int .i64 0, .int .i64 0, .int .i64 0] 25)).alloc (.cells #[.int .i64 0, .int .i64 0] 23) = W0 at *
    refine (HC.out _ (HV.out.below hB)).mono ?_
    rintro e w1 ⟨rfl, hb1⟩
    unfold ErrPair
    have hA := hA.below hb1
    have hR := hR.below hb1
    have hH := hH.below hb1
    have hB := below_trans hB hb1
    clear hb1
    obtain ⟨m0, m1, m2, m3, m4, m5⟩ := cells6 hA
    obtain ⟨r0, r1, r2, r3⟩ := cells4 hR
    obtain ⟨h0, h1⟩ := cells2 hH
    have f0 := hR.frozen 0
    have f1 := hR.frozen 1
    have f2 := hR.frozen 2
    have f3 := hR.frozen 3
    have g0 := hH.frozen 0
    have g1 := hH.frozen 1
    go_wp2_with fail
    obtain ⟨y1, y2⟩ := st42_at hR hH (by omega) (.int .i64 0) (.int .i64 0) (.int .i64 0) (.int .i64 0) (.int .i64 0) (.int .i64 0)
    obtain ⟨x0, x1, x2, x3⟩ := cells4 y1
    obtain ⟨x4, x5⟩ := cells2 y2
    refine bodyPost_ret (v := .tuple #[.agg #[.int .i64 0, .int .i64 0, .int .i64 0, .int .i64 0], .agg #[.int .i64 0, .int .i64 0], .int .i64 k]) (by simp [results, Tryz.results30, go_sem, x0, x1, x2, x3, x4, x5]) rfl ⟨?_, st42_below hB (by omega) (by omega) _ _ _ _ _ _⟩
    exact whEnd_bad HE.out HK0.out
end Go.Proofs.YtmglbegbijofkaaGreatDoor
