/- The course of a craft: the walk of HazardCourse. -/
import Derived.Test.YtmglbegbijofkaaGreatDoorWA
import Derived.Test.YtmglbegbijofkaaGreatDoorW12
set_option linter.unusedVariables false
set_option linter.unusedSimpArgs false
namespace Go.Proofs.YtmglbegbijofkaaGreatDoor
open Go.RowKit
set_option maxRecDepth 100000 in
set_option maxHeartbeats 4000000 in
theorem law8_bad (nm : ByteArray) (sp cl lo hi : Int) (sv : Value) (ss : List Sight) (fr sx sy h0 : Int) (mv : Value) (M : List (Int × Int × Int)) (y : Impact) (w : World) (ht : Tab10 w) (HAW : Hid (∀ W, Tab10 W → Calls Tryz.prog 24 #[] W fun e w' => e = .returned (.bool true) ∧ Below W.heap.size W w'))
    (hss : SightsAt w sv ss) (hns : nm.size ≤ 9223372036854775806) (hnn : ss.length ≤ 9223372036854775806) (hM : MvsAt w mv M) (hml : M.length ≤ 9223372036854775806)
    (hbad : ¬ (crE nm.data.toList sp cl lo hi ss = 0 ∧ M.length ≤ 200 ∧ 0 ≤ fr ∧ fr ≤ 99800 ∧ (-1000000000 ≤ sx ∧ sx ≤ 1000000000) ∧ -1000000000 ≤ sy ∧ sy ≤ 1000000000)) :
    Calls Tryz.prog 8 #[.agg #[.string nm, .int .i64 sp, .int .i64 cl, .int .i64 lo, .int .i64 hi, sv], .agg #[.int .i64 fr, .int .i64 sx, .int .i64 sy, .int .i64 h0, mv], .agg #[.int .i64 y.p, .int .i64 y.xl, .int .i64 y.xh, .int .i64 y.yl, .int .i64 y.yh, .int .i64 y.tl, .int .i64 y.th]] w fun e w' => e = .returned (.bool true) ∧ Below w.heap.size w w' := by
  obtain ⟨sa, sc, rfl, hx⟩ := id hss
  clear hx
  obtain ⟨ma, mc, rfl, hx⟩ := id hM
  clear hx
  have HT := Lib.hid ht
  have HV := Lib.hid hss
  have HM := Lib.hid hM
  have HCK := Lib.hid (fun W (h : SightsAt W (.slice sa ss.length sc) ss) => craft_any nm sp cl lo hi _ ss W h hns hnn)
  unfold ErrPair at HCK
  clear ht hss hM
  obtain ⟨yp, yxl, yxh, yyl, yyh, ytl, yth⟩ := y
  simp only
  by_cases hE : crE nm.data.toList sp cl lo hi ss = 0
  · have HE := Lib.hid hE
    have ok := craft_ok hE
    have OK := Lib.hid ok
    obtain ⟨k1, k2, k3, k4, k5, k6, k7, k8, k9, _⟩ := ok
    rw [hE] at HCK
    clear hE
    generalize crI nm.data.toList sp cl lo hi ss = ci at *
    have HBAD := Lib.hid hbad
    clear hbad
    by_cases q1 : (200 : Int) < (M.length : Int)
    · go_enter Tryz.func8, Tryz.ntmps8
      go_wp2_with fail
      obtain ⟨hC, hX, hY, hzz, hB⟩ := alloc3 w #[.string nm, .int .i64 sp, .int .i64 cl, .int .i64 lo, .int .i64 hi, .slice sa ss.length sc] #[.int .i64 fr, .int .i64 sx, .int .i64 sy, .int .i64 h0, .slice ma M.length mc] #[.int .i64 yp, .int .i64 yxl, .int .i64 yxh, .int .i64 yyl, .int .i64 yyh, .int .i64 ytl, .int .i64 yth] 63 71 27
      generalize ((w.alloc (.cells #[.string nm, .int .i64 sp, .int .i64 cl, .int .i64 lo, .int .i64 hi, .slice sa ss.length sc] 63)).alloc (.cells #[.int .i64 fr, .int .i64 sx, .int .i64 sy, .int .i64 h0, .slice ma M.length mc] 71)).alloc (.cells #[.int .i64 yp, .int .i64 yxl, .int .i64 yxh, .int .i64 yyl, .int .i64 yyh, .int .i64 ytl, .int .i64 yth] 27) = W0 at *
      refine (HCK.out W0 (HV.out.below hB)).mono ?_
      rintro e w1 ⟨rfl, hb1⟩
      clear hzz
      have hC := hC.below hb1
      have hX := hX.below hb1
      have hY := hY.below hb1
      have hB := below_trans hB hb1
      clear hb1
      obtain ⟨x0, x1, x2, x3, x4⟩ := cells5 hX
      obtain ⟨c0, c1, c2, c3, c4, c5⟩ := cells6 hC
      clear hC hX hY
      go_wp2_with fail
      refine (HAW.out _ (HT.out.below hB)).mono ?_
      rintro e w9 ⟨rfl, hb9⟩
      go_wp2_with fail
      go_ret
      exact ⟨rfl, below_trans hB hb9⟩
    · by_cases q2 : fr < 0
      · go_enter Tryz.func8, Tryz.ntmps8
        go_wp2_with fail
        obtain ⟨hC, hX, hY, hzz, hB⟩ := alloc3 w #[.string nm, .int .i64 sp, .int .i64 cl, .int .i64 lo, .int .i64 hi, .slice sa ss.length sc] #[.int .i64 fr, .int .i64 sx, .int .i64 sy, .int .i64 h0, .slice ma M.length mc] #[.int .i64 yp, .int .i64 yxl, .int .i64 yxh, .int .i64 yyl, .int .i64 yyh, .int .i64 ytl, .int .i64 yth] 63 71 27
        generalize ((w.alloc (.cells #[.string nm, .int .i64 sp, .int .i64 cl, .int .i64 lo, .int .i64 hi, .slice sa ss.length sc] 63)).alloc (.cells #[.int .i64 fr, .int .i64 sx, .int .i64 sy, .int .i64 h0, .slice ma M.length mc] 71)).alloc (.cells #[.int .i64 yp, .int .i64 yxl, .int .i64 yxh, .int .i64 yyl, .int .i64 yyh, .int .i64 ytl, .int .i64 yth] 27) = W0 at *
        refine (HCK.out W0 (HV.out.below hB)).mono ?_
        rintro e w1 ⟨rfl, hb1⟩
        clear hzz
        have hC := hC.below hb1
        have hX := hX.below hb1
        have hY := hY.below hb1
        have hB := below_trans hB hb1
        clear hb1
        obtain ⟨x0, x1, x2, x3, x4⟩ := cells5 hX
        obtain ⟨c0, c1, c2, c3, c4, c5⟩ := cells6 hC
        clear hC hX hY
        go_wp2_with fail
        refine (HAW.out _ (HT.out.below hB)).mono ?_
        rintro e w9 ⟨rfl, hb9⟩
        go_wp2_with fail
        go_ret
        exact ⟨rfl, below_trans hB hb9⟩
      · by_cases q3 : 99800 < fr
        · go_enter Tryz.func8, Tryz.ntmps8
          go_wp2_with fail
          obtain ⟨hC, hX, hY, hzz, hB⟩ := alloc3 w #[.string nm, .int .i64 sp, .int .i64 cl, .int .i64 lo, .int .i64 hi, .slice sa ss.length sc] #[.int .i64 fr, .int .i64 sx, .int .i64 sy, .int .i64 h0, .slice ma M.length mc] #[.int .i64 yp, .int .i64 yxl, .int .i64 yxh, .int .i64 yyl, .int .i64 yyh, .int .i64 ytl, .int .i64 yth] 63 71 27
          generalize ((w.alloc (.cells #[.string nm, .int .i64 sp, .int .i64 cl, .int .i64 lo, .int .i64 hi, .slice sa ss.length sc] 63)).alloc (.cells #[.int .i64 fr, .int .i64 sx, .int .i64 sy, .int .i64 h0, .slice ma M.length mc] 71)).alloc (.cells #[.int .i64 yp, .int .i64 yxl, .int .i64 yxh, .int .i64 yyl, .int .i64 yyh, .int .i64 ytl, .int .i64 yth] 27) = W0 at *
          refine (HCK.out W0 (HV.out.below hB)).mono ?_
          rintro e w1 ⟨rfl, hb1⟩
          clear hzz
          have hC := hC.below hb1
          have hX := hX.below hb1
          have hY := hY.below hb1
          have hB := below_trans hB hb1
          clear hb1
          obtain ⟨x0, x1, x2, x3, x4⟩ := cells5 hX
          obtain ⟨c0, c1, c2, c3, c4, c5⟩ := cells6 hC
          clear hC hX hY
          go_wp2_with fail
          refine (HAW.out _ (HT.out.below hB)).mono ?_
          rintro e w9 ⟨rfl, hb9⟩
          go_wp2_with fail
          go_ret
          exact ⟨rfl, below_trans hB hb9⟩
        · by_cases q4 : sx < -1000000000
          · go_enter Tryz.func8, Tryz.ntmps8
            go_wp2_with fail
            obtain ⟨hC, hX, hY, hzz, hB⟩ := alloc3 w #[.string nm, .int .i64 sp, .int .i64 cl, .int .i64 lo, .int .i64 hi, .slice sa ss.length sc] #[.int .i64 fr, .int .i64 sx, .int .i64 sy, .int .i64 h0, .slice ma M.length mc] #[.int .i64 yp, .int .i64 yxl, .int .i64 yxh, .int .i64 yyl, .int .i64 yyh, .int .i64 ytl, .int .i64 yth] 63 71 27
            generalize ((w.alloc (.cells #[.string nm, .int .i64 sp, .int .i64 cl, .int .i64 lo, .int .i64 hi, .slice sa ss.length sc] 63)).alloc (.cells #[.int .i64 fr, .int .i64 sx, .int .i64 sy, .int .i64 h0, .slice ma M.length mc] 71)).alloc (.cells #[.int .i64 yp, .int .i64 yxl, .int .i64 yxh, .int .i64 yyl, .int .i64 yyh, .int .i64 ytl, .int .i64 yth] 27) = W0 at *
            refine (HCK.out W0 (HV.out.below hB)).mono ?_
            rintro e w1 ⟨rfl, hb1⟩
            clear hzz
            have hC := hC.below hb1
            have hX := hX.below hb1
            have hY := hY.below hb1
            have hB := below_trans hB hb1
            clear hb1
            obtain ⟨x0, x1, x2, x3, x4⟩ := cells5 hX
            obtain ⟨c0, c1, c2, c3, c4, c5⟩ := cells6 hC
            clear hC hX hY
            go_wp2_with fail
            refine (HAW.out _ (HT.out.below hB)).mono ?_
            rintro e w9 ⟨rfl, hb9⟩
            go_wp2_with fail
            go_ret
            exact ⟨rfl, below_trans hB hb9⟩
          · by_cases q5 : 1000000000 < sx
            · go_enter Tryz.func8, Tryz.ntmps8
              go_wp2_with fail
              obtain ⟨hC, hX, hY, hzz, hB⟩ := alloc3 w #[.string nm, .int .i64 sp, .int .i64 cl, .int .i64 lo, .int .i64 hi, .slice sa ss.length sc] #[.int .i64 fr, .int .i64 sx, .int .i64 sy, .int .i64 h0, .slice ma M.length mc] #[.int .i64 yp, .int .i64 yxl, .int .i64 yxh, .int .i64 yyl, .int .i64 yyh, .int .i64 ytl, .int .i64 yth] 63 71 27
              generalize ((w.alloc (.cells #[.string nm, .int .i64 sp, .int .i64 cl, .int .i64 lo, .int .i64 hi, .slice sa ss.length sc] 63)).alloc (.cells #[.int .i64 fr, .int .i64 sx, .int .i64 sy, .int .i64 h0, .slice ma M.length mc] 71)).alloc (.cells #[.int .i64 yp, .int .i64 yxl, .int .i64 yxh, .int .i64 yyl, .int .i64 yyh, .int .i64 ytl, .int .i64 yth] 27) = W0 at *
              refine (HCK.out W0 (HV.out.below hB)).mono ?_
              rintro e w1 ⟨rfl, hb1⟩
              clear hzz
              have hC := hC.below hb1
              have hX := hX.below hb1
              have hY := hY.below hb1
              have hB := below_trans hB hb1
              clear hb1
              obtain ⟨x0, x1, x2, x3, x4⟩ := cells5 hX
              obtain ⟨c0, c1, c2, c3, c4, c5⟩ := cells6 hC
              clear hC hX hY
              go_wp2_with fail
              refine (HAW.out _ (HT.out.below hB)).mono ?_
              rintro e w9 ⟨rfl, hb9⟩
              go_wp2_with fail
              go_ret
              exact ⟨rfl, below_trans hB hb9⟩
            · by_cases q6 : sy < -1000000000
              · go_enter Tryz.func8, Tryz.ntmps8
                go_wp2_with fail
                obtain ⟨hC, hX, hY, hzz, hB⟩ := alloc3 w #[.string nm, .int .i64 sp, .int .i64 cl, .int .i64 lo, .int .i64 hi, .slice sa ss.length sc] #[.int .i64 fr, .int .i64 sx, .int .i64 sy, .int .i64 h0, .slice ma M.length mc] #[.int .i64 yp, .int .i64 yxl, .int .i64 yxh, .int .i64 yyl, .int .i64 yyh, .int .i64 ytl, .int .i64 yth] 63 71 27
                generalize ((w.alloc (.cells #[.string nm, .int .i64 sp, .int .i64 cl, .int .i64 lo, .int .i64 hi, .slice sa ss.length sc] 63)).alloc (.cells #[.int .i64 fr, .int .i64 sx, .int .i64 sy, .int .i64 h0, .slice ma M.length mc] 71)).alloc (.cells #[.int .i64 yp, .int .i64 yxl, .int .i64 yxh, .int .i64 yyl, .int .i64 yyh, .int .i64 ytl, .int .i64 yth] 27) = W0 at *
                refine (HCK.out W0 (HV.out.below hB)).mono ?_
                rintro e w1 ⟨rfl, hb1⟩
                clear hzz
                have hC := hC.below hb1
                have hX := hX.below hb1
                have hY := hY.below hb1
                have hB := below_trans hB hb1
                clear hb1
                obtain ⟨x0, x1, x2, x3, x4⟩ := cells5 hX
                obtain ⟨c0, c1, c2, c3, c4, c5⟩ := cells6 hC
                clear hC hX hY
                go_wp2_with fail
                refine (HAW.out _ (HT.out.below hB)).mono ?_
                rintro e w9 ⟨rfl, hb9⟩
                go_wp2_with fail
                go_ret
                exact ⟨rfl, below_trans hB hb9⟩
              · by_cases q7 : 1000000000 < sy
                · go_enter Tryz.func8, Tryz.ntmps8
                  go_wp2_with fail
                  obtain ⟨hC, hX, hY, hzz, hB⟩ := alloc3 w #[.string nm, .int .i64 sp, .int .i64 cl, .int .i64 lo, .int .i64 hi, .slice sa ss.length sc] #[.int .i64 fr, .int .i64 sx, .int .i64 sy, .int .i64 h0, .slice ma M.length mc] #[.int .i64 yp, .int .i64 yxl, .int .i64 yxh, .int .i64 yyl, .int .i64 yyh, .int .i64 ytl, .int .i64 yth] 63 71 27
                  generalize ((w.alloc (.cells #[.string nm, .int .i64 sp, .int .i64 cl, .int .i64 lo, .int .i64 hi, .slice sa ss.length sc] 63)).alloc (.cells #[.int .i64 fr, .int .i64 sx, .int .i64 sy, .int .i64 h0, .slice ma M.length mc] 71)).alloc (.cells #[.int .i64 yp, .int .i64 yxl, .int .i64 yxh, .int .i64 yyl, .int .i64 yyh, .int .i64 ytl, .int .i64 yth] 27) = W0 at *
                  refine (HCK.out W0 (HV.out.below hB)).mono ?_
                  rintro e w1 ⟨rfl, hb1⟩
                  clear hzz
                  have hC := hC.below hb1
                  have hX := hX.below hb1
                  have hY := hY.below hb1
                  have hB := below_trans hB hb1
                  clear hb1
                  obtain ⟨x0, x1, x2, x3, x4⟩ := cells5 hX
                  obtain ⟨c0, c1, c2, c3, c4, c5⟩ := cells6 hC
                  clear hC hX hY
                  go_wp2_with fail
                  refine (HAW.out _ (HT.out.below hB)).mono ?_
                  rintro e w9 ⟨rfl, hb9⟩
                  go_wp2_with fail
                  go_ret
                  exact ⟨rfl, below_trans hB hb9⟩
                · exact absurd ⟨HE.out, by omega, by omega, by omega, ⟨by omega, by omega⟩, by omega, by omega⟩ HBAD.out
  · have hE' : (crE nm.data.toList sp cl lo hi ss != 0) = true := by simpa using hE
    clear hbad
    generalize crE nm.data.toList sp cl lo hi ss = CE at *
    generalize crI nm.data.toList sp cl lo hi ss = ci at *
    clear hE
    go_enter Tryz.func8, Tryz.ntmps8
    go_wp2_with fail
    obtain ⟨hC, hX, hY, hzz, hB⟩ := alloc3 w #[.string nm, .int .i64 sp, .int .i64 cl, .int .i64 lo, .int .i64 hi, .slice sa ss.length sc] #[.int .i64 fr, .int .i64 sx, .int .i64 sy, .int .i64 h0, .slice ma M.length mc] #[.int .i64 yp, .int .i64 yxl, .int .i64 yxh, .int .i64 yyl, .int .i64 yyh, .int .i64 ytl, .int .i64 yth] 63 71 27
    generalize ((w.alloc (.cells #[.string nm, .int .i64 sp, .int .i64 cl, .int .i64 lo, .int .i64 hi, .slice sa ss.length sc] 63)).alloc (.cells #[.int .i64 fr, .int .i64 sx, .int .i64 sy, .int .i64 h0, .slice ma M.length mc] 71)).alloc (.cells #[.int .i64 yp, .int .i64 yxl, .int .i64 yxh, .int .i64 yyl, .int .i64 yyh, .int .i64 ytl, .int .i64 yth] 27) = W0 at *
    refine (HCK.out W0 (HV.out.below hB)).mono ?_
    rintro e w1 ⟨rfl, hb1⟩
    clear hzz
    have hC := hC.below hb1
    have hX := hX.below hb1
    have hY := hY.below hb1
    have hB := below_trans hB hb1
    clear hb1
    obtain ⟨x0, x1, x2, x3, x4⟩ := cells5 hX
    obtain ⟨c0, c1, c2, c3, c4, c5⟩ := cells6 hC
    clear hC hX hY
    go_wp2_with fail
    refine (HAW.out _ (HT.out.below hB)).mono ?_
    rintro e w9 ⟨rfl, hb9⟩
    go_wp2_with fail
    go_ret
    exact ⟨rfl, below_trans hB hb9⟩
end Go.Proofs.YtmglbegbijofkaaGreatDoor
