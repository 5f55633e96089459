/- The course of a craft: the law HazardCourse. -/
import Derived.Test.YtmglbegbijofkaaGreatDoorW103
import Derived.Test.YtmglbegbijofkaaGreatDoorWD
import Derived.Test.YtmglbegbijofkaaGreatDoorW119
import Derived.Test.YtmglbegbijofkaaGreatDoorW22
set_option linter.unusedVariables false
set_option linter.unusedSimpArgs false
namespace Go.Proofs.YtmglbegbijofkaaGreatDoor
open Go.RowKit
set_option maxRecDepth 100000 in
set_option maxHeartbeats 4000000 in
theorem law8_ok (nm : ByteArray) (sp cl lo hi : Int) (sv : Value) (ss : List Sight) (fr sx sy h0 : Int) (mv : Value) (M : List (Int × Int × Int)) (y : Impact) (w : World) (ht : Tab10 w) (HAW : Hid (∀ W, Tab10 W → Calls Tryz.prog 24 #[] W fun e w' => e = .returned (.bool true) ∧ Below W.heap.size W w'))
    (hss : SightsAt w sv ss) (hns : nm.size ≤ 9223372036854775806) (hnn : ss.length ≤ 9223372036854775806) (hM : MvsAt w mv M) (hMO : MvOK M)
    (hE : crE nm.data.toList sp cl lo hi ss = 0) (hml : M.length ≤ 200) (f0 : 0 ≤ fr) (f1 : fr ≤ 99800) (hx1 : -1000000000 ≤ sx) (hx2 : sx ≤ 1000000000) (hy1 : -1000000000 ≤ sy) (hy2 : sy ≤ 1000000000) :
    Calls Tryz.prog 8 #[.agg #[.string nm, .int .i64 sp, .int .i64 cl, .int .i64 lo, .int .i64 hi, sv], .agg #[.int .i64 fr, .int .i64 sx, .int .i64 sy, .int .i64 h0, mv], .agg #[.int .i64 y.p, .int .i64 y.xl, .int .i64 y.xh, .int .i64 y.yl, .int .i64 y.yh, .int .i64 y.tl, .int .i64 y.th]] w fun e w' => e = .returned (.bool true) ∧ Below w.heap.size w w' := by
  obtain ⟨sa, sc, rfl, hx⟩ := id hss
  clear hx
  obtain ⟨ma, mc, rfl, hx⟩ := id hM
  clear hx
  have HT := Lib.hid ht
  have HV := Lib.hid hss
  have HCK := Lib.hid (fun W (h : SightsAt W (.slice sa ss.length sc) ss) => craft_any nm sp cl lo hi _ ss W h hns hnn)
  unfold ErrPair at HCK
  have ok := craft_ok hE
  have OK := Lib.hid ok
  obtain ⟨k1, k2, k3, k4, k5, k6, k7, k8, k9, _⟩ := ok
  obtain ⟨yp, yxl, yxh, yyl, yyh, ytl, yth⟩ := y
  simp only
  have HC8 := Lib.hid (show C8 w nm sp cl lo hi sa sc ss fr sx sy ma mc M from ⟨hss, hns, hM, hMO, hE, hml, f0, f1, hx1, hx2, hy1, hy2⟩)
  have HCO := Lib.hid (course_ok (h := h0) hE hMO hml f0 f1 hx1 hx2 hy1 hy2)
  rw [hE] at HCK
  clear ht hss hM hMO hE
  generalize crI nm.data.toList sp cl lo hi ss = ci at *
  have q1 : ¬ (200 : Int) < (M.length : Int) := by omega
  have q2 : ¬ fr < 0 := by omega
  have q3 : ¬ 99800 < fr := by omega
  have q4 : ¬ sx < -1000000000 := by omega
  have q5 : ¬ 1000000000 < sx := by omega
  have q6 : ¬ sy < -1000000000 := by omega
  have q7 : ¬ 1000000000 < sy := by omega
  have q8 : ¬ (10 : Int) < (ss.length : Int) := by omega
  have q9 : ¬ lo < 0 := by omega
  have q10 : ¬ 2000000000 < hi := by omega
  have q11 : ¬ hi < lo := by omega
  obtain ⟨hz, hmm⟩ : ∃ hz, max lo (min hi h0) = hz := ⟨_, rfl⟩
  have HHZ := Lib.hid hmm
  go_enter Tryz.func8, Tryz.ntmps8
  go_wp2_with fail
  obtain ⟨hC, hX, hY, hzz, hB⟩ := alloc3 w #[.string nm, .int .i64 sp, .int .i64 cl, .int .i64 lo, .int .i64 hi, .slice sa ss.length sc] #[.int .i64 fr, .int .i64 sx, .int .i64 sy, .int .i64 h0, .slice ma M.length mc] #[.int .i64 yp, .int .i64 yxl, .int .i64 yxh, .int .i64 yyl, .int .i64 yyh, .int .i64 ytl, .int .i64 yth] 63 71 27
  generalize ((w.alloc (.cells #[.string nm, .int .i64 sp, .int .i64 cl, .int .i64 lo, .int .i64 hi, .slice sa ss.length sc] 63)).alloc (.cells #[.int .i64 fr, .int .i64 sx, .int .i64 sy, .int .i64 h0, .slice ma M.length mc] 71)).alloc (.cells #[.int .i64 yp, .int .i64 yxl, .int .i64 yxh, .int .i64 yyl, .int .i64 yyh, .int .i64 ytl, .int .i64 yth] 27) = W0 at *
  refine (HCK.out W0 (HV.out.below hB)).mono ?_
  rintro e w1 ⟨rfl, hb1⟩
  clear hzz
  have hC := hC.below hb1
  have hX := hX.below hb1
  have hY := hY.below hb1
  have hB := below_trans hB hb1
  clear hb1
  have hW0 := hC.lt
  have hW1 := hX.lt
  have hW2 := hY.lt
  obtain ⟨x0, x1, x2, x3, x4⟩ := cells5 hX
  obtain ⟨c0, c1, c2, c3, c4, c5⟩ := cells6 hC
  go_upto_region 4 with fail
  clear q1 q2 q3 q4 q5 q6 q7 q8 q9 q10 q11
  go_region
  go_upto_region 5 with fail
  go_cut [11, 12] from 105 to 108 (fun v11 v12 wx => RowsD (w1.heap.size + 1) [(sx, sy)] [hz] 1 1 v11 v12 wx ∧ cellsAt wx w1.heap.size 39 #[.int .i64 sx, .int .i64 sy] ∧ cellsAt wx w.heap.size 63 #[.string nm, .int .i64 sp, .int .i64 cl, .int .i64 lo, .int .i64 hi, .slice sa ss.length sc] ∧ cellsAt wx (w.heap.size + 1) 71 #[.int .i64 fr, .int .i64 sx, .int .i64 sy, .int .i64 h0, .slice ma M.length mc] ∧ cellsAt wx (w.heap.size + 1 + 1) 27 #[.int .i64 yp, .int .i64 yxl, .int .i64 yxh, .int .i64 yyl, .int .i64 yyh, .int .i64 ytl, .int .i64 yth] ∧ Below w.heap.size w wx ∧ w1.heap.size + 1 ≤ wx.heap.size)
  case first =>
    obtain ⟨r1, r2, r3⟩ := rowsD_first w1 sx sy hz
    go_wp2_with fail
    go_meet
    have hz3 : w1.heap.size + 1 ≤ (((w1.alloc (.cells #[.int .i64 sx, .int .i64 sy] 39)).alloc (.cells #[.int .i64 sx, .int .i64 sy] 39)).alloc (.cells #[.int .i64 hz] 3)).heap.size := by rw [World.size_alloc, World.size_alloc, World.size_alloc]; omega
    generalize ((w1.alloc (.cells #[.int .i64 sx, .int .i64 sy] 39)).alloc (.cells #[.int .i64 sx, .int .i64 sy] 39)).alloc (.cells #[.int .i64 hz] 3) = wz at *
    exact ⟨r1.drew, r2.drew, (hC.below r3).drew, (hX.below r3).drew, (hY.below r3).drew, (below_trans hB r3).drew, hz3⟩
  case rest =>
    obtain ⟨hR, hP, hC, hX, hY, hB, hS⟩ := hcut
    have e := HHZ.out
    subst e
    obtain ⟨kc, kn, ke, ks⟩ := HCO.out
    have HBD : Hid (CsBd M.length (posX sp sx M) (posY sp sy M) (posH cl lo hi h0 M)) := fun k hk => by
      have hb := pos_bd kc OK.out.s0 OK.out.s1 hml hk
      have hh := posH_bd (cl := cl) (h := h0) OK.out.l1 M k
      have ol0 := OK.out.l0
      have oh1 := OK.out.h1
      omega
    have hln : (putL fr (posX sp sx M) (posY sp sy M) (posH cl lo hi h0 M) ss (putN7 ss M.length)).length ≤ 9223372036854775806 := by rw [putL_length]; unfold putN7; omega
    have HWH := Lib.hid (fun (k : Nat) (hk : k ≤ M.length) => where_ok (nm := nm) kc kn ke ks hns hln f0 f1 hml hk)
    refine ‹∀ (a : Act) (w : World), Code.wp Tryz.prog _ _ a w → _› _ _ ?_
    refine c8tail1 (by kernel_rfl) HC8 hC hX hY hP hR hB (by omega) (by omega) (by omega) (by omega) (by omega) hS ?_
    clear hC hX hY hP hR hB hS
    intro c2 hc2 u13 u109 u110 u111 u112 u113 u114 u115 u116 u117 u118 u119 u120 u121 u122 u123 u124 u125 u126 u127 u128 u129 u130 u131 u132 u133 u134 u135 u136 u137 u138 u139 u140 u141 u142 u143 u144 u145 u146 u147 u148 u149 u150 u151 u152 u153 u154 u155 u156 u157 u158 u159 u160 u161 u162 u163 u164 u165 u166 u167 db g d1 g' d2 w2 hD hC hX hY hcs hd hB
    refine c8tail2 hc2 HC8 HBD hD hC hX hY hcs hd hB ?_
    clear hD hC hX hY hcs hd hB hc2 c2
    intro c3 hc3 u15 u16 u17 u168 u169 u170 u171 u172 u173 u174 u175 u176 u177 u178 u179 u180 u181 u182 u183 u184 u185 u186 u187 u188 u189 u190 u191 u192 u193 u194 u195 u196 u197 u198 u199 u200 u201 u202 u203 u204 u205 u206 u207 u208 u209 u210 u211 u212 u213 u214 u215 u216 u217 u218 u219 u220 u221 u222 u223 u224 u225 u226 u227 u228 u229 u230 u231 u232 u233 u234 u235 u236 u237 u238 u239 u240 u241 u242 u243 u244 u245 u246 v w3 hD hS hX hY hcs hB
    refine c8tail3 (R := shipsR [⟨yp, yxl, yxh, yyl, yyh, ytl, yth⟩] [⟨nm, sp, cl, lo, hi, v, putL fr (posX sp sx M) (posY sp sy M) (posH cl lo hi h0 M) ss (putN7 ss M.length)⟩]) hc3 HWH f0 f1 hml hD hS hX hY hcs hB (fun W vl vc hl hc => ships_any vl vc _ _ W hl hc (by simp) (by simp)) hns hln ?_
    clear hD hS hX hY hcs hB hc3 c3
    intro c4 hc4 u6 u19 u20 u21 u22 u247 u248 u249 u250 u251 u252 u253 u254 u255 u256 u257 u258 u259 u260 u261 u262 u263 u264 u265 u266 u267 u268 u269 u270 u271 u272 u273 u274 u275 u276 u277 u278 u279 u280 u281 u282 u283 u284 u285 u286 u287 u288 u289 u290 u291 u292 u293 u294 u295 u296 u297 u298 u299 u300 u301 u302 u303 u304 u305 u306 u307 u308 u309 u310 u311 u312 u313 u314 u315 u316 u317 u318 u319 u320 u321 u322 u323 u324 u325 u326 u327 u328 u329 u330 u331 u332 u333 u334 u335 u336 u337 u338 u339 u340 met v0' Bq w4 hmo ho hB
    refine c8tail4 hc4 HT HAW ?_ ?_ ho hB
    · rcases hmo with rfl | ⟨j, hj, rfl, -⟩
      · exact .inl rfl
      · exact .inr (by omega)
    · intro h0 hm
      rcases hmo with rfl | ⟨j, hj, rfl, b1, b2, b3⟩
      · omega
      · unfold hasB at b1 b2 b3
        simp only [Bool.and_eq_true, decide_eq_true_eq] at b1 b2 b3
        obtain ⟨t, ht, hle⟩ := ships_one h0 (where_has kc kn ks hj) b1.1 b1.2 b2.1 b2.2 b3.1 b3.2 (kc.lo j hj).1 (kc.lo j hj).2
        exact ⟨t, by rw [ht], hle⟩
theorem law8 (nm : ByteArray) (sp cl lo hi : Int) (sv : Value) (ss : List Sight) (fr sx sy h0 : Int) (mv : Value) (M : List (Int × Int × Int)) (y : Impact) (w : World) (ht : Tab10 w)
    (hss : SightsAt w sv ss) (hns : nm.size ≤ 9223372036854775806) (hnn : ss.length ≤ 9223372036854775806) (hM : MvsAt w mv M) (hMO : MvOK M) (hml : M.length ≤ 9223372036854775806) :
    Calls Tryz.prog 8 #[.agg #[.string nm, .int .i64 sp, .int .i64 cl, .int .i64 lo, .int .i64 hi, sv], .agg #[.int .i64 fr, .int .i64 sx, .int .i64 sy, .int .i64 h0, mv], .agg #[.int .i64 y.p, .int .i64 y.xl, .int .i64 y.xh, .int .i64 y.yl, .int .i64 y.yh, .int .i64 y.tl, .int .i64 y.th]] w fun e w' => e = .returned (.bool true) ∧ Below w.heap.size w w' := by
  have HAW : Hid (∀ W, Tab10 W → Calls Tryz.prog 24 #[] W fun e w' => e = .returned (.bool true) ∧ Below W.heap.size W w') := fun W h => awake_true W h
  by_cases hbad : crE nm.data.toList sp cl lo hi ss = 0 ∧ M.length ≤ 200 ∧ 0 ≤ fr ∧ fr ≤ 99800 ∧ (-1000000000 ≤ sx ∧ sx ≤ 1000000000) ∧ -1000000000 ≤ sy ∧ sy ≤ 1000000000
  · obtain ⟨a, b, c, d, ⟨e, f⟩, g, h⟩ := hbad
    exact law8_ok nm sp cl lo hi sv ss fr sx sy h0 mv M y w ht HAW hss hns hnn hM hMO a b c d e f g h
  · exact law8_bad nm sp cl lo hi sv ss fr sx sy h0 mv M y w ht HAW hss hns hnn hM hml hbad
end Go.Proofs.YtmglbegbijofkaaGreatDoor
