import Derived.Test.YtmglbegbijofkaaGreatDoorW113
import Derived.Test.YtmglbegbijofkaaGreatDoorWB
import Derived.Test.YtmglbegbijofkaaGreatDoorWA
set_option linter.unusedVariables false
set_option linter.unusedSimpArgs false
/- HazardCourse: its second loop, the sights. -/
namespace Go.Proofs.YtmglbegbijofkaaGreatDoor
open Go.RowKit
/-- places and heights that a walk can reckon with -/
def CsBd (n : Nat) (px py hh : Nat → Int) : Prop := ∀ k, k ≤ n → (-2000000000 ≤ px k ∧ px k ≤ 2000000000) ∧ (-2000000000 ≤ py k ∧ py k ≤ 2000000000) ∧ -2000000000 ≤ hh k ∧ hh k ≤ 2000000000
theorem CsAt.far {w w' : World} {g g' n : Nat} {px py hh : Nat → Int} (h : CsAt w g g' n px py hh) (h1 : w'.heap[g]? = w.heap[g]?) (h2 : w'.heap[g']? = w.heap[g']?) (hs : w.heap.size ≤ w'.heap.size) : CsAt w' g g' n px py hh :=
  ⟨Nat.lt_of_lt_of_le h.1 hs, Nat.lt_of_lt_of_le h.2.1 hs, fun k hk => ⟨(World.cell?_of_block (w := w) h1).trans (h.2.2 k hk).1, (World.cell?_of_block (w := w) h1).trans (h.2.2 k hk).2.1, (World.cell?_of_block (w := w) h2).trans (h.2.2 k hk).2.2⟩⟩
theorem CsAt.set {w : World} {g g' n : Nat} {px py hh : Nat → Int} (h : CsAt w g g' n px py hh) {p : Addr} (h1 : p.block ≠ g) (h2 : p.block ≠ g') (v : Value) : CsAt (w.setCell p v) g g' n px py hh :=
  h.far (Below.heap_setCell _ _ _ _ (fun e => h1 e.symm)) (Below.heap_setCell _ _ _ _ (fun e => h2 e.symm)) (by simp [World.setCell])
theorem Tryz.info77 : (Tryz.prog.info? 77).map (fun i => (i.zero, i.size, i.bytes)) = some (some (.agg #[.int .i64 0, .int .i64 0, .int .i64 0, .int .i64 0, .int .i64 0]), 5, 40) := by kernel_rfl
theorem ownsRow_set_other {w : World} {b : Nat} {e : TypeId} {size : Nat} {v : Value} {n : Nat} {xs : List Value} (h : w.ownsRow b e size v n xs) {a : Addr} (ha : ∀ g, v.ownBlock = some g → g ≠ a.block) (u : Value) : (w.setCell a u).ownsRow b e size v n xs := by
  obtain ⟨h1, h2 | ⟨g, cap, cur, rfl, h4, h5, h6⟩⟩ := h
  · exact ⟨h1, .inl h2⟩
  · exact ⟨h1, .inr ⟨g, cap, cur, rfl, h4, (Below.heap_setCell w a u g (ha g rfl)).trans h5, h6⟩⟩
section
variable {nm : ByteArray} {sp cl lo hi : Int} {sa : Option Addr} {sc : Nat} {ss : List Sight} {fr sx sy h0 : Int} {ma : Option Addr} {mc : Nat} {M : List (Int × Int × Int)} {yp yxl yxh yyl yyh ytl yth : Int}
set_option maxRecDepth 100000 in
set_option maxHeartbeats 4000000 in
theorem c8tail2 {c : Code} (hc : c = tlOf Tryz.f8 12) {w wc : World} {cb xb yb db g g' d1 d2 : Nat} {px py hh : Nat → Int} (HC8 : Hid (C8 w nm sp cl lo hi sa sc ss fr sx sy ma mc M)) (HBD : Hid (CsBd M.length px py hh))
  (hD : cellsAt wc db 63 #[.string nm, .int .i64 sp, .int .i64 cl, .int .i64 lo, .int .i64 hi, .slice sa ss.length sc]) (hC : cellsAt wc cb 63 #[.string nm, .int .i64 sp, .int .i64 cl, .int .i64 lo, .int .i64 hi, .slice sa ss.length sc]) (hX : cellsAt wc xb 71 #[.int .i64 fr, .int .i64 sx, .int .i64 sy, .int .i64 h0, .slice ma M.length mc]) (hY : cellsAt wc yb 27 #[.int .i64 yp, .int .i64 yxl, .int .i64 yxh, .int .i64 yyl, .int .i64 yyh, .int .i64 ytl, .int .i64 yth]) (hcs : CsAt wc g g' M.length px py hh) (hd : w.heap.size ≤ db ∧ cb < db ∧ xb < db ∧ yb < db ∧ g < db ∧ g' < db) (hB : Below w.heap.size w wc)
  {v0 v1 v2 v6 v7 v8 v9 v10 v13 v15 v16 v17 v18 v19 v20 v21 v22 v23 v24 v25 v26 v27 v28 v29 v30 v31 v32 v33 v34 v35 v36 v37 v38 v39 v40 v41 v42 v43 v44 v45 v46 v47 v48 v49 v50 v51 v52 v53 v54 v55 v56 v57 v58 v59 v60 v61 v62 v63 v64 v65 v66 v67 v68 v69 v70 v71 v72 v73 v74 v75 v76 v77 v78 v79 v80 v81 v82 v83 v84 v85 v86 v87 v88 v89 v90 v91 v92 v93 v94 v95 v96 v97 v98 v99 v100 v101 v102 v103 v104 v105 v106 v107 v108 v109 v110 v111 v112 v113 v114 v115 v116 v117 v118 v119 v120 v121 v122 v123 v124 v125 v126 v127 v128 v129 v130 v131 v132 v133 v134 v135 v136 v137 v138 v139 v140 v141 v142 v143 v144 v145 v146 v147 v148 v149 v150 v151 v152 v153 v154 v155 v156 v157 v158 v159 v160 v161 v162 v163 v164 v165 v166 v167 v168 v169 v170 v171 v172 v173 v174 v175 v176 v177 v178 v179 v180 v181 v182 v183 v184 v185 v186 v187 v188 v189 v190 v191 v192 v193 v194 v195 v196 v197 v198 v199 v200 v201 v202 v203 v204 v205 v206 v207 v208 v209 v210 v211 v212 v213 v214 v215 v216 v217 v218 v219 v220 v221 v222 v223 v224 v225 v226 v227 v228 v229 v230 v231 v232 v233 v234 v235 v236 v237 v238 v239 v240 v241 v242 v243 v244 v245 v246 v247 v248 v249 v250 v251 v252 v253 v254 v255 v256 v257 v258 v259 v260 v261 v262 v263 v264 v265 v266 v267 v268 v269 v270 v271 v272 v273 v274 v275 v276 v277 v278 v279 v280 v281 v282 v283 v284 v285 v286 v287 v288 v289 v290 v291 v292 v293 v294 v295 v296 v297 v298 v299 v300 v301 v302 v303 v304 v305 v306 v307 v308 v309 v310 v311 v312 v313 v314 v315 v316 v317 v318 v319 v320 v321 v322 v323 v324 v325 v326 v327 v328 v329 v330 v331 v332 v333 v334 v335 v336 v337 v338 v339 v340 v341 v342 v343 v344 v345 v346 v347 v348 v349 v350 v351 v352 v353 v354 v355 v356 v357 v358 v359 v360 v361 v362 v363 v364 v365 v366 v367 v368 v369 v370 v371 v372 v373 v374 v375 : Value} {Q : Exit → Act → World → Prop}
  (hK : ∀ c', c' = tlOf Tryz.f8 24 → ∀ (u15 u16 u17 u168 u169 u170 u171 u172 u173 u174 u175 u176 u177 u178 u179 u180 u181 u182 u183 u184 u185 u186 u187 u188 u189 u190 u191 u192 u193 u194 u195 u196 u197 u198 u199 u200 u201 u202 u203 u204 u205 u206 u207 u208 u209 u210 u211 u212 u213 u214 u215 u216 u217 u218 u219 u220 u221 u222 u223 u224 u225 u226 u227 u228 u229 u230 u231 u232 u233 u234 u235 u236 u237 u238 u239 u240 u241 u242 u243 u244 u245 u246 : Value) (v : Value) (w' : World), cellsAt w' db 63 #[.string nm, .int .i64 sp, .int .i64 cl, .int .i64 lo, .int .i64 hi, v] → SightsAt w' v (putL fr px py hh ss (putN7 ss M.length)) → cellsAt w' xb 71 #[.int .i64 fr, .int .i64 sx, .int .i64 sy, .int .i64 h0, .slice ma M.length mc] → cellsAt w' yb 27 #[.int .i64 yp, .int .i64 yxl, .int .i64 yxh, .int .i64 yyl, .int .i64 yyh, .int .i64 ytl, .int .i64 yth] → CsAt w' g g' M.length px py hh → Below w.heap.size w w' →
    Code.wp Tryz.prog c' Q { tmps := #[v0, v1, v2, .pointer (some ⟨cb, 0, none⟩), .pointer (some ⟨xb, 0, none⟩), .pointer (some ⟨yb, 0, none⟩), v6, v7, v8, v9, v10, .slice (some ⟨g, 0, none⟩) (M.length + 1) d1, .slice (some ⟨g', 0, none⟩) (M.length + 1) d2, v13, .pointer (some ⟨db, 0, none⟩), u15, u16, u17, .int .i64 (-1), v19, v20, v21, v22, v23, v24, v25, v26, v27, v28, v29, v30, v31, v32, v33, v34, v35, v36, v37, v38, v39, v40, v41, v42, v43, v44, v45, v46, v47, v48, v49, v50, v51, v52, v53, v54, v55, v56, v57, v58, v59, v60, v61, v62, v63, v64, v65, v66, v67, v68, v69, v70, v71, v72, v73, v74, v75, v76, v77, v78, v79, v80, v81, v82, v83, v84, v85, v86, v87, v88, v89, v90, v91, v92, v93, v94, v95, v96, v97, v98, v99, v100, v101, v102, v103, v104, v105, v106, v107, v108, v109, v110, v111, v112, v113, v114, v115, v116, v117, v118, v119, v120, v121, v122, v123, v124, v125, v126, v127, v128, v129, v130, v131, v132, v133, v134, v135, v136, v137, v138, v139, v140, v141, v142, v143, v144, v145, v146, v147, v148, v149, v150, v151, v152, v153, v154, v155, v156, v157, v158, v159, v160, v161, v162, v163, v164, v165, v166, v167, u168, u169, u170, u171, u172, u173, u174, u175, u176, u177, u178, u179, u180, u181, u182, u183, u184, u185, u186, u187, u188, u189, u190, u191, u192, u193, u194, u195, u196, u197, u198, u199, u200, u201, u202, u203, u204, u205, u206, u207, u208, u209, u210, u211, u212, u213, u214, u215, u216, u217, u218, u219, u220, u221, u222, u223, u224, u225, u226, u227, u228, u229, u230, u231, u232, u233, u234, u235, u236, u237, u238, u239, u240, u241, u242, u243, u244, u245, u246, v247, v248, v249, v250, v251, v252, v253, v254, v255, v256, v257, v258, v259, v260, v261, v262, v263, v264, v265, v266, v267, v268, v269, v270, v271, v272, v273, v274, v275, v276, v277, v278, v279, v280, v281, v282, v283, v284, v285, v286, v287, v288, v289, v290, v291, v292, v293, v294, v295, v296, v297, v298, v299, v300, v301, v302, v303, v304, v305, v306, v307, v308, v309, v310, v311, v312, v313, v314, v315, v316, v317, v318, v319, v320, v321, v322, v323, v324, v325, v326, v327, v328, v329, v330, v331, v332, v333, v334, v335, v336, v337, v338, v339, v340, v341, v342, v343, v344, v345, v346, v347, v348, v349, v350, v351, v352, v353, v354, v355, v356, v357, v358, v359, v360, v361, v362, v363, v364, v365, v366, v367, v368, v369, v370, v371, v372, v373, v374, v375], defers := [] } w') :
  Code.wp Tryz.prog c Q { tmps := #[v0, v1, v2, .pointer (some ⟨cb, 0, none⟩), .pointer (some ⟨xb, 0, none⟩), .pointer (some ⟨yb, 0, none⟩), v6, v7, v8, v9, v10, .slice (some ⟨g, 0, none⟩) (M.length + 1) d1, .slice (some ⟨g', 0, none⟩) (M.length + 1) d2, v13, .pointer (some ⟨db, 0, none⟩), v15, v16, v17, v18, v19, v20, v21, v22, v23, v24, v25, v26, v27, v28, v29, v30, v31, v32, v33, v34, v35, v36, v37, v38, v39, v40, v41, v42, v43, v44, v45, v46, v47, v48, v49, v50, v51, v52, v53, v54, v55, v56, v57, v58, v59, v60, v61, v62, v63, v64, v65, v66, v67, v68, v69, v70, v71, v72, v73, v74, v75, v76, v77, v78, v79, v80, v81, v82, v83, v84, v85, v86, v87, v88, v89, v90, v91, v92, v93, v94, v95, v96, v97, v98, v99, v100, v101, v102, v103, v104, v105, v106, v107, v108, v109, v110, v111, v112, v113, v114, v115, v116, v117, v118, v119, v120, v121, v122, v123, v124, v125, v126, v127, v128, v129, v130, v131, v132, v133, v134, v135, v136, v137, v138, v139, v140, v141, v142, v143, v144, v145, v146, v147, v148, v149, v150, v151, v152, v153, v154, v155, v156, v157, v158, v159, v160, v161, v162, v163, v164, v165, v166, v167, v168, v169, v170, v171, v172, v173, v174, v175, v176, v177, v178, v179, v180, v181, v182, v183, v184, v185, v186, v187, v188, v189, v190, v191, v192, v193, v194, v195, v196, v197, v198, v199, v200, v201, v202, v203, v204, v205, v206, v207, v208, v209, v210, v211, v212, v213, v214, v215, v216, v217, v218, v219, v220, v221, v222, v223, v224, v225, v226, v227, v228, v229, v230, v231, v232, v233, v234, v235, v236, v237, v238, v239, v240, v241, v242, v243, v244, v245, v246, v247, v248, v249, v250, v251, v252, v253, v254, v255, v256, v257, v258, v259, v260, v261, v262, v263, v264, v265, v266, v267, v268, v269, v270, v271, v272, v273, v274, v275, v276, v277, v278, v279, v280, v281, v282, v283, v284, v285, v286, v287, v288, v289, v290, v291, v292, v293, v294, v295, v296, v297, v298, v299, v300, v301, v302, v303, v304, v305, v306, v307, v308, v309, v310, v311, v312, v313, v314, v315, v316, v317, v318, v319, v320, v321, v322, v323, v324, v325, v326, v327, v328, v329, v330, v331, v332, v333, v334, v335, v336, v337, v338, v339, v340, v341, v342, v343, v344, v345, v346, v347, v348, v349, v350, v351, v352, v353, v354, v355, v356, v357, v358, v359, v360, v361, v362, v363, v364, v365, v366, v367, v368, v369, v370, v371, v372, v373, v374, v375], defers := [] } wc := by
  subst hc
  conv => arg 2; whnf
  have HKK := Lib.hid hK
  clear hK
  have HBK := hC.lt
  obtain ⟨hd0, hd1, hd2, hd3, hd4, hd5⟩ := hd
  obtain ⟨e0, e1, e2, e3, e4, e5⟩ := cells6 hD
  have hD2 := hD.set 5 (.slice none 0 0)
  have hC2 := hC.set_other (p := ⟨db, 5, none⟩) (Nat.ne_of_gt hd1) (.slice none 0 0)
  have hX2 := hX.set_other (p := ⟨db, 5, none⟩) (Nat.ne_of_gt hd2) (.slice none 0 0)
  have hY2 := hY.set_other (p := ⟨db, 5, none⟩) (Nat.ne_of_gt hd3) (.slice none 0 0)
  have hB2 := hB.setCell (p := ⟨db, 5, none⟩) hd0 (.slice none 0 0)
  have hfz := hD.frozen 5
  have hcs2 := hcs.set (p := ⟨db, 5, none⟩) (Nat.ne_of_gt hd4) (Nat.ne_of_gt hd5) (.slice none 0 0)
  have hS2 : db + 1 ≤ (wc.setCell ⟨db, 5, none⟩ (.slice none 0 0)).heap.size := by have := hD2.lt; omega
  simp at hD2
  go_upto_region 14 with fail
  clear hD hC hX hY hB hcs hfz e0 e1 e2 e3 e4 e5 HBK
  generalize wc.setCell ⟨db, 5, none⟩ (.slice none 0 0) = w2 at *
  clear wc
  have OK := Lib.hid (craft_ok HC8.out.hE)
  have hn1 := OK.out.n1
  have hml := HC8.out.hml
  go_wp2_with fail
  go_loopw [15, 16, 17] (fun i _ _ wr => ∃ (k : Nat) (v : Value), k ≤ putN7 ss M.length ∧ i = .int .i64 k ∧ cellsAt wr db 63 #[.string nm, .int .i64 sp, .int .i64 cl, .int .i64 lo, .int .i64 hi, v] ∧ wr.ownsRow (db + 1) 77 5 v k (sgc (putL fr px py hh ss k)) ∧ cellsAt wr cb 63 #[.string nm, .int .i64 sp, .int .i64 cl, .int .i64 lo, .int .i64 hi, .slice sa ss.length sc] ∧ cellsAt wr xb 71 #[.int .i64 fr, .int .i64 sx, .int .i64 sy, .int .i64 h0, .slice ma M.length mc] ∧ cellsAt wr yb 27 #[.int .i64 yp, .int .i64 yxl, .int .i64 yxh, .int .i64 yyl, .int .i64 yyh, .int .i64 ytl, .int .i64 yth] ∧ CsAt wr g g' M.length px py hh ∧ Below w.heap.size w wr ∧ db + 1 ≤ wr.heap.size) (fun i _ _ _ => ss.length - (intOf i).toNat)
  case atStart => exact ⟨0, _, by omega, rfl, hD2, ⟨rfl, .inl ⟨rfl, rfl⟩⟩, hC2, hX2, hY2, hcs2, hB2, hS2⟩
  case round =>
    obtain ⟨k, v, hk, rfl, hDk, hOk, hCk, hXk, hYk, hcsk, hBk, hSk⟩ := hrel
    clear hD2 hC2 hX2 hY2 hB2 hS2 hcs2 w2
    unfold putN7 at hk
    obtain ⟨PL, hPL⟩ : ∃ PL, PL = putL fr px py hh ss k := ⟨_, rfl⟩
    rw [← hPL] at hOk
    have HPL := Lib.hid hPL
    clear hPL
    obtain ⟨x0, x1, x2, x3, x4⟩ := cells5 hXk
    obtain ⟨c0, c1, c2, c3, c4, c5⟩ := cells6 hCk
    obtain ⟨e0, e1, e2, e3, e4, e5⟩ := cells6 hDk
    by_cases hlt : k < ss.length
    · obtain ⟨a', c', he, hz0 | ⟨mb, mo, rfl, hmb, hm⟩⟩ := HC8.out.hss
      · omega
      simp only [Value.slice.injEq] at he
      obtain ⟨rfl, -, rfl⟩ := he
      obtain ⟨m0, m1, m2, m3, m4⟩ := sight_cells hm hlt
      clear hm
      have n0 := below_cell hBk m0
      have n1 := below_cell hBk m1
      have n2 := below_cell hBk m2
      have n3 := below_cell hBk m3
      have n4 := below_cell hBk m4
      clear m0 m1 m2 m3 m4
      have sgb := sgBad_false.1 (OK.out.sg k hlt)
      obtain ⟨sg, hsg⟩ : ∃ sg, sg = sgAt ss k := ⟨_, rfl⟩
      rw [← hsg] at n0 n1 n2 n3 n4 sgb
      have HSG := Lib.hid hsg
      clear hsg
      obtain ⟨k7, hk7⟩ : ∃ k7 : Nat, k7 = k * 7 := ⟨_, rfl⟩
      have HK7 := Lib.hid hk7
      have HE7 : Hid ((k : Int) * 7 = (k7 : Int)) := show _ = _ from by omega
      have q7 := IntWalk.i64_in ((k : Int) * 7) ⟨by omega, by omega⟩
      have hb4 : Below wr.heap.size wr (wr.alloc (.cells #[.int .i64 sg.t, .int .i64 sg.x, .int .i64 sg.y, .int .i64 sg.h, .int .i64 sg.e] 77)) := balloc (Below.refl _ _) _
      have hSa := cellsNew wr #[.int .i64 sg.t, .int .i64 sg.x, .int .i64 sg.y, .int .i64 sg.h, .int .i64 sg.e] 77
      have hDa := hDk.below hb4
      have hOa := ownsRow_below hOk hb4
      have hCa := hCk.below hb4
      have hXa := hXk.below hb4
      have hYa := hYk.below hb4
      have hcsa := hcsk.below hb4
      have hBa := below_trans hBk hb4
      have hnv := fun g hg => (World.ownsRow.lt hOk g hg).2
      have hsw : w.heap.size ≤ wr.heap.size := hBk.size
      go_upto_region 19 with fail
      rw [HE7.out]
      clear q7 hk7 hDk hOk hCk hXk hYk hcsk hBk hb4 x0 x1 x2 x3 x4 c0 c1 c2 c3 c4 c5 e0 e1 e2 e3 e4 e5 n0 n1 n2 n3 n4
      generalize wr.alloc (.cells #[.int .i64 sg.t, .int .i64 sg.x, .int .i64 sg.y, .int .i64 sg.h, .int .i64 sg.e] 77) = w3 at *
      generalize wr.heap.size = sb at *
      clear wr
      by_cases hq : k7 ≤ M.length
      · have f0 := HC8.out.f0
        have f1 := HC8.out.f1
        have q7 := IntWalk.i64_in (fr + k7) ⟨by omega, by omega⟩
        obtain ⟨x0, x1, x2, x3, x4⟩ := cells5 hXa
        obtain ⟨s0, s1, s2, s3, s4⟩ := cells5 hSa
        have z0 := hSa.frozen 0
        have z4 := hSa.frozen 4
        have hEZ : (if 1000000 < sg.e then 1000000 else sg.e) = errZ sg := by unfold errZ; split <;> omega
        have HEZ := Lib.hid hEZ
        clear hEZ
        go_upto_region 21 with fail
        rw [HEZ.out]
        have hbd := HBD.out k7 hq
        have hez : 0 ≤ errZ sg ∧ errZ sg ≤ 1000000 := by have := sgb.2.2.2.2.1; unfold errZ; omega
        have hdsb : db < sb := by omega
        have hS1 : cellsAt ((w3.setCell ⟨sb, 0, none⟩ (.int .i64 (fr + k7))).setCell ⟨sb, 4, none⟩ (.int .i64 (errZ sg))) sb 77 #[.int .i64 (fr + k7), .int .i64 sg.x, .int .i64 sg.y, .int .i64 sg.h, .int .i64 (errZ sg)] := by
          have h := (hSa.set 0 (.int .i64 (fr + k7))).set 4 (.int .i64 (errZ sg))
          simpa using h
        have hD1 := (hDa.set_other (p := ⟨sb, 0, none⟩) (Nat.ne_of_gt hdsb) (.int .i64 (fr + k7))).set_other (p := ⟨sb, 4, none⟩) (Nat.ne_of_gt hdsb) (.int .i64 (errZ sg))
        have hX1 := (hXa.set_other (p := ⟨sb, 0, none⟩) (by show sb ≠ xb; omega) (.int .i64 (fr + k7))).set_other (p := ⟨sb, 4, none⟩) (by show sb ≠ xb; omega) (.int .i64 (errZ sg))
        have hC1 := (hCa.set_other (p := ⟨sb, 0, none⟩) (by show sb ≠ cb; omega) (.int .i64 (fr + k7))).set_other (p := ⟨sb, 4, none⟩) (by show sb ≠ cb; omega) (.int .i64 (errZ sg))
        have hY1 := (hYa.set_other (p := ⟨sb, 0, none⟩) (by show sb ≠ yb; omega) (.int .i64 (fr + k7))).set_other (p := ⟨sb, 4, none⟩) (by show sb ≠ yb; omega) (.int .i64 (errZ sg))
        have hcs1 := (hcsa.set (p := ⟨sb, 0, none⟩) (by show sb ≠ g; omega) (by show sb ≠ g'; omega) (.int .i64 (fr + k7))).set (p := ⟨sb, 4, none⟩) (by show sb ≠ g; omega) (by show sb ≠ g'; omega) (.int .i64 (errZ sg))
        have hO1 := ownsRow_set_other (a := ⟨sb, 4, none⟩) (ownsRow_set_other (a := ⟨sb, 0, none⟩) hOa (fun g hg => Nat.ne_of_lt (hnv g hg)) (.int .i64 (fr + k7))) (fun g hg => Nat.ne_of_lt (hnv g hg)) (.int .i64 (errZ sg))
        have hB1 := (hBa.setCell (p := ⟨sb, 0, none⟩) hsw (.int .i64 (fr + k7))).setCell (p := ⟨sb, 4, none⟩) hsw (.int .i64 (errZ sg))
        clear hSa hDa hXa hCa hYa hcsa hOa hBa x0 x1 x2 x3 x4 s0 s1 s2 s3 s4 z0 z4 q7
        generalize (w3.setCell ⟨sb, 0, none⟩ (.int .i64 (fr + k7))).setCell ⟨sb, 4, none⟩ (.int .i64 (errZ sg)) = w4 at *
        clear w3
        obtain ⟨s0, s1, s2, s3, s4⟩ := cells5 hS1
        obtain ⟨cx, cy, ch⟩ := hcs1.2.2 k7 hq
        refine c8reg21 (by kernel_rfl) rfl rfl ⟨cx, cy, s1, s2, s4⟩ (fun i => hS1.frozen i) (by omega) (by omega) hez.1 hez.2 hbd.1.1 hbd.1.2 hbd.2.1.1 hbd.2.1.2 sgb.2.1.1 sgb.2.1.2 sgb.2.2.1.1 sgb.2.2.1.2 ?_
        intro u196 u197 u198 u199 u200 u201 u202 u203 u204 u205 u206 u207 u208 u209 u210 u211 u212 u213 u214 u215 u216 u217 u218 u219 u220 u221 u222 u223 u224 u225
        obtain ⟨X, hX⟩ : ∃ X, X = px k7 + shareZ (errZ sg) (int8Z sg.x) := ⟨_, rfl⟩
        obtain ⟨Y, hY⟩ : ∃ Y, Y = py k7 - shareZ (errZ sg) (int8Z sg.y) := ⟨_, rfl⟩
        rw [← hX, ← hY]
        have HX := Lib.hid hX
        have HY := Lib.hid hY
        clear hX hY
        have hS2 : cellsAt ((w4.drew.setCell ⟨sb, 1, none⟩ (.int .i64 X)).setCell ⟨sb, 2, none⟩ (.int .i64 Y)) sb 77 #[.int .i64 (fr + k7), .int .i64 X, .int .i64 Y, .int .i64 sg.h, .int .i64 (errZ sg)] := by
          have h := (hS1.drew.set 1 (.int .i64 X)).set 2 (.int .i64 Y)
          simpa using h
        have hb0 : Below w4.heap.size w4 w4.drew := (Below.refl _ _).drew
        have hD2 := ((hD1.below hb0).set_other (p := ⟨sb, 1, none⟩) (Nat.ne_of_gt hdsb) (.int .i64 X)).set_other (p := ⟨sb, 2, none⟩) (Nat.ne_of_gt hdsb) (.int .i64 Y)
        have hX2 := ((hX1.below hb0).set_other (p := ⟨sb, 1, none⟩) (by show sb ≠ xb; omega) (.int .i64 X)).set_other (p := ⟨sb, 2, none⟩) (by show sb ≠ xb; omega) (.int .i64 Y)
        have hC2 := ((hC1.below hb0).set_other (p := ⟨sb, 1, none⟩) (by show sb ≠ cb; omega) (.int .i64 X)).set_other (p := ⟨sb, 2, none⟩) (by show sb ≠ cb; omega) (.int .i64 Y)
        have hY2 := ((hY1.below hb0).set_other (p := ⟨sb, 1, none⟩) (by show sb ≠ yb; omega) (.int .i64 X)).set_other (p := ⟨sb, 2, none⟩) (by show sb ≠ yb; omega) (.int .i64 Y)
        have hcs2 := ((hcs1.below hb0).set (p := ⟨sb, 1, none⟩) (by show sb ≠ g; omega) (by show sb ≠ g'; omega) (.int .i64 X)).set (p := ⟨sb, 2, none⟩) (by show sb ≠ g; omega) (by show sb ≠ g'; omega) (.int .i64 Y)
        have hO2 := ownsRow_set_other (a := ⟨sb, 2, none⟩) (ownsRow_set_other (a := ⟨sb, 1, none⟩) (ownsRow_below hO1 hb0) (fun g hg => Nat.ne_of_lt (hnv g hg)) (.int .i64 X)) (fun g hg => Nat.ne_of_lt (hnv g hg)) (.int .i64 Y)
        have hB2 := (hB1.drew.setCell (p := ⟨sb, 1, none⟩) hsw (.int .i64 X)).setCell (p := ⟨sb, 2, none⟩) hsw (.int .i64 Y)
        clear hS1 hD1 hX1 hC1 hY1 hcs1 hO1 hB1 hb0 s0 s1 s2 s3 s4 cx cy ch
        generalize (w4.drew.setCell ⟨sb, 1, none⟩ (.int .i64 X)).setCell ⟨sb, 2, none⟩ (.int .i64 Y) = w5 at *
        clear w4
        obtain ⟨s0, s1, s2, s3, s4⟩ := cells5 hS2
        obtain ⟨cx, cy, ch⟩ := hcs2.2.2 k7 hq
        go_upto_region 22 with fail
        refine c8reg22 (by kernel_rfl) rfl ⟨ch, s3, s4⟩ (fun i => hS2.frozen i) (by omega) (by omega) hez.1 hez.2 hbd.2.2.1 hbd.2.2.2 (by omega) (by omega) ?_
        intro u226 u227 u228 u229 u230 u231 u232 u233 u234 u235 u236 u237 u238 u239 u240
        obtain ⟨Z, hZ⟩ : ∃ Z, Z = max 0 (min 2000000000 (hh k7 + shareZ (errZ sg) (int8Z sg.h))) := ⟨_, rfl⟩
        rw [← hZ]
        have HZ := Lib.hid hZ
        clear hZ
        have hb0 : Below w5.heap.size w5 w5.drew := (Below.refl _ _).drew
        have hS3 : cellsAt (w5.drew.setCell ⟨sb, 3, none⟩ (.int .i64 Z)) sb 77 #[.int .i64 (fr + k7), .int .i64 X, .int .i64 Y, .int .i64 Z, .int .i64 (errZ sg)] := by
          have h := hS2.drew.set 3 (.int .i64 Z)
          simpa using h
        have hD3 := (hD2.below hb0).set_other (p := ⟨sb, 3, none⟩) (Nat.ne_of_gt hdsb) (.int .i64 Z)
        have hX3 := (hX2.below hb0).set_other (p := ⟨sb, 3, none⟩) (by show sb ≠ xb; omega) (.int .i64 Z)
        have hC3 := (hC2.below hb0).set_other (p := ⟨sb, 3, none⟩) (by show sb ≠ cb; omega) (.int .i64 Z)
        have hY3 := (hY2.below hb0).set_other (p := ⟨sb, 3, none⟩) (by show sb ≠ yb; omega) (.int .i64 Z)
        have hcs3 := (hcs2.below hb0).set (p := ⟨sb, 3, none⟩) (by show sb ≠ g; omega) (by show sb ≠ g'; omega) (.int .i64 Z)
        have hO3 := ownsRow_set_other (a := ⟨sb, 3, none⟩) (ownsRow_below hO2 hb0) (fun g hg => Nat.ne_of_lt (hnv g hg)) (.int .i64 Z)
        have hB3 := hB2.drew.setCell (p := ⟨sb, 3, none⟩) hsw (.int .i64 Z)
        clear hS2 hD2 hX2 hC2 hY2 hcs2 hO2 hB2 hb0 s0 s1 s2 s3 s4 cx cy ch
        generalize w5.drew.setCell ⟨sb, 3, none⟩ (.int .i64 Z) = w6 at *
        clear w5
        obtain ⟨i1, hii, hz0, hz1, hz2⟩ := info_parts Tryz.info77
        obtain ⟨s0, s1, s2, s3, s4⟩ := cells5 hS3
        obtain ⟨e0, e1, e2, e3, e4, e5⟩ := cells6 hD3
        have hb4 : Below w6.heap.size w6 (w6.alloc (.cells #[.int .i64 (fr + k7), .int .i64 X, .int .i64 Y, .int .i64 Z, .int .i64 (errZ sg)] 77)) := balloc (Below.refl _ _) _
        have hsz6 : db + 1 ≤ w6.heap.size := hD3.lt
        have hDa := hD3.below hb4
        have hXa := hX3.below hb4
        have hCa := hC3.below hb4
        have hYa := hY3.below hb4
        have hcsa := hcs3.below hb4
        have hOa := ownsRow_below hO3 hb4
        have hBa := below_trans hB3 hb4
        have z5 := hDa.frozen 5
        go_wp2_with (at_builtin; refine wpList_append_lies _ rfl _ _ 61 rfl (db + 1) 77 i1 _ 5 40 Tryz.underlying61 hii hz0 hz1 hz2 rfl (by decide) _ k _ rfl hOa ⟨w6.heap.size, 0, none⟩ 1 1 [.int .i64 (fr + k7), .int .i64 X, .int .i64 Y, .int .i64 Z, .int .i64 (errZ sg)] rfl rfl ?c1 ?c2 (by decide) ?c3 ?c4 ?c5 _ rfl ?_)
        case c1 => exact World.news_of_block (cs := #[.int .i64 (fr + k7), .int .i64 X, .int .i64 Y, .int .i64 Z, .int .i64 (errZ sg)]) (t := 77) (fr := (0, 0)) (heap_alloc_new w6 _)
        case c2 => simp [Value.oneCell']
        case c3 => unfold maxLen; omega
        case c4 => omega
        case c5 => simp; omega
        intro g7 c7 w7 ho7 hg7 hat7 hl7
        have hD7 := cells_grown hDa hg7 (rows_ne hOa (by omega))
        have hX7 := cells_grown hXa hg7 (rows_ne hOa (by omega))
        have hC7 := cells_grown hCa hg7 (rows_ne hOa (by omega))
        have hY7 := cells_grown hYa hg7 (rows_ne hOa (by omega))
        have hcs7 := hcsa.far (hg7.block g hcsa.1 (fun e => rows_ne hOa (by omega) g e.symm rfl)) (hg7.block g' hcsa.2.1 (fun e => rows_ne hOa (by omega) g' e.symm rfl)) hg7.size
        have hB7 : Below w.heap.size w w7 := hBa.grown hg7 (by have := hBa.size; omega) (fun g hg => by have := (World.ownsRow.lt hOa g hg).1; omega)
        have hS7 : db + 1 ≤ w7.heap.size := Nat.le_trans hsz6 (Nat.le_trans (by simp) hg7.size)
        clear hS3 hD3 hX3 hC3 hY3 hcs3 hO3 hB3 hDa hXa hCa hYa hcsa hOa hBa hb4 s0 s1 s2 s3 s4 e0 e1 e2 e3 e4 e5 hg7 hat7 hl7 hii hz0 hz1 hz2 z5
        obtain ⟨e0, e1, e2, e3, e4, e5⟩ := cells6 hD7
        have z5 := hD7.frozen 5
        have hD8 := hD7.set 5 (.slice (some ⟨g7, 0, none⟩) (k + 1) c7)
        simp at hD8
        have hX8 := hX7.set_other (p := ⟨db, 5, none⟩) (Nat.ne_of_gt hd2) (.slice (some ⟨g7, 0, none⟩) (k + 1) c7)
        have hC8 := hC7.set_other (p := ⟨db, 5, none⟩) (Nat.ne_of_gt hd1) (.slice (some ⟨g7, 0, none⟩) (k + 1) c7)
        have hY8 := hY7.set_other (p := ⟨db, 5, none⟩) (Nat.ne_of_gt hd3) (.slice (some ⟨g7, 0, none⟩) (k + 1) c7)
        have hcs8 := hcs7.set (p := ⟨db, 5, none⟩) (Nat.ne_of_gt hd4) (Nat.ne_of_gt hd5) (.slice (some ⟨g7, 0, none⟩) (k + 1) c7)
        have hO8 := ownsRow_setCell_below ho7 (a := ⟨db, 5, none⟩) (Nat.lt_succ_self db) (.slice (some ⟨g7, 0, none⟩) (k + 1) c7)
        have hB8 := hB7.setCell (p := ⟨db, 5, none⟩) hd0 (.slice (some ⟨g7, 0, none⟩) (k + 1) c7)
        have hS8 : db + 1 ≤ (w7.setCell ⟨db, 5, none⟩ (.slice (some ⟨g7, 0, none⟩) (k + 1) c7)).heap.size := by simpa [World.setCell] using hS7
        have hPS : Hid (putS fr px py hh (sgAt ss k) k = ⟨fr + k7, X, Y, Z, errZ sg⟩) := show _ = _ from by rw [← HSG.out, HX.out, HY.out, HZ.out, HK7.out]; rfl
        go_wp2_with fail
        go_roundw
        case rel => exact ⟨k + 1, _, by unfold putN7; have := HK7.out; omega, by go_num, hD8, by rw [putL_succ, sgc_snoc, ← HPL.out, hPS.out]; exact hO8, hC8, hX8, hY8, hcs8, hB8, hS8⟩
        case measure => simp [intOf]; omega
      · have hRs : SightsAt w3 v (putL fr px py hh ss (putN7 ss M.length)) := by
          refine sights_of_row (B := db + 1) ?_
          rw [putL_length]
          have hkk : putN7 ss M.length = k := by unfold putN7; have := HK7.out; omega
          rw [hkk, ← HPL.out]
          exact hOa
        go_upto_region 24 with fail
        go_cut [18] from 168 to 246 (fun v18 wx => v18 = .int .i64 (-1) ∧ cellsAt wx db 63 #[.string nm, .int .i64 sp, .int .i64 cl, .int .i64 lo, .int .i64 hi, v] ∧ SightsAt wx v (putL fr px py hh ss (putN7 ss M.length)) ∧ cellsAt wx xb 71 #[.int .i64 fr, .int .i64 sx, .int .i64 sy, .int .i64 h0, .slice ma M.length mc] ∧ cellsAt wx yb 27 #[.int .i64 yp, .int .i64 yxl, .int .i64 yxh, .int .i64 yyl, .int .i64 yyh, .int .i64 ytl, .int .i64 yth] ∧ CsAt wx g g' M.length px py hh ∧ Below w.heap.size w wx)
        case first =>
          go_wp2_with fail
          go_meet
          exact ⟨rfl, hDa, hRs, hXa, hYa, hcsa, hBa⟩
        case rest =>
          obtain ⟨rfl, hD, hs, hX, hY, hcs, hB⟩ := hcut
          refine ‹∀ (a : Act) (w : World), Code.wp Tryz.prog _ _ a w → _› _ _ ?_
          exact HKK.out _ (by kernel_rfl) _ _ _ _ _ _ _ _ _ _ _ _ _ _ _ _ _ _ _ _ _ _ _ _ _ _ _ _ _ _ _ _ _ _ _ _ _ _ _ _ _ _ _ _ _ _ _ _ _ _ _ _ _ _ _ _ _ _ _ _ _ _ _ _ _ _ _ _ _ _ _ _ _ _ _ _ _ _ _ _ _ _ v _ hD hs hX hY hcs hB
    · have HK7 : Hid (k * 7 = k * 7) := show _ = _ from rfl
      have hRs : SightsAt wr v (putL fr px py hh ss (putN7 ss M.length)) := by
        refine sights_of_row (B := db + 1) ?_
        rw [putL_length]
        have hkk : putN7 ss M.length = k := by unfold putN7; have := HK7.out; omega
        rw [hkk, ← HPL.out]
        exact hOk
      go_upto_region 24 with fail
      go_cut [18] from 168 to 246 (fun v18 wx => v18 = .int .i64 (-1) ∧ cellsAt wx db 63 #[.string nm, .int .i64 sp, .int .i64 cl, .int .i64 lo, .int .i64 hi, v] ∧ SightsAt wx v (putL fr px py hh ss (putN7 ss M.length)) ∧ cellsAt wx xb 71 #[.int .i64 fr, .int .i64 sx, .int .i64 sy, .int .i64 h0, .slice ma M.length mc] ∧ cellsAt wx yb 27 #[.int .i64 yp, .int .i64 yxl, .int .i64 yxh, .int .i64 yyl, .int .i64 yyh, .int .i64 ytl, .int .i64 yth] ∧ CsAt wx g g' M.length px py hh ∧ Below w.heap.size w wx)
      case first =>
        go_wp2_with fail
        go_meet
        exact ⟨rfl, hDk, hRs, hXk, hYk, hcsk, hBk⟩
      case rest =>
        obtain ⟨rfl, hD, hs, hX, hY, hcs, hB⟩ := hcut
        refine ‹∀ (a : Act) (w : World), Code.wp Tryz.prog _ _ a w → _› _ _ ?_
        exact HKK.out _ (by kernel_rfl) _ _ _ _ _ _ _ _ _ _ _ _ _ _ _ _ _ _ _ _ _ _ _ _ _ _ _ _ _ _ _ _ _ _ _ _ _ _ _ _ _ _ _ _ _ _ _ _ _ _ _ _ _ _ _ _ _ _ _ _ _ _ _ _ _ _ _ _ _ _ _ _ _ _ _ _ _ _ _ _ _ _ v _ hD hs hX hY hcs hB
end
end Go.Proofs.YtmglbegbijofkaaGreatDoor
/- HazardCourse: its third loop, where the craft can be. -/
namespace Go.Proofs.YtmglbegbijofkaaGreatDoor
open Go.RowKit
/-- where a craft can be at a tick at which it is somewhere -/
theorem where_ok {nm : ByteArray} {sp cl lo hi fr : Int} {S : List Sight} {n : Nat} {px py hh : Nat → Int} (hc : Course sp cl lo hi n px py hh) (hn : S ≠ []) (hE : crE nm.data.toList sp cl lo hi S = 0) (hs : ∀ s ∈ S, SgOn fr n px py hh s) (hns : nm.size ≤ 9223372036854775806) (hl : S.length ≤ 9223372036854775806) (f0 : 0 ≤ fr) (f1 : fr ≤ 99800) (h2 : n ≤ 200) {k : Nat} (hk : k ≤ n) :
    ∃ A0 A1 A2 A3 A4 A5, (∀ v W, SightsAt W v S → Calls Tryz.prog 30 #[.agg #[.string nm, .int .i64 sp, .int .i64 cl, .int .i64 lo, .int .i64 hi, v], .int .i64 (fr + k)] W fun e w' => e = .returned (.tuple #[.agg #[.int .i64 A0, .int .i64 A1, .int .i64 A2, .int .i64 A3], .agg #[.int .i64 A4, .int .i64 A5], .int .i64 0]) ∧ Below W.heap.size W w') ∧ hasB A0 A1 (px k) = true ∧ hasB A2 A3 (py k) = true ∧ hasB A4 A5 (hh k) = true := by
  have H := where_has hc hn hs hk
  have hw := H.wh
  have hE2 : WhE nm.data.toList sp cl lo hi (fr + k) S = 0 := by
    unfold WhE
    rw [hE, hw, outB_false.2 ⟨by omega, by omega⟩]
    simp
  refine ⟨whXL sp (fr + k) S, whXH sp (fr + k) S, whYL sp (fr + k) S, whYH sp (fr + k) S, whZL cl lo (fr + k) S, whZH cl hi (fr + k) S, fun v W hv => (Where_any nm sp cl lo hi v S (fr + k) W hv hns hl).mono ?_, ?_, ?_, ?_⟩
  · rintro e w' ⟨rfl, hb⟩
    exact ⟨(whEnd_ok hE2).symm, hb⟩
  · obtain ⟨a, b, c, d, e, f⟩ := H
    unfold hasB; simp [a, b]
  · obtain ⟨a, b, c, d, e, f⟩ := H
    unfold hasB; simp [c, d]
  · obtain ⟨a, b, c, d, e, f⟩ := H
    unfold hasB; simp [e, f]
/-- the first tick at which it is at a place of the impact: -1, or one of those -/
def MetOk (fr ytl yth yxl yxh yyl yyh : Int) (n : Nat) (px py : Nat → Int) (met : Int) : Prop :=
  met = -1 ∨ ∃ j : Nat, j ≤ n ∧ met = fr + j ∧ hasB ytl yth met = true ∧ hasB yxl yxh (px j) = true ∧ hasB yyl yyh (py j) = true
section
variable {nm : ByteArray} {sp cl lo hi : Int} {sa : Option Addr} {sc : Nat} {ss : List Sight} {fr sx sy h0 : Int} {ma : Option Addr} {mc : Nat} {M : List (Int × Int × Int)} {yp yxl yxh yyl yyh ytl yth : Int}
theorem impacts_one {w : World} {b : Nat} (h : cellsAt w b 27 #[.int .i64 yp, .int .i64 yxl, .int .i64 yxh, .int .i64 yyl, .int .i64 yyh, .int .i64 ytl, .int .i64 yth]) : ImpactsAt w (.slice (some ⟨b, 0, none⟩) 1 1) [⟨yp, yxl, yxh, yyl, yyh, ytl, yth⟩] :=
  ⟨_, _, rfl, .inr ⟨b, 0, rfl, h.lt, fun i hi => by
    have hi : i < 7 := by simpa using hi
    rw [Nat.zero_add, h.cell]
    match i, hi with
    | 0, _ => rfl
    | 1, _ => rfl
    | 2, _ => rfl
    | 3, _ => rfl
    | 4, _ => rfl
    | 5, _ => rfl
    | 6, _ => rfl⟩⟩
theorem crafts_one {w : World} {b : Nat} {v : Value} {S : List Sight} (h : cellsAt w b 63 #[.string nm, .int .i64 sp, .int .i64 cl, .int .i64 lo, .int .i64 hi, v]) (hs : SightsAt w v S) (hns : nm.size ≤ 9223372036854775806) (hnl : S.length ≤ 9223372036854775806) : CraftsAt w (.slice (some ⟨b, 0, none⟩) 1 1) [⟨nm, sp, cl, lo, hi, v, S⟩] where
  row := ⟨_, _, rfl, .inr ⟨b, 0, rfl, h.lt, fun i hi => by
    have hi : i < 6 := by simpa using hi
    rw [Nat.zero_add, h.cell]
    match i, hi with
    | 0, _ => rfl
    | 1, _ => rfl
    | 2, _ => rfl
    | 3, _ => rfl
    | 4, _ => rfl
    | 5, _ => rfl⟩⟩
  at_ := fun k hk => by
    obtain rfl : k = 0 := by simpa using hk
    exact hs
  nm := fun k hk => by
    obtain rfl : k = 0 := by simpa using hk
    exact hns
  sg := fun k hk => by
    obtain rfl : k = 0 := by simpa using hk
    exact hnl
set_option maxRecDepth 100000 in
set_option maxHeartbeats 4000000 in
theorem c8tail3 {c : Code} (hc : c = tlOf Tryz.f8 24) {w wc : World} {xb yb db g g' d1 d2 : Nat} {px py hh : Nat → Int} {v : Value} {S : List Sight} {R : Int × List (Int × Int × Int)}
  (HWH : Hid (∀ k : Nat, k ≤ M.length → ∃ A0 A1 A2 A3 A4 A5, (∀ v W, SightsAt W v S → Calls Tryz.prog 30 #[.agg #[.string nm, .int .i64 sp, .int .i64 cl, .int .i64 lo, .int .i64 hi, v], .int .i64 (fr + k)] W fun e w' => e = .returned (.tuple #[.agg #[.int .i64 A0, .int .i64 A1, .int .i64 A2, .int .i64 A3], .agg #[.int .i64 A4, .int .i64 A5], .int .i64 0]) ∧ Below W.heap.size W w') ∧ hasB A0 A1 (px k) = true ∧ hasB A2 A3 (py k) = true ∧ hasB A4 A5 (hh k) = true))
  (f0 : 0 ≤ fr) (f1 : fr ≤ 99800) (hml : M.length ≤ 200)
  (hD : cellsAt wc db 63 #[.string nm, .int .i64 sp, .int .i64 cl, .int .i64 lo, .int .i64 hi, v]) (hS : SightsAt wc v S) (hX : cellsAt wc xb 71 #[.int .i64 fr, .int .i64 sx, .int .i64 sy, .int .i64 h0, .slice ma M.length mc]) (hY : cellsAt wc yb 27 #[.int .i64 yp, .int .i64 yxl, .int .i64 yxh, .int .i64 yyl, .int .i64 yyh, .int .i64 ytl, .int .i64 yth]) (hcs : CsAt wc g g' M.length px py hh) (hB : Below w.heap.size w wc)
  {v0 v1 v2 v3 v6 v7 v8 v9 v10 v13 v15 v16 v17 v19 v20 v21 v22 v23 v24 v25 v26 v27 v28 v29 v30 v31 v32 v33 v34 v35 v36 v37 v38 v39 v40 v41 v42 v43 v44 v45 v46 v47 v48 v49 v50 v51 v52 v53 v54 v55 v56 v57 v58 v59 v60 v61 v62 v63 v64 v65 v66 v67 v68 v69 v70 v71 v72 v73 v74 v75 v76 v77 v78 v79 v80 v81 v82 v83 v84 v85 v86 v87 v88 v89 v90 v91 v92 v93 v94 v95 v96 v97 v98 v99 v100 v101 v102 v103 v104 v105 v106 v107 v108 v109 v110 v111 v112 v113 v114 v115 v116 v117 v118 v119 v120 v121 v122 v123 v124 v125 v126 v127 v128 v129 v130 v131 v132 v133 v134 v135 v136 v137 v138 v139 v140 v141 v142 v143 v144 v145 v146 v147 v148 v149 v150 v151 v152 v153 v154 v155 v156 v157 v158 v159 v160 v161 v162 v163 v164 v165 v166 v167 v168 v169 v170 v171 v172 v173 v174 v175 v176 v177 v178 v179 v180 v181 v182 v183 v184 v185 v186 v187 v188 v189 v190 v191 v192 v193 v194 v195 v196 v197 v198 v199 v200 v201 v202 v203 v204 v205 v206 v207 v208 v209 v210 v211 v212 v213 v214 v215 v216 v217 v218 v219 v220 v221 v222 v223 v224 v225 v226 v227 v228 v229 v230 v231 v232 v233 v234 v235 v236 v237 v238 v239 v240 v241 v242 v243 v244 v245 v246 v247 v248 v249 v250 v251 v252 v253 v254 v255 v256 v257 v258 v259 v260 v261 v262 v263 v264 v265 v266 v267 v268 v269 v270 v271 v272 v273 v274 v275 v276 v277 v278 v279 v280 v281 v282 v283 v284 v285 v286 v287 v288 v289 v290 v291 v292 v293 v294 v295 v296 v297 v298 v299 v300 v301 v302 v303 v304 v305 v306 v307 v308 v309 v310 v311 v312 v313 v314 v315 v316 v317 v318 v319 v320 v321 v322 v323 v324 v325 v326 v327 v328 v329 v330 v331 v332 v333 v334 v335 v336 v337 v338 v339 v340 v341 v342 v343 v344 v345 v346 v347 v348 v349 v350 v351 v352 v353 v354 v355 v356 v357 v358 v359 v360 v361 v362 v363 v364 v365 v366 v367 v368 v369 v370 v371 v372 v373 v374 v375 : Value} {Q : Exit → Act → World → Prop}
  (HSH : Hid (∀ W vl vc, ImpactsAt W vl [⟨yp, yxl, yxh, yyl, yyh, ytl, yth⟩] → CraftsAt W vc [⟨nm, sp, cl, lo, hi, v, S⟩] → Calls Tryz.prog 34 #[vl, vc] W (MeetsPost W R)))
  (hns : nm.size ≤ 9223372036854775806) (hnl : S.length ≤ 9223372036854775806)
  (hK : ∀ c', c' = tlOf Tryz.f8 33 → ∀ (u6 u19 u20 u21 u22 u247 u248 u249 u250 u251 u252 u253 u254 u255 u256 u257 u258 u259 u260 u261 u262 u263 u264 u265 u266 u267 u268 u269 u270 u271 u272 u273 u274 u275 u276 u277 u278 u279 u280 u281 u282 u283 u284 u285 u286 u287 u288 u289 u290 u291 u292 u293 u294 u295 u296 u297 u298 u299 u300 u301 u302 u303 u304 u305 u306 u307 u308 u309 u310 u311 u312 u313 u314 u315 u316 u317 u318 u319 u320 u321 u322 u323 u324 u325 u326 u327 u328 u329 u330 u331 u332 u333 u334 u335 u336 u337 u338 u339 u340 : Value) (met : Int) (v0' : Value) (Bq : Nat) (w' : World), MetOk fr ytl yth yxl yxh yyl yyh M.length px py met → w'.ownsRow Bq 85 3 v0' R.2.length (mtc R.2) → Below w.heap.size w w' →
    Code.wp Tryz.prog c' Q { tmps := #[v0, v1, v2, v3, .pointer (some ⟨xb, 0, none⟩), .pointer (some ⟨yb, 0, none⟩), u6, v7, .int .i64 R.1, v9, v10, .slice (some ⟨g, 0, none⟩) (M.length + 1) d1, .slice (some ⟨g', 0, none⟩) (M.length + 1) d2, v13, .pointer (some ⟨db, 0, none⟩), v15, v16, v17, .int .i64 met, u19, u20, u21, u22, v0', v24, v25, v26, v27, v28, v29, v30, v31, v32, v33, v34, v35, v36, v37, v38, v39, v40, v41, v42, v43, v44, v45, v46, v47, v48, v49, v50, v51, v52, v53, v54, v55, v56, v57, v58, v59, v60, v61, v62, v63, v64, v65, v66, v67, v68, v69, v70, v71, v72, v73, v74, v75, v76, v77, v78, v79, v80, v81, v82, v83, v84, v85, v86, v87, v88, v89, v90, v91, v92, v93, v94, v95, v96, v97, v98, v99, v100, v101, v102, v103, v104, v105, v106, v107, v108, v109, v110, v111, v112, v113, v114, v115, v116, v117, v118, v119, v120, v121, v122, v123, v124, v125, v126, v127, v128, v129, v130, v131, v132, v133, v134, v135, v136, v137, v138, v139, v140, v141, v142, v143, v144, v145, v146, v147, v148, v149, v150, v151, v152, v153, v154, v155, v156, v157, v158, v159, v160, v161, v162, v163, v164, v165, v166, v167, v168, v169, v170, v171, v172, v173, v174, v175, v176, v177, v178, v179, v180, v181, v182, v183, v184, v185, v186, v187, v188, v189, v190, v191, v192, v193, v194, v195, v196, v197, v198, v199, v200, v201, v202, v203, v204, v205, v206, v207, v208, v209, v210, v211, v212, v213, v214, v215, v216, v217, v218, v219, v220, v221, v222, v223, v224, v225, v226, v227, v228, v229, v230, v231, v232, v233, v234, v235, v236, v237, v238, v239, v240, v241, v242, v243, v244, v245, v246, u247, u248, u249, u250, u251, u252, u253, u254, u255, u256, u257, u258, u259, u260, u261, u262, u263, u264, u265, u266, u267, u268, u269, u270, u271, u272, u273, u274, u275, u276, u277, u278, u279, u280, u281, u282, u283, u284, u285, u286, u287, u288, u289, u290, u291, u292, u293, u294, u295, u296, u297, u298, u299, u300, u301, u302, u303, u304, u305, u306, u307, u308, u309, u310, u311, u312, u313, u314, u315, u316, u317, u318, u319, u320, u321, u322, u323, u324, u325, u326, u327, u328, u329, u330, u331, u332, u333, u334, u335, u336, u337, u338, u339, u340, v341, v342, v343, v344, v345, v346, v347, v348, v349, v350, v351, v352, v353, v354, v355, v356, v357, v358, v359, v360, v361, v362, v363, v364, v365, v366, v367, v368, v369, v370, v371, v372, v373, v374, v375], defers := [] } w') :
  Code.wp Tryz.prog c Q { tmps := #[v0, v1, v2, v3, .pointer (some ⟨xb, 0, none⟩), .pointer (some ⟨yb, 0, none⟩), v6, v7, v8, v9, v10, .slice (some ⟨g, 0, none⟩) (M.length + 1) d1, .slice (some ⟨g', 0, none⟩) (M.length + 1) d2, v13, .pointer (some ⟨db, 0, none⟩), v15, v16, v17, .int .i64 (-1), v19, v20, v21, v22, v23, v24, v25, v26, v27, v28, v29, v30, v31, v32, v33, v34, v35, v36, v37, v38, v39, v40, v41, v42, v43, v44, v45, v46, v47, v48, v49, v50, v51, v52, v53, v54, v55, v56, v57, v58, v59, v60, v61, v62, v63, v64, v65, v66, v67, v68, v69, v70, v71, v72, v73, v74, v75, v76, v77, v78, v79, v80, v81, v82, v83, v84, v85, v86, v87, v88, v89, v90, v91, v92, v93, v94, v95, v96, v97, v98, v99, v100, v101, v102, v103, v104, v105, v106, v107, v108, v109, v110, v111, v112, v113, v114, v115, v116, v117, v118, v119, v120, v121, v122, v123, v124, v125, v126, v127, v128, v129, v130, v131, v132, v133, v134, v135, v136, v137, v138, v139, v140, v141, v142, v143, v144, v145, v146, v147, v148, v149, v150, v151, v152, v153, v154, v155, v156, v157, v158, v159, v160, v161, v162, v163, v164, v165, v166, v167, v168, v169, v170, v171, v172, v173, v174, v175, v176, v177, v178, v179, v180, v181, v182, v183, v184, v185, v186, v187, v188, v189, v190, v191, v192, v193, v194, v195, v196, v197, v198, v199, v200, v201, v202, v203, v204, v205, v206, v207, v208, v209, v210, v211, v212, v213, v214, v215, v216, v217, v218, v219, v220, v221, v222, v223, v224, v225, v226, v227, v228, v229, v230, v231, v232, v233, v234, v235, v236, v237, v238, v239, v240, v241, v242, v243, v244, v245, v246, v247, v248, v249, v250, v251, v252, v253, v254, v255, v256, v257, v258, v259, v260, v261, v262, v263, v264, v265, v266, v267, v268, v269, v270, v271, v272, v273, v274, v275, v276, v277, v278, v279, v280, v281, v282, v283, v284, v285, v286, v287, v288, v289, v290, v291, v292, v293, v294, v295, v296, v297, v298, v299, v300, v301, v302, v303, v304, v305, v306, v307, v308, v309, v310, v311, v312, v313, v314, v315, v316, v317, v318, v319, v320, v321, v322, v323, v324, v325, v326, v327, v328, v329, v330, v331, v332, v333, v334, v335, v336, v337, v338, v339, v340, v341, v342, v343, v344, v345, v346, v347, v348, v349, v350, v351, v352, v353, v354, v355, v356, v357, v358, v359, v360, v361, v362, v363, v364, v365, v366, v367, v368, v369, v370, v371, v372, v373, v374, v375], defers := [] } wc := by
  subst hc
  conv => arg 2; whnf
  have HKK := Lib.hid hK
  clear hK
  have HM0 := Lib.hid (show MetOk fr ytl yth yxl yxh yyl yyh M.length px py (-1) from .inl rfl)
  go_wp2_with fail
  go_loopw [18, 19] (fun mv i wr => ∃ (k : Nat) (met : Int), k ≤ M.length + 1 ∧ i = .int .i64 k ∧ mv = .int .i64 met ∧ Hid (MetOk fr ytl yth yxl yxh yyl yyh M.length px py met) ∧ cellsAt wr db 63 #[.string nm, .int .i64 sp, .int .i64 cl, .int .i64 lo, .int .i64 hi, v] ∧ SightsAt wr v S ∧ cellsAt wr xb 71 #[.int .i64 fr, .int .i64 sx, .int .i64 sy, .int .i64 h0, .slice ma M.length mc] ∧ cellsAt wr yb 27 #[.int .i64 yp, .int .i64 yxl, .int .i64 yxh, .int .i64 yyl, .int .i64 yyh, .int .i64 ytl, .int .i64 yth] ∧ CsAt wr g g' M.length px py hh ∧ Below w.heap.size w wr) (fun _ i _ => M.length + 1 - (intOf i).toNat)
  case atStart => exact ⟨0, -1, by omega, rfl, rfl, HM0, hD, hS, hX, hY, hcs, hB⟩
  case round =>
    obtain ⟨k, met, hk, rfl, rfl, HMO, hDk, hSk, hXk, hYk, hcsk, hBk⟩ := hrel
    clear hD hS hX hY hcs hB HM0
    obtain ⟨x0, x1, x2, x3, x4⟩ := cells5 hXk
    obtain ⟨e0, e1, e2, e3, e4, e5⟩ := cells6 hDk
    by_cases hlt : k ≤ M.length
    · obtain ⟨A0, A1, A2, A3, A4, A5, HW, b1, b2, b3⟩ := HWH.out k hlt
      have HW2 := Lib.hid (HW v)
      clear HW
      have q7 := IntWalk.i64_in (fr + k) ⟨by omega, by omega⟩
      have hkl : (k : Int) < (M.length : Int) + 1 := by omega
      go_wp2_with fail
      refine (HW2.out _ hSk).mono ?_
      rintro e w1 ⟨rfl, hb1⟩
      have hbA := below_trans hb1 (balloc (balloc (Below.refl _ w1) (.cells #[.int .i64 A0, .int .i64 A1, .int .i64 A2, .int .i64 A3] 25)) (.cells #[.int .i64 A4, .int .i64 A5] 23))
      obtain ⟨hN, hN2, hzz, -⟩ := alloc2 w1 #[.int .i64 A0, .int .i64 A1, .int .i64 A2, .int .i64 A3] #[.int .i64 A4, .int .i64 A5] 25 23
      have hD2 := hDk.below hbA
      have hS2 := hSk.below hbA
      have hX2 := hXk.below hbA
      have hY2 := hYk.below hbA
      have hcs2 := hcsk.below hbA
      have hB2 := below_trans hBk hbA
      clear hDk hSk hXk hYk hcsk hBk hbA hzz x0 x1 x2 x3 x4 e0 e1 e2 e3 e4 e5 hb1
      go_upto_region 29 with fail
      generalize (w1.alloc (.cells #[.int .i64 A0, .int .i64 A1, .int .i64 A2, .int .i64 A3] 25)).alloc (.cells #[.int .i64 A4, .int .i64 A5] 23) = w2 at *
      generalize w1.heap.size = nb at *
      obtain ⟨p0, p1, p2, p3⟩ := cells4 hN
      obtain ⟨r0, r1⟩ := cells2 hN2
      obtain ⟨cx, cy, ch⟩ := hcs2.2.2 k hlt
      refine c8reg29 (by kernel_rfl) ⟨p0, p1, p2, p3, r0, r1, cx, cy, ch⟩ (by omega) (by omega) b1 b2 b3 ?_
      intro u263 u264 u265 u266 u267 u268 u269 u270 u271 u272 u273 u274 u275 u276 u277 u278 u279 u280 u281 u282 u283 u284 u285 u286 u287 u288 u289 u290 u291 u292 u293 u294 w3 hb3
      have hD3 := hD2.below hb3
      have hS3 := hS2.below hb3
      have hX3 := hX2.below hb3
      have hY3 := hY2.below hb3
      have hcs3 := hcs2.below hb3
      have hB3 := below_trans hB2 hb3
      clear hD2 hS2 hX2 hY2 hcs2 hB2 hb3 hN hN2 p0 p1 p2 p3 r0 r1 cx cy ch b1 b2 b3
      go_upto_region 31 with fail
      obtain ⟨x0, x1, x2, x3, x4⟩ := cells5 hX3
      obtain ⟨cx, cy, ch⟩ := hcs3.2.2 k hlt
      obtain ⟨rr, hrr⟩ : ∃ rr, rr = (decide (met < 0) && (hasB ytl yth (fr + k) && (hasB yxl yxh (px k) && hasB yyl yyh (py k)))) := ⟨_, rfl⟩
      refine c8reg31 (by kernel_rfl) ⟨x0, hY3.cell 1, hY3.cell 2, hY3.cell 3, hY3.cell 4, hY3.cell 5, hY3.cell 6, cx, cy⟩ (by omega) (by omega) f0 f1 hrr ?_
      intro u296 u297 u298 u299 u300 u301 u302 u303 u304 u305 u306 u307 u308 u309 u310 u311 u312 u313 u314 u315 u316 u317 u318 u319 u320 u321 u322 u323 u324 u325 u326 u327 w4 hb4
      have hD4 := hD3.below hb4
      have hS4 := hS3.below hb4
      have hX4 := hX3.below hb4
      have hY4 := hY3.below hb4
      have hcs4 := hcs3.below hb4
      have hB4 := below_trans hB3 hb4
      have HRR := Lib.hid hrr
      clear hD3 hS3 hX3 hY3 hcs3 hB3 hb4 x0 x1 x2 x3 x4 cx cy ch hrr
      obtain ⟨x0, x1, x2, x3, x4⟩ := cells5 hX4
      cases rr with
      | true =>
        have HM2 : Hid (MetOk fr ytl yth yxl yxh yyl yyh M.length px py (fr + k)) := by
          have h := HRR.out.symm
          simp only [Bool.and_eq_true] at h
          exact .inr ⟨k, hlt, rfl, h.2.1, h.2.2.1, h.2.2.2⟩
        go_wp2_with fail
        go_roundw
        case rel => exact ⟨k + 1, _, by omega, by go_num, rfl, HM2, hD4, hS4, hX4, hY4, hcs4, hB4⟩
        case measure => simp [intOf]; omega
      | false =>
        go_wp2_with fail
        go_roundw
        case rel => exact ⟨k + 1, _, by omega, by go_num, rfl, HMO, hD4, hS4, hX4, hY4, hcs4, hB4⟩
        case measure => simp [intOf]; omega
    · obtain rfl : k = M.length + 1 := by omega
      obtain ⟨hN, hN2, hzz, hbA⟩ := alloc2 wr #[.int .i64 yp, .int .i64 yxl, .int .i64 yxh, .int .i64 yyl, .int .i64 yyh, .int .i64 ytl, .int .i64 yth] #[.string nm, .int .i64 sp, .int .i64 cl, .int .i64 lo, .int .i64 hi, v] 27 63
      have hdl := hDk.lt
      have hIm := impacts_one hN
      have hCr := crafts_one hN2 (hSk.below hbA) hns hnl
      have hBA := below_trans hBk hbA
      have y0 := hYk.cell 0
      have y1 := hYk.cell 1
      have y2 := hYk.cell 2
      have y3 := hYk.cell 3
      have y4 := hYk.cell 4
      have y5 := hYk.cell 5
      have y6 := hYk.cell 6
      simp at y0 y1 y2 y3 y4 y5 y6
      go_upto_region 33 with fail
      go_cut [8, 23] from 333 to 340 (fun v8 v23 wx => ∃ Bq : Nat, v8 = .int .i64 R.1 ∧ wx.ownsRow Bq 85 3 v23 R.2.length (mtc R.2) ∧ Below w.heap.size w wx)
      case first =>
        go_wp2_with fail
        refine (HSH.out _ _ _ hIm hCr).mono ?_
        rintro e w4 ⟨v4, rfl, ho, hb⟩
        go_wp2_with fail
        go_meet
        exact ⟨_, rfl, ho, below_trans hBA hb⟩
      case rest =>
        obtain ⟨Bq, rfl, ho, hB⟩ := hcut
        refine ‹∀ (a : Act) (w : World), Code.wp Tryz.prog _ _ a w → _› _ _ ?_
        exact HKK.out _ (by kernel_rfl) _ _ _ _ _ _ _ _ _ _ _ _ _ _ _ _ _ _ _ _ _ _ _ _ _ _ _ _ _ _ _ _ _ _ _ _ _ _ _ _ _ _ _ _ _ _ _ _ _ _ _ _ _ _ _ _ _ _ _ _ _ _ _ _ _ _ _ _ _ _ _ _ _ _ _ _ _ _ _ _ _ _ _ _ _ _ _ _ _ _ _ _ _ _ _ _ _ _ _ met _ Bq _ HMO.out ho hB
end
end Go.Proofs.YtmglbegbijofkaaGreatDoor
