/- HazardCourse: its end. -/
import Derived.Test.YtmglbegbijofkaaGreatDoorWD
import Derived.Test.YtmglbegbijofkaaGreatDoorW12
set_option linter.unusedVariables false
set_option linter.unusedSimpArgs false

namespace Go.Proofs.YtmglbegbijofkaaGreatDoor
open Go.RowKit
set_option maxRecDepth 100000 in
set_option maxHeartbeats 4000000 in
theorem c8tail4 {c : Code} (hc : c = tlOf Tryz.f8 33) {w wc : World} {met re : Int} {rl : List (Int × Int × Int)} {v0' : Value} {Bq : Nat} (HT : Hid (Tab10 w)) (HAW : Hid (∀ W, Tab10 W → Calls Tryz.prog 24 #[] W fun e w' => e = .returned (.bool true) ∧ Below W.heap.size W w'))
  (hm : met = -1 ∨ 0 ≤ met) (hso : re = 0 → 0 ≤ met → ∃ t, rl = [(0, 0, t)] ∧ t ≤ met) (ho : wc.ownsRow Bq 85 3 v0' rl.length (mtc rl)) (hB : Below w.heap.size w wc) {v0 v1 v2 v3 v4 v5 v6 v7 v9 v10 v11 v12 v13 v14 v15 v16 v17 v19 v20 v21 v22 v24 v25 v26 v27 v28 v29 v30 v31 v32 v33 v34 v35 v36 v37 v38 v39 v40 v41 v42 v43 v44 v45 v46 v47 v48 v49 v50 v51 v52 v53 v54 v55 v56 v57 v58 v59 v60 v61 v62 v63 v64 v65 v66 v67 v68 v69 v70 v71 v72 v73 v74 v75 v76 v77 v78 v79 v80 v81 v82 v83 v84 v85 v86 v87 v88 v89 v90 v91 v92 v93 v94 v95 v96 v97 v98 v99 v100 v101 v102 v103 v104 v105 v106 v107 v108 v109 v110 v111 v112 v113 v114 v115 v116 v117 v118 v119 v120 v121 v122 v123 v124 v125 v126 v127 v128 v129 v130 v131 v132 v133 v134 v135 v136 v137 v138 v139 v140 v141 v142 v143 v144 v145 v146 v147 v148 v149 v150 v151 v152 v153 v154 v155 v156 v157 v158 v159 v160 v161 v162 v163 v164 v165 v166 v167 v168 v169 v170 v171 v172 v173 v174 v175 v176 v177 v178 v179 v180 v181 v182 v183 v184 v185 v186 v187 v188 v189 v190 v191 v192 v193 v194 v195 v196 v197 v198 v199 v200 v201 v202 v203 v204 v205 v206 v207 v208 v209 v210 v211 v212 v213 v214 v215 v216 v217 v218 v219 v220 v221 v222 v223 v224 v225 v226 v227 v228 v229 v230 v231 v232 v233 v234 v235 v236 v237 v238 v239 v240 v241 v242 v243 v244 v245 v246 v247 v248 v249 v250 v251 v252 v253 v254 v255 v256 v257 v258 v259 v260 v261 v262 v263 v264 v265 v266 v267 v268 v269 v270 v271 v272 v273 v274 v275 v276 v277 v278 v279 v280 v281 v282 v283 v284 v285 v286 v287 v288 v289 v290 v291 v292 v293 v294 v295 v296 v297 v298 v299 v300 v301 v302 v303 v304 v305 v306 v307 v308 v309 v310 v311 v312 v313 v314 v315 v316 v317 v318 v319 v320 v321 v322 v323 v324 v325 v326 v327 v328 v329 v330 v331 v332 v333 v334 v335 v336 v337 v338 v339 v340 v341 v342 v343 v344 v345 v346 v347 v348 v349 v350 v351 v352 v353 v354 v355 v356 v357 v358 v359 v360 v361 v362 v363 v364 v365 v366 v367 v368 v369 v370 v371 v372 v373 v374 v375 : Value} :
  Code.wp Tryz.prog c (bodyPost Tryz.prog Tryz.f8 fun e w' => e = .returned (.bool true) ∧ Below w.heap.size w w') { tmps := #[v0, v1, v2, v3, v4, v5, v6, v7, .int .i64 re, v9, v10, v11, v12, v13, v14, v15, v16, v17, .int .i64 met, v19, v20, v21, v22, v0', v24, v25, v26, v27, v28, v29, v30, v31, v32, v33, v34, v35, v36, v37, v38, v39, v40, v41, v42, v43, v44, v45, v46, v47, v48, v49, v50, v51, v52, v53, v54, v55, v56, v57, v58, v59, v60, v61, v62, v63, v64, v65, v66, v67, v68, v69, v70, v71, v72, v73, v74, v75, v76, v77, v78, v79, v80, v81, v82, v83, v84, v85, v86, v87, v88, v89, v90, v91, v92, v93, v94, v95, v96, v97, v98, v99, v100, v101, v102, v103, v104, v105, v106, v107, v108, v109, v110, v111, v112, v113, v114, v115, v116, v117, v118, v119, v120, v121, v122, v123, v124, v125, v126, v127, v128, v129, v130, v131, v132, v133, v134, v135, v136, v137, v138, v139, v140, v141, v142, v143, v144, v145, v146, v147, v148, v149, v150, v151, v152, v153, v154, v155, v156, v157, v158, v159, v160, v161, v162, v163, v164, v165, v166, v167, v168, v169, v170, v171, v172, v173, v174, v175, v176, v177, v178, v179, v180, v181, v182, v183, v184, v185, v186, v187, v188, v189, v190, v191, v192, v193, v194, v195, v196, v197, v198, v199, v200, v201, v202, v203, v204, v205, v206, v207, v208, v209, v210, v211, v212, v213, v214, v215, v216, v217, v218, v219, v220, v221, v222, v223, v224, v225, v226, v227, v228, v229, v230, v231, v232, v233, v234, v235, v236, v237, v238, v239, v240, v241, v242, v243, v244, v245, v246, v247, v248, v249, v250, v251, v252, v253, v254, v255, v256, v257, v258, v259, v260, v261, v262, v263, v264, v265, v266, v267, v268, v269, v270, v271, v272, v273, v274, v275, v276, v277, v278, v279, v280, v281, v282, v283, v284, v285, v286, v287, v288, v289, v290, v291, v292, v293, v294, v295, v296, v297, v298, v299, v300, v301, v302, v303, v304, v305, v306, v307, v308, v309, v310, v311, v312, v313, v314, v315, v316, v317, v318, v319, v320, v321, v322, v323, v324, v325, v326, v327, v328, v329, v330, v331, v332, v333, v334, v335, v336, v337, v338, v339, v340, v341, v342, v343, v344, v345, v346, v347, v348, v349, v350, v351, v352, v353, v354, v355, v356, v357, v358, v359, v360, v361, v362, v363, v364, v365, v366, v367, v368, v369, v370, v371, v372, v373, v374, v375], defers := [] } wc := by
  subst hc
  conv => arg 2; whnf
  by_cases hre : re = 0
  · subst hre
    rcases hm with rfl | hm
    · clear hso ho
      go_wp2_with fail
      refine (HAW.out _ (HT.out.below hB)).mono ?_
      rintro e w9 ⟨rfl, hb9⟩
      go_wp2_with fail
      go_ret
      exact ⟨rfl, below_trans hB hb9⟩
    · obtain ⟨t, rfl, ht⟩ := hso rfl hm
      clear hso
      obtain ⟨h1, ⟨_, h2⟩ | ⟨g, cap, cur, rfl, h4, h5, h6, h7, h8, h9⟩⟩ := ho
      · simp at h2
      · have hc := fun (i : Nat) (hi : i < 3) => show wc.cell? ⟨g, i, none⟩ = (mtc [(0, 0, t)])[i]? from by
          have e1 : (mtc [((0 : Int), (0 : Int), t)])[i]? = cur.toList[i]? := by rw [← h9]; exact List.getElem?_take_of_lt (by simpa using hi)
          rw [e1]
          unfold World.cell?
          rw [h5]
          simp
        have m0 : wc.cell? ⟨g, 0, none⟩ = some (.int .i64 0) := hc 0 (by omega)
        have m1 : wc.cell? ⟨g, 1, none⟩ = some (.int .i64 0) := hc 1 (by omega)
        have m2 : wc.cell? ⟨g, 2, none⟩ = some (.int .i64 t) := hc 2 (by omega)
        have hmn : ¬ met < 0 := by omega
        clear hc h1 h4 h5 h6 h7 h8 h9 cur
        go_wp2_with fail
        refine (HAW.out _ (HT.out.below hB)).mono ?_
        rintro e w9 ⟨rfl, hb9⟩
        go_wp2_with fail
        go_ret
        exact ⟨rfl, below_trans hB hb9⟩
  · have hre' : (re != 0) = true := by simpa using hre
    clear hso ho
    go_wp2_with fail
    refine (HAW.out _ (HT.out.below hB)).mono ?_
    rintro e w9 ⟨rfl, hb9⟩
    go_wp2_with fail
    go_ret
    exact ⟨rfl, below_trans hB hb9⟩
end Go.Proofs.YtmglbegbijofkaaGreatDoor
