/- HazardCourse: its first loop, the course. -/
import Derived.Test.YtmglbegbijofkaaGreatDoorWB
import Derived.Deep.DeepCutAuto
import Derived.Deep.CutBlock
set_option linter.unusedVariables false
set_option linter.unusedSimpArgs false
namespace Go.Proofs.YtmglbegbijofkaaGreatDoor
open Go.RowKit
/-- what HazardCourse is called with, and what it has asked before its first loop -/
structure C8 (w : World) (nm : ByteArray) (sp cl lo hi : Int) (sa : Option Addr) (sc : Nat) (ss : List Sight) (fr sx sy : Int) (ma : Option Addr) (mc : Nat) (M : List (Int × Int × Int)) : Prop where
  hss : SightsAt w (.slice sa ss.length sc) ss
  hns : nm.size ≤ 9223372036854775806
  hM : MvsAt w (.slice ma M.length mc) M
  hMO : MvOK M
  hE : crE nm.data.toList sp cl lo hi ss = 0
  hml : M.length ≤ 200
  f0 : 0 ≤ fr
  f1 : fr ≤ 99800
  x1 : -1000000000 ≤ sx
  x2 : sx ≤ 1000000000
  y1 : -1000000000 ≤ sy
  y2 : sy ≤ 1000000000
/-- a course as it lies in memory -/
def CsAt (w : World) (g g' n : Nat) (px py hh : Nat → Int) : Prop := g < w.heap.size ∧ g' < w.heap.size ∧ ∀ k, k ≤ n → w.cell? ⟨g, k * 2, none⟩ = some (.int .i64 (px k)) ∧ w.cell? ⟨g, k * 2 + 1, none⟩ = some (.int .i64 (py k)) ∧ w.cell? ⟨g', k, none⟩ = some (.int .i64 (hh k))
theorem CsAt.below {w w' : World} {g g' n : Nat} {px py hh : Nat → Int} (h : CsAt w g g' n px py hh) (hb : Below w.heap.size w w') : CsAt w' g g' n px py hh :=
  ⟨Nat.lt_of_lt_of_le h.1 hb.size, Nat.lt_of_lt_of_le h.2.1 hb.size, fun k hk => ⟨below_cell hb (h.2.2 k hk).1, below_cell hb (h.2.2 k hk).2.1, below_cell hb (h.2.2 k hk).2.2⟩⟩
theorem getD_range_map {α : Type} (f : Nat → α) (n k : Nat) (d : α) (h : k < n) : ((List.range n).map f).getD k d = f k := by
  rw [List.getD_eq_getElem?_getD, List.getElem?_map, List.getElem?_range h]; rfl
theorem course_read {B n : Nat} {px py hh : Nat → Int} {vp vh : Value} {w : World} (h : RowsD B ((List.range (n + 1)).map fun j => (px j, py j)) ((List.range (n + 1)).map hh) (n + 1) (n + 1) vp vh w) :
    ∃ g c g' c', vp = .slice (some ⟨g, 0, none⟩) (n + 1) c ∧ vh = .slice (some ⟨g', 0, none⟩) (n + 1) c' ∧ B ≤ g ∧ B ≤ g' ∧ CsAt w g g' n px py hh := by
  obtain ⟨g, c, g', c', e1, e2, b1, l1, b2, l2, k1, k2⟩ := h.read (by simp) (by simp) (by omega) (by omega)
  refine ⟨g, c, g', c', e1, e2, b1, b2, l1, l2, fun k hk => ?_⟩
  have h1 := k1 k (by omega)
  have h2 := k2 k (by omega)
  rw [getD_range_map _ _ _ _ (by omega)] at h1 h2
  exact ⟨h1.1, h1.2, h2⟩
theorem cells_grown {W W' : World} {b : Nat} {t : TypeId} {cs : Array Value} {v : Value} (h : cellsAt W b t cs) (hg : W.grownBy W' v.ownBlock) (hn : ∀ g, v.ownBlock = some g → g ≠ b) : cellsAt W' b t cs :=
  (hg.block b h.lt (fun e => hn b e.symm rfl)).trans h
theorem rows_ne {w : World} {B b n size : Nat} {e : TypeId} {v : Value} {xs : List Value} (h : w.ownsRow B e size v n xs) (hb : b < B) : ∀ g, v.ownBlock = some g → g ≠ b := fun g hg => by have := (World.ownsRow.lt h g hg).1; omega
theorem snoc_range {α : Type} (f : Nat → α) (k : Nat) : (List.range (k + 1 + 1)).map f = (List.range (k + 1)).map f ++ [f (k + 1)] := by
  rw [List.range_succ, List.map_append]; rfl
section
variable {nm : ByteArray} {sp cl lo hi : Int} {sa : Option Addr} {sc : Nat} {ss : List Sight} {fr sx sy h0 : Int} {ma : Option Addr} {mc : Nat} {M : List (Int × Int × Int)} {yp yxl yxh yyl yyh ytl yth : Int}
set_option maxRecDepth 100000 in
set_option maxHeartbeats 4000000 in
theorem c8tail1 {c : Code} (hc : c = tlOf Tryz.f8 5) {w wc : World} {cb xb yb pb B : Nat} {vp vh : Value} (HC8 : Hid (C8 w nm sp cl lo hi sa sc ss fr sx sy ma mc M))
  (hC : cellsAt wc cb 63 #[.string nm, .int .i64 sp, .int .i64 cl, .int .i64 lo, .int .i64 hi, .slice sa ss.length sc]) (hX : cellsAt wc xb 71 #[.int .i64 fr, .int .i64 sx, .int .i64 sy, .int .i64 h0, .slice ma M.length mc]) (hY : cellsAt wc yb 27 #[.int .i64 yp, .int .i64 yxl, .int .i64 yxh, .int .i64 yyl, .int .i64 yyh, .int .i64 ytl, .int .i64 yth]) (hP : cellsAt wc pb 39 #[.int .i64 sx, .int .i64 sy])
  (hR : RowsD B [(sx, sy)] [max lo (min hi h0)] 1 1 vp vh wc) (hB : Below w.heap.size w wc) (hwc : w.heap.size ≤ pb) (h1 : cb < pb) (h2 : xb < pb) (h3 : yb < pb) (hpB : pb < B) (hBs : B ≤ wc.heap.size)
  {v0 v1 v2 v6 v7 v8 v13 v14 v15 v16 v17 v18 v19 v20 v21 v22 v23 v24 v25 v26 v27 v28 v29 v30 v31 v32 v33 v34 v35 v36 v37 v38 v39 v40 v41 v42 v43 v44 v45 v46 v47 v48 v49 v50 v51 v52 v53 v54 v55 v56 v57 v58 v59 v60 v61 v62 v63 v64 v65 v66 v67 v68 v69 v70 v71 v72 v73 v74 v75 v76 v77 v78 v79 v80 v81 v82 v83 v84 v85 v86 v87 v88 v89 v90 v91 v92 v93 v94 v95 v96 v97 v98 v99 v100 v101 v102 v103 v104 v105 v106 v107 v108 v109 v110 v111 v112 v113 v114 v115 v116 v117 v118 v119 v120 v121 v122 v123 v124 v125 v126 v127 v128 v129 v130 v131 v132 v133 v134 v135 v136 v137 v138 v139 v140 v141 v142 v143 v144 v145 v146 v147 v148 v149 v150 v151 v152 v153 v154 v155 v156 v157 v158 v159 v160 v161 v162 v163 v164 v165 v166 v167 v168 v169 v170 v171 v172 v173 v174 v175 v176 v177 v178 v179 v180 v181 v182 v183 v184 v185 v186 v187 v188 v189 v190 v191 v192 v193 v194 v195 v196 v197 v198 v199 v200 v201 v202 v203 v204 v205 v206 v207 v208 v209 v210 v211 v212 v213 v214 v215 v216 v217 v218 v219 v220 v221 v222 v223 v224 v225 v226 v227 v228 v229 v230 v231 v232 v233 v234 v235 v236 v237 v238 v239 v240 v241 v242 v243 v244 v245 v246 v247 v248 v249 v250 v251 v252 v253 v254 v255 v256 v257 v258 v259 v260 v261 v262 v263 v264 v265 v266 v267 v268 v269 v270 v271 v272 v273 v274 v275 v276 v277 v278 v279 v280 v281 v282 v283 v284 v285 v286 v287 v288 v289 v290 v291 v292 v293 v294 v295 v296 v297 v298 v299 v300 v301 v302 v303 v304 v305 v306 v307 v308 v309 v310 v311 v312 v313 v314 v315 v316 v317 v318 v319 v320 v321 v322 v323 v324 v325 v326 v327 v328 v329 v330 v331 v332 v333 v334 v335 v336 v337 v338 v339 v340 v341 v342 v343 v344 v345 v346 v347 v348 v349 v350 v351 v352 v353 v354 v355 v356 v357 v358 v359 v360 v361 v362 v363 v364 v365 v366 v367 v368 v369 v370 v371 v372 v373 v374 v375 : Value} {Q : Exit → Act → World → Prop}
  (hK : ∀ c', c' = tlOf Tryz.f8 12 → ∀ (u13 u109 u110 u111 u112 u113 u114 u115 u116 u117 u118 u119 u120 u121 u122 u123 u124 u125 u126 u127 u128 u129 u130 u131 u132 u133 u134 u135 u136 u137 u138 u139 u140 u141 u142 u143 u144 u145 u146 u147 u148 u149 u150 u151 u152 u153 u154 u155 u156 u157 u158 u159 u160 u161 u162 u163 u164 u165 u166 u167 : Value) (db g c1 g' c2 : Nat) (w' : World), cellsAt w' db 63 #[.string nm, .int .i64 sp, .int .i64 cl, .int .i64 lo, .int .i64 hi, .slice sa ss.length sc] → cellsAt w' cb 63 #[.string nm, .int .i64 sp, .int .i64 cl, .int .i64 lo, .int .i64 hi, .slice sa ss.length sc] → cellsAt w' xb 71 #[.int .i64 fr, .int .i64 sx, .int .i64 sy, .int .i64 h0, .slice ma M.length mc] → cellsAt w' yb 27 #[.int .i64 yp, .int .i64 yxl, .int .i64 yxh, .int .i64 yyl, .int .i64 yyh, .int .i64 ytl, .int .i64 yth] → CsAt w' g g' M.length (posX sp sx M) (posY sp sy M) (posH cl lo hi h0 M) → w.heap.size ≤ db ∧ cb < db ∧ xb < db ∧ yb < db ∧ g < db ∧ g' < db → Below w.heap.size w w' →
    Code.wp Tryz.prog c' Q { tmps := #[v0, v1, v2, .pointer (some ⟨cb, 0, none⟩), .pointer (some ⟨xb, 0, none⟩), .pointer (some ⟨yb, 0, none⟩), v6, v7, v8, .pointer (some ⟨pb, 0, none⟩), .int .i64 (posH cl lo hi h0 M M.length), .slice (some ⟨g, 0, none⟩) (M.length + 1) c1, .slice (some ⟨g', 0, none⟩) (M.length + 1) c2, u13, .pointer (some ⟨db, 0, none⟩), v15, v16, v17, v18, v19, v20, v21, v22, v23, v24, v25, v26, v27, v28, v29, v30, v31, v32, v33, v34, v35, v36, v37, v38, v39, v40, v41, v42, v43, v44, v45, v46, v47, v48, v49, v50, v51, v52, v53, v54, v55, v56, v57, v58, v59, v60, v61, v62, v63, v64, v65, v66, v67, v68, v69, v70, v71, v72, v73, v74, v75, v76, v77, v78, v79, v80, v81, v82, v83, v84, v85, v86, v87, v88, v89, v90, v91, v92, v93, v94, v95, v96, v97, v98, v99, v100, v101, v102, v103, v104, v105, v106, v107, v108, u109, u110, u111, u112, u113, u114, u115, u116, u117, u118, u119, u120, u121, u122, u123, u124, u125, u126, u127, u128, u129, u130, u131, u132, u133, u134, u135, u136, u137, u138, u139, u140, u141, u142, u143, u144, u145, u146, u147, u148, u149, u150, u151, u152, u153, u154, u155, u156, u157, u158, u159, u160, u161, u162, u163, u164, u165, u166, u167, v168, v169, v170, v171, v172, v173, v174, v175, v176, v177, v178, v179, v180, v181, v182, v183, v184, v185, v186, v187, v188, v189, v190, v191, v192, v193, v194, v195, v196, v197, v198, v199, v200, v201, v202, v203, v204, v205, v206, v207, v208, v209, v210, v211, v212, v213, v214, v215, v216, v217, v218, v219, v220, v221, v222, v223, v224, v225, v226, v227, v228, v229, v230, v231, v232, v233, v234, v235, v236, v237, v238, v239, v240, v241, v242, v243, v244, v245, v246, v247, v248, v249, v250, v251, v252, v253, v254, v255, v256, v257, v258, v259, v260, v261, v262, v263, v264, v265, v266, v267, v268, v269, v270, v271, v272, v273, v274, v275, v276, v277, v278, v279, v280, v281, v282, v283, v284, v285, v286, v287, v288, v289, v290, v291, v292, v293, v294, v295, v296, v297, v298, v299, v300, v301, v302, v303, v304, v305, v306, v307, v308, v309, v310, v311, v312, v313, v314, v315, v316, v317, v318, v319, v320, v321, v322, v323, v324, v325, v326, v327, v328, v329, v330, v331, v332, v333, v334, v335, v336, v337, v338, v339, v340, v341, v342, v343, v344, v345, v346, v347, v348, v349, v350, v351, v352, v353, v354, v355, v356, v357, v358, v359, v360, v361, v362, v363, v364, v365, v366, v367, v368, v369, v370, v371, v372, v373, v374, v375], defers := [] } w') :
  Code.wp Tryz.prog c Q { tmps := #[v0, v1, v2, .pointer (some ⟨cb, 0, none⟩), .pointer (some ⟨xb, 0, none⟩), .pointer (some ⟨yb, 0, none⟩), v6, v7, v8, .pointer (some ⟨pb, 0, none⟩), .int .i64 (max lo (min hi h0)), vp, vh, v13, v14, v15, v16, v17, v18, v19, v20, v21, v22, v23, v24, v25, v26, v27, v28, v29, v30, v31, v32, v33, v34, v35, v36, v37, v38, v39, v40, v41, v42, v43, v44, v45, v46, v47, v48, v49, v50, v51, v52, v53, v54, v55, v56, v57, v58, v59, v60, v61, v62, v63, v64, v65, v66, v67, v68, v69, v70, v71, v72, v73, v74, v75, v76, v77, v78, v79, v80, v81, v82, v83, v84, v85, v86, v87, v88, v89, v90, v91, v92, v93, v94, v95, v96, v97, v98, v99, v100, v101, v102, v103, v104, v105, v106, v107, v108, v109, v110, v111, v112, v113, v114, v115, v116, v117, v118, v119, v120, v121, v122, v123, v124, v125, v126, v127, v128, v129, v130, v131, v132, v133, v134, v135, v136, v137, v138, v139, v140, v141, v142, v143, v144, v145, v146, v147, v148, v149, v150, v151, v152, v153, v154, v155, v156, v157, v158, v159, v160, v161, v162, v163, v164, v165, v166, v167, v168, v169, v170, v171, v172, v173, v174, v175, v176, v177, v178, v179, v180, v181, v182, v183, v184, v185, v186, v187, v188, v189, v190, v191, v192, v193, v194, v195, v196, v197, v198, v199, v200, v201, v202, v203, v204, v205, v206, v207, v208, v209, v210, v211, v212, v213, v214, v215, v216, v217, v218, v219, v220, v221, v222, v223, v224, v225, v226, v227, v228, v229, v230, v231, v232, v233, v234, v235, v236, v237, v238, v239, v240, v241, v242, v243, v244, v245, v246, v247, v248, v249, v250, v251, v252, v253, v254, v255, v256, v257, v258, v259, v260, v261, v262, v263, v264, v265, v266, v267, v268, v269, v270, v271, v272, v273, v274, v275, v276, v277, v278, v279, v280, v281, v282, v283, v284, v285, v286, v287, v288, v289, v290, v291, v292, v293, v294, v295, v296, v297, v298, v299, v300, v301, v302, v303, v304, v305, v306, v307, v308, v309, v310, v311, v312, v313, v314, v315, v316, v317, v318, v319, v320, v321, v322, v323, v324, v325, v326, v327, v328, v329, v330, v331, v332, v333, v334, v335, v336, v337, v338, v339, v340, v341, v342, v343, v344, v345, v346, v347, v348, v349, v350, v351, v352, v353, v354, v355, v356, v357, v358, v359, v360, v361, v362, v363, v364, v365, v366, v367, v368, v369, v370, v371, v372, v373, v374, v375], defers := [] } wc := by
  subst hc
  conv => arg 2; whnf
  have HKK := Lib.hid hK
  clear hK
  have HX0 : Hid (Value.int .i64 (max lo (min hi h0)) = .int .i64 (posH cl lo hi h0 M 0)) := show _ = _ from rfl
  have HR0 := Lib.hid (show RowsD B ((List.range (0 + 1)).map fun j => (posX sp sx M j, posY sp sy M j)) ((List.range (0 + 1)).map (posH cl lo hi h0 M)) (0 + 1) (0 + 1) vp vh wc from hR)
  clear hR
  have HH0 := Lib.hid (show max lo (min hi h0) = posH cl lo hi h0 M 0 from rfl)
  generalize max lo (min hi h0) = hz at *
  go_wp2_with fail
  go_loopw [10, 11, 12, 13] (fun vh v11 v12 i wr => ∃ k : Nat, k ≤ M.length ∧ i = .int .i64 k ∧ vh = .int .i64 (posH cl lo hi h0 M k) ∧ cellsAt wr pb 39 #[.int .i64 (posX sp sx M k), .int .i64 (posY sp sy M k)] ∧ RowsD B ((List.range (k + 1)).map fun j => (posX sp sx M j, posY sp sy M j)) ((List.range (k + 1)).map (posH cl lo hi h0 M)) (k + 1) (k + 1) v11 v12 wr ∧ cellsAt wr cb 63 #[.string nm, .int .i64 sp, .int .i64 cl, .int .i64 lo, .int .i64 hi, .slice sa ss.length sc] ∧ cellsAt wr xb 71 #[.int .i64 fr, .int .i64 sx, .int .i64 sy, .int .i64 h0, .slice ma M.length mc] ∧ cellsAt wr yb 27 #[.int .i64 yp, .int .i64 yxl, .int .i64 yxh, .int .i64 yyl, .int .i64 yyh, .int .i64 ytl, .int .i64 yth] ∧ B ≤ wr.heap.size ∧ Below w.heap.size w wr) (fun _ _ _ i _ => M.length - (intOf i).toNat)
  case atStart => exact ⟨0, by omega, rfl, by rw [HH0.out], hP, HR0.out, hC, hX, hY, hBs, hB⟩
  case round =>
    obtain ⟨k, hk, rfl, rfl, hPk, hRk, hCk, hXk, hYk, hBs', hBk⟩ := hrel
    clear hC hX hY hP HR0 hB HX0 HH0 hBs
    obtain ⟨PS, hPS⟩ : ∃ PS, PS = (List.range (k + 1)).map (fun j => (posX sp sx M j, posY sp sy M j)) := ⟨_, rfl⟩
    obtain ⟨HS, hHS⟩ : ∃ HS, HS = (List.range (k + 1)).map (posH cl lo hi h0 M) := ⟨_, rfl⟩
    rw [← hPS, ← hHS] at hRk
    have HPS := Lib.hid hPS
    have HHS := Lib.hid hHS
    clear hPS hHS
    obtain ⟨x0, x1, x2, x3, x4⟩ := cells5 hXk
    obtain ⟨c0, c1, c2, c3, c4, c5⟩ := cells6 hCk
    by_cases hlt : k < M.length
    · obtain ⟨a', c', he, hz0 | ⟨mb, mo, rfl, hmb, hm⟩⟩ := HC8.out.hM
      · omega
      simp only [Value.slice.injEq] at he
      obtain ⟨rfl, -, rfl⟩ := he
      obtain ⟨m0, m1, m2⟩ := mv_cells hm hlt
      clear hm
      obtain ⟨⟨a0, a1⟩, ⟨b0, b1⟩, d0, d1⟩ := HC8.out.hMO k
      have hml := HC8.out.hml
      have ok := craft_ok HC8.out.hE
      have OK := Lib.hid ok
      have hb := pos_bd (course_of (cl := cl) (low := lo) (high := hi) (x := sx) (y := sy) (h := h0) M.length HC8.out.hMO ok.s0 ok.c0 ok.l1) ok.s0 ok.s1 hml (i := k) (by omega)
      have hh := posH_bd (cl := cl) (h := h0) ok.l1 M k
      have e1 := HC8.out.x1
      have e2 := HC8.out.x2
      have e3 := HC8.out.y1
      have e4 := HC8.out.y2
      have ol0 := ok.l0
      have oh1 := ok.h1
      clear ok
      go_wp2_with fail
      refine c8reg9 (x' := posX sp sx M (k + 1)) (y' := posY sp sy M (k + 1)) (by kernel_rfl) rfl rfl ⟨(cells2 hPk).1, (cells2 hPk).2, c1, x4, below_cell hBk m0, below_cell hBk m1⟩ (fun i => hPk.frozen i) hlt hml OK.out.s0 OK.out.s1 a0 a1 b0 b1 (by omega) (by omega) (by omega) (by omega) ?_
      intro u116 u117 u118 u119 u120 u121 u122 u123 u124 u125 u126 u127 u128 u129 u130 u131 u132 u133 u134 u135 u136 u137 u138 u139 u140 u141
      have hP2 : cellsAt ((wr.drew.setCell ⟨pb, 0, none⟩ (.int .i64 (posX sp sx M (k + 1)))).setCell ⟨pb, 1, none⟩ (.int .i64 (posY sp sy M (k + 1)))) pb 39 #[.int .i64 (posX sp sx M (k + 1)), .int .i64 (posY sp sy M (k + 1))] := by
        have h := (hPk.drew.set 0 (.int .i64 (posX sp sx M (k + 1)))).set 1 (.int .i64 (posY sp sy M (k + 1)))
        simpa using h
      have hR2 := (hRk.drew.set (a := ⟨pb, 0, none⟩) hpB (.int .i64 (posX sp sx M (k + 1)))).set (a := ⟨pb, 1, none⟩) hpB (.int .i64 (posY sp sy M (k + 1)))
      have hC2 := (hCk.drew.set_other (p := ⟨pb, 0, none⟩) (Nat.ne_of_gt h1) (.int .i64 (posX sp sx M (k + 1)))).set_other (p := ⟨pb, 1, none⟩) (Nat.ne_of_gt h1) (.int .i64 (posY sp sy M (k + 1)))
      have hX2 := (hXk.drew.set_other (p := ⟨pb, 0, none⟩) (Nat.ne_of_gt h2) (.int .i64 (posX sp sx M (k + 1)))).set_other (p := ⟨pb, 1, none⟩) (Nat.ne_of_gt h2) (.int .i64 (posY sp sy M (k + 1)))
      have hY2 := (hYk.drew.set_other (p := ⟨pb, 0, none⟩) (Nat.ne_of_gt h3) (.int .i64 (posX sp sx M (k + 1)))).set_other (p := ⟨pb, 1, none⟩) (Nat.ne_of_gt h3) (.int .i64 (posY sp sy M (k + 1)))
      have hB2 := (hBk.drew.setCell (p := ⟨pb, 0, none⟩) hwc (.int .i64 (posX sp sx M (k + 1)))).setCell (p := ⟨pb, 1, none⟩) hwc (.int .i64 (posY sp sy M (k + 1)))
      have hS2 : B ≤ ((wr.drew.setCell ⟨pb, 0, none⟩ (.int .i64 (posX sp sx M (k + 1)))).setCell ⟨pb, 1, none⟩ (.int .i64 (posY sp sy M (k + 1)))).heap.size := by simpa using hBs'
      clear x0 x1 x2 x3 x4 c0 c1 c2 c3 c4 c5 hPk hRk hCk hXk hYk hBk hBs' m0 m1 hb
      generalize (wr.drew.setCell ⟨pb, 0, none⟩ (.int .i64 (posX sp sx M (k + 1)))).setCell ⟨pb, 1, none⟩ (.int .i64 (posY sp sy M (k + 1))) = w2 at *
      clear wr
      obtain ⟨x0, x1, x2, x3, x4⟩ := cells5 hX2
      obtain ⟨c0, c1, c2, c3, c4, c5⟩ := cells6 hC2
      go_upto_region 10 with fail
      refine c8reg10 (h' := posH cl lo hi h0 M (k + 1)) (by kernel_rfl) rfl c2 c3 c4 x4 (below_cell hB2 m2) hlt hml OK.out.c0 OK.out.c1 d0 d1 (by omega) (by omega) ?_
      intro u142 u143 u144 u145 u146 u147 u148 u149 u150 u151 u152 u153 u154 u155 u156 u157 u158 nq
      have hb4 : Below w2.heap.size w2 (w2.drewN nq) := below_drewN (Below.refl _ _) _
      have hP4 := hP2.below hb4
      have hR4 := hR2.below hb4
      have hC4 := hC2.below hb4
      have hX4 := hX2.below hb4
      have hY4 := hY2.below hb4
      have hB4 := below_trans hB2 hb4
      have hS4 : B ≤ (w2.drewN nq).heap.size := Nat.le_trans hS2 hb4.size
      clear x0 x1 x2 x3 x4 c0 c1 c2 c3 c4 c5 m2 hP2 hR2 hC2 hX2 hY2 hB2 hS2 hb4
      generalize w2.drewN nq = w4 at *
      clear w2
      obtain ⟨i1, hii, hz0, hz1, hz2⟩ := info_parts Tryz.info39
      obtain ⟨i3, hj, jz0, jz1, jz2⟩ := info_parts Tryz.info3
      obtain ⟨p0, p1⟩ := cells2 hP4
      have hRa := hR4.alloc (.cells #[.int .i64 (posX sp sx M (k + 1)), .int .i64 (posY sp sy M (k + 1))] 39)
      have hPa := hP4.below (balloc (Below.refl _ _) (.cells #[.int .i64 (posX sp sx M (k + 1)), .int .i64 (posY sp sy M (k + 1))] 39))
      have hCa := hC4.below (balloc (Below.refl _ _) (.cells #[.int .i64 (posX sp sx M (k + 1)), .int .i64 (posY sp sy M (k + 1))] 39))
      have hXa := hX4.below (balloc (Below.refl _ _) (.cells #[.int .i64 (posX sp sx M (k + 1)), .int .i64 (posY sp sy M (k + 1))] 39))
      have hYa := hY4.below (balloc (Below.refl _ _) (.cells #[.int .i64 (posX sp sx M (k + 1)), .int .i64 (posY sp sy M (k + 1))] 39))
      go_wp2_with (at_builtin; refine wpList_append_lies _ rfl _ _ 72 rfl B 39 i1 _ 2 16 Tryz.underlying72 hii hz0 hz1 hz2 rfl (by decide) _ (k + 1) _ rfl hRa.p ⟨w4.heap.size, 0, none⟩ 1 1 [.int .i64 (posX sp sx M (k + 1)), .int .i64 (posY sp sy M (k + 1))] rfl rfl ?c1 ?c2 (by decide) ?c3 ?c4 ?c5 _ rfl ?_)
      case c1 => exact World.news_of_block (cs := #[.int .i64 (posX sp sx M (k + 1)), .int .i64 (posY sp sy M (k + 1))]) (t := 39) (fr := (0, 0)) (heap_alloc_new w4 _)
      case c2 => simp [Value.oneCell']
      case c3 => unfold maxLen; omega
      case c4 => omega
      case c5 => simp; omega
      intro g5 c5 w5 ho5 hg5 hat5 hl5
      have hB5 : Below w.heap.size w w5 := (hB4.alloc hB4.size _).grown hg5 (by have := hB4.size; simp; omega) (fun g hg => by have := (World.ownsRow.lt hRa.p g hg).1; omega)
      have hP5 := cells_grown hPa hg5 (rows_ne hRa.p hpB)
      have hC5 := cells_grown hCa hg5 (rows_ne hRa.p (by omega))
      have hX5 := cells_grown hXa hg5 (rows_ne hRa.p (by omega))
      have hY5 := cells_grown hYa hg5 (rows_ne hRa.p (by omega))
      have hS5 : B ≤ w5.heap.size := Nat.le_trans hS4 (Nat.le_trans (by simp) hg5.size)
      have hR5 := hRa.appP ho5 hg5 hat5 (by simp)
      clear hR4 hP4 hC4 hX4 hY4 hRa hPa hCa hXa hYa ho5 hg5 hat5 hl5 hB4 hS4 p0 p1
      have hRa := hR5.alloc (.cells #[.int .i64 (posH cl lo hi h0 M (k + 1))] 3)
      have hPa := hP5.below (balloc (Below.refl _ _) (.cells #[.int .i64 (posH cl lo hi h0 M (k + 1))] 3))
      have hCa := hC5.below (balloc (Below.refl _ _) (.cells #[.int .i64 (posH cl lo hi h0 M (k + 1))] 3))
      have hXa := hX5.below (balloc (Below.refl _ _) (.cells #[.int .i64 (posH cl lo hi h0 M (k + 1))] 3))
      have hYa := hY5.below (balloc (Below.refl _ _) (.cells #[.int .i64 (posH cl lo hi h0 M (k + 1))] 3))
      go_wp2_with (at_builtin; refine wpList_append_lies _ rfl _ _ 40 rfl B 3 i3 _ 1 8 Tryz.underlying40 hj jz0 jz1 jz2 rfl (by decide) _ (k + 1) _ rfl hRa.h ⟨w5.heap.size, 0, none⟩ 1 1 [.int .i64 (posH cl lo hi h0 M (k + 1))] rfl rfl ?c1 ?c2 (by decide) ?c3 ?c4 ?c5 _ rfl ?_)
      case c1 => exact World.news_of_block (cs := #[.int .i64 (posH cl lo hi h0 M (k + 1))]) (t := 3) (fr := (0, 0)) (heap_alloc_new w5 _)
      case c2 => simp [Value.oneCell']
      case c3 => unfold maxLen; omega
      case c4 => omega
      case c5 => simp; omega
      intro g6 c6 w6 ho6 hg6 hat6 hl6
      have hB6 : Below w.heap.size w w6 := (hB5.alloc hB5.size _).grown hg6 (by have := hB5.size; simp; omega) (fun g hg => by have := (World.ownsRow.lt hRa.h g hg).1; omega)
      have hP6 := cells_grown hPa hg6 (rows_ne hRa.h hpB)
      have hC6 := cells_grown hCa hg6 (rows_ne hRa.h (by omega))
      have hX6 := cells_grown hXa hg6 (rows_ne hRa.h (by omega))
      have hY6 := cells_grown hYa hg6 (rows_ne hRa.h (by omega))
      have hS6 : B ≤ w6.heap.size := Nat.le_trans hS5 (Nat.le_trans (by simp) hg6.size)
      have hR6 := hRa.appH ho6 hg6 hat6 (by simp)
      clear hR5 hP5 hC5 hX5 hY5 hRa hPa hCa hXa hYa ho6 hg6 hat6 hl6 hB5 hS5 hii hj hz0 hz1 hz2 jz0 jz1 jz2
      go_wp2_with fail
      go_roundw
      case rel => exact ⟨k + 1, by omega, by go_num, rfl, hP6, by rw [snoc_range, snoc_range, ← HPS.out, ← HHS.out]; exact hR6, hC6, hX6, hY6, hS6, hB6⟩
      case measure => simp [intOf]; omega
    · obtain rfl : k = M.length := by omega
      rw [HPS.out, HHS.out] at hRk
      obtain ⟨g, d1, g', d2, rfl, rfl, b1, b2, hcs⟩ := course_read hRk
      have hlt := hRk
      obtain ⟨c0, c1, c2, c3, c4, c5⟩ := cells6 hCk
      have hg0 := hcs.1
      have hg1 := hcs.2.1
      have hc0 := hCk.lt
      have hx0 := hXk.lt
      have hy0 := hYk.lt
      have hw0 := hBk.size
      have hD := cellsNew wr #[.string nm, .int .i64 sp, .int .i64 cl, .int .i64 lo, .int .i64 hi, .slice sa ss.length sc] 63
      have hb4 : Below wr.heap.size wr (wr.alloc (.cells #[.string nm, .int .i64 sp, .int .i64 cl, .int .i64 lo, .int .i64 hi, .slice sa ss.length sc] 63)) := balloc (Below.refl _ _) _
      go_upto_region 12 with fail
      go_cut [14] from 167 to 167 (fun v14 wx => ∃ db : Nat, v14 = .pointer (some ⟨db, 0, none⟩) ∧ cellsAt wx db 63 #[.string nm, .int .i64 sp, .int .i64 cl, .int .i64 lo, .int .i64 hi, .slice sa ss.length sc] ∧ cellsAt wx cb 63 #[.string nm, .int .i64 sp, .int .i64 cl, .int .i64 lo, .int .i64 hi, .slice sa ss.length sc] ∧ cellsAt wx xb 71 #[.int .i64 fr, .int .i64 sx, .int .i64 sy, .int .i64 h0, .slice ma M.length mc] ∧ cellsAt wx yb 27 #[.int .i64 yp, .int .i64 yxl, .int .i64 yxh, .int .i64 yyl, .int .i64 yyh, .int .i64 ytl, .int .i64 yth] ∧ CsAt wx g g' M.length (posX sp sx M) (posY sp sy M) (posH cl lo hi h0 M) ∧ (w.heap.size ≤ db ∧ cb < db ∧ xb < db ∧ yb < db ∧ g < db ∧ g' < db) ∧ Below w.heap.size w wx)
      case first =>
        go_wp2_with fail
        go_meet
        exact ⟨_, rfl, hD, hCk.below hb4, hXk.below hb4, hYk.below hb4, hcs.below hb4, ⟨hw0, hc0, hx0, hy0, hg0, hg1⟩, below_trans hBk hb4⟩
      case rest =>
        obtain ⟨db, rfl, hD, hC, hX, hY, hcs, hd, hB⟩ := hcut
        refine ‹∀ (a : Act) (w : World), Code.wp Tryz.prog _ _ a w → _› _ _ ?_
        exact HKK.out _ (by kernel_rfl) _ _ _ _ _ _ _ _ _ _ _ _ _ _ _ _ _ _ _ _ _ _ _ _ _ _ _ _ _ _ _ _ _ _ _ _ _ _ _ _ _ _ _ _ _ _ _ _ _ _ _ _ _ _ _ _ _ _ _ _ db g d1 g' d2 _ hD hC hX hY hcs hd hB
end
end Go.Proofs.YtmglbegbijofkaaGreatDoor
