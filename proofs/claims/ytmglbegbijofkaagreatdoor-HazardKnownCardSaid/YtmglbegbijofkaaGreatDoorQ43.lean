import Derived.Test.YtmglbegbijofkaaGreatDoorQ27
import Derived.Test.YtmglbegbijofkaaGreatDoorQ31
import Derived.Test.YtmglbegbijofkaaGreatDoorQ26
import Derived.Test.YtmglbegbijofkaaGreatDoorQ42
import Derived.Laws.StructEq
set_option linter.unusedVariables false
set_option linter.unusedSimpArgs false
/- A region of a function by its number; region 28 of HazardKnown. -/
namespace Go.Proofs.YtmglbegbijofkaaGreatDoor
open Go.RowKit
/-- the region of a number in a function's code -/
def codeOf : Code → Nat → Option Code
  | .region i o d, n => if i = n then some (.region i o d) else none
  | .seq a b, n => match codeOf a n with
    | some c => some c
    | none => codeOf b n
  | .cond _ a b, n => match codeOf a n with
    | some c => some c
    | none => codeOf b n
  | .block _ a, n => codeOf a n
  | .loop a, n => codeOf a n
  | .scope a, n => codeOf a n
  | _, _ => none
def regOf (f : Func) (n : Nat) : Code := match f.body with
  | some c => match codeOf c n with
    | some r => r
    | none => .skip
  | none => .skip
/-- what follows the region of a number in the sequence that it stands in -/
def codeFrom : Code → Nat → Option Code
  | .seq (.region i _ _) b, n => if i = n then some b else codeFrom b n
  | .seq a b, n => match codeFrom a n with
    | some c => some c
    | none => codeFrom b n
  | .cond _ a b, n => match codeFrom a n with
    | some c => some c
    | none => codeFrom b n
  | .block _ a, n => codeFrom a n
  | .loop a, n => codeFrom a n
  | .scope a, n => codeFrom a n
  | _, _ => none
def tailOf (f : Func) (n : Nat) : Code := match f.body with
  | some c => match codeFrom c n with
    | some r => r
    | none => .skip
  | none => .skip
section
set_option maxRecDepth 100000
theorem eqStepK {P : Program} {w : World} {d : Nat} {xs ys : Array Value} {f : Field} {fs : List Field} {va vb : Value} {r : Bool} (hn : ¬ f.name = "_") (h1 : (part f.type xs f.offset).run P w = .ok va w) (h2 : (part f.type ys f.offset).run P w = .ok vb w) (h3 : (Op.equalIn d f.type va vb).run P w = .ok r w) :
    (Op.eqFields d xs ys (f :: fs)).run P w = if r then (Op.eqFields d xs ys fs).run P w else .ok false w := by
  conv => lhs; rw [Op.eqFields]
  rw [if_pos hn]
  simp only [Sem.run_bind, h1, Result.andThen_ok, h2, h3]
  cases r <;> simp
theorem fields25k : (Tryz.prog.fieldsOf 25).toList.map (fun f => (f.name != "_", f.type, f.offset)) = [(true, 23, 0), (true, 23, 2)] := by kernel_rfl
theorem fields23k : (Tryz.prog.fieldsOf 23).toList.map (fun f => (f.name != "_", f.type, f.offset)) = [(true, 3, 0), (true, 3, 1)] := by kernel_rfl
theorem eq23k (d : Nat) (a0 a1 : Int) (w : World) : (Op.equalIn (d + 2) 23 (.agg #[.int .i64 a0, .int .i64 a1]) (.agg #[.int .i64 a0, .int .i64 a1])).run Tryz.prog w = .ok true w := by
  rw [run_equalIn_agg _ _ _ _ _ (by kernel_rfl) (by kernel_rfl)]
  generalize hf : (Tryz.prog.fieldsOf 23).toList = fs
  have h := fields23k
  rw [hf] at h
  match fs, h with
  | [f0, f1], h =>
    simp at h
    obtain ⟨⟨n0, t0, o0⟩, n1, t1, o1⟩ := h
    rw [eqStepK n0 (va := .int .i64 a0) (vb := .int .i64 a0) (r := a0 == a0) (by rw [t0, o0]; kernel_rfl) (by rw [t0, o0]; kernel_rfl) (by rw [t0]; exact run_equalIn_int _ _ _ _ _ _ _ Tryz.underlying3),
      eqStepK n1 (va := .int .i64 a1) (vb := .int .i64 a1) (r := a1 == a1) (by rw [t1, o1]; kernel_rfl) (by rw [t1, o1]; kernel_rfl) (by rw [t1]; exact run_equalIn_int _ _ _ _ _ _ _ Tryz.underlying3)]
    simp [Op.eqFields]
theorem ne23k (a0 a1 : Int) (w : World) : (binOp .neq 23 (.agg #[.int .i64 a0, .int .i64 a1]) (.agg #[.int .i64 a0, .int .i64 a1])).run Tryz.prog w = .ok (.bool false) w := by
  have h := eq23k 9998 a0 a1 w
  have h' : (Op.equalIn 10000 23 (.agg #[.int .i64 a0, .int .i64 a1]) (.agg #[.int .i64 a0, .int .i64 a1])).run Tryz.prog w = .ok true w := h
  rw [run_neq_struct, h']
  simp
theorem ne25k (a0 a1 a2 a3 : Int) (w : World) : (binOp .neq 25 (.agg #[.int .i64 a0, .int .i64 a1, .int .i64 a2, .int .i64 a3]) (.agg #[.int .i64 a0, .int .i64 a1, .int .i64 a2, .int .i64 a3])).run Tryz.prog w = .ok (.bool false) w := by
  rw [run_neq_struct, run_equalIn_agg _ _ _ _ _ (by kernel_rfl) (by kernel_rfl)]
  generalize hf : (Tryz.prog.fieldsOf 25).toList = fs
  have h := fields25k
  rw [hf] at h
  match fs, h with
  | [f0, f1], h =>
    simp at h
    obtain ⟨⟨n0, t0, o0⟩, n1, t1, o1⟩ := h
    rw [eqStepK n0 (va := .agg #[.int .i64 a0, .int .i64 a1]) (vb := .agg #[.int .i64 a0, .int .i64 a1]) (r := true) (by rw [t0, o0]; kernel_rfl) (by rw [t0, o0]; kernel_rfl) (by rw [t0]; exact eq23k _ _ _ _),
      eqStepK n1 (va := .agg #[.int .i64 a2, .int .i64 a3]) (vb := .agg #[.int .i64 a2, .int .i64 a3]) (r := true) (by rw [t1, o1]; kernel_rfl) (by rw [t1, o1]; kernel_rfl) (by rw [t1]; exact eq23k _ _ _ _)]
    simp [Op.eqFields]
end
set_option maxRecDepth 100000 in
set_option maxHeartbeats 40000000 in
theorem reg28 {c : Code} (hc : c = regOf Tryz.f19 28) {wc : World} {ab xb zb k : Nat} {a0 a1 a2 a3 : Int} {Q : Exit → Act → World → Prop} (hlt : k < 3)
  (e0 : wc.cell? ⟨ab, k * 4, none⟩ = some (.int .i64 a0)) (e1 : wc.cell? ⟨ab, k * 4 + 1, none⟩ = some (.int .i64 a1)) (e2 : wc.cell? ⟨ab, k * 4 + 2, none⟩ = some (.int .i64 a2)) (e3 : wc.cell? ⟨ab, k * 4 + 3, none⟩ = some (.int .i64 a3))
  (n0 : wc.cell? ⟨xb, 0, none⟩ = some (.int .i64 a0)) (n1 : wc.cell? ⟨xb, 1, none⟩ = some (.int .i64 a1)) (n2 : wc.cell? ⟨xb, 2, none⟩ = some (.int .i64 a2)) (n3 : wc.cell? ⟨xb, 3, none⟩ = some (.int .i64 a3))
  (z0 : wc.cell? ⟨zb, 0, none⟩ = some (.int .i64 0)) (z1 : wc.cell? ⟨zb, 1, none⟩ = some (.int .i64 0))
  {v0 v1 v2 v3 v4 v5 v6 v7 v8 v9 v10 v11 v12 v13 v14 v15 v16 v17 v18 v24 v25 v26 v27 v28 v29 v30 v31 v32 v33 v34 v35 v36 v37 v38 v39 v40 v41 v42 v43 v44 v45 v46 v47 v48 v49 v50 v51 v52 v53 v54 v55 v56 v57 v58 v59 v60 v61 v62 v63 v64 v65 v66 v67 v68 v69 v70 v71 v72 v73 v74 v75 v76 v77 v78 v79 v80 v81 v82 v83 v84 v85 v86 v87 v88 v89 v90 v91 v92 v93 v94 v95 v96 v97 v98 v99 v100 v101 v102 v103 v104 v105 v106 v107 v108 v109 v110 v111 v112 v113 v114 v115 v116 v117 v118 v119 v120 v121 v122 v123 v124 v125 v126 v127 v128 v129 v130 v131 v132 v133 v134 v135 v136 v137 v138 v139 v140 v141 v142 v143 v144 v145 v146 v147 v148 v149 v150 v151 v152 v153 v154 v155 v156 v157 v158 v159 v160 v161 v162 v163 v164 v165 v166 v167 v168 v169 v170 v171 v172 v173 v174 v175 v176 v177 v178 v179 v180 v181 v182 v183 v184 v185 v186 v187 v188 v189 v190 v191 v192 v193 v194 v195 v196 v197 v198 v199 v200 v201 v202 v203 v204 v205 v206 v207 v208 v209 v210 v211 v212 v213 v214 v215 v216 v217 v218 v219 v220 v221 v222 v223 v224 v225 v226 v227 v228 v229 v230 v231 v232 v233 v234 v235 v236 v237 v238 v239 v240 v241 v242 v243 v244 v245 v246 v247 v248 v249 v250 v251 v252 v253 v254 v255 v256 v257 v258 v259 v260 v261 v262 v263 v264 v265 v266 v267 v268 v269 v270 v271 v272 v273 v274 v275 v276 v277 v278 v279 v280 v281 v282 v283 v284 v285 v286 v287 v288 : Value} 
  (hK : ∀ nq : Nat, Q Exit.normal { tmps := #[v0, v1, v2, v3, v4, v5, v6, v7, v8, v9, v10, v11, v12, v13, v14, v15, v16, v17, v18, .slice (some ⟨ab, 0, none⟩) 3 3, .int .i64 k, .pointer (some ⟨xb, 0, none⟩), .pointer (some ⟨zb, 0, none⟩), .int .i64 0, v24, v25, v26, v27, v28, v29, v30, v31, v32, v33, v34, v35, v36, v37, v38, v39, v40, v41, v42, v43, v44, v45, v46, v47, v48, v49, v50, v51, v52, v53, v54, v55, v56, v57, v58, v59, v60, v61, v62, v63, v64, v65, v66, v67, v68, v69, v70, v71, v72, v73, v74, v75, v76, v77, v78, v79, v80, v81, v82, v83, v84, v85, v86, v87, v88, v89, v90, v91, v92, v93, v94, v95, v96, v97, v98, v99, v100, v101, v102, v103, v104, v105, v106, v107, v108, v109, v110, v111, v112, v113, v114, v115, v116, v117, v118, v119, v120, v121, v122, v123, v124, v125, v126, v127, v128, v129, v130, v131, v132, v133, v134, v135, v136, v137, v138, v139, v140, v141, v142, v143, v144, v145, v146, v147, v148, v149, v150, v151, v152, v153, v154, v155, v156, v157, v158, v159, v160, v161, v162, v163, v164, v165, v166, v167, v168, v169, v170, v171, v172, v173, v174, v175, v176, v177, v178, v179, v180, v181, v182, v183, v184, v185, v186, v187, v188, v189, v190, v191, v192, v193, v194, v195, v196, v197, v198, v199, v200, v201, v202, v203, v204, v205, v206, v207, v208, v209, v210, v211, v212, v213, v214, v215, v216, v217, v218, v219, v220, v221, v222, v223, v224, v225, v226, v227, v228, v229, v230, v231, v232, v233, v234, v235, v236, v237, v238, v239, v240, v241, v242, .int .i64 0, .bool false, .bool false, .agg #[.int .i64 a0, .int .i64 a1, .int .i64 a2, .int .i64 a3], .slice (some ⟨ab, 0, none⟩) 3 3, .int .i64 k, .pointer (some ⟨ab, k * 4, none⟩), .agg #[.int .i64 a0, .int .i64 a1, .int .i64 a2, .int .i64 a3], .bool false, .bool false, .bool false, .agg #[.int .i64 0, .int .i64 0], .agg #[.int .i64 0, .int .i64 0], .bool false, .bool false, v258, v259, v260, v261, v262, v263, v264, v265, v266, v267, v268, v269, v270, v271, v272, v273, v274, v275, v276, v277, v278, v279, v280, v281, v282, v283, v284, v285, v286, v287, v288], defers := [] } (wc.drewN nq)) :
  Code.wp Tryz.prog c Q { tmps := #[v0, v1, v2, v3, v4, v5, v6, v7, v8, v9, v10, v11, v12, v13, v14, v15, v16, v17, v18, .slice (some ⟨ab, 0, none⟩) 3 3, .int .i64 k, .pointer (some ⟨xb, 0, none⟩), .pointer (some ⟨zb, 0, none⟩), .int .i64 0, v24, v25, v26, v27, v28, v29, v30, v31, v32, v33, v34, v35, v36, v37, v38, v39, v40, v41, v42, v43, v44, v45, v46, v47, v48, v49, v50, v51, v52, v53, v54, v55, v56, v57, v58, v59, v60, v61, v62, v63, v64, v65, v66, v67, v68, v69, v70, v71, v72, v73, v74, v75, v76, v77, v78, v79, v80, v81, v82, v83, v84, v85, v86, v87, v88, v89, v90, v91, v92, v93, v94, v95, v96, v97, v98, v99, v100, v101, v102, v103, v104, v105, v106, v107, v108, v109, v110, v111, v112, v113, v114, v115, v116, v117, v118, v119, v120, v121, v122, v123, v124, v125, v126, v127, v128, v129, v130, v131, v132, v133, v134, v135, v136, v137, v138, v139, v140, v141, v142, v143, v144, v145, v146, v147, v148, v149, v150, v151, v152, v153, v154, v155, v156, v157, v158, v159, v160, v161, v162, v163, v164, v165, v166, v167, v168, v169, v170, v171, v172, v173, v174, v175, v176, v177, v178, v179, v180, v181, v182, v183, v184, v185, v186, v187, v188, v189, v190, v191, v192, v193, v194, v195, v196, v197, v198, v199, v200, v201, v202, v203, v204, v205, v206, v207, v208, v209, v210, v211, v212, v213, v214, v215, v216, v217, v218, v219, v220, v221, v222, v223, v224, v225, v226, v227, v228, v229, v230, v231, v232, v233, v234, v235, v236, v237, v238, v239, v240, v241, v242, v243, v244, v245, v246, v247, v248, v249, v250, v251, v252, v253, v254, v255, v256, v257, v258, v259, v260, v261, v262, v263, v264, v265, v266, v267, v268, v269, v270, v271, v272, v273, v274, v275, v276, v277, v278, v279, v280, v281, v282, v283, v284, v285, v286, v287, v288], defers := [] } wc := by
  subst hc
  conv => arg 2; whnf
  have HKK := Lib.hid hK
  clear hK
  have hEA := ne25k a0 a1 a2 a3
  have hEB := ne23k 0 0
  have j1 : (0 : Int) ≤ (k : Int) := by omega
  have j2 : (k : Int) < 3 := by omega
  go_quiet (fail)
  exact HKK.out nq
end Go.Proofs.YtmglbegbijofkaaGreatDoor
/- The last part of the examples: the loop over the three ticks, and what follows it. -/
namespace Go.Proofs.YtmglbegbijofkaaGreatDoor
open Go.RowKit
theorem kn_where {t a0 a1 a2 a3 : Int} (h : WhE ferryN 500 0 0 0 t ferryS = 0 ∧ whXL 500 t ferryS = a0 ∧ whXH 500 t ferryS = a1 ∧ whYL 500 t ferryS = a2 ∧ whYH 500 t ferryS = a3 ∧ whZL 0 0 t ferryS = 0 ∧ whZH 0 0 t ferryS = 0) (v : Value) (W : World) (hs : SightsAt W v ferryS) :
    Calls Tryz.prog 30 #[.agg #[.string ⟨#[102, 101, 114, 114, 121]⟩, .int .i64 500, .int .i64 0, .int .i64 0, .int .i64 0, v], .int .i64 t] W fun e w' => e = .returned (.tuple #[.agg #[.int .i64 a0, .int .i64 a1, .int .i64 a2, .int .i64 a3], .agg #[.int .i64 0, .int .i64 0], .int .i64 0]) ∧ Below W.heap.size W w' := by
  obtain ⟨h0, rfl, rfl, rfl, rfl, h5, h6⟩ := h
  have hw := Where_any ⟨#[102, 101, 114, 114, 121]⟩ 500 0 0 0 v ferryS t W hs (by decide) (by decide)
  have h0' : WhE (⟨#[102, 101, 114, 114, 121]⟩ : ByteArray).data.toList 500 0 0 0 t ferryS = 0 := h0
  unfold WhEnd whTup wx at hw
  rw [h0', h5, h6] at hw
  simp only [if_true] at hw
  exact hw
theorem drck {w : World} {a : Addr} {v : Value} (h : w.cell? a = some v) : w.drew.cell? a = some v := h
theorem setck {w : World} {a p : Addr} {v x : Value} (hp : p.block ≠ a.block) (h : w.cell? a = some v) : (w.setCell p x).cell? a = some v := (World.cell?_setCell_far w p a x hp).trans h
theorem kalloc {W : World} {b : Nat} {t : TypeId} {cs : Array Value} (h : cellsAt W b t cs) (ds : Array Value) (u : TypeId) : cellsAt (W.alloc (.cells ds u)) b t cs := h.below (balloc (Below.refl _ _) _)
theorem kNew1 (w : World) (ds : Array Value) (u : TypeId) (cs : Array Value) (t : TypeId) : cellsAt ((w.alloc (.cells ds u)).alloc (.cells cs t)) (w.heap.size + 1) t cs := by
  have k := cellsNew (w.alloc (.cells ds u)) cs t
  rwa [World.size_alloc] at k
theorem kNewE {w : World} {n : Nat} (h : n = w.heap.size) (cs : Array Value) (t : TypeId) : cellsAt (w.alloc (.cells cs t)) n t cs := by subst h; exact cellsNew w cs t
theorem kset2 {W : World} {p : Nat} {t : TypeId} {a b : Value} (h : cellsAt W p t #[a, b]) (u v : Value) : cellsAt ((W.setCell ⟨p, 0, none⟩ u).setCell ⟨p, 1, none⟩ v) p t #[u, v] := by
  have k := (h.set 0 u).set 1 v
  simpa using k
theorem kset4 {W : World} {p : Nat} {t : TypeId} {a b c d : Value} (h : cellsAt W p t #[a, b, c, d]) (u0 u1 u2 u3 : Value) : cellsAt ((((W.setCell ⟨p, 0, none⟩ u0).setCell ⟨p, 1, none⟩ u1).setCell ⟨p, 2, none⟩ u2).setCell ⟨p, 3, none⟩ u3) p t #[u0, u1, u2, u3] := by
  have k := (((h.set 0 u0).set 1 u1).set 2 u2).set 3 u3
  simpa using k
theorem strs_lit2 (w : World) : StrsAt (w.alloc (.cells #[.string ⟨knLine.toArray⟩, .string ⟨knCanc.toArray⟩] 9)) (.slice (some ⟨w.heap.size, 0, none⟩) 2 2) [knLine, knCanc] := by
  refine row_new (cellsNew w _ 9) (fun i hi => ?_)
  have : i = 0 ∨ i = 1 := by simp at hi; omega
  rcases this with rfl | rfl <;> rfl
theorem strs_lit1 (w : World) : StrsAt (w.alloc (.cells #[.string ⟨knLine.toArray⟩] 9)) (.slice (some ⟨w.heap.size, 0, none⟩) 1 1) [knLine] := by
  refine row_new (cellsNew w _ 9) (fun i hi => ?_)
  have : i = 0 := by simp at hi; omega
  subst this; rfl
theorem kn_f2 : covE [knLine] strike = 0 ∧ covN [knLine] strike = 17 := by decide +kernel
theorem bl1k {w w' : World} {o : Obj} (h : Below (w.alloc o).heap.size (w.alloc o) w') : Below w.heap.size w w' := below_trans (balloc (Below.refl _ _) o) h
theorem spans_set3 {W : World} {tb : Nat} {a : Option Addr} {c : Nat} {u0 u1 u2 : Value} (hT : cellsAt W tb 47 #[.slice none 0 0, .int .i64 0, .int .i64 0]) (h : SpansAt W (.slice a 1 c) [(0, 300000)]) : SpansAt (((W.setCell ⟨tb, 0, none⟩ u0).setCell ⟨tb, 1, none⟩ u1).setCell ⟨tb, 2, none⟩ u2) (.slice a 1 c) [(0, 300000)] := by
  obtain ⟨a', c', hac, h0 | ⟨b, off, rfl, hb, hc⟩⟩ := h
  · simp at h0
  · have hne : b ≠ tb := by
      rintro rfl
      have e0 := hc 0 (by simp)
      have e1 := hc 1 (by simp)
      unfold World.cell? at e0 e1
      rw [hT] at e0 e1
      rcases off with _ | _ | _ | off
      · simp [spanF] at e0
      · simp [spanF] at e1
      · simp [spanF] at e1
      · simp [spanF] at e0
    exact ⟨_, _, hac, .inr ⟨b, off, rfl, World.block_lt_of_cell? _ _ (set3_cell (q := ⟨b, off + 0, none⟩) (hc 0 (by simp)) hne), fun i hi => set3_cell (hc i hi) hne⟩⟩
theorem ints_lit (w : World) (a b : Int) : IntsAt (w.alloc (.cells #[.int .i64 a, .int .i64 b] 3)) (.slice (some ⟨w.heap.size, 0, none⟩) 2 2) [a, b] := by
  refine row_new (cellsNew w _ 3) (fun i hi => ?_)
  have : i = 0 ∨ i = 1 := by simp at hi; omega
  rcases this with rfl | rfl <;> rfl
theorem spans_lit4 (w : World) (a0 a1 a2 a3 a4 a5 a6 a7 : Int) : SpansAt (w.alloc (.cells #[.int .i64 a0, .int .i64 a1, .int .i64 a2, .int .i64 a3, .int .i64 a4, .int .i64 a5, .int .i64 a6, .int .i64 a7] 121)) (.slice (some ⟨w.heap.size, 0, none⟩) 4 4) [(a0, a1), (a2, a3), (a4, a5), (a6, a7)] := by
  refine row_new (cellsNew w _ 121) (fun i hi => ?_)
  have : i = 0 ∨ i = 1 ∨ i = 2 ∨ i = 3 ∨ i = 4 ∨ i = 5 ∨ i = 6 ∨ i = 7 := by simp at hi; omega
  rcases this with rfl | rfl | rfl | rfl | rfl | rfl | rfl | rfl <;> rfl
theorem spans_cells4 {W : World} {b : Nat} {a0 a1 a2 a3 a4 a5 a6 a7 : Int} (h : cellsAt W b 121 #[.int .i64 a0, .int .i64 a1, .int .i64 a2, .int .i64 a3, .int .i64 a4, .int .i64 a5, .int .i64 a6, .int .i64 a7]) : SpansAt W (.slice (some ⟨b, 0, none⟩) 4 4) [(a0, a1), (a2, a3), (a4, a5), (a6, a7)] := by
  refine row_new h (fun i hi => ?_)
  have : i = 0 ∨ i = 1 ∨ i = 2 ∨ i = 3 ∨ i = 4 ∨ i = 5 ∨ i = 6 ∨ i = 7 := by simp at hi; omega
  rcases this with rfl | rfl | rfl | rfl | rfl | rfl | rfl | rfl <;> rfl
theorem spans_lit1 (w : World) (t : TypeId) (a0 a1 : Int) : SpansAt (w.alloc (.cells #[.int .i64 a0, .int .i64 a1] t)) (.slice (some ⟨w.heap.size, 0, none⟩) 1 1) [(a0, a1)] := by
  refine row_new (cellsNew w _ t) (fun i hi => ?_)
  have : i = 0 ∨ i = 1 := by simp at hi; omega
  rcases this with rfl | rfl <;> rfl
set_option maxRecDepth 100000 in
set_option maxHeartbeats 40000000 in
theorem tail19 {c : Code} (hc : c = tailOf Tryz.f19 23) {w wc : World} {qb ab : Nat} (HT : Hid (Tab10 w)) (hT : cellsAt wc qb 3 #[.int .i64 100, .int .i64 150, .int .i64 250]) (hA : cellsAt wc ab 25 #[.int .i64 (-1000), .int .i64 1000, .int .i64 (-1000), .int .i64 1000, .int .i64 15000, .int .i64 26000, .int .i64 (-25000), .int .i64 25000, .int .i64 15000, .int .i64 65000, .int .i64 (-25000), .int .i64 25000]) (hB : Below w.heap.size w wc) {v0 v1 v2 v3 v4 v5 v6 v7 v8 v9 v10 v11 v12 v13 v14 v15 v16 v17 v20 v21 v22 v23 v24 v25 v26 v27 v28 v29 v30 v31 v32 v33 v34 v35 v36 v37 v38 v39 v40 v41 v42 v43 v44 v45 v46 v47 v48 v49 v50 v51 v52 v53 v54 v55 v56 v57 v58 v59 v60 v61 v62 v63 v64 v65 v66 v67 v68 v69 v70 v71 v72 v73 v74 v75 v76 v77 v78 v79 v80 v81 v82 v83 v84 v85 v86 v87 v88 v89 v90 v91 v92 v93 v94 v95 v96 v97 v98 v99 v100 v101 v102 v103 v104 v105 v106 v107 v108 v109 v110 v111 v112 v113 v114 v115 v116 v117 v118 v119 v120 v121 v122 v123 v124 v125 v126 v127 v128 v129 v130 v131 v132 v133 v134 v135 v136 v137 v138 v139 v140 v141 v142 v143 v144 v145 v146 v147 v148 v149 v150 v151 v152 v153 v154 v155 v156 v157 v158 v159 v160 v161 v162 v163 v164 v165 v166 v167 v168 v169 v170 v171 v172 v173 v174 v175 v176 v177 v178 v179 v180 v181 v182 v183 v184 v185 v186 v187 v188 v189 v190 v191 v192 v193 v194 v195 v196 v197 v198 v199 v200 v201 v202 v203 v204 v205 v206 v207 v208 v209 v210 v211 v212 v213 v214 v215 v216 v217 v218 v219 v220 v221 v222 v223 v224 v225 v226 v227 v228 v229 v230 v231 v232 v233 v234 v235 v236 v237 v238 v239 v240 v241 v242 v243 v244 v245 v246 v247 v248 v249 v250 v251 v252 v253 v254 v255 v256 v257 v258 v259 v260 v261 v262 v263 v264 v265 v266 v267 v268 v269 v270 v271 v272 v273 v274 v275 v276 v277 v278 v279 v280 v281 v282 v283 v284 v285 v286 v287 v288 : Value} :
    Code.wp Tryz.prog c (bodyPost Tryz.prog Tryz.f19 fun e w' => e = .returned (.bool true) ∧ Below w.heap.size w w') { tmps := #[v0, v1, v2, v3, v4, v5, v6, v7, v8, v9, v10, v11, v12, v13, v14, v15, v16, v17, .slice (some ⟨qb, 0, none⟩) 3 3, .slice (some ⟨ab, 0, none⟩) 3 3, v20, v21, v22, v23, v24, v25, v26, v27, v28, v29, v30, v31, v32, v33, v34, v35, v36, v37, v38, v39, v40, v41, v42, v43, v44, v45, v46, v47, v48, v49, v50, v51, v52, v53, v54, v55, v56, v57, v58, v59, v60, v61, v62, v63, v64, v65, v66, v67, v68, v69, v70, v71, v72, v73, v74, v75, v76, v77, v78, v79, v80, v81, v82, v83, v84, v85, v86, v87, v88, v89, v90, v91, v92, v93, v94, v95, v96, v97, v98, v99, v100, v101, v102, v103, v104, v105, v106, v107, v108, v109, v110, v111, v112, v113, v114, v115, v116, v117, v118, v119, v120, v121, v122, v123, v124, v125, v126, v127, v128, v129, v130, v131, v132, v133, v134, v135, v136, v137, v138, v139, v140, v141, v142, v143, v144, v145, v146, v147, v148, v149, v150, v151, v152, v153, v154, v155, v156, v157, v158, v159, v160, v161, v162, v163, v164, v165, v166, v167, v168, v169, v170, v171, v172, v173, v174, v175, v176, v177, v178, v179, v180, v181, v182, v183, v184, v185, v186, v187, v188, v189, v190, v191, v192, v193, v194, v195, v196, v197, v198, v199, v200, v201, v202, v203, v204, v205, v206, v207, v208, v209, v210, v211, v212, v213, v214, v215, v216, v217, v218, v219, v220, v221, v222, v223, v224, v225, v226, v227, v228, v229, v230, v231, v232, v233, v234, v235, v236, v237, v238, v239, v240, v241, v242, v243, v244, v245, v246, v247, v248, v249, v250, v251, v252, v253, v254, v255, v256, v257, v258, v259, v260, v261, v262, v263, v264, v265, v266, v267, v268, v269, v270, v271, v272, v273, v274, v275, v276, v277, v278, v279, v280, v281, v282, v283, v284, v285, v286, v287, v288], defers := [] } wc := by
  subst hc
  conv => arg 2; whnf
  have HFO := Lib.hid (fun (v : Value) W (h : StrsAt W v [knLine, knCanc]) => hForce_any [knLine, knCanc] v 200 W h (by decide) (by decide))
  unfold FcPost at HFO
  rw [kn_f1.1] at HFO
  have HFL : Hid ((fcL [knLine, knCanc] 200).length = 0) := show _ = _ from kn_f1.2
  generalize fcL [knLine, knCanc] 200 = FL at *
  have HCO := Lib.hid (fun (v : Value) W (h : StrsAt W v [knLine]) => hcovers_any [knLine] v strike W h (by decide) (by decide))
  rw [kn_f2.1, kn_f2.2] at HCO
  go_wp2_with fail
  go_loopw [20] (fun it wr => ∃ k : Nat, k ≤ 3 ∧ it = .int .i64 k ∧ Below wc.heap.size wc wr) (fun it _ => 3 - (intOf it).toNat)
  case atStart => exact ⟨0, by omega, rfl, Below.refl _ _⟩
  case round =>
    obtain ⟨k, hk, rfl, hBw⟩ := hrel
    obtain ⟨wo, rfl⟩ : ∃ wo : World, wo = wr := ⟨_, rfl⟩
    by_cases hlt : k < 3
    · have hT2 := hT.below hBw
      have hA2 := hA.below hBw
      have hBo := below_trans hB hBw
      obtain ⟨tk, a0, a1, a2, a3, q0, e0, e1, e2, e3, HWK⟩ : ∃ tk a0 a1 a2 a3 : Int, wo.cell? ⟨qb, k, none⟩ = some (.int .i64 tk) ∧ wo.cell? ⟨ab, k * 4, none⟩ = some (.int .i64 a0) ∧ wo.cell? ⟨ab, k * 4 + 1, none⟩ = some (.int .i64 a1) ∧ wo.cell? ⟨ab, k * 4 + 2, none⟩ = some (.int .i64 a2) ∧ wo.cell? ⟨ab, k * 4 + 3, none⟩ = some (.int .i64 a3) ∧ Hid (∀ (v : Value) (W : World), SightsAt W v ferryS → Calls Tryz.prog 30 #[.agg #[.string ⟨#[102, 101, 114, 114, 121]⟩, .int .i64 500, .int .i64 0, .int .i64 0, .int .i64 0, v], .int .i64 tk] W fun e w' => e = .returned (.tuple #[.agg #[.int .i64 a0, .int .i64 a1, .int .i64 a2, .int .i64 a3], .agg #[.int .i64 0, .int .i64 0], .int .i64 0]) ∧ Below W.heap.size W w') := by
        have k3 : k = 0 ∨ k = 1 ∨ k = 2 := by omega
        rcases k3 with rfl | rfl | rfl
        · exact ⟨100, -1000, 1000, -1000, 1000, hT2.cell 0, hA2.cell 0, hA2.cell 1, hA2.cell 2, hA2.cell 3, fun v W h => kn_where kn_w1 v W h⟩
        · exact ⟨150, 15000, 26000, -25000, 25000, hT2.cell 1, hA2.cell 4, hA2.cell 5, hA2.cell 6, hA2.cell 7, fun v W h => kn_where kn_w2 v W h⟩
        · exact ⟨250, 15000, 65000, -25000, 25000, hT2.cell 2, hA2.cell 8, hA2.cell 9, hA2.cell 10, hA2.cell 11, fun v W h => kn_where kn_w3 v W h⟩
      have hqb := hT2.lt
      have hab := hA2.lt
      have j1 : (0 : Int) ≤ (k : Int) := by omega
      have j2 : (k : Int) < 3 := by omega
      clear hT2 hA2
      go_upto_region 27 with fail
      go_cut [21, 22, 23] from 233 to 257 (fun v21 v22 v23 wx => ∃ (xb zb : Nat), v21 = .pointer (some ⟨xb, 0, none⟩) ∧ v22 = .pointer (some ⟨zb, 0, none⟩) ∧ v23 = .int .i64 0 ∧ cellsAt wx xb 25 #[.int .i64 a0, .int .i64 a1, .int .i64 a2, .int .i64 a3] ∧ cellsAt wx zb 23 #[.int .i64 0, .int .i64 0] ∧ Below wo.heap.size wo wx)
      case first =>
        have hqs : qb < wo.heap.size := hqb
        go_region_held3 (fun w' => w'.cell? ⟨qb, k, none⟩ = some (.int .i64 tk)) (first | ((repeat (first | (with_reducible exact q0) | (with_reducible refine drck ?_) | (with_reducible refine alloc_cell ?_ _) | (with_reducible refine setck (by dsimp only; omega) ?_))); done) | go_keep) ((first | (go_at_call 61; refine (ferry_any _).mono ?_; rintro e w7 ⟨fv, rfl, hfs, hbA⟩; obtain ⟨fa, fc, rfl, hx⟩ := id hfs; clear hx; (try (with_reducible have hbA := below_drew' hbA)); (first | ((with_reducible have hbB := bl1k (bl1k hbA)); (first | (have hN := (show cellsAt _ _ 25 #[.int .i64 0, .int .i64 0, .int .i64 0, .int .i64 0] from cellsAt.below (kalloc (cellsNew _ #[.int .i64 0, .int .i64 0, .int .i64 0, .int .i64 0] 25) #[.int .i64 0, .int .i64 0] 23) hbA); have hZ := (show cellsAt _ _ 23 #[.int .i64 0, .int .i64 0] from cellsAt.below (kNew1 _ #[.int .i64 0, .int .i64 0, .int .i64 0, .int .i64 0] 25 #[.int .i64 0, .int .i64 0] 23) hbA)) | (have hZ := (show cellsAt _ _ 23 #[.int .i64 0, .int .i64 0] from cellsAt.below (kalloc (cellsNew _ #[.int .i64 0, .int .i64 0] 23) #[.int .i64 0, .int .i64 0, .int .i64 0, .int .i64 0] 25) hbA); have hN := (show cellsAt _ _ 25 #[.int .i64 0, .int .i64 0, .int .i64 0, .int .i64 0] from cellsAt.below (kNew1 _ #[.int .i64 0, .int .i64 0] 23 #[.int .i64 0, .int .i64 0, .int .i64 0, .int .i64 0] 25) hbA)))) | ((with_reducible have hbB := bl1k hbA); (first | (have hN := (show cellsAt _ _ 25 #[.int .i64 0, .int .i64 0, .int .i64 0, .int .i64 0] from cellsAt.below (cellsNew _ #[.int .i64 0, .int .i64 0, .int .i64 0, .int .i64 0] 25) hbA)) | (have hZ := (show cellsAt _ _ 23 #[.int .i64 0, .int .i64 0] from cellsAt.below (cellsNew _ #[.int .i64 0, .int .i64 0] 23) hbA)))) | (have hbB := hbA)); have q0 := below_cell hbB q0; have hBd := hbB; have hz7 := hbB.size; (try have ln := hN.lt; have fn0 := hN.frozen 0; have fn1 := hN.frozen 1; have fn2 := hN.frozen 2; have fn3 := hN.frozen 3; have cn := cells4 hN; obtain ⟨cn0, cn1, cn2, cn3⟩ := cn); (try have lz := hZ.lt; have fz0 := hZ.frozen 0; have fz1 := hZ.frozen 1; have cz := cells2 hZ; obtain ⟨cz0, cz1⟩ := cz)) | (go_at_call 30; refine (HWK.out _ _ (by first | (with_reducible exact hfs) | exact hfs.below (balloc (Below.refl _ _) _) | exact hfs.below (balloc (balloc (Below.refl _ _) _) _))).mono ?_; rintro e w8 ⟨rfl, hbA⟩; (first | ((with_reducible have hbB := bl1k (bl1k hbA)); (first | (have hN := (show cellsAt _ _ 25 #[.int .i64 0, .int .i64 0, .int .i64 0, .int .i64 0] from cellsAt.below (kalloc (cellsNew _ #[.int .i64 0, .int .i64 0, .int .i64 0, .int .i64 0] 25) #[.int .i64 0, .int .i64 0] 23) hbA); have hZ := (show cellsAt _ _ 23 #[.int .i64 0, .int .i64 0] from cellsAt.below (kNew1 _ #[.int .i64 0, .int .i64 0, .int .i64 0, .int .i64 0] 25 #[.int .i64 0, .int .i64 0] 23) hbA)) | (have hZ := (show cellsAt _ _ 23 #[.int .i64 0, .int .i64 0] from cellsAt.below (kalloc (cellsNew _ #[.int .i64 0, .int .i64 0] 23) #[.int .i64 0, .int .i64 0, .int .i64 0, .int .i64 0] 25) hbA); have hN := (show cellsAt _ _ 25 #[.int .i64 0, .int .i64 0, .int .i64 0, .int .i64 0] from cellsAt.below (kNew1 _ #[.int .i64 0, .int .i64 0] 23 #[.int .i64 0, .int .i64 0, .int .i64 0, .int .i64 0] 25) hbA)))) | ((with_reducible have hbB := bl1k hbA); (first | (have hN' := (show cellsAt _ _ 25 #[.int .i64 0, .int .i64 0, .int .i64 0, .int .i64 0] from cellsAt.below (cellsNew _ #[.int .i64 0, .int .i64 0, .int .i64 0, .int .i64 0] 25) hbA); (try have hZ := hZ.below hbB); have hN := hN') | (have hZ' := (show cellsAt _ _ 23 #[.int .i64 0, .int .i64 0] from cellsAt.below (cellsNew _ #[.int .i64 0, .int .i64 0] 23) hbA); (try have hN := hN.below hbB); have hZ := hZ'))) | (have hbB := hbA; (try have hN := hN.below hbB); (try have hZ := hZ.below hbB))); have q0 := below_cell hbB q0; have hBd := below_trans hBd hbB; have hz8 := hBd.size; (try have ln := hN.lt; have fn0 := hN.frozen 0; have fn1 := hN.frozen 1; have fn2 := hN.frozen 2; have fn3 := hN.frozen 3; have cn := cells4 hN; obtain ⟨cn0, cn1, cn2, cn3⟩ := cn); (try have lz := hZ.lt; have fz0 := hZ.frozen 0; have fz1 := hZ.frozen 1; have cz := cells2 hZ; obtain ⟨cz0, cz1⟩ := cz))))
        all_goals go_wp2_with fail
        all_goals go_meet
        all_goals (refine ⟨_, _, rfl, rfl, rfl, ?_, ?_, ?_⟩)
        all_goals (repeat (first
          | (with_reducible exact hN) | (with_reducible exact hZ) | (with_reducible exact hBd)
          | (with_reducible exact kNewE (by simp) _ _)
          | (with_reducible refine kset4 (a := .int .i64 0) (b := .int .i64 0) (c := .int .i64 0) (d := .int .i64 0) ?_ _ _ _ _)
          | (with_reducible refine kset2 (a := .int .i64 0) (b := .int .i64 0) ?_ _ _)
          | (with_reducible refine kalloc ?_ _ _)
          | (with_reducible refine cellsAt.set_other ?_ (by dsimp only; omega) _)
          | (with_reducible refine balloc ?_ _)
          | (with_reducible refine Below.setCell ?_ (by dsimp only; omega) _)))
      case rest =>
        obtain ⟨xb, zb, rfl, rfl, rfl, hN, hZ, hbc⟩ := hcut
        have e0 := below_cell hbc e0
        have e1 := below_cell hbc e1
        have e2 := below_cell hbc e2
        have e3 := below_cell hbc e3
        obtain ⟨n0, n1, n2, n3⟩ := cells4 hN
        obtain ⟨z0, z1⟩ := cells2 hZ
        have hBw2 := below_trans hBw hbc
        clear q0 HWK hBo
        go_wp2_with fail
        refine reg28 (by kernel_rfl) hlt e0 e1 e2 e3 n0 n1 n2 n3 z0 z1 ?_
        intro nq
        go_wp2_with fail
        go_roundw
        case rel => exact ⟨k + 1, by omega, by go_num, below_drewN' hBw2 _⟩
        case measure => simp [intOf]; omega
    · obtain rfl : k = 3 := by omega
      have hB := below_trans hB hBw
      clear hT hA hBw
      have hSt := strs_lit2 wo
      have hbL : Below wo.heap.size wo (wo.alloc (.cells #[.string ⟨knLine.toArray⟩, .string ⟨knCanc.toArray⟩] 9)) := balloc (Below.refl _ _) _
      have HS2 := Lib.hid hSt
      have HBL := Lib.hid hbL
      clear hSt hbL
      go_wp2_with fail
      refine (HFO.out _ _ HS2.out).mono ?_
      rintro e w40 ⟨v40, rfl, hn40, hb40⟩
      obtain ⟨fa, fc, rfl, hx⟩ := hn40
      rw [HFL.out]
      have hB := below_trans (below_trans hB HBL.out) hb40
      clear hx hb40 HS2 HBL
      go_wp2_with fail
      refine (strike_any _).mono ?_
      rintro e w41 ⟨rfl, hb41⟩
      have HS1 := Lib.hid ((strs_lit1 w40).below hb41)
      have hB := below_trans (balloc hB (.cells #[.string ⟨knLine.toArray⟩] 9)) hb41
      clear hb41
      go_wp2_with fail
      refine (HCO.out _ _ HS1.out).mono ?_
      rintro e w42 ⟨rfl, hb42⟩
      have hB := below_trans hB hb42
      clear hb42
      go_wp2_with fail
      refine (awake_true _ (HT.out.below hB)).mono ?_
      rintro e w43 ⟨rfl, hb43⟩
      go_wp2_with fail
      go_ret
      exact ⟨rfl, below_trans hB hb43⟩
end Go.Proofs.YtmglbegbijofkaaGreatDoor
/- The examples of the document. -/
namespace Go.Proofs.YtmglbegbijofkaaGreatDoor
open Go.RowKit
set_option maxRecDepth 100000 in
set_option maxHeartbeats 40000000 in
theorem law19 (w : World) (ht : Tab10 w) : Calls Tryz.prog 19 #[] w fun e w' => e = .returned (.bool true) ∧ Below w.heap.size w w' := by
  have HT := Lib.hid ht
  clear ht
  have hxn : exZ.length ≤ 9223372036854775806 := by decide
  have HC1 := Lib.hid (fun (pv : Value) W (h : IntsAt W pv exZ) => Cells_any 0 0 1000 3 2 pv exZ 500000 1500000 0 0 W h hxn)
  have HC2 := Lib.hid (fun (pv : Value) W (h : IntsAt W pv exZ) => Cells_any 0 0 1000 3 2 pv exZ (-1) 999999 0 1000000 W h hxn)
  have HC3 := Lib.hid (fun (pv : Value) W (h : IntsAt W pv exZ) => Cell_any 0 0 1000 3 2 pv exZ 1000000 1000000 W h hxn)
  have HC4 := Lib.hid (fun (pv : Value) W (h : IntsAt W pv exZ) => Cell_any 0 0 1000 3 2 pv exZ 0 (-1) W h hxn)
  unfold ClPost at HC1 HC2
  unfold ErrPair at HC3 HC4
  rw [kn_c1.1, kn_c1.2.1, kn_c1.2.2] at HC1
  rw [kn_c2.1, kn_c2.2.1, kn_c2.2.2] at HC2
  rw [kn_c3.1, kn_c3.2] at HC3
  rw [kn_c4.1, kn_c4.2] at HC4
  have HM1 := Lib.hid (fun (pv : Value) W (h : IntsAt W pv exZ) => most_any 0 0 1000 3 2 pv exZ 0 2999999 0 1999999 0 300000 W h hxn)
  unfold MostSpr at HM1
  rw [kn_m1, kn_m1n.1, kn_m1n.2.1, kn_m1n.2.2.1, kn_m1n.2.2.2] at HM1
  have HM2 := Lib.hid (fun (pv : Value) W (h : IntsAt W pv exZ) => most_num 0 0 1000 3 2 pv exZ 0 0 0 0 0 300000 W h hxn)
  unfold MostNum at HM2
  rw [show mE 0 0 1000 3 2 exZ 0 0 0 0 0 300000 = 9 from kn_m2] at HM2
  generalize mN 0 0 1000 3 2 exZ 0 0 0 0 0 300000 = n2 at HM2
  have HM3 := Lib.hid (fun (pv : Value) W (h : IntsAt W pv exZ) => most_any 0 0 1000 3 2 pv exZ (-1) 0 0 0 0 300000 W h hxn)
  unfold MostSpr at HM3
  rw [kn_m3, kn_m3n.1, kn_m3n.2.1, kn_m3n.2.2.1, kn_m3n.2.2.2] at HM3
  have HP1 := Lib.hid (fun (pv sv : Value) W (h : IntsAt W pv exZ) (h2 : SpansAt W sv [(1, 300000), (3, 300000), (4, 300000), (5, 100000)]) => prove_any52 0 0 1000 3 2 pv exZ 0 2999999 0 1999999 0 300000 sv 0 7 _ W h h2 hxn (by simp))
  have HP2 := Lib.hid (fun (pv sv : Value) W (h : IntsAt W pv exZ) (h2 : SpansAt W sv [(1, 200000), (3, 300000), (4, 300000), (5, 200000)]) => prove_any52 0 0 1000 3 2 pv exZ 0 2999999 0 1999999 0 300000 sv 0 7 _ W h h2 hxn (by simp))
  have HP3 := Lib.hid (fun (pv sv : Value) W (h : IntsAt W pv exZ) (h2 : SpansAt W sv [(1, 300000), (3, 300000), (4, 300000), (5, 100000)]) => prove_any52 0 0 1000 3 2 pv exZ 0 2999999 0 1999999 0 300000 sv 0 8 _ W h h2 hxn (by simp))
  unfold NumErr at HP1 HP2 HP3
  rw [kn_p1.1, kn_p1.2] at HP1
  rw [kn_p2] at HP2
  rw [kn_p3] at HP3
  generalize prvN exZ _ _ _ _ _ _ _ = nq2 at HP2
  generalize prvN exZ _ _ _ _ _ _ _ = nq3 at HP3
  have HRK := Lib.hid (fun (pv lv wv : Value) W (h : IntsAt W pv exZ) (h2 : ImpactsAt W lv [knI]) (h3 : SpansAt W wv [(10, 300000)]) => hrisk_any 0 0 1000 3 2 pv lv wv exZ [knI] [(10, 300000)] W h h2 h3 hxn (by simp) (by simp))
  unfold RiskEnd at HRK
  rw [kn_r.1, kn_r.2.1, kn_r.2.2] at HRK
  go_enter Tryz.func19, Tryz.ntmps19
  go_wp2_with fail
  refine (map_any _).mono ?_
  rintro e w1 ⟨v, rfl, hv, hb1⟩
  obtain ⟨va, vc, rfl, hx⟩ := id hv
  clear hx
  have HV := Lib.hid hv
  clear hv
  go_wp2_with fail
  refine (box_any _ _ _ _ _).mono ?_
  rintro e w2 ⟨rfl, hb2⟩
  obtain ⟨hM, hS, hz, hbN⟩ := alloc2 w2 #[.int .i64 0, .int .i64 0, .int .i64 1000, .int .i64 3, .int .i64 2, .slice va exZ.length vc] #[.int .i64 0, .int .i64 2999999, .int .i64 0, .int .i64 1999999] 42 25
  have hB := below_trans (below_trans hb1 hb2) hbN
  have HV := Lib.hid ((HV.out.below hb2).below hbN)
  clear hz hbN
  obtain ⟨m0, m1, m2, m3, m4, m5⟩ := cells6 hM
  obtain ⟨s0, s1, s2, s3⟩ := cells4 hS
  have HV := Lib.hid HV.out
  go_wp2_with fail
  generalize (w2.alloc (.cells #[.int .i64 0, .int .i64 0, .int .i64 1000, .int .i64 3, .int .i64 2, .slice va exZ.length vc] 42)).alloc (.cells #[.int .i64 0, .int .i64 2999999, .int .i64 0, .int .i64 1999999] 25) = W3 at *
  generalize w2.heap.size = mb at *
  have hBd := (Below.refl W3.heap.size W3).drew
  go_region_held3 (fun w' => w'.cell? ⟨mb, 0, none⟩ = some (.int .i64 0) ∧ w'.cell? ⟨mb, 1, none⟩ = some (.int .i64 0) ∧ w'.cell? ⟨mb, 2, none⟩ = some (.int .i64 1000) ∧ w'.cell? ⟨mb, 3, none⟩ = some (.int .i64 3) ∧ w'.cell? ⟨mb, 4, none⟩ = some (.int .i64 2) ∧ w'.cell? ⟨mb, 5, none⟩ = some (.slice va exZ.length vc)) (first | (with_reducible exact ⟨m0, m1, m2, m3, m4, m5⟩) | go_keep) ((first | (go_at_call 60; refine (box_any _ _ _ _ _).mono ?_; rintro e w7 ⟨rfl, hbA⟩; have m0 := below_cell hbA m0; have m1 := below_cell hbA m1; have m2 := below_cell hbA m2; have m3 := below_cell hbA m3; have m4 := below_cell hbA m4; have m5 := below_cell hbA m5; have hBd := below_trans hBd hbA) | (go_at_call 27; refine (HC1.out _ _ (HV.out.below hBd)).mono ?_; rintro e w8 ⟨v8, rfl, hown, hbA⟩; have I8 := ints_at_row hown; clear hown; have m0 := below_cell hbA m0; have m1 := below_cell hbA m1; have m2 := below_cell hbA m2; have m3 := below_cell hbA m3; have m4 := below_cell hbA m4; have m5 := below_cell hbA m5; have hBd := below_trans hBd hbA)))
  have hM := hM.below hBd
  have hS := hS.below hBd
  have hB := below_trans hB hBd
  have HV := Lib.hid (HV.out.below hBd)
  clear m0 m1 m2 m3 m4 m5 s0 s1 s2 s3
  obtain ⟨m0, m1, m2, m3, m4, m5⟩ := cells6 hM
  obtain ⟨s0, s1, s2, s3⟩ := cells4 hS
  have hBd := (Below.refl w8.heap.size w8).drew
  go_wp2_with fail
  go_region_held3 (fun w' => w'.cell? ⟨mb, 0, none⟩ = some (.int .i64 0) ∧ w'.cell? ⟨mb, 1, none⟩ = some (.int .i64 0) ∧ w'.cell? ⟨mb, 2, none⟩ = some (.int .i64 1000) ∧ w'.cell? ⟨mb, 3, none⟩ = some (.int .i64 3) ∧ w'.cell? ⟨mb, 4, none⟩ = some (.int .i64 2) ∧ w'.cell? ⟨mb, 5, none⟩ = some (.slice va exZ.length vc)) (first | (with_reducible exact ⟨m0, m1, m2, m3, m4, m5⟩) | go_keep) ((first | (go_at_call 60; refine (box_any _ _ _ _ _).mono ?_; rintro e w7 ⟨rfl, hbA⟩; have m0 := below_cell hbA m0; have m1 := below_cell hbA m1; have m2 := below_cell hbA m2; have m3 := below_cell hbA m3; have m4 := below_cell hbA m4; have m5 := below_cell hbA m5; have hBd := below_trans hBd hbA) | (go_at_call 27; refine (HC2.out _ _ (HV.out.below hBd)).mono ?_; rintro e w9 ⟨v9, rfl, hown, hbA⟩; have I9 := ints_at_row hown; clear hown; have m0 := below_cell hbA m0; have m1 := below_cell hbA m1; have m2 := below_cell hbA m2; have m3 := below_cell hbA m3; have m4 := below_cell hbA m4; have m5 := below_cell hbA m5; have hBd := below_trans hBd hbA)))
  have I8 := I8.below hBd
  have hM := hM.below hBd
  have hS := hS.below hBd
  have hB := below_trans hB hBd
  have HV := Lib.hid (HV.out.below hBd)
  clear m0 m1 m2 m3 m4 m5 s0 s1 s2 s3
  obtain ⟨m0, m1, m2, m3, m4, m5⟩ := cells6 hM
  obtain ⟨s0, s1, s2, s3⟩ := cells4 hS
  go_wp2_with fail
  refine (HC3.out _ _ HV.out).mono ?_
  rintro e w10 ⟨rfl, hb10⟩
  clear m0 m1 m2 m3 m4 m5 s0 s1 s2 s3
  have hM := hM.below hb10
  have hS := hS.below hb10
  have hB := below_trans hB hb10
  have HV := Lib.hid (HV.out.below hb10)
  obtain ⟨m0, m1, m2, m3, m4, m5⟩ := cells6 hM
  obtain ⟨s0, s1, s2, s3⟩ := cells4 hS
  have I8 := I8.below hb10
  have I9 := I9.below hb10
  go_wp2_with fail
  refine (HC4.out _ _ HV.out).mono ?_
  rintro e w11 ⟨rfl, hb11⟩
  clear m0 m1 m2 m3 m4 m5 s0 s1 s2 s3
  have hM := hM.below hb11
  have hS := hS.below hb11
  have hB := below_trans hB hb11
  have HV := Lib.hid (HV.out.below hb11)
  obtain ⟨m0, m1, m2, m3, m4, m5⟩ := cells6 hM
  obtain ⟨s0, s1, s2, s3⟩ := cells4 hS
  have I8 := I8.below hb11
  have I9 := I9.below hb11
  go_wp2_with fail
  have hL := ints_lit w11 0 1
  have hbL : Below w11.heap.size w11 (w11.alloc (.cells #[.int .i64 0, .int .i64 1] 3)) := balloc (Below.refl _ _) _
  clear m0 m1 m2 m3 m4 m5 s0 s1 s2 s3
  have hM := hM.below hbL
  have hS := hS.below hbL
  have hB := below_trans hB hbL
  have HV := Lib.hid (HV.out.below hbL)
  obtain ⟨m0, m1, m2, m3, m4, m5⟩ := cells6 hM
  obtain ⟨s0, s1, s2, s3⟩ := cells4 hS
  have I8 := I8.below hbL
  generalize w11.alloc (.cells #[.int .i64 0, .int .i64 1] 3) = W12 at *
  refine (ints_same _ _ _ _ I8 hL (by simp)).mono ?_
  rintro e w13 ⟨rfl, hbC⟩
  clear m0 m1 m2 m3 m4 m5 s0 s1 s2 s3
  have hM := hM.below hbC
  have hS := hS.below hbC
  have hB := below_trans hB hbC
  have HV := Lib.hid (HV.out.below hbC)
  obtain ⟨m0, m1, m2, m3, m4, m5⟩ := cells6 hM
  obtain ⟨s0, s1, s2, s3⟩ := cells4 hS
  clear hL
  have I9 := I9.below hbL
  have I9 := I9.below hbC
  clear hbL hbC I8
  go_wp2_with fail
  have hL := ints_lit w13 0 3
  have hbL : Below w13.heap.size w13 (w13.alloc (.cells #[.int .i64 0, .int .i64 3] 3)) := balloc (Below.refl _ _) _
  clear m0 m1 m2 m3 m4 m5 s0 s1 s2 s3
  have hM := hM.below hbL
  have hS := hS.below hbL
  have hB := below_trans hB hbL
  have HV := Lib.hid (HV.out.below hbL)
  obtain ⟨m0, m1, m2, m3, m4, m5⟩ := cells6 hM
  obtain ⟨s0, s1, s2, s3⟩ := cells4 hS
  have I9 := I9.below hbL
  generalize w13.alloc (.cells #[.int .i64 0, .int .i64 3] 3) = W14 at *
  refine (ints_same _ _ _ _ I9 hL (by simp)).mono ?_
  rintro e w15 ⟨rfl, hbC⟩
  clear m0 m1 m2 m3 m4 m5 s0 s1 s2 s3
  have hM := hM.below hbC
  have hS := hS.below hbC
  have hB := below_trans hB hbC
  have HV := Lib.hid (HV.out.below hbC)
  obtain ⟨m0, m1, m2, m3, m4, m5⟩ := cells6 hM
  obtain ⟨s0, s1, s2, s3⟩ := cells4 hS
  clear hL
  clear hbL hbC I9
  go_wp2_with fail
  refine (HM1.out _ _ HV.out).mono ?_
  rintro e w16 ⟨v16, rfl, hsp, hb16⟩
  obtain ⟨pa, pc, rfl, hx⟩ := id hsp
  clear hx
  simp only [List.length_cons, List.length_nil, Nat.zero_add, Nat.reduceAdd] at hsp ⊢
  clear m0 m1 m2 m3 m4 m5 s0 s1 s2 s3
  have hM := hM.below hb16
  have hS := hS.below hb16
  have hB := below_trans hB hb16
  have HV := Lib.hid (HV.out.below hb16)
  obtain ⟨m0, m1, m2, m3, m4, m5⟩ := cells6 hM
  obtain ⟨s0, s1, s2, s3⟩ := cells4 hS
  have hP := (cellsNew w16 #[.slice pa 4 pc, .int .i64 0, .int .i64 7] 47).below (balloc (Below.refl _ _) (.cells #[.int .i64 1, .int .i64 300000, .int .i64 3, .int .i64 300000, .int .i64 4, .int .i64 300000, .int .i64 5, .int .i64 100000] 121))
  have hbP : Below w16.heap.size w16 ((w16.alloc (.cells #[.slice pa 4 pc, .int .i64 0, .int .i64 7] 47)).alloc (.cells #[.int .i64 1, .int .i64 300000, .int .i64 3, .int .i64 300000, .int .i64 4, .int .i64 300000, .int .i64 5, .int .i64 100000] 121)) := balloc (balloc (Below.refl _ _) _) _
  have HSP := Lib.hid (RowAt.below hsp hbP)
  have hL := spans_lit4 (w16.alloc (.cells #[.slice pa 4 pc, .int .i64 0, .int .i64 7] 47)) 1 300000 3 300000 4 300000 5 100000
  rw [World.size_alloc] at hL
  clear hsp
  clear m0 m1 m2 m3 m4 m5 s0 s1 s2 s3
  have hM := hM.below hbP
  have hS := hS.below hbP
  have hB := below_trans hB hbP
  have HV := Lib.hid (HV.out.below hbP)
  obtain ⟨m0, m1, m2, m3, m4, m5⟩ := cells6 hM
  obtain ⟨s0, s1, s2, s3⟩ := cells4 hS
  clear m0 m1 m2 m3 m4 m5 s0 s1 s2 s3 hbP
  go_wp2_with fail
  generalize (w16.alloc (.cells #[.slice pa 4 pc, .int .i64 0, .int .i64 7] 47)).alloc (.cells #[.int .i64 1, .int .i64 300000, .int .i64 3, .int .i64 300000, .int .i64 4, .int .i64 300000, .int .i64 5, .int .i64 100000] 121) = W17 at *
  generalize w16.heap.size = pb at *
  refine (sameSpread_any _ _ _ 0 7 _ HSP.out hL (by simp)).mono ?_
  rintro e w18 ⟨rfl, hb18⟩
  clear hL
  have hM := hM.below hb18
  have hS := hS.below hb18
  have hB := below_trans hB hb18
  have HV := Lib.hid (HV.out.below hb18)
  obtain ⟨m0, m1, m2, m3, m4, m5⟩ := cells6 hM
  obtain ⟨s0, s1, s2, s3⟩ := cells4 hS
  have hP := hP.below hb18
  have HSP := Lib.hid (RowAt.below HSP.out hb18)
  have hBd := (Below.refl w18.heap.size w18).drew
  clear hb18
  go_wp2_with fail
  go_region_held3 (fun w' => w'.cell? ⟨mb, 0, none⟩ = some (.int .i64 0) ∧ w'.cell? ⟨mb, 1, none⟩ = some (.int .i64 0) ∧ w'.cell? ⟨mb, 2, none⟩ = some (.int .i64 1000) ∧ w'.cell? ⟨mb, 3, none⟩ = some (.int .i64 3) ∧ w'.cell? ⟨mb, 4, none⟩ = some (.int .i64 2) ∧ w'.cell? ⟨mb, 5, none⟩ = some (.slice va exZ.length vc)) (first | (with_reducible exact ⟨m0, m1, m2, m3, m4, m5⟩) | go_keep) ((first | (go_at_call 60; refine (box_any _ _ _ _ _).mono ?_; rintro e w7 ⟨rfl, hbA⟩; have m0 := below_cell hbA m0; have m1 := below_cell hbA m1; have m2 := below_cell hbA m2; have m3 := below_cell hbA m3; have m4 := below_cell hbA m4; have m5 := below_cell hbA m5; have hBd := below_trans hBd hbA) | (go_at_call 25; refine (HM2.out _ _ (HV.out.below hBd)).mono ?_; rintro e w19 ⟨a19, n19, c19, o19, p19, rfl, hbA⟩; have m0 := below_cell hbA m0; have m1 := below_cell hbA m1; have m2 := below_cell hbA m2; have m3 := below_cell hbA m3; have m4 := below_cell hbA m4; have m5 := below_cell hbA m5; have hBd := below_trans hBd hbA)))
  have hM := hM.below hBd
  have hS := hS.below hBd
  have hB := below_trans hB hBd
  have HV := Lib.hid (HV.out.below hBd)
  clear m0 m1 m2 m3 m4 m5 s0 s1 s2 s3
  obtain ⟨m0, m1, m2, m3, m4, m5⟩ := cells6 hM
  obtain ⟨s0, s1, s2, s3⟩ := cells4 hS
  have hP := hP.below hBd
  have HSP := Lib.hid (RowAt.below HSP.out hBd)
  have HS := Lib.hid hS
  have HPP := Lib.hid hP
  have HM := Lib.hid hM
  clear hS hP hM s0 s1 s2 s3
  have hBd := (Below.refl w19.heap.size w19).drew
  go_upto_region 12 with fail
  go_cut [8, 14, 15] from 27 to 288 (fun v8 v14 v15 wx => ∃ (tb : Nat) (pa3 : Option Addr) (pc3 : Nat), v8 = .int .i64 0 ∧ v14 = .int .i64 1500000 ∧ v15 = .pointer (some ⟨tb, 0, none⟩) ∧ cellsAt wx tb 47 #[.slice pa3 1 pc3, .int .i64 700000, .int .i64 0] ∧ SpansAt wx (.slice pa3 1 pc3) [(0, 300000)] ∧ Below w19.heap.size w19 wx)
  case first =>
    have hmb : mb < w19.heap.size := HM.out.lt
    have ne19 : mb ≠ w19.heap.size := Nat.ne_of_lt hmb
    go_region_held3 (fun w' => w'.cell? ⟨mb, 0, none⟩ = some (.int .i64 0) ∧ w'.cell? ⟨mb, 1, none⟩ = some (.int .i64 0) ∧ w'.cell? ⟨mb, 2, none⟩ = some (.int .i64 1000) ∧ w'.cell? ⟨mb, 3, none⟩ = some (.int .i64 3) ∧ w'.cell? ⟨mb, 4, none⟩ = some (.int .i64 2) ∧ w'.cell? ⟨mb, 5, none⟩ = some (.slice va exZ.length vc)) (first | (with_reducible exact ⟨m0, m1, m2, m3, m4, m5⟩) | (with_reducible exact ⟨alloc_cell m0 _, alloc_cell m1 _, alloc_cell m2 _, alloc_cell m3 _, alloc_cell m4 _, alloc_cell m5 _⟩) | (with_reducible exact ⟨set3_cell m0 ne7, set3_cell m1 ne7, set3_cell m2 ne7, set3_cell m3 ne7, set3_cell m4 ne7, set3_cell m5 ne7⟩) | (with_reducible exact ⟨set3_cell m0 ne19, set3_cell m1 ne19, set3_cell m2 ne19, set3_cell m3 ne19, set3_cell m4 ne19, set3_cell m5 ne19⟩) | go_keep) ((first | (go_at_call 60; refine (box_any _ _ _ _ _).mono ?_; rintro e w7 ⟨rfl, hbA⟩; (first | ((with_reducible have hbB := bl1k (below_drew' hbA)); have hT := (cellsNew _ #[.slice none 0 0, .int .i64 0, .int .i64 0] 47).below (below_drew' hbA)) | ((with_reducible have hbB := bl1k hbA); have hT := (cellsNew _ #[.slice none 0 0, .int .i64 0, .int .i64 0] 47).below hbA) | (have hbB := hbA; (try have hT := hT.below hbB))); have m0 := below_cell hbB m0; have m1 := below_cell hbB m1; have m2 := below_cell hbB m2; have m3 := below_cell hbB m3; have m4 := below_cell hbB m4; have m5 := below_cell hbB m5; (first | have hBd := below_trans hBd hbB | have hBd := hbB); (try have ft0 := hT.frozen 0; have ft1 := hT.frozen 1; have ft2 := hT.frozen 2; have ct0 := hT.cell 0; have ct1 := hT.cell 1; have ct2 := hT.cell 2); have hz7 : w19.heap.size ≤ w7.heap.size := hBd.size; have ne7 : mb ≠ w7.heap.size := Nat.ne_of_lt (Nat.lt_of_lt_of_le hmb hz7)) | (go_at_call 25; refine (HM3.out _ _ (by first | (with_reducible exact HV.out.below hBd) | (with_reducible exact HV.out.below (balloc hBd _)))).mono ?_; rintro e w8 ⟨v8, rfl, hsp, hbA⟩; obtain ⟨pa3, pc3, rfl, hx⟩ := id hsp; clear hx; simp only [List.length_cons, List.length_nil, Nat.zero_add, Nat.reduceAdd] at hsp ⊢; have HSP3 := Lib.hid hsp; clear hsp; (first | ((with_reducible have hbB := bl1k (below_drew' hbA)); have hT := (cellsNew _ #[.slice none 0 0, .int .i64 0, .int .i64 0] 47).below (below_drew' hbA)) | ((with_reducible have hbB := bl1k hbA); have hT := (cellsNew _ #[.slice none 0 0, .int .i64 0, .int .i64 0] 47).below hbA) | (have hbB := hbA; (try have hT := hT.below hbB))); have m0 := below_cell hbB m0; have m1 := below_cell hbB m1; have m2 := below_cell hbB m2; have m3 := below_cell hbB m3; have m4 := below_cell hbB m4; have m5 := below_cell hbB m5; (first | have hBd := below_trans hBd hbB | have hBd := hbB); (try have ft0 := hT.frozen 0; have ft1 := hT.frozen 1; have ft2 := hT.frozen 2; have ct0 := hT.cell 0; have ct1 := hT.cell 1; have ct2 := hT.cell 2))))
    all_goals go_wp2_with fail
    all_goals go_meet
    first
      | (with_reducible exact ⟨_, _, _, rfl, rfl, rfl, cellsNew _ _ _, RowAt.below HSP3.out (balloc (Below.refl _ _) _), balloc hBd _⟩)
      | exact ⟨_, _, _, rfl, rfl, rfl, cellsNew _ _ _, RowAt.below HSP3.out (balloc (Below.refl _ _) _), balloc hBd _⟩
    · exact ⟨_, _, _, rfl, rfl, rfl, (((hT.set 0 _).set 1 _).set 2 _), spans_set3 hT HSP3.out, hBd.grown (set3_grown _ _ _ _ _) hBd.size (fun k e => by cases e; exact hz7)⟩
    · exact ⟨_, _, _, rfl, rfl, rfl, (((hT.set 0 _).set 1 _).set 2 _), spans_set3 hT HSP3.out, hBd.grown (set3_grown _ _ _ _ _) hBd.size (fun k e => by cases e; exact Nat.le_refl _)⟩
  case rest =>
    obtain ⟨tb, pa3, pc3, rfl, rfl, rfl, hTB, hSP3, hb20⟩ := hcut
    have hM := HM.out
    have hS := HS.out
    have hP := HPP.out.below hb20
    have HSP := Lib.hid (RowAt.below HSP.out hb20)
    clear m0 m1 m2 m3 m4 m5
    have hM := hM.below hb20
    have hS := hS.below hb20
    have hB := below_trans hB hb20
    have HV := Lib.hid (HV.out.below hb20)
    obtain ⟨m0, m1, m2, m3, m4, m5⟩ := cells6 hM
    obtain ⟨s0, s1, s2, s3⟩ := cells4 hS
    repeat clear hBd
    repeat clear hbA
    repeat clear HC1
    repeat clear HC2
    repeat clear HC3
    repeat clear HC4
    repeat clear HM1
    repeat clear HM2
    repeat clear HM3
    have hKEEP := hM
    repeat clear hM
    have hM := hKEEP
    clear hKEEP
    have hKEEP := hS
    repeat clear hS
    have hS := hKEEP
    clear hKEEP
    have hKEEP := hP
    repeat clear hP
    have hP := hKEEP
    clear hKEEP
    have hKEEP := HSP
    repeat clear HSP
    have HSP := hKEEP
    clear hKEEP
    have hKEEP := HV
    repeat clear HV
    have HV := hKEEP
    clear hKEEP
    have hKEEP := hB
    repeat clear hB
    have hB := hKEEP
    clear hKEEP
    repeat clear m0
    repeat clear m1
    repeat clear m2
    repeat clear m3
    repeat clear m4
    repeat clear m5
    repeat clear s0
    repeat clear s1
    repeat clear s2
    repeat clear s3
    obtain ⟨m0, m1, m2, m3, m4, m5⟩ := cells6 hM
    obtain ⟨s0, s1, s2, s3⟩ := cells4 hS
    obtain ⟨t0, t1, t2⟩ := cells3 hTB
    repeat clear HM
    repeat clear HS
    repeat clear HPP
    repeat clear hb20
    have hL := spans_lit1 wc 121 0 300000
    have hbL : Below wc.heap.size wc (wc.alloc (.cells #[.int .i64 0, .int .i64 300000] 121)) := balloc (Below.refl _ _) _
    go_wp2_with fail
    clear t0 t1 t2
    clear m0 m1 m2 m3 m4 m5 s0 s1 s2 s3
    have hM := hM.below hbL
    have hS := hS.below hbL
    have hB := below_trans hB hbL
    have HV := Lib.hid (HV.out.below hbL)
    obtain ⟨m0, m1, m2, m3, m4, m5⟩ := cells6 hM
    obtain ⟨s0, s1, s2, s3⟩ := cells4 hS
    have hP := hP.below hbL
    have HSP := Lib.hid (RowAt.below HSP.out hbL)
    have hSP3 := RowAt.below hSP3 hbL
    generalize wc.alloc (.cells #[.int .i64 0, .int .i64 300000] 121) = W21 at *
    refine (sameSpread_any _ _ _ 700000 0 _ hSP3 hL (by simp)).mono ?_
    rintro e w22 ⟨rfl, hb22⟩
    clear hL hSP3 hbL hTB
    clear m0 m1 m2 m3 m4 m5 s0 s1 s2 s3
    have hM := hM.below hb22
    have hS := hS.below hb22
    have hB := below_trans hB hb22
    have HV := Lib.hid (HV.out.below hb22)
    obtain ⟨m0, m1, m2, m3, m4, m5⟩ := cells6 hM
    obtain ⟨s0, s1, s2, s3⟩ := cells4 hS
    have hP := hP.below hb22
    have HSP := Lib.hid (RowAt.below HSP.out hb22)
    obtain ⟨p0, p1, p2⟩ := cells3 hP
    clear hb22
    go_wp2_with fail
    refine (HP1.out _ _ _ HV.out HSP.out).mono ?_
    rintro e w23 ⟨rfl, hb23⟩
    clear p0 p1 p2 hP HSP
    clear m0 m1 m2 m3 m4 m5 s0 s1 s2 s3
    have hM := hM.below hb23
    have hS := hS.below hb23
    have hB := below_trans hB hb23
    have HV := Lib.hid (HV.out.below hb23)
    obtain ⟨m0, m1, m2, m3, m4, m5⟩ := cells6 hM
    obtain ⟨s0, s1, s2, s3⟩ := cells4 hS
    clear hb23
    have HM23 := Lib.hid hM
    have HS23 := Lib.hid hS
    have HV23 := Lib.hid HV.out
    have HB23 := Lib.hid hB
    obtain ⟨hLu, hU, hzu, hbU⟩ := alloc2 w23 #[.int .i64 1, .int .i64 200000, .int .i64 3, .int .i64 300000, .int .i64 4, .int .i64 300000, .int .i64 5, .int .i64 200000] #[.slice (some ⟨w23.heap.size, 0, none⟩) 4 4, .int .i64 0, .int .i64 7] 121 47
    clear m0 m1 m2 m3 m4 m5 s0 s1 s2 s3
    have hM := hM.below hbU
    have hS := hS.below hbU
    have hB := below_trans hB hbU
    have HV := Lib.hid (HV.out.below hbU)
    obtain ⟨m0, m1, m2, m3, m4, m5⟩ := cells6 hM
    obtain ⟨s0, s1, s2, s3⟩ := cells4 hS
    have HSU := Lib.hid (spans_cells4 hLu)
    have HBU := Lib.hid hbU
    clear hLu hzu hbU
    obtain ⟨u0, u1, u2⟩ := cells3 hU
    go_wp2_with fail
    generalize (w23.alloc (.cells #[.int .i64 1, .int .i64 200000, .int .i64 3, .int .i64 300000, .int .i64 4, .int .i64 300000, .int .i64 5, .int .i64 200000] 121)).alloc (.cells #[.slice (some ⟨w23.heap.size, 0, none⟩) 4 4, .int .i64 0, .int .i64 7] 47) = W24 at *
    refine (HP2.out _ _ _ HV.out HSU.out).mono ?_
    rintro e w25 ⟨rfl, hb25⟩
    clear u0 u1 u2 HSU
    clear m0 m1 m2 m3 m4 m5 s0 s1 s2 s3
    have hM := hM.below hb25
    have hS := hS.below hb25
    have hB := below_trans hB hb25
    have HV := Lib.hid (HV.out.below hb25)
    obtain ⟨m0, m1, m2, m3, m4, m5⟩ := cells6 hM
    obtain ⟨s0, s1, s2, s3⟩ := cells4 hS
    have hU := hU.below hb25
    have HB25 := Lib.hid (below_trans HBU.out hb25)
    clear hb25 HBU
    have fu0 := hU.frozen 0
    have fu1 := hU.frozen 1
    have fu2 := hU.frozen 2
    obtain ⟨u0, u1, u2⟩ := cells3 hU
    have hul := hU.lt
    go_upto_region 19 with fail
    have hUs := ((hU.set 0 (.slice (some ⟨w25.heap.size, 0, none⟩) 4 4)).set 1 (.int .i64 0)).set 2 (.int .i64 8)
    simp only [List.setIfInBounds_toArray, List.set_cons_zero, List.set_cons_succ] at hUs
    have hszX : (((w25.setCell ⟨w23.heap.size + 1, 0, none⟩ (.slice (some ⟨w25.heap.size, 0, none⟩) 4 4)).setCell ⟨w23.heap.size + 1, 1, none⟩ (.int .i64 0)).setCell ⟨w23.heap.size + 1, 2, none⟩ (.int .i64 8)).heap.size = w25.heap.size := by simp
    have hbX : Below w23.heap.size w23 ((((w25.setCell ⟨w23.heap.size + 1, 0, none⟩ (.slice (some ⟨w25.heap.size, 0, none⟩) 4 4)).setCell ⟨w23.heap.size + 1, 1, none⟩ (.int .i64 0)).setCell ⟨w23.heap.size + 1, 2, none⟩ (.int .i64 8)).alloc (.cells #[.int .i64 1, .int .i64 300000, .int .i64 3, .int .i64 300000, .int .i64 4, .int .i64 300000, .int .i64 5, .int .i64 100000] 121)) := balloc (((HB25.out.setCell (p := ⟨w23.heap.size + 1, 0, none⟩) (by show w23.heap.size ≤ w23.heap.size + 1; omega) _).setCell (p := ⟨w23.heap.size + 1, 1, none⟩) (by show w23.heap.size ≤ w23.heap.size + 1; omega) _).setCell (p := ⟨w23.heap.size + 1, 2, none⟩) (by show w23.heap.size ≤ w23.heap.size + 1; omega) _) _
    have hL := spans_lit4 (((w25.setCell ⟨w23.heap.size + 1, 0, none⟩ (.slice (some ⟨w25.heap.size, 0, none⟩) 4 4)).setCell ⟨w23.heap.size + 1, 1, none⟩ (.int .i64 0)).setCell ⟨w23.heap.size + 1, 2, none⟩ (.int .i64 8)) 1 300000 3 300000 4 300000 5 100000
    rw [hszX] at hL
    have hU2 := hUs.below (balloc (Below.refl _ _) (.cells #[.int .i64 1, .int .i64 300000, .int .i64 3, .int .i64 300000, .int .i64 4, .int .i64 300000, .int .i64 5, .int .i64 100000] 121))
    generalize (((w25.setCell ⟨w23.heap.size + 1, 0, none⟩ (.slice (some ⟨w25.heap.size, 0, none⟩) 4 4)).setCell ⟨w23.heap.size + 1, 1, none⟩ (.int .i64 0)).setCell ⟨w23.heap.size + 1, 2, none⟩ (.int .i64 8)).alloc (.cells #[.int .i64 1, .int .i64 300000, .int .i64 3, .int .i64 300000, .int .i64 4, .int .i64 300000, .int .i64 5, .int .i64 100000] 121) = W26 at *
    clear u0 u1 u2 fu0 fu1 fu2 hul hU hUs hszX
    clear m0 m1 m2 m3 m4 m5 s0 s1 s2 s3
    have hM := HM23.out
    have hS := HS23.out
    have HV := Lib.hid HV23.out
    have hB := HB23.out
    have hM := hM.below hbX
    have hS := hS.below hbX
    have hB := below_trans hB hbX
    have HV := Lib.hid (HV.out.below hbX)
    obtain ⟨m0, m1, m2, m3, m4, m5⟩ := cells6 hM
    obtain ⟨s0, s1, s2, s3⟩ := cells4 hS
    clear hbX HM23 HS23 HV23 HB23 HB25
    obtain ⟨u0, u1, u2⟩ := cells3 hU2
    go_wp2_with fail
    refine (HP3.out _ _ _ HV.out hL).mono ?_
    rintro e w27 ⟨rfl, hb27⟩
    clear u0 u1 u2 hL hU2
    clear m0 m1 m2 m3 m4 m5 s0 s1 s2 s3
    have hM := hM.below hb27
    have hS := hS.below hb27
    have hB := below_trans hB hb27
    have HV := Lib.hid (HV.out.below hb27)
    obtain ⟨m0, m1, m2, m3, m4, m5⟩ := cells6 hM
    obtain ⟨s0, s1, s2, s3⟩ := cells4 hS
    clear hb27
    obtain ⟨hLi, hLw, hzl, hbL⟩ := alloc2 w27 #[.int .i64 0, .int .i64 0, .int .i64 2999999, .int .i64 0, .int .i64 1999999, .int .i64 0, .int .i64 0] #[.int .i64 10, .int .i64 300000] 27 44
    have hIM : ImpactsAt ((w27.alloc (.cells #[.int .i64 0, .int .i64 0, .int .i64 2999999, .int .i64 0, .int .i64 1999999, .int .i64 0, .int .i64 0] 27)).alloc (.cells #[.int .i64 10, .int .i64 300000] 44)) (.slice (some ⟨w27.heap.size, 0, none⟩) 1 1) [knI] := by
      refine row_new hLi (fun i hi => ?_)
      have : i = 0 ∨ i = 1 ∨ i = 2 ∨ i = 3 ∨ i = 4 ∨ i = 5 ∨ i = 6 := by simp at hi; omega
      rcases this with rfl | rfl | rfl | rfl | rfl | rfl | rfl <;> rfl
    have hLW : SpansAt ((w27.alloc (.cells #[.int .i64 0, .int .i64 0, .int .i64 2999999, .int .i64 0, .int .i64 1999999, .int .i64 0, .int .i64 0] 27)).alloc (.cells #[.int .i64 10, .int .i64 300000] 44)) (.slice (some ⟨w27.heap.size + 1, 0, none⟩) 1 1) [(10, 300000)] := by
      refine row_new hLw (fun i hi => ?_)
      have : i = 0 ∨ i = 1 := by simp at hi; omega
      rcases this with rfl | rfl <;> rfl
    clear hLi hLw hzl
    go_wp2_with fail
    clear m0 m1 m2 m3 m4 m5 s0 s1 s2 s3
    have hM := hM.below hbL
    have hS := hS.below hbL
    have hB := below_trans hB hbL
    have HV := Lib.hid (HV.out.below hbL)
    obtain ⟨m0, m1, m2, m3, m4, m5⟩ := cells6 hM
    obtain ⟨s0, s1, s2, s3⟩ := cells4 hS
    clear hbL
    generalize (w27.alloc (.cells #[.int .i64 0, .int .i64 0, .int .i64 2999999, .int .i64 0, .int .i64 1999999, .int .i64 0, .int .i64 0] 27)).alloc (.cells #[.int .i64 10, .int .i64 300000] 44) = W28 at *
    refine (HRK.out _ _ _ _ HV.out hIM hLW).mono ?_
    rintro e w29 ⟨rfl, hb29⟩
    clear hIM hLW
    clear m0 m1 m2 m3 m4 m5 s0 s1 s2 s3
    have hB := below_trans hB hb29
    clear hM hS HV hb29
    have hneq : ∀ w : World, (binOp .neq 94 (.agg #[.int .i64 667000000, .int .i64 1000000000000]) (.agg #[.int .i64 667000000, .int .i64 1000000000000])).run Tryz.prog w = .ok (.bool false) w := fun _ => by kernel_rfl
    have hR := cellsNew w29 #[.int .i64 667000000, .int .i64 1000000000000] 94
    have hB := balloc hB (.cells #[.int .i64 667000000, .int .i64 1000000000000] 94)
    obtain ⟨r0, r1⟩ := cells2 hR
    go_upto_region 23 with fail
    generalize w29.alloc (.cells #[.int .i64 667000000, .int .i64 1000000000000] 94) = W30 at *
    clear hneq hR r0 r1
    go_cut [18, 19] from 27 to 288 (fun v18 v19 wx => ∃ (qb ab : Nat), v18 = .slice (some ⟨qb, 0, none⟩) 3 3 ∧ v19 = .slice (some ⟨ab, 0, none⟩) 3 3 ∧ cellsAt wx qb 3 #[.int .i64 100, .int .i64 150, .int .i64 250] ∧ cellsAt wx ab 25 #[.int .i64 (-1000), .int .i64 1000, .int .i64 (-1000), .int .i64 1000, .int .i64 15000, .int .i64 26000, .int .i64 (-25000), .int .i64 25000, .int .i64 15000, .int .i64 65000, .int .i64 (-25000), .int .i64 25000] ∧ Below w.heap.size w wx)
    case first =>
      have hT := cellsNew W30 #[.int .i64 100, .int .i64 150, .int .i64 250] 3
      have hB := balloc hB (.cells #[.int .i64 100, .int .i64 150, .int .i64 250] 3)
      go_wp2_with fail
      generalize W30.alloc (.cells #[.int .i64 100, .int .i64 150, .int .i64 250] 3) = W31 at *
      generalize W30.heap.size = qb at *
      refine (box_any _ _ _ _ _).mono ?_
      rintro e w32 ⟨rfl, hb32⟩
      have hT := hT.below hb32
      have hB := below_trans hB hb32
      go_wp2_with fail
      refine (box_any _ _ _ _ _).mono ?_
      rintro e w33 ⟨rfl, hb33⟩
      have hT := hT.below hb33
      have hB := below_trans hB hb33
      go_wp2_with fail
      refine (box_any _ _ _ _ _).mono ?_
      rintro e w34 ⟨rfl, hb34⟩
      have hA := cellsNew w34 #[.int .i64 (-1000), .int .i64 1000, .int .i64 (-1000), .int .i64 1000, .int .i64 15000, .int .i64 26000, .int .i64 (-25000), .int .i64 25000, .int .i64 15000, .int .i64 65000, .int .i64 (-25000), .int .i64 25000] 25
      have hT := (hT.below hb34).below (balloc (Below.refl _ _) (.cells #[.int .i64 (-1000), .int .i64 1000, .int .i64 (-1000), .int .i64 1000, .int .i64 15000, .int .i64 26000, .int .i64 (-25000), .int .i64 25000, .int .i64 15000, .int .i64 65000, .int .i64 (-25000), .int .i64 25000] 25))
      have hB := balloc (below_trans hB hb34) (.cells #[.int .i64 (-1000), .int .i64 1000, .int .i64 (-1000), .int .i64 1000, .int .i64 15000, .int .i64 26000, .int .i64 (-25000), .int .i64 25000, .int .i64 15000, .int .i64 65000, .int .i64 (-25000), .int .i64 25000] 25)
      clear hb32 hb33 hb34
      go_wp2_with fail
      go_meet
      exact ⟨_, _, rfl, rfl, hT, hA, hB⟩
    case rest =>
      obtain ⟨qb, ab, rfl, rfl, hT, hA, hB⟩ := hcut
      refine ‹∀ (a : Act) (w : World), Code.wp Tryz.prog _ _ a w → _› _ _ ?_
      exact tail19 (by kernel_rfl) HT hT hA hB
end Go.Proofs.YtmglbegbijofkaaGreatDoor
