/- Parts of the proof. -/
import Derived.Test.YtbpnallaifdcpaaGreatDoorZf
set_option linter.unusedVariables false
set_option linter.unusedSimpArgs false
set_option maxRecDepth 100000
set_option maxHeartbeats 4000000
namespace Go.Proofs.YtbpnallaifdcpaaGreatDoor
open Go.Value renaming int→M
open Go.IntKind renaming i64→U
open Go.Value renaming slice→T,pointer→ax,bool→aA,agg→aN
open Go.Lib renaming hid→af
open Option renaming none→ag,some→ai
open Go renaming World→aj,Value→aw,Calls→aC
open Go.RowKit renaming Below→ap,intOf→aV,Hid→bj
open Go.Ending renaming returned→ar
open Go.RowKit.Below renaming refl→au,setCell→aS
open Nat renaming zero_le→aF,lt_of_lt_of_le→aQ,le_of_eq→bs
open Go.World renaming block_lt_of_cell?→aG,size_alloc→bg
open Go.Code renaming wp→bi
open Go.Exit renaming normal→bk
section
open Tryz
open Go.RowKit Go.Shelf
attribute [local go_sem] Oper.semAt_some
def cN (k:Int):List PanicEntry:=[{v:= .iface 69 (M U k),recovered:=false}]
def vW (b:Bool) (k:Int):Ending:=if b then ar (.tuple #[])else .panicked (cN k)
theorem jL (b:Bool) (k:Int) (w:aj):
  aC prog 437 #[aA b,M U k] w λe w'=>e=vW b k/\w=w':=by
 cases b
 ·go_enter func437,ntmps437
  go_wp2_with fail
  exact⟨rfl,rfl,rfl⟩
 go_enter func437,ntmps437
 go_wp2_with fail
 go_end0
 exact⟨rfl,rfl⟩
theorem dH {k:Int} {w:aj} {Q:Ending->aj->Prop} (h:Q (ar (.tuple #[])) w):aC prog 437 #[aA true,M U k] w Q:=
 (jL true k w).mono λ_ _ ⟨he,hw⟩=>by subst he;subst hw;exact h
theorem dU {k:Int} {w:aj} {Q:Ending->aj->Prop} (h:Q (.panicked (cN k)) w):aC prog 437 #[aA false,M U k] w Q:=
 (jL false k w).mono λ_ _ ⟨he,hw⟩=>by subst he;subst hw;exact h
theorem tS {P:Program} {f:FuncId} {a:Array aw} {w w0:aj} {Q:Ending->aj->Prop} {x:Ending} (h:aC P f a w λe w'=>e=x/\ap w0.heap.size w0 w') (hK:∀(w1:aj),ap w0.heap.size w0 w1->Q x w1):aC P f a w Q:=
 h.mono λ_ w1 ⟨he,hw⟩=>by subst he;exact hK w1 hw
theorem eh (D:bE) (S:bL) (cb who:Nat) (w:aj) (hA:dG w cb D S) (hw:who<S.zn):
  aC prog 569 #[ax (ai ⟨cb,0,ag⟩),M U (who:Int)] w λe w'=>e=vW (S.Z who==D.panel) 171/\ap w.heap.size w w':=by
 obtain⟨x0,x1,x2,x3,x4,x5,x6,x7,x8,x9,x10,x11,x12⟩:=bK hA
 obtain⟨_,zc,hz1,hz2⟩:=hA.s.z.form
 have hRz:=hA.s.z
 rw[hz1]at hRz x8
 obtain⟨zb,zo,rfl,zl,hc⟩:=hRz.elem hw
 have e0:w.cell? ⟨zb,zo+who,ag⟩=ai (M U (S.Z who)):=eI hc
 have hcl:=hA.c.lt
 have HR:=af λw' (hb:ap w.heap.size w w')=>uE (kp x5 hb) (kp x8 hb) (kp e0 hb)
 have hB:ap w.heap.size w w.drew:=(au _ _).drew
 have i1:(who:Int)<(S.zn:Int):=om
 generalize S.Z who=z at *
 clear x0 x1 x2 x3 x4 x5 x6 x7 x8 x9 x10 x11 x12 hc hA hRz hz1 e0 zl hcl
 go_enter func569,ntmps569
 refine bV hB ?_
 by_cases hzp:z=D.panel
 rotate_left
 ·have hzb:(z==D.panel)=false:=by simpa using hzp
  refine K1 ?_
  refine br 7 hB ?_
  refine K6 ?_
  refine br 13 hB ?_
  refine cL 14 (λK' hK'=>?_)
  refine dU ?_
  exact⟨rfl,by first|rfl|(rw[hzb];rfl),hB⟩
 have hzb:(z==D.panel)=true:=by simpa using hzp
 refine K1 ?_
 refine br 7 hB ?_
 refine K6 ?_
 refine br 13 hB ?_
 refine cL 14 (λK' hK'=>?_)
 refine dH ?_
 (try dsimp only)
 refine bO hK' hB ?_
 clear hK' K'
 refine wpAnyH_done kr ?_ _
 refine bodyPost_end (results_none rfl _ _ _) rfl ?_
 exact⟨by first|rfl|(rw[hzb];rfl),hB⟩
theorem jq (D:bE) (S:bL) (cb who:Nat) (at_ kind what wth:Int) (w:aj) (hA:dG w cb D S) (hw:who<S.zn) (hz:(S.Z who==D.panel)=false):
  aC prog 572 #[ax (ai ⟨cb,0,ag⟩),aN #[M U at_,M U kind,M U (who:Int),M U what,M U wth]] w λe w'=>e= .panicked (cN 171)/\ap w.heap.size w w':=by
 obtain⟨W0,HW0,hC,hB⟩:=bW w 294 #[M U at_,M U kind,M U (who:Int),M U what,M U wth]
 have hp:=eh D S cb who W0 (hA.below hB) hw
 rw[hz]at hp
 have HP:=af hp
 clear hp
 clear hA
 go_enter func572,ntmps572
 exact uT
theorem qr (D:bE) (S:bL) (cb who:Nat) (at_ kind what wth:Int) (w:aj) (hA:dG w cb D S) (hw:who<S.zn) (hz:(S.Z who==D.panel)=false):
  aC prog 505 #[ax (ai ⟨cb,0,ag⟩),aN #[M U at_,M U kind,M U (who:Int),M U what,M U wth]] w λe w'=>e= .panicked (cN 171)/\ap w.heap.size w w':=by
 obtain⟨W0,HW0,hC,hB⟩:=bW w 294 #[M U at_,M U kind,M U (who:Int),M U what,M U wth]
 have hp:=eh D S cb who W0 (hA.below hB) hw
 rw[hz]at hp
 have HP:=af hp
 clear hp
 clear hA
 go_enter func505,ntmps505
 exact uT
theorem rP (D:bE) (S:bL) (cb who:Nat) (at_ kind what wth:Int) (w:aj) (hA:dG w cb D S) (hw:who<S.zn) (hz:(S.Z who==D.panel)=false):
  aC prog 506 #[ax (ai ⟨cb,0,ag⟩),aN #[M U at_,M U kind,M U (who:Int),M U what,M U wth]] w λe w'=>e= .panicked (cN 171)/\ap w.heap.size w w':=by
 obtain⟨W0,HW0,hC,hB⟩:=bW w 294 #[M U at_,M U kind,M U (who:Int),M U what,M U wth]
 have hp:=eh D S cb who W0 (hA.below hB) hw
 rw[hz]at hp
 have HP:=af hp
 clear hp
 clear hA
 go_enter func506,ntmps506
 exact uT
theorem rg (D:bE) (S:bL) (cb who:Nat) (at_ kind what wth:Int) (w:aj) (hA:dG w cb D S) (hw:who<S.zn) (hz:(S.Z who==D.panel)=false):
  aC prog 508 #[ax (ai ⟨cb,0,ag⟩),aN #[M U at_,M U kind,M U (who:Int),M U what,M U wth]] w λe w'=>e= .panicked (cN 171)/\ap w.heap.size w w':=by
 obtain⟨W0,HW0,hC,hB⟩:=bW w 294 #[M U at_,M U kind,M U (who:Int),M U what,M U wth]
 have HP:=af (jq D S cb who at_ kind what wth W0 (hA.below hB) hw hz)
 clear hA
 go_enter func508,ntmps508
 exact uT
theorem nv (D:bE) (S:bL) (cb who:Nat) (at_ kind what wth:Int) (w:aj) (hA:dG w cb D S) (hw:who<S.zn) (hz:(S.Z who==D.panel)=false):
  aC prog 509 #[ax (ai ⟨cb,0,ag⟩),aN #[M U at_,M U kind,M U (who:Int),M U what,M U wth]] w λe w'=>e= .panicked (cN 171)/\ap w.heap.size w w':=by
 obtain⟨W0,HW0,hC,hB⟩:=bW w 294 #[M U at_,M U kind,M U (who:Int),M U what,M U wth]
 have hp:=eh D S cb who W0 (hA.below hB) hw
 rw[hz]at hp
 have HP:=af hp
 clear hp
 clear hA
 go_enter func509,ntmps509
 exact uT
theorem pO (D:bE) (S:bL) (cb who:Nat) (at_ kind what wth:Int) (w:aj) (hA:dG w cb D S) (hw:who<S.zn) (hz:(S.Z who==D.panel)=false):
  aC prog 510 #[ax (ai ⟨cb,0,ag⟩),aN #[M U at_,M U kind,M U (who:Int),M U what,M U wth]] w λe w'=>e= .panicked (cN 171)/\ap w.heap.size w w':=by
 obtain⟨W0,HW0,hC,hB⟩:=bW w 294 #[M U at_,M U kind,M U (who:Int),M U what,M U wth]
 have HP:=af (jq D S cb who at_ kind what wth W0 (hA.below hB) hw hz)
 clear hA
 go_enter func510,ntmps510
 exact uT
theorem oL (D:bE) (S:bL) (cb who:Nat) (at_ kind what wth:Int) (w:aj) (hA:dG w cb D S) (hw:who<S.zn) (hz:(S.Z who==D.panel)=false):
  aC prog 511 #[ax (ai ⟨cb,0,ag⟩),aN #[M U at_,M U kind,M U (who:Int),M U what,M U wth]] w λe w'=>e= .panicked (cN 171)/\ap w.heap.size w w':=by
 obtain⟨W0,xb,HW0,hC,hB⟩:=eB w 294 #[M U at_,M U kind,M U (who:Int),M U what,M U wth]
 have hp:=eh D S cb who W0 (hA.below hB) hw
 rw[hz]at hp
 have HP:=af hp
 clear hp
 clear hA
 go_enter func511,ntmps511
 go_upto_region 1 with fail
 rw[HW0.out.1,HW0.out.2]
 clear HW0
 have xx:=aL hC
 by_cases hwh:what=1
 ·subst hwh
  exact un
 have hwb:(what==1)=false:=by simpa using hwh
 exact un
end
section
open Tryz
open Go.RowKit Go.Shelf
attribute [local go_sem] Oper.semAt_some
variable {v0 v1 v5 v6 v7 v8 v9 v10 v11 v12 v13 v14 v15 v16 v17 v18 v19 v20 v21 v22 v23 v24 v25 v26 v27 v28 v29 v30 v31 v32 v33 v34 v35 v36 v37 v38 v39 v40 v41 v42 v43 v44 v45 v46 v47 v48 v49 v50 v51 v52 v53 v54 v55 v56 v57 v58 v59 v60 v61 v62 v63 v64 v65 v66 v67 v68 v69 v70 v71 v72 v73 v74 v75 v76 v77 v78 v79 v80 v81 v82 v83 v84 v85 v86 v87 v88 v89 v90 v91 v92 v93 v94 v95 v96 v97 v98 v99 v100 v101 v102 v103 v104 v105 v106 v107 v108 v109 v110 v111 v112 v113 v114 v115 v116 v117 v118 v119 v120 v121 v122 v123 v124 v125 v126 v127 v128 v129 v130 v131 v132 v133 v134 v135 v136 v137 v138 v139 v140 v141 v142 v143 v144 v145 v146 v147 v148 v149 v150 v151 v152 v153 v154 v155 v156 v157 v158 v159 v160 v161 v162 v163 v164 v165 v166 v167 v168 v169 v170 v171 v172 v173 v174 v175 v176 v177 v178 v179 v180 v181 v182 v183 v184 v185 v186 v187:aw}
section
variable {D:bE} {S:bL} {cb b2 b3 who:Nat} {at_ kind what wto:Int}
theorem mv2 {c:Code} (hc:c=et f504 2) {wc:aj} {Q:Exit->Act->aj->Prop} {df:List Deferred} (hA:dG wc cb D S) (h2:wc.cell? ⟨b2,0,ag⟩=ai (ax (ai ⟨cb,0,ag⟩))) (hX:am wc b3 294 #[M U at_,M U kind,M U (who:Int),M U what,M U wto]) {fr:Int} (hdn:D.dn<=1000000)
 (hK:∀(u5 u21 u22 u23 u24 u25 u26 u27 u28 u29 u30 u31 u32 u33 u34 u35 u36 u37 u38 u39 u40 u41 u42:aw) (w':aj),ap wc.heap.size wc w'->u5=aA (fj D fr what||fj D what fr)->
  Q bk {tmps:=#[v0,v1,ax (ai ⟨b2,0,ag⟩),ax (ai ⟨b3,0,ag⟩),M U fr,u5,v6,v7,v8,v9,v10,v11,v12,v13,v14,v15,v16,v17,v18,v19,v20,u21,u22,u23,u24,u25,u26,u27,u28,u29,u30,u31,u32,u33,u34,u35,u36,u37,u38,u39,u40,u41,u42,v43,v44,v45,v46,v47,v48,v49,v50,v51,v52,v53,v54,v55,v56,v57,v58,v59,v60,v61,v62,v63,v64,v65,v66,v67,v68,v69,v70,v71,v72,v73,v74,v75,v76,v77,v78,v79,v80,v81,v82,v83,v84,v85,v86,v87,v88,v89,v90,v91,v92,v93,v94,v95,v96,v97,v98,v99,v100,v101,v102,v103,v104,v105,v106,v107,v108,v109,v110,v111,v112,v113,v114,v115,v116,v117,v118,v119,v120,v121,v122,v123,v124,v125,v126,v127,v128,v129,v130,v131,v132,v133,v134,v135,v136,v137,v138,v139,v140,v141,v142,v143,v144,v145,v146,v147,v148,v149,v150,v151,v152,v153,v154,v155,v156,v157,v158,v159,v160,v161,v162,v163,v164,v165,v166,v167,v168,v169,v170,v171,v172,v173,v174,v175,v176,v177,v178,v179,v180,v181,v182,v183,v184,v185,v186,v187],defers:=df} w'):
 bi prog c Q {tmps:=#[v0,v1,ax (ai ⟨b2,0,ag⟩),ax (ai ⟨b3,0,ag⟩),M U fr,v5,v6,v7,v8,v9,v10,v11,v12,v13,v14,v15,v16,v17,v18,v19,v20,v21,v22,v23,v24,v25,v26,v27,v28,v29,v30,v31,v32,v33,v34,v35,v36,v37,v38,v39,v40,v41,v42,v43,v44,v45,v46,v47,v48,v49,v50,v51,v52,v53,v54,v55,v56,v57,v58,v59,v60,v61,v62,v63,v64,v65,v66,v67,v68,v69,v70,v71,v72,v73,v74,v75,v76,v77,v78,v79,v80,v81,v82,v83,v84,v85,v86,v87,v88,v89,v90,v91,v92,v93,v94,v95,v96,v97,v98,v99,v100,v101,v102,v103,v104,v105,v106,v107,v108,v109,v110,v111,v112,v113,v114,v115,v116,v117,v118,v119,v120,v121,v122,v123,v124,v125,v126,v127,v128,v129,v130,v131,v132,v133,v134,v135,v136,v137,v138,v139,v140,v141,v142,v143,v144,v145,v146,v147,v148,v149,v150,v151,v152,v153,v154,v155,v156,v157,v158,v159,v160,v161,v162,v163,v164,v165,v166,v167,v168,v169,v170,v171,v172,v173,v174,v175,v176,v177,v178,v179,v180,v181,v182,v183,v184,v185,v186,v187],defers:=df} wc:=by
 subst hc
 conv=>arg 2;whnf
 have HKK:=af hK
 have l2:b2<wc.heap.size:=aG wc _ h2
 have lx:b3<wc.heap.size:=hX.lt
 have lc:cb<wc.heap.size:=hA.c.lt
 obtain⟨da,dc,hdv,hdc,hx⟩:=id hA.p.d
 have x1:wc.cell? ⟨cb,1,ag⟩=ai (T da D.dn dc):=by rw[<-hdv];exact(bK hA).2.1
 have HKD:=af (λW (h:ap wc.heap.size wc W) (a b:Int)=>show aC prog 568 #[T da D.dn dc,aN #[M U a,M U b]] W _ by have h9:=jj D a b W (hA.p.d.below h) hdn;rw[hdv]at h9;exact h9)
 have HR:=af λw' (hb:ap wc.heap.size wc w')=>uE (kp h2 hb) (kp x1 hb) (kp (hX.cell 3) hb)
 clear hK h2 hX hA hdv hdc hdn x1
 have hB:ap wc.heap.size wc wc.drew:=(au _ _).drew
 refine wp_region_noPanic ?_
 refine bV hB ?_
 refine K1 ?_
 refine br 7 hB ?_
 refine br 8 hB ?_
 refine cL 9 (λK' hK'=>?_)
 refine aZ (HKD.out _ hB _ _) ?_
 intro w1 hb
 have hB1:ap wc.heap.size wc w1:=ak hB hb
 refine bO hK' hB1 ?_
 clear hK' K'
 cases hd:fj D fr what with
 |true=>
  refine K8 ?_
  refine br 20 hB1 ?_
  refine br 21 hB1 ?_
  refine br 22 hB1 ?_
  refine eL ?_
  exact HKK.out _ _ _ _ _ _ _ _ _ _ _ _ _ _ _ _ _ _ _ _ _ _ _ _ hB1 (by rw[hd];rfl)
 |false=>
  refine K8 ?_
  refine cL 20 (λK' hK'=>?_)
  refine aZ (HKD.out _ hB1 _ _) ?_
  intro w2 hb
  have hB2:ap wc.heap.size wc w2:=ak hB1 hb
  refine bO hK' hB2 ?_
  clear hK' K'
  refine br 21 hB2 ?_
  refine br 22 hB2 ?_
  refine eL ?_
  exact HKK.out _ _ _ _ _ _ _ _ _ _ _ _ _ _ _ _ _ _ _ _ _ _ _ _ hB2 (by rw[hd];rfl)
end
end
section
open Tryz
open Go.RowKit Go.Shelf
attribute [local go_sem] Oper.semAt_some
variable {v0 v1 v6 v7 v8 v9 v10 v11 v12 v13 v14 v15 v16 v17 v18 v19 v20 v21 v22 v23 v24 v25 v26 v27 v28 v29 v30 v31 v32 v33 v34 v35 v36 v37 v38 v39 v40 v41 v42 v43 v44 v45 v46 v47 v48 v49 v50 v51 v52 v53 v54 v55 v56 v57 v58 v59 v60 v61 v62 v63 v64 v65 v66 v67 v68 v69 v70 v71 v72 v73 v74 v75 v76 v77 v78 v79 v80 v81 v82 v83 v84 v85 v86 v87 v88 v89 v90 v91 v92 v93 v94 v95 v96 v97 v98 v99 v100 v101 v102 v103 v104 v105 v106 v107 v108 v109 v110 v111 v112 v113 v114 v115 v116 v117 v118 v119 v120 v121 v122 v123 v124 v125 v126 v127 v128 v129 v130 v131 v132 v133 v134 v135 v136 v137 v138 v139 v140 v141 v142 v143 v144 v145 v146 v147 v148 v149 v150 v151 v152 v153 v154 v155 v156 v157 v158 v159 v160 v161 v162 v163 v164 v165 v166 v167 v168 v169 v170 v171 v172 v173 v174 v175 v176 v177 v178 v179 v180 v181 v182 v183 v184 v185 v186 v187:aw}
section
variable {D:bE} {S:bL} {cb b2 b3 who:Nat} {at_ kind what wto:Int}
theorem mv3 {c:Code} (hc:c=et f504 3) {wc:aj} {Q:Exit->Act->aj->Prop} {df:List Deferred} (hA:dG wc cb D S) (h2:wc.cell? ⟨b2,0,ag⟩=ai (ax (ai ⟨cb,0,ag⟩))) (hX:am wc b3 294 #[M U at_,M U kind,M U (who:Int),M U what,M U wto]) {fr:Int} {dr:Bool} (hwt:wto<S.zn)
 (hK:(dr&&(decide (wto<0)||S.Z wto.toNat==fr))=true->∀(u43 u44 u45 u46 u47 u48 u49 u50 u51 u52 u53 u54 u55 u56 u57 u58 u59 u60 u61 u62:aw) (w':aj),ap wc.heap.size wc w'->Q bk {tmps:=#[v0,v1,ax (ai ⟨b2,0,ag⟩),ax (ai ⟨b3,0,ag⟩),M U fr,aA dr,v6,v7,v8,v9,v10,v11,v12,v13,v14,v15,v16,v17,v18,v19,v20,v21,v22,v23,v24,v25,v26,v27,v28,v29,v30,v31,v32,v33,v34,v35,v36,v37,v38,v39,v40,v41,v42,u43,u44,u45,u46,u47,u48,u49,u50,u51,u52,u53,u54,u55,u56,u57,u58,u59,u60,u61,u62,v63,v64,v65,v66,v67,v68,v69,v70,v71,v72,v73,v74,v75,v76,v77,v78,v79,v80,v81,v82,v83,v84,v85,v86,v87,v88,v89,v90,v91,v92,v93,v94,v95,v96,v97,v98,v99,v100,v101,v102,v103,v104,v105,v106,v107,v108,v109,v110,v111,v112,v113,v114,v115,v116,v117,v118,v119,v120,v121,v122,v123,v124,v125,v126,v127,v128,v129,v130,v131,v132,v133,v134,v135,v136,v137,v138,v139,v140,v141,v142,v143,v144,v145,v146,v147,v148,v149,v150,v151,v152,v153,v154,v155,v156,v157,v158,v159,v160,v161,v162,v163,v164,v165,v166,v167,v168,v169,v170,v171,v172,v173,v174,v175,v176,v177,v178,v179,v180,v181,v182,v183,v184,v185,v186,v187],defers:=df} w')
 (hP:(dr&&(decide (wto<0)||S.Z wto.toNat==fr))=false->∀(a:Act) (w':aj),ap wc.heap.size wc w'->a.defers=df->Q (Exit.panic (cN 171)) a w'):
 bi prog c Q {tmps:=#[v0,v1,ax (ai ⟨b2,0,ag⟩),ax (ai ⟨b3,0,ag⟩),M U fr,aA dr,v6,v7,v8,v9,v10,v11,v12,v13,v14,v15,v16,v17,v18,v19,v20,v21,v22,v23,v24,v25,v26,v27,v28,v29,v30,v31,v32,v33,v34,v35,v36,v37,v38,v39,v40,v41,v42,v43,v44,v45,v46,v47,v48,v49,v50,v51,v52,v53,v54,v55,v56,v57,v58,v59,v60,v61,v62,v63,v64,v65,v66,v67,v68,v69,v70,v71,v72,v73,v74,v75,v76,v77,v78,v79,v80,v81,v82,v83,v84,v85,v86,v87,v88,v89,v90,v91,v92,v93,v94,v95,v96,v97,v98,v99,v100,v101,v102,v103,v104,v105,v106,v107,v108,v109,v110,v111,v112,v113,v114,v115,v116,v117,v118,v119,v120,v121,v122,v123,v124,v125,v126,v127,v128,v129,v130,v131,v132,v133,v134,v135,v136,v137,v138,v139,v140,v141,v142,v143,v144,v145,v146,v147,v148,v149,v150,v151,v152,v153,v154,v155,v156,v157,v158,v159,v160,v161,v162,v163,v164,v165,v166,v167,v168,v169,v170,v171,v172,v173,v174,v175,v176,v177,v178,v179,v180,v181,v182,v183,v184,v185,v186,v187],defers:=df} wc:=by
 subst hc
 conv=>arg 2;whnf
 have HKK:=af hK
 have HPP:=af hP
 clear hK hP
 obtain⟨Qx,hQx⟩:∃Qx:Exit->Act->aj->Prop,Qx=λe a w=>match e with| .panic ch=>a.defers=df/\ch=cN 171/\(dr&&(decide (wto<0)||S.Z wto.toNat==fr))=false/\ap wc.heap.size wc w|e=>Q e a w:=⟨_,rfl⟩
 refine Code.wp_mono (Q:=Qx) (λe a w h=>by subst hQx;cases e<;>first|exact h|exact(by obtain⟨h1,rfl,h3,h4⟩:=h;exact HPP.out h3 a w h4 h1)) ?_
 have HQQ:bj (∀(ch:List PanicEntry) (a:Act) (d:Option Tmp) (v:aw) (w:aj),Qx (Exit.panic ch) (a.put d v) w->Qx (Exit.panic ch) a w):=by subst hQx;exact λch a d v w ⟨h1,h2⟩=>⟨by rw[<-h1];cases d<;>rfl,h2⟩
 have HQN:bj (∀a w,Q bk a w->Qx bk a w):=by subst hQx;exact λa w h=>h
 have HQP:bj (∀a w,a.defers=df->(dr&&(decide (wto<0)||S.Z wto.toNat==fr))=false->ap wc.heap.size wc w->Qx (Exit.panic (cN 171)) a w):=by subst hQx;exact λa w h1 h2 h3=>⟨h1,rfl,h2,h3⟩
 clear HPP hQx
 have l2:b2<wc.heap.size:=aG wc _ h2
 have lx:b3<wc.heap.size:=hX.lt
 have lc:cb<wc.heap.size:=hA.c.lt
 have hB:ap wc.heap.size wc wc.drew:=(au _ _).drew
 cases dr with
 |false=>
  have HR:=af λw' (hb:ap wc.heap.size wc w')=>tN (kp h2 hb) (kp (hX.cell 4) hb)
  clear h2 hX hA
  refine bV hB ?_
  refine K0 ?_
  refine cL 19 (λK' hK'=>?_)
  refine dU ?_
  exact HQP.out _ _ rfl rfl hB
 |true=>
  by_cases hn:wto<0
  ·have HR:=af λw' (hb:ap wc.heap.size wc w')=>tN (kp h2 hb) (kp (hX.cell 4) hb)
   have hdn:decide (wto<0)=true:=decide_eq_true hn
   clear h2 hX hA
   refine bV hB ?_
   refine K0 ?_
   refine cL 19 (λK' hK'=>?_)
   refine dH ?_
   (try dsimp only)
   refine bO hK' hB ?_
   clear hK' K'
   refine nI ?_
   exact HQN.out _ _ (HKK.out (by simp[hn]) _ _ _ _ _ _ _ _ _ _ _ _ _ _ _ _ _ _ _ _ _ hB)
  ·have hdn:decide (wto<0)=false:=decide_eq_false hn
   obtain⟨wn,rfl⟩:∃m:Nat,wto=(m:Int):=⟨wto.toNat,by omega⟩
   have x8:=(bK hA).2.2.2.2.2.2.2.2.1
   obtain⟨_,zc,hvz,_⟩:=hA.s.z.form
   have hRz:=hA.s.z
   rw[hvz]at hRz x8
   have hwl:wn<S.zn:=om
   obtain⟨zb,zo,rfl,zl,hc1⟩:=hRz.elem hwl
   have e1:wc.cell? ⟨zb,zo+wn,ag⟩=ai (M U (S.Z wn)):=eI hc1
   have HR:=af λw' (hb:ap wc.heap.size wc w')=>tD (kp h2 hb) (kp (hX.cell 4) hb) (kp x8 hb) (kp e1 hb)
   have i1:(wn:Int)<(S.zn:Int):=om
   rw[Int.toNat_natCast]at HKK HQP
   clear h2 hX hA hRz hc1 x8 e1 hvz hwt
   generalize S.Z wn=zw at *
   by_cases hq:zw=fr
   ·subst hq
    refine bV hB ?_
    refine K0 ?_
    refine cL 19 (λK' hK'=>?_)
    refine dH ?_
    (try dsimp only)
    refine bO hK' hB ?_
    clear hK' K'
    refine nI ?_
    exact HQN.out _ _ (HKK.out (by simp) _ _ _ _ _ _ _ _ _ _ _ _ _ _ _ _ _ _ _ _ _ hB)
   ·have hq2:(zw==fr)=false:=by simpa using hq
    have hq3:decide (zw=fr)=false:=by simpa using hq
    refine bV hB ?_
    refine K0 ?_
    refine cL 19 (λK' hK'=>?_)
    refine dU ?_
    exact HQP.out _ _ rfl (by rw[hq2,decide_eq_false hn];rfl) hB
end
end
section
open Tryz
open Go.RowKit Go.Shelf
attribute [local go_sem] Oper.semAt_some
variable {v0 v1 v4 v5 v6 v7 v8 v9 v10 v11 v12 v13 v14 v15 v16 v17 v18 v19 v20 v21 v22 v23 v24 v25 v26 v27 v28 v29 v30 v31 v32 v33 v34 v35 v36 v37 v38 v39 v40 v41 v42 v43 v44 v45 v46 v47 v48 v49 v50 v51 v52 v53 v54 v55 v56 v57 v58 v59 v60 v61 v62 v63 v64 v65 v66 v67 v68 v69 v70 v71 v72 v73 v74 v75 v76 v77 v78 v79 v80 v81 v82 v83 v84 v85 v86 v87 v88 v89 v90 v91 v92 v93 v94 v95 v96 v97 v98 v99 v100 v101 v102 v103 v104 v105 v106 v107 v108 v109 v110 v111 v112 v113 v114 v115 v116 v117 v118 v119 v120 v121 v122 v123 v124 v125 v126 v127 v128 v129 v130 v131 v132 v133 v134 v135 v136 v137 v138 v139 v140 v141 v142 v143 v144 v145 v146 v147 v148 v149 v150 v151 v152 v153 v154 v155 v156 v157 v158 v159 v160 v161 v162 v163 v164 v165 v166 v167 v168 v169 v170 v171 v172 v173 v174 v175 v176 v177 v178 v179 v180 v181 v182 v183 v184 v185 v186 v187:aw}
section
variable {D:bE} {S:bL} {cb b2 b3 who:Nat} {at_ kind what wto:Int}
theorem uf {c:Code} (hc:c=et f504 10) {wc:aj} {Q:Exit->Act->aj->Prop} {df:List Deferred} (hA:dG wc cb D S) (h2:wc.cell? ⟨b2,0,ag⟩=ai (ax (ai ⟨cb,0,ag⟩))) (hX:am wc b3 294 #[M U at_,M U kind,M U (who:Int),M U what,M U wto]) {i:Nat} (hi:i<D.pn) (hz:what<D.zn)
 (hK:(decide (what<0)||decide (D.ZR what.toNat 5<=D.PR i 1))=true->∀(u80 u81 u82 u83 u84 u85 u86 u87 u88 u89 u90 u91 u92 u93 u94 u95 u96 u97 u98 u99 u100 u101 u102 u103 u104 u105:aw) (w':aj),ap wc.heap.size wc w'->Q bk {tmps:=#[v0,v1,ax (ai ⟨b2,0,ag⟩),ax (ai ⟨b3,0,ag⟩),v4,v5,v6,v7,M U (i:Int),v9,v10,v11,v12,v13,v14,v15,v16,v17,v18,v19,v20,v21,v22,v23,v24,v25,v26,v27,v28,v29,v30,v31,v32,v33,v34,v35,v36,v37,v38,v39,v40,v41,v42,v43,v44,v45,v46,v47,v48,v49,v50,v51,v52,v53,v54,v55,v56,v57,v58,v59,v60,v61,v62,v63,v64,v65,v66,v67,v68,v69,v70,v71,v72,v73,v74,v75,v76,v77,v78,v79,u80,u81,u82,u83,u84,u85,u86,u87,u88,u89,u90,u91,u92,u93,u94,u95,u96,u97,u98,u99,u100,u101,u102,u103,u104,u105,v106,v107,v108,v109,v110,v111,v112,v113,v114,v115,v116,v117,v118,v119,v120,v121,v122,v123,v124,v125,v126,v127,v128,v129,v130,v131,v132,v133,v134,v135,v136,v137,v138,v139,v140,v141,v142,v143,v144,v145,v146,v147,v148,v149,v150,v151,v152,v153,v154,v155,v156,v157,v158,v159,v160,v161,v162,v163,v164,v165,v166,v167,v168,v169,v170,v171,v172,v173,v174,v175,v176,v177,v178,v179,v180,v181,v182,v183,v184,v185,v186,v187],defers:=df} w')
 (hP:(decide (what<0)||decide (D.ZR what.toNat 5<=D.PR i 1))=false->∀(a:Act) (w':aj),ap wc.heap.size wc w'->a.defers=df->Q (Exit.panic (cN 172)) a w'):
 bi prog c Q {tmps:=#[v0,v1,ax (ai ⟨b2,0,ag⟩),ax (ai ⟨b3,0,ag⟩),v4,v5,v6,v7,M U (i:Int),v9,v10,v11,v12,v13,v14,v15,v16,v17,v18,v19,v20,v21,v22,v23,v24,v25,v26,v27,v28,v29,v30,v31,v32,v33,v34,v35,v36,v37,v38,v39,v40,v41,v42,v43,v44,v45,v46,v47,v48,v49,v50,v51,v52,v53,v54,v55,v56,v57,v58,v59,v60,v61,v62,v63,v64,v65,v66,v67,v68,v69,v70,v71,v72,v73,v74,v75,v76,v77,v78,v79,v80,v81,v82,v83,v84,v85,v86,v87,v88,v89,v90,v91,v92,v93,v94,v95,v96,v97,v98,v99,v100,v101,v102,v103,v104,v105,v106,v107,v108,v109,v110,v111,v112,v113,v114,v115,v116,v117,v118,v119,v120,v121,v122,v123,v124,v125,v126,v127,v128,v129,v130,v131,v132,v133,v134,v135,v136,v137,v138,v139,v140,v141,v142,v143,v144,v145,v146,v147,v148,v149,v150,v151,v152,v153,v154,v155,v156,v157,v158,v159,v160,v161,v162,v163,v164,v165,v166,v167,v168,v169,v170,v171,v172,v173,v174,v175,v176,v177,v178,v179,v180,v181,v182,v183,v184,v185,v186,v187],defers:=df} wc:=by
 subst hc
 conv=>arg 2;whnf
 have HKK:=af hK
 have HPP:=af hP
 clear hK hP
 obtain⟨Qx,hQx⟩:∃Qx:Exit->Act->aj->Prop,Qx=λe a w=>match e with| .panic ch=>a.defers=df/\ch=cN 172/\(decide (what<0)||decide (D.ZR what.toNat 5<=D.PR i 1))=false/\ap wc.heap.size wc w|e=>Q e a w:=⟨_,rfl⟩
 refine Code.wp_mono (Q:=Qx) (λe a w h=>by subst hQx;cases e<;>first|exact h|exact(by obtain⟨h1,rfl,h3,h4⟩:=h;exact HPP.out h3 a w h4 h1)) ?_
 have HQQ:bj (∀(ch:List PanicEntry) (a:Act) (d:Option Tmp) (v:aw) (w:aj),Qx (Exit.panic ch) (a.put d v) w->Qx (Exit.panic ch) a w):=by subst hQx;exact λch a d v w ⟨h1,h2⟩=>⟨by rw[<-h1];cases d<;>rfl,h2⟩
 have HQN:bj (∀a w,Q bk a w->Qx bk a w):=by subst hQx;exact λa w h=>h
 have HQP:bj (∀a w,a.defers=df->(decide (what<0)||decide (D.ZR what.toNat 5<=D.PR i 1))=false->ap wc.heap.size wc w->Qx (Exit.panic (cN 172)) a w):=by subst hQx;exact λa w h1 h2 h3=>⟨h1,rfl,h2,h3⟩
 clear HPP hQx
 have l2:b2<wc.heap.size:=aG wc _ h2
 have lx:b3<wc.heap.size:=hX.lt
 have lc:cb<wc.heap.size:=hA.c.lt
 have hB:ap wc.heap.size wc wc.drew:=(au _ _).drew
 by_cases hn:what<0
 ·have HR:=af λw' (hb:ap wc.heap.size wc w')=>tN (kp h2 hb) (kp (hX.cell 3) hb)
  have hdn:decide (what<0)=true:=decide_eq_true hn
  clear h2 hX hA
  refine bV hB ?_
  refine K0 ?_
  refine K4 ?_
  refine cL 25 (λK' hK'=>?_)
  refine dH ?_
  (try dsimp only)
  refine bO hK' hB ?_
  clear hK' K'
  refine nI ?_
  exact HQN.out _ _ (HKK.out (by simp[hn]) _ _ _ _ _ _ _ _ _ _ _ _ _ _ _ _ _ _ _ _ _ _ _ _ _ _ _ hB)
 ·have hdn:decide (what<0)=false:=decide_eq_false hn
  obtain⟨wn,rfl⟩:∃m:Nat,what=(m:Int):=⟨what.toNat,by omega⟩
  have x0:=(bK hA).1
  obtain⟨_,zc,hvz,_⟩:=hA.p.z.form
  have hRz:=hA.p.z
  rw[hvz]at hRz x0
  have hwl:wn<D.zn:=om
  obtain⟨zb,zo,rfl,zl,hc1⟩:=hRz.elem hwl
  have e1:wc.cell? ⟨zb,zo+wn*8+5,ag⟩=ai (M U (D.ZR wn 5)):=hc1 5 om
  have x2:=(bK hA).2.2.1
  obtain⟨_,pc,hvp,_⟩:=hA.p.p.form
  have hRp:=hA.p.p
  rw[hvp]at hRp x2
  obtain⟨pb,po,rfl,pl,hc2⟩:=hRp.elem hi
  have e2:wc.cell? ⟨pb,po+i*2+1,ag⟩=ai (M U (D.PR i 1)):=hc2 1 om
  have HR:=af λw' (hb:ap wc.heap.size wc w')=>an6 (kp h2 hb) (kp (hX.cell 3) hb) (kp x0 hb) (kp e1 hb) (kp x2 hb) (kp e2 hb)
  have i1:(wn:Int)<(D.zn:Int):=om
  have i2:(i:Int)<(D.pn:Int):=om
  rw[Int.toNat_natCast]at HKK HQP
  clear h2 hX hA hRz hc1 hRp hc2 x0 x2 e1 e2 hvz hvp hz
  generalize D.ZR wn 5=g2 at *
  generalize D.PR i 1=g1 at *
  by_cases hq:g2<=g1
  ·have hq3:decide (g2<=g1)=true:=decide_eq_true hq
   refine bV hB ?_
   refine K0 ?_
   refine K4 ?_
   refine cL 25 (λK' hK'=>?_)
   refine dH ?_
   (try dsimp only)
   refine bO hK' hB ?_
   clear hK' K'
   refine nI ?_
   exact HQN.out _ _ (HKK.out (by rw[hq3];exact Bool.or_true _) _ _ _ _ _ _ _ _ _ _ _ _ _ _ _ _ _ _ _ _ _ _ _ _ _ _ _ hB)
  ·have hq3:decide (g2<=g1)=false:=decide_eq_false hq
   refine bV hB ?_
   refine K0 ?_
   refine K4 ?_
   refine cL 25 (λK' hK'=>?_)
   refine dU ?_
   exact HQP.out _ _ rfl (by rw[hq3,hdn];rfl) hB
theorem vU {c:Code} (hc:c=et f504 21) {wc:aj} {Q:Exit->Act->aj->Prop} {df:List Deferred} (hA:dG wc cb D S) (h2:wc.cell? ⟨b2,0,ag⟩=ai (ax (ai ⟨cb,0,ag⟩))) (hX:am wc b3 294 #[M U at_,M U kind,M U (who:Int),M U what,M U wto]) (hzn:S.zn<=1000000) (hz:what<D.zn)
 (hK:(decide (what<0)||decide ((S.crowd what:Int)<=D.ZR what.toNat 6))=true->∀(u155 u156 u157 u158 u159 u160 u161 u162 u163 u164 u165 u166 u167 u168 u169 u170 u171 u172 u173 u174 u175:aw) (w':aj),ap wc.heap.size wc w'->Q bk {tmps:=#[v0,v1,ax (ai ⟨b2,0,ag⟩),ax (ai ⟨b3,0,ag⟩),v4,v5,v6,v7,v8,v9,v10,v11,v12,v13,v14,v15,v16,v17,v18,v19,v20,v21,v22,v23,v24,v25,v26,v27,v28,v29,v30,v31,v32,v33,v34,v35,v36,v37,v38,v39,v40,v41,v42,v43,v44,v45,v46,v47,v48,v49,v50,v51,v52,v53,v54,v55,v56,v57,v58,v59,v60,v61,v62,v63,v64,v65,v66,v67,v68,v69,v70,v71,v72,v73,v74,v75,v76,v77,v78,v79,v80,v81,v82,v83,v84,v85,v86,v87,v88,v89,v90,v91,v92,v93,v94,v95,v96,v97,v98,v99,v100,v101,v102,v103,v104,v105,v106,v107,v108,v109,v110,v111,v112,v113,v114,v115,v116,v117,v118,v119,v120,v121,v122,v123,v124,v125,v126,v127,v128,v129,v130,v131,v132,v133,v134,v135,v136,v137,v138,v139,v140,v141,v142,v143,v144,v145,v146,v147,v148,v149,v150,v151,v152,v153,v154,u155,u156,u157,u158,u159,u160,u161,u162,u163,u164,u165,u166,u167,u168,u169,u170,u171,u172,u173,u174,u175,v176,v177,v178,v179,v180,v181,v182,v183,v184,v185,v186,v187],defers:=df} w')
 (hP:(decide (what<0)||decide ((S.crowd what:Int)<=D.ZR what.toNat 6))=false->∀(a:Act) (w':aj),ap wc.heap.size wc w'->a.defers=df->Q (Exit.panic (cN 175)) a w'):
 bi prog c Q {tmps:=#[v0,v1,ax (ai ⟨b2,0,ag⟩),ax (ai ⟨b3,0,ag⟩),v4,v5,v6,v7,v8,v9,v10,v11,v12,v13,v14,v15,v16,v17,v18,v19,v20,v21,v22,v23,v24,v25,v26,v27,v28,v29,v30,v31,v32,v33,v34,v35,v36,v37,v38,v39,v40,v41,v42,v43,v44,v45,v46,v47,v48,v49,v50,v51,v52,v53,v54,v55,v56,v57,v58,v59,v60,v61,v62,v63,v64,v65,v66,v67,v68,v69,v70,v71,v72,v73,v74,v75,v76,v77,v78,v79,v80,v81,v82,v83,v84,v85,v86,v87,v88,v89,v90,v91,v92,v93,v94,v95,v96,v97,v98,v99,v100,v101,v102,v103,v104,v105,v106,v107,v108,v109,v110,v111,v112,v113,v114,v115,v116,v117,v118,v119,v120,v121,v122,v123,v124,v125,v126,v127,v128,v129,v130,v131,v132,v133,v134,v135,v136,v137,v138,v139,v140,v141,v142,v143,v144,v145,v146,v147,v148,v149,v150,v151,v152,v153,v154,v155,v156,v157,v158,v159,v160,v161,v162,v163,v164,v165,v166,v167,v168,v169,v170,v171,v172,v173,v174,v175,v176,v177,v178,v179,v180,v181,v182,v183,v184,v185,v186,v187],defers:=df} wc:=by
 subst hc
 conv=>arg 2;whnf
 have HKK:=af hK
 have HPP:=af hP
 clear hK hP
 obtain⟨Qx,hQx⟩:∃Qx:Exit->Act->aj->Prop,Qx=λe a w=>match e with| .panic ch=>a.defers=df/\ch=cN 175/\(decide (what<0)||decide ((S.crowd what:Int)<=D.ZR what.toNat 6))=false/\ap wc.heap.size wc w|e=>Q e a w:=⟨_,rfl⟩
 refine Code.wp_mono (Q:=Qx) (λe a w h=>by subst hQx;cases e<;>first|exact h|exact(by obtain⟨h1,rfl,h3,h4⟩:=h;exact HPP.out h3 a w h4 h1)) ?_
 have HQQ:bj (∀(ch:List PanicEntry) (a:Act) (d:Option Tmp) (v:aw) (w:aj),Qx (Exit.panic ch) (a.put d v) w->Qx (Exit.panic ch) a w):=by subst hQx;exact λch a d v w ⟨h1,h2⟩=>⟨by rw[<-h1];cases d<;>rfl,h2⟩
 have HQN:bj (∀a w,Q bk a w->Qx bk a w):=by subst hQx;exact λa w h=>h
 have HQP:bj (∀a w,a.defers=df->(decide (what<0)||decide ((S.crowd what:Int)<=D.ZR what.toNat 6))=false->ap wc.heap.size wc w->Qx (Exit.panic (cN 175)) a w):=by subst hQx;exact λa w h1 h2 h3=>⟨h1,rfl,h2,h3⟩
 clear HPP hQx
 have l2:b2<wc.heap.size:=aG wc _ h2
 have lx:b3<wc.heap.size:=hX.lt
 have lc:cb<wc.heap.size:=hA.c.lt
 have hB:ap wc.heap.size wc wc.drew:=(au _ _).drew
 by_cases hn:what<0
 ·have HR:=af λw' (hb:ap wc.heap.size wc w')=>tN (kp h2 hb) (kp (hX.cell 3) hb)
  have hdn:decide (what<0)=true:=decide_eq_true hn
  clear h2 hX hA
  refine bV hB ?_
  refine K0 ?_
  refine br 19 hB ?_
  refine cL 20 (λK' hK'=>?_)
  refine dH ?_
  (try dsimp only)
  refine bO hK' hB ?_
  clear hK' K'
  refine nI ?_
  exact HQN.out _ _ (HKK.out (by simp[hn]) _ _ _ _ _ _ _ _ _ _ _ _ _ _ _ _ _ _ _ _ _ _ hB)
 ·have hdn:decide (what<0)=false:=decide_eq_false hn
  obtain⟨wn,rfl⟩:∃m:Nat,what=(m:Int):=⟨what.toNat,by omega⟩
  have x0:=(bK hA).1
  obtain⟨_,zc,hvz,_⟩:=hA.p.z.form
  have hRz:=hA.p.z
  rw[hvz]at hRz x0
  have hwl:wn<D.zn:=om
  obtain⟨zb,zo,rfl,zl,hc1⟩:=hRz.elem hwl
  have e1:wc.cell? ⟨zb,zo+wn*8+6,ag⟩=ai (M U (D.ZR wn 6)):=hc1 6 om
  have HR:=af λw' (hb:ap wc.heap.size wc w')=>tD (kp h2 hb) (kp (hX.cell 3) hb) (kp x0 hb) (kp e1 hb)
  have i1:(wn:Int)<(D.zn:Int):=om
  rw[Int.toNat_natCast]at HKK HQP
  have HCR:=af (λW (h:ap wc.heap.size wc W)=>io D S cb (wn:Int) W (hA.below h) hzn)
  clear h2 hX hA hRz hc1 x0 e1 hvz hz
  generalize D.ZR wn 6=g2 at *
  generalize S.crowd (wn:Int)=cr at *
  by_cases hq:(cr:Int)<=g2
  ·have hq3:decide ((cr:Int)<=g2)=true:=decide_eq_true hq
   refine bV hB ?_
   refine K1 ?_
   refine K6 ?_
   refine br 13 hB ?_
   refine br 14 hB ?_
   refine br 15 hB ?_
   refine br 16 hB ?_
   refine br 17 hB ?_
   refine cL 7 (λK' hK'=>?_)
   refine(HCR.out _ hB).mono ?_
   rintro e w1 ⟨rfl,rfl⟩
   refine bO hK' hB ?_
   clear hK' K'
   refine br 18 hB ?_
   refine br 19 hB ?_
   refine cL 20 (λK' hK'=>?_)
   refine dH ?_
   (try dsimp only)
   refine bO hK' hB ?_
   clear hK' K'
   refine nI ?_
   exact HQN.out _ _ (HKK.out (by rw[hq3];exact Bool.or_true _) _ _ _ _ _ _ _ _ _ _ _ _ _ _ _ _ _ _ _ _ _ _ hB)
  ·have hq3:decide ((cr:Int)<=g2)=false:=decide_eq_false hq
   refine bV hB ?_
   refine K1 ?_
   refine K6 ?_
   refine br 13 hB ?_
   refine br 14 hB ?_
   refine br 15 hB ?_
   refine br 16 hB ?_
   refine br 17 hB ?_
   refine cL 7 (λK' hK'=>?_)
   refine(HCR.out _ hB).mono ?_
   rintro e w1 ⟨rfl,rfl⟩
   refine bO hK' hB ?_
   clear hK' K'
   refine br 18 hB ?_
   refine br 19 hB ?_
   refine cL 20 (λK' hK'=>?_)
   refine dU ?_
   exact HQP.out _ _ rfl (by rw[hq3,hdn];rfl) hB
end
end
section
open Tryz
open Go.RowKit Go.Shelf
attribute [local go_sem] Oper.semAt_some
variable {v0 v1 v4 v5 v6 v7 v8 v9 v10 v11 v12 v13 v14 v15 v16 v17 v18 v19 v20 v21 v22 v23 v24 v25 v26 v27 v28 v29 v30 v31 v32 v33 v34 v35 v36 v37 v38 v39 v40 v41 v42 v43 v44 v45 v46 v47 v48 v49 v50 v51 v52 v53 v54 v55 v56 v57 v58 v59 v60 v61 v62 v63 v64 v65 v66 v67 v68 v69 v70 v71 v72 v73 v74 v75 v76 v77 v78 v79 v80 v81 v82 v83 v84 v85 v86 v87 v88 v89 v90 v91 v92 v93 v94 v95 v96 v97 v98 v99 v100 v101 v102 v103 v104 v105 v106 v107 v108 v109 v110 v111 v112 v113 v114 v115 v116 v117 v118 v119 v120 v121 v122 v123 v124 v125 v126 v127 v128 v129 v130 v131 v132 v133 v134 v135 v136 v137 v138 v139 v140 v141 v142 v143 v144 v145 v146 v147 v148 v149 v150 v151 v152 v153 v154 v155 v156 v157 v158 v159 v160 v161 v162 v163 v164 v165 v166 v167 v168 v169 v170 v171 v172 v173 v174 v175 v176 v177 v178 v179 v180 v181 v182 v183 v184 v185 v186 v187:aw}
section
variable {D:bE} {S:bL} {cb b2 b3 who:Nat} {at_ kind what wto:Int}
theorem mv11 {c:Code} (hc:c=et f504 11) {wc:aj} {Q:Exit->Act->aj->Prop} {df:List Deferred} (hA:dG wc cb D S) (h2:wc.cell? ⟨b2,0,ag⟩=ai (ax (ai ⟨cb,0,ag⟩))) (hX:am wc b3 294 #[M U at_,M U kind,M U (who:Int),M U what,M U wto])
 (hK:∀(u106 u107 u108 u109 u110 u111 u112:aw) (zb pb:Nat) (w':aj),ap wc.heap.size wc w'->wc.heap.size<=zb->wc.heap.size<=pb->w'.cell? ⟨zb,0,ag⟩=ai (M U what)->am w' pb 55 D.cells->u112= .func (.func 259) #[] #[ax (ai ⟨zb,0,ag⟩),ax (ai ⟨pb,0,ag⟩)]->
  Q bk {tmps:=#[v0,v1,ax (ai ⟨b2,0,ag⟩),ax (ai ⟨b3,0,ag⟩),v4,v5,v6,v7,v8,v9,v10,v11,v12,v13,v14,v15,v16,v17,v18,v19,v20,v21,v22,v23,v24,v25,v26,v27,v28,v29,v30,v31,v32,v33,v34,v35,v36,v37,v38,v39,v40,v41,v42,v43,v44,v45,v46,v47,v48,v49,v50,v51,v52,v53,v54,v55,v56,v57,v58,v59,v60,v61,v62,v63,v64,v65,v66,v67,v68,v69,v70,v71,v72,v73,v74,v75,v76,v77,v78,v79,v80,v81,v82,v83,v84,v85,v86,v87,v88,v89,v90,v91,v92,v93,v94,v95,v96,v97,v98,v99,v100,v101,v102,v103,v104,v105,u106,u107,u108,u109,u110,u111,u112,v113,v114,v115,v116,v117,v118,v119,v120,v121,v122,v123,v124,v125,v126,v127,v128,v129,v130,v131,v132,v133,v134,v135,v136,v137,v138,v139,v140,v141,v142,v143,v144,v145,v146,v147,v148,v149,v150,v151,v152,v153,v154,v155,v156,v157,v158,v159,v160,v161,v162,v163,v164,v165,v166,v167,v168,v169,v170,v171,v172,v173,v174,v175,v176,v177,v178,v179,v180,v181,v182,v183,v184,v185,v186,v187],defers:=df} w'):
 bi prog c Q {tmps:=#[v0,v1,ax (ai ⟨b2,0,ag⟩),ax (ai ⟨b3,0,ag⟩),v4,v5,v6,v7,v8,v9,v10,v11,v12,v13,v14,v15,v16,v17,v18,v19,v20,v21,v22,v23,v24,v25,v26,v27,v28,v29,v30,v31,v32,v33,v34,v35,v36,v37,v38,v39,v40,v41,v42,v43,v44,v45,v46,v47,v48,v49,v50,v51,v52,v53,v54,v55,v56,v57,v58,v59,v60,v61,v62,v63,v64,v65,v66,v67,v68,v69,v70,v71,v72,v73,v74,v75,v76,v77,v78,v79,v80,v81,v82,v83,v84,v85,v86,v87,v88,v89,v90,v91,v92,v93,v94,v95,v96,v97,v98,v99,v100,v101,v102,v103,v104,v105,v106,v107,v108,v109,v110,v111,v112,v113,v114,v115,v116,v117,v118,v119,v120,v121,v122,v123,v124,v125,v126,v127,v128,v129,v130,v131,v132,v133,v134,v135,v136,v137,v138,v139,v140,v141,v142,v143,v144,v145,v146,v147,v148,v149,v150,v151,v152,v153,v154,v155,v156,v157,v158,v159,v160,v161,v162,v163,v164,v165,v166,v167,v168,v169,v170,v171,v172,v173,v174,v175,v176,v177,v178,v179,v180,v181,v182,v183,v184,v185,v186,v187],defers:=df} wc:=by
 subst hc
 conv=>arg 2;whnf
 have HKK:=af hK
 clear hK
 have l2:b2<wc.heap.size:=aG wc _ h2
 have lx:b3<wc.heap.size:=hX.lt
 have lc:cb<wc.heap.size:=hA.c.lt
 have hB:ap wc.heap.size wc wc.drew:=(au _ _).drew
 obtain⟨x0,x1,x2,x3,x4,x5,x6,x7,x8,x9,x10,x11,x12⟩:=bK hA
 have hnr:=λW=>jk what D W
 unfold bE.cells at hnr
 have HNR:=af hnr
 clear hnr
 have HR:=af λw' (hb:ap wc.heap.size wc w')=>an9 (kp h2 hb) (kp (hX.cell 3) hb) (kp x0 hb) (kp x1 hb) (kp x2 hb) (kp x3 hb) (kp x4 hb) (kp x5 hb) (kp x6 hb)
 clear h2 hX hA x0 x1 x2 x3 x4 x5 x6 x7 x8 x9 x10 x11 x12
 refine wp_region_noPanic ?_
 refine bV hB ?_
 refine br 0 hB ?_
 refine br 1 hB ?_
 refine br 2 hB ?_
 refine br 3 hB ?_
 refine br 4 hB ?_
 refine br 5 hB ?_
 refine cL 6 (λK' hK'=>?_)
 refine(HNR.out _).mono ?_
 rintro e w4 ⟨rfl,rfl⟩
 generalize wc.drew=wd at *
 have hN9:=aK wd (.cells #[D.vz,D.vd,D.vp,D.vk,D.vq,M U D.panel,M U D.wait] 55)
 have hN8:=aK (wd.alloc (.cells #[D.vz,D.vd,D.vp,D.vk,D.vq,M U D.panel,M U D.wait] 55)) (.cells #[M U what] 3)
 have hb:=aP (aP (au wd.heap.size wd) (.cells #[D.vz,D.vd,D.vp,D.vk,D.vq,M U D.panel,M U D.wait] 55)) (.cells #[M U what] 3)
 have hN7:am ((wd.alloc (.cells #[D.vz,D.vd,D.vp,D.vk,D.vq,M U D.panel,M U D.wait] 55)).alloc (.cells #[M U what] 3)) wd.heap.size 55 #[D.vz,D.vd,D.vp,D.vk,D.vq,M U D.panel,M U D.wait]:=am.below hN9 (aP (au _ _) _)
 rw[bg]at hN8
 have hcz:am ((wd.alloc (.cells #[D.vz,D.vd,D.vp,D.vk,D.vq,M U D.panel,M U D.wait] 55)).alloc (.cells #[M U what] 3)) (wd.heap.size+1) 3 #[M U what]:=hN8
 have hB1:=ak hB hb
 have hsz:=hB.size
 refine bO hK' hB1 ?_
 clear hK' K'
 refine eL ?_
 exact HKK.out _ _ _ _ _ _ _ _ _ _ hB1 om hsz (hcz.cell 0) hN7 rfl
theorem nH (k:Int) (w:aj):aC prog 437 #[aA true,M U k] w λe w'=>e=ar (.tuple #[])/\w=w':=dH ⟨rfl,rfl⟩
theorem nS {c:Code} (hc:c=tlOf f504 10) {wc:aj} {Q:Exit->Act->aj->Prop} {df:List Deferred} {i:Nat} (hA:dG wc cb D S) (h2:wc.cell? ⟨b2,0,ag⟩=ai (ax (ai ⟨cb,0,ag⟩))) (hX:am wc b3 294 #[M U at_,M U kind,M U (who:Int),M U what,M U wto]) (hst:S.storm=false) (hG:cA D) (hF:gJ D S) (hz:what<D.zn)
 (hK:dX D S (i:Int) what=true->∀(u106 u107 u108 u109 u110 u111 u112 u132 u133 u134 u135 u136 u137:aw) (Dd:Nat) (w':aj),ap wc.heap.size wc w'->wc.heap.size<=Dd->w'.heap[Dd]?=ai (.deferred (ai []))->Q bk {tmps:=#[v0,v1,ax (ai ⟨b2,0,ag⟩),ax (ai ⟨b3,0,ag⟩),v4,v5,v6,v7,M U (i:Int),v9,v10,v11,v12,v13,v14,v15,v16,v17,v18,v19,v20,v21,v22,v23,v24,v25,v26,v27,v28,v29,v30,v31,v32,v33,v34,v35,v36,v37,v38,v39,v40,v41,v42,v43,v44,v45,v46,v47,v48,v49,v50,v51,v52,v53,v54,v55,v56,v57,v58,v59,v60,v61,v62,v63,v64,v65,v66,v67,v68,v69,v70,v71,v72,v73,v74,v75,v76,v77,v78,v79,v80,v81,v82,v83,v84,v85,v86,v87,v88,v89,v90,v91,v92,v93,v94,v95,v96,v97,v98,v99,v100,v101,v102,v103,v104,v105,u106,u107,u108,u109,u110,u111,u112,v113,v114,v115,v116,v117,v118,v119,v120,v121,v122,v123,v124,v125,v126,v127,v128,v129,v130,v131,u132,u133,u134,u135,u136,u137,v138,v139,v140,v141,v142,v143,v144,v145,v146,v147,v148,v149,v150,v151,v152,v153,v154,v155,v156,v157,v158,v159,v160,v161,v162,v163,v164,v165,v166,v167,v168,v169,v170,v171,v172,v173,v174,v175,v176,v177,v178,v179,v180,v181,v182,v183,v184,v185,v186,v187],defers:={target:= .collected Dd,args:=#[]} :: df} w')
 (hP:dX D S (i:Int) what=false->∀(a:Act) (Dd:Nat) (w':aj),ap wc.heap.size wc w'->wc.heap.size<=Dd->w'.heap[Dd]?=ai (.deferred (ai []))->a.defers={target:= .collected Dd,args:=#[]} :: df->Q (Exit.panic (cN 174)) a w'):
 bi prog c Q {tmps:=#[v0,v1,ax (ai ⟨b2,0,ag⟩),ax (ai ⟨b3,0,ag⟩),v4,v5,v6,v7,M U (i:Int),v9,v10,v11,v12,v13,v14,v15,v16,v17,v18,v19,v20,v21,v22,v23,v24,v25,v26,v27,v28,v29,v30,v31,v32,v33,v34,v35,v36,v37,v38,v39,v40,v41,v42,v43,v44,v45,v46,v47,v48,v49,v50,v51,v52,v53,v54,v55,v56,v57,v58,v59,v60,v61,v62,v63,v64,v65,v66,v67,v68,v69,v70,v71,v72,v73,v74,v75,v76,v77,v78,v79,v80,v81,v82,v83,v84,v85,v86,v87,v88,v89,v90,v91,v92,v93,v94,v95,v96,v97,v98,v99,v100,v101,v102,v103,v104,v105,v106,v107,v108,v109,v110,v111,v112,v113,v114,v115,v116,v117,v118,v119,v120,v121,v122,v123,v124,v125,v126,v127,v128,v129,v130,v131,v132,v133,v134,v135,v136,v137,v138,v139,v140,v141,v142,v143,v144,v145,v146,v147,v148,v149,v150,v151,v152,v153,v154,v155,v156,v157,v158,v159,v160,v161,v162,v163,v164,v165,v166,v167,v168,v169,v170,v171,v172,v173,v174,v175,v176,v177,v178,v179,v180,v181,v182,v183,v184,v185,v186,v187],defers:=df} wc:=by
 subst hc
 conv=>arg 2;whnf
 have HKK:=af hK
 have HPP:=af hP
 clear hK hP
 go_upto_region 11 with fail
 refine mv11 kr hA h2 hX ?_
 intro u106 u107 u108 u109 u110 u111 u112 zb pb wn hb hzb hpb hzc hpc hu
 subst hu
 (try simp only[Exit.then])
 (try refine‹∀(a:Act) (w:aj),bi prog _ _ a w->_› _ _ ?_)
 go_wp2_with fail
 have HKY:=af (λW (h:ap wc.heap.size wc W)=>il D S cb (i:Int) what W (hA.below h) hG hF hz)
 have hP1:=(hA.below hb).p
 have HSM:=af (λW (h:ap wn.heap.size wn W)=>show W.cell? ⟨cb,12,ag⟩=ai (aA false)from by rw[<-hst];exact(bK ((hA.below hb).below h)).2.2.2.2.2.2.2.2.2.2.2.2)
 have HS2:=af (λW (h:ap wc.heap.size wc W)=>show W.cell? ⟨b2,0,ag⟩=ai (ax (ai ⟨cb,0,ag⟩))from(h.cell (p:=⟨b2,0,ag⟩) (aG wc _ h2)).trans h2)
 have HSX:=af (λW (h:ap wc.heap.size wc W)=>show W.cell? ⟨b3,3,ag⟩=ai (M U what)from(hX.below h).cell 3)
 clear hA h2 hX hst hF hzb
 refine(wpIn_wide (n:=3)).1 (gL (n:=3) om (zb:=zb) (pb:=pb) (z:=what) (D:=D) rfl hzc hpc hP1 hG.near hz (λ_=>True) (λ_ _ _=>False) (λ_ _ _ _ _ hf _ _=>hf.elim) trivial (λx=>{tmps:=#[v0,v1,ax (ai ⟨b2,0,ag⟩),ax (ai ⟨b3,0,ag⟩),v4,v5,v6,v7,M U (i:Int),M U (x:Int),v10,v11,v12,v13,v14,v15,v16,v17,v18,v19,v20,v21,v22,v23,v24,v25,v26,v27,v28,v29,v30,v31,v32,v33,v34,v35,v36,v37,v38,v39,v40,v41,v42,v43,v44,v45,v46,v47,v48,v49,v50,v51,v52,v53,v54,v55,v56,v57,v58,v59,v60,v61,v62,v63,v64,v65,v66,v67,v68,v69,v70,v71,v72,v73,v74,v75,v76,v77,v78,v79,v80,v81,v82,v83,v84,v85,v86,v87,v88,v89,v90,v91,v92,v93,v94,v95,v96,v97,v98,v99,v100,v101,v102,v103,v104,v105,u106,u107,u108,u109,u110,u111, .func (.func 259) #[] #[ax (ai ⟨zb,0,ag⟩),ax (ai ⟨pb,0,ag⟩)],M U (x:Int),v114,v115,v116,v117,v118,v119,v120,v121,v122,v123,v124,v125,v126,v127,v128,v129,v130,v131,v132,v133,v134,v135,v136,v137,v138,v139,v140,v141,v142,v143,v144,v145,v146,v147,v148,v149,v150,v151,v152,v153,v154,v155,v156,v157,v158,v159,v160,v161,v162,v163,v164,v165,v166,v167,v168,v169,v170,v171,v172,v173,v174,v175,v176,v177,v178,v179,v180,v181,v182,v183,v184,v185,v186,v187],defers:=[]}) ?assign ?body ?done ?stop)
 case assign=>
  intro l x W K hK
  gi_wp2
  exact hK
 case body=>
  rintro l pre x W - hp hb3
  have e1:=HSM.out W hb3
  have e2:=HS2.out W (ak hb hb3)
  gi_wp2
  refine⟨trivial,((callsIn_wide.2 (nH 173 _)).inRound l).mono ?_⟩
  rintro e W3 ⟨rfl,rfl⟩
  gi_wp2
  exact⟨au _ _,trivial⟩
 case done=>
  intro Dd W hDd _ hb3 hKd
  have hbW:=ak hb hb3
  have e2:=HS2.out W hbW
  have e3:=HSX.out W hbW
  have hDw:=hb.size
  have hDd2:wc.heap.size<=Dd:=om
  have hDl:Dd<W.heap.size:=(Array.getElem?_eq_some_iff.1 hKd).1
  clear hb hb3 hzc hpc hP1 hDd hpb hDw
  (try simp only[Exit.inBlock,Exit.then])
  refine‹∀(a:Act) (w:aj),bi prog _ _ a w->_› _ _ ?_
  go_wp2_with fail
  refine aZ (HKY.out W hbW) ?_
  intro w3 hb4
  have hb5:=ak hbW hb4
  have hK3:w3.heap[Dd]?=ai (.deferred (ai [])):=(hb4.block _ hDl).trans hKd
  cases hkd:dX D S (i:Int) what with
  |true=>
   go_wp2_with fail
   refine dH ?_
   (try dsimp only)
   trace_state
   (try refine‹∀(a:Act) (w:aj),Q bk a w->_› _ _ ?_)
   exact HKK.out hkd _ _ _ _ _ _ _ _ _ _ _ _ _ Dd w3 hb5 hDd2 hK3
  |false=>
   go_wp2_with fail
   refine dU ?_
   exact HPP.out hkd _ Dd w3 hb5 hDd2 hK3 rfl
 case stop=>
  intro Dd pre W hDd hp hf
  exact hf.elim
end
end
section
open Tryz
open Go.RowKit Go.Shelf
theorem bR.below {w0 w w':aj} {cb:Nat} {D:bE} {S:bL} (h:bR w0 w cb D S) (hb:ap w.heap.size w w'):bR w0 w' cb D S:=
 ⟨ak h.base hb,h.pd,h.cbB,h.c.below hb,h.r.below hb⟩
def lE (F:Nat->Int) (k:Nat) (v:Int):Nat->Int:=λi=>if i=k then v else F i
def bL.setZ (S:bL) (k:Nat) (v:Int):bL:=⟨S.now,S.zn,lE S.Z k v,S.hn,S.H,S.sn,S.Q,S.siren,S.storm,S.zv,S.hv,S.qv⟩
def bL.setH (S:bL) (k:Nat) (v:Int):bL:=⟨S.now,S.zn,S.Z,S.hn,lE S.H k v,S.sn,S.Q,S.siren,S.storm,S.zv,S.hv,S.qv⟩
def bL.setQ (S:bL) (k:Nat) (v:Int):bL:=⟨S.now,S.zn,S.Z,S.hn,S.H,S.sn,lE S.Q k v,S.siren,S.storm,S.zv,S.hv,S.qv⟩
def bL.setS (S:bL) (b:Bool):bL:=⟨S.now,S.zn,S.Z,S.hn,S.H,S.sn,S.Q,S.siren,b,S.zv,S.hv,S.qv⟩
def bL.setN (S:bL) (v:Int):bL:=⟨v,S.zn,S.Z,S.hn,S.H,S.sn,S.Q,S.siren,S.storm,S.zv,S.hv,S.qv⟩
theorem bP.set {w:aj} {v:aw} {n g:Nat} {R:Nat->Int} (h:bP w v n g R) {k:Nat} (hk:k<n) (u:Int):bP (w.setCell ⟨g,k,ag⟩ (M U u)) v n g (lE R k u):=by
 obtain⟨a,c,rfl,hc,h⟩:=h
 refine⟨a,c,rfl,hc,?_⟩
 rcases h with h|⟨rfl,h1,h2⟩
 ·omega
 refine .inr ⟨rfl,by simpa using h1,λi hi=>?_⟩
 refine⟨?_,by rw[aj.frozen?_setCell];exact(h2 i hi).2⟩
 by_cases hik:i=k
 ·subst hik
  rw[aj.cell?_setCell_same (h:=(h2 i hi).1)]
  simp[lE]
 have hpe:(⟨g,k,ag⟩:Addr)≠⟨g,i,ag⟩:=λe=>hik (by cases e;rfl)
 rw[aj.cell?_setCell_other (h:=hpe),(h2 i hi).1]
 simp[lE,hik]
theorem bP.form {w:aj} {v:aw} {n g:Nat} {R:Nat->Int} (h:bP w v n g R) {k:Nat} (hk:k<n):∃c,v=T (ai ⟨g,0,ag⟩) n c/\n<=c/\g<w.heap.size/\w.cell? ⟨g,k,ag⟩=ai (M U (R k))/\w.frozen? ⟨g,k,ag⟩=false:=by
 obtain⟨a,c,rfl,hc,h⟩:=h
 rcases h with h|⟨rfl,h1,h2⟩
 ·omega
 exact⟨c,rfl,hc,h1,(h2 k hk).1,(h2 k hk).2⟩
theorem bR.putZ {w0 w:aj} {cb:Nat} {D:bE} {S:bL} (h:bR w0 w cb D S) {k:Nat} (hk:k<S.zn):∃g c,S.zv=T (ai ⟨g,0,ag⟩) S.zn c/\S.zn<=c/\g<w.heap.size/\w.cell? ⟨g,k,ag⟩=ai (M U (S.Z k))/\w.frozen? ⟨g,k,ag⟩=false/\w0.heap.size<=g/\g≠cb/\∀(w':aj) (u:Int),w'=w.setCell ⟨g,k,ag⟩ (M U u)->bR w0 w' cb D (S.setZ k u):=by
 obtain⟨gz,gh,gq,h1,h2,h3,d1,d2,d3,d4,d5,d6⟩:=h.r.ex
 obtain⟨c,e1,e2,e3,e4,e5⟩:=h1.form hk
 have hd:=d1 om
 refine⟨gz,c,e1,e2,e3,e4,e5,hd.1,hd.2,λw' u hw'=>?_⟩
 subst hw'
 exact⟨aS h.base hd.1 _,h.pd,h.cbB,h.c.set_other (p:=⟨gz,k,ag⟩) hd.2 _,⟨gz,gh,gq,h1.set hk u,h2.other (λh=>d4 om h) _,h3.other (λh=>d5 om h) _,d1,d2,d3,d4,d5,d6⟩⟩
theorem bR.putH {w0 w:aj} {cb:Nat} {D:bE} {S:bL} (h:bR w0 w cb D S) {k:Nat} (hk:k<S.hn):∃g c,S.hv=T (ai ⟨g,0,ag⟩) S.hn c/\S.hn<=c/\g<w.heap.size/\w.cell? ⟨g,k,ag⟩=ai (M U (S.H k))/\w.frozen? ⟨g,k,ag⟩=false/\w0.heap.size<=g/\g≠cb/\∀(w':aj) (u:Int),w'=w.setCell ⟨g,k,ag⟩ (M U u)->bR w0 w' cb D (S.setH k u):=by
 obtain⟨gz,gh,gq,h1,h2,h3,d1,d2,d3,d4,d5,d6⟩:=h.r.ex
 obtain⟨c,e1,e2,e3,e4,e5⟩:=h2.form hk
 have hd:=d2 om
 refine⟨gh,c,e1,e2,e3,e4,e5,hd.1,hd.2,λw' u hw'=>?_⟩
 subst hw'
 exact⟨aS h.base hd.1 _,h.pd,h.cbB,h.c.set_other (p:=⟨gh,k,ag⟩) hd.2 _,⟨gz,gh,gq,h1.other (λh=>(d4 h om).symm) _,h2.set hk u,h3.other (λh=>d6 om h) _,d1,d2,d3,d4,d5,d6⟩⟩
theorem bR.putQ {w0 w:aj} {cb:Nat} {D:bE} {S:bL} (h:bR w0 w cb D S) {k:Nat} (hk:k<S.sn):∃g c,S.qv=T (ai ⟨g,0,ag⟩) S.sn c/\S.sn<=c/\g<w.heap.size/\w.cell? ⟨g,k,ag⟩=ai (M U (S.Q k))/\w.frozen? ⟨g,k,ag⟩=false/\w0.heap.size<=g/\g≠cb/\∀(w':aj) (u:Int),w'=w.setCell ⟨g,k,ag⟩ (M U u)->bR w0 w' cb D (S.setQ k u):=by
 obtain⟨gz,gh,gq,h1,h2,h3,d1,d2,d3,d4,d5,d6⟩:=h.r.ex
 obtain⟨c,e1,e2,e3,e4,e5⟩:=h3.form hk
 have hd:=d3 om
 refine⟨gq,c,e1,e2,e3,e4,e5,hd.1,hd.2,λw' u hw'=>?_⟩
 subst hw'
 exact⟨aS h.base hd.1 _,h.pd,h.cbB,h.c.set_other (p:=⟨gq,k,ag⟩) hd.2 _,⟨gz,gh,gq,h1.other (λh=>(d5 h om).symm) _,h2.other (λh=>(d6 h om).symm) _,h3.set hk u,d1,d2,d3,d4,d5,d6⟩⟩
theorem bR.putS {w0 w:aj} {cb:Nat} {D:bE} {S:bL} (h:bR w0 w cb D S) (u:Bool):bR w0 (w.setCell ⟨cb,12,ag⟩ (aA u)) cb D (S.setS u):=by
 obtain⟨gz,gh,gq,h1,h2,h3,d1,d2,d3,d4⟩:=h.r.ex
 refine⟨aS h.base h.cbB _,h.pd,h.cbB,?_,⟨gz,gh,gq,h1.other (λh=>λe=>(d1 h).2 e.symm) _,h2.other (λh=>λe=>(d2 h).2 e.symm) _,h3.other (λh=>λe=>(d3 h).2 e.symm) _,d1,d2,d3,d4⟩⟩
 have h9:=h.c.set 12 (aA u)
 exact uY
theorem bR.putN {w0 w:aj} {cb:Nat} {D:bE} {S:bL} (h:bR w0 w cb D S) (u:Int):bR w0 (w.setCell ⟨cb,7,ag⟩ (M U u)) cb D (S.setN u):=by
 obtain⟨gz,gh,gq,h1,h2,h3,d1,d2,d3,d4⟩:=h.r.ex
 refine⟨aS h.base h.cbB _,h.pd,h.cbB,?_,⟨gz,gh,gq,h1.other (λh=>λe=>(d1 h).2 e.symm) _,h2.other (λh=>λe=>(d2 h).2 e.symm) _,h3.other (λh=>λe=>(d3 h).2 e.symm) _,d1,d2,d3,d4⟩⟩
 have h9:=h.c.set 7 (M U u)
 exact uY
def cu (w0:aj) (cb:Nat) (D:bE) (r:Except Int bL) (e:Ending) (w':aj):Prop:=match r with
 | .error k=>e= .panicked (cN k)/\ap w0.heap.size w0 w'
 | .ok S=>e=ar (.tuple #[])/\bR w0 w' cb D S
def pM (b:Bool) (k:Int) (r:Except Int bL):Except Int bL:=if b then r else .error k
theorem bB {b:Bool} {k:Int} {r:Except Int bL} (h:b=true):pM b k r=r:=by unfold pM;rw[h];rfl
theorem eN {b:Bool} {k:Int} {r:Except Int bL} (h:b=false):pM b k r= .error k:=by unfold pM;rw[h];rfl
end
section
open Tryz
open Go.RowKit Go.Shelf
attribute [local go_sem] Oper.semAt_some
theorem qd (D:bE) (S:bL) (cb who what:Nat) (wto:Nat) (at_ kind:Int) (w0 w:aj) (hO:bR w0 w cb D S) (hk:what<S.hn) (hq1:(S.H what==(who:Int))=false):
  aC prog 507 #[ax (ai ⟨cb,0,ag⟩),aN #[M U at_,M U kind,M U (who:Int),M U (what:Int),M U (wto:Int)]] w (cu w0 cb D (.error 174)):=by
 have HGW:=af (show∀g c,S.hv=T (ai ⟨g,0,ag⟩) S.hn c->g<w.heap.size from λg c e=>by obtain⟨g2,c2,e2,_,h3,_⟩:=hO.putH hk;rw[e]at e2;cases e2;exact h3)
 obtain⟨W0,HW0,hC,hB⟩:=bW w 294 #[M U at_,M U kind,M U (who:Int),M U (what:Int),M U (wto:Int)]
 have HO:=af (hO.below hB)
 clear hO
 go_enter func507,ntmps507
 go_upto_region 1 with fail
 rw[HW0.out]
 obtain⟨xb,hxe⟩:=bY w.heap.size
 rw[<-hxe]at hC⊢
 have hxw:w.heap.size<=xb:=bs hxe.symm
 clear hxe HW0
 obtain⟨x0,x1,x2,x3,x4⟩:=aL hC
 go_upto_region 1 with fail
 obtain⟨x0,x1,x2,x3,x4,x5,x6,x7,x8,x9,x10,x11,x12⟩:=bK HO.out.at
 have hcl:=HO.out.c.lt
 have hxl:=hC.lt
 obtain⟨y0,y1,y2,y3,y4⟩:=aL hC
 obtain⟨ghwhat,chwhat,hvhwhat,hcchwhat,glhwhat,gehwhat,gfhwhat,gbhwhat,gnhwhat,HPhwhat⟩:=HO.out.putH hk
 rw[hvhwhat]at x9
 clear HPhwhat gfhwhat gbhwhat gnhwhat hcchwhat
 have HR:=af λw' (hb:ap W0.heap.size W0 w')=>uE (aL (hC.below hb)) (kp x9 hb) (kp gehwhat hb)
 have hBd:ap W0.heap.size W0 W0.drew:=(au _ _).drew
 have ihwhat:(what:Int)<(S.hn:Int):=om
 clear x0 x1 x2 x3 x4 x5 x6 x7 x8 x9 x10 x11 x12 y0 y1 y2 y3 y4 gehwhat
 have HQ1:=af hq1
 refine bV hBd ?_
 refine K2 ?_
 refine br 9 hBd ?_
 refine br 10 hBd ?_
 refine br 11 hBd ?_
 refine cL 12 (λK' hK'=>?_)
 refine dU ?_
 refine⟨rfl,?_⟩
 exact⟨rfl,ap.drew HO.out.base⟩
end
section
open Tryz
open Go.RowKit Go.Shelf
attribute [local go_sem] Oper.semAt_some
def tq (on:Bool) (F:Nat->Int) (k:Nat):Nat->Int:=λi=>if on=true/\i<k/\F i=1 then 0 else F i
theorem pt (on:Bool) (F:Nat->Int):tq on F 0=F:=by funext i;unfold tq;rw[if_neg];omega
theorem tH (on:Bool) (F:Nat->Int) (k:Nat):tq on F k k=F k:=by unfold tq;rw[if_neg];omega
theorem tT (F:Nat->Int) (k:Nat) (h:F k=1):lE (tq true F k) k 0=tq true F (k+1):=by
 funext i;unfold lE tq
 by_cases hi:i=k
 ·subst hi;rw[if_pos rfl,if_pos ⟨rfl,by omega,h⟩]
 rw[if_neg hi];by_cases hj:i<k
 ·by_cases hf:F i=1
  ·rw[if_pos ⟨rfl,hj,hf⟩,if_pos ⟨rfl,by omega,hf⟩]
  rw[if_neg (λh=>hf h.2.2),if_neg (λh=>hf h.2.2)]
 rw[if_neg (λh=>hj h.2.1),if_neg (λh=>by have:=h.2.1;omega)]
theorem pu (on:Bool) (F:Nat->Int) (k:Nat) (h:¬(on=true/\F k=1)):tq on F (k+1)=tq on F k:=by
 funext i;unfold tq
 by_cases hi:i=k
 ·subst hi;rw[if_neg (λh'=>h ⟨h'.1,h'.2.2⟩),if_neg (λh'=>h ⟨h'.1,h'.2.2⟩)]
 by_cases hj:i<k
 ·by_cases hf:on=true/\F i=1
  ·rw[if_pos ⟨hf.1,by omega,hf.2⟩,if_pos ⟨hf.1,hj,hf.2⟩]
  rw[if_neg (λh=>hf ⟨h.1,h.2.2⟩),if_neg (λh=>hf ⟨h.1,h.2.2⟩)]
 rw[if_neg (λh=>by have:=h.2.1;omega),if_neg (λh=>hj h.2.1)]
def bL.setQF (S:bL) (F:Nat->Int):bL:=⟨S.now,S.zn,S.Z,S.hn,S.H,S.sn,F,S.siren,S.storm,S.zv,S.hv,S.qv⟩
def fl (S:bL) (what:Nat):Except Int bL:=pM (S.storm != ((what:Int)==1)) 177 (.ok ((S.setS ((what:Int)==1)).setQF (tq ((what:Int)==1) S.Q S.sn)))
theorem kW (D:bE) (S:bL) (cb who what:Nat) (at_ kind wth:Int) (w0 w:aj) (hO:bR w0 w cb D S) (hsn:S.sn<=1000000):
  aC prog 512 #[ax (ai ⟨cb,0,ag⟩),aN #[M U at_,M U kind,M U (who:Int),M U (what:Int),M U wth]] w (cu w0 cb D (fl S what)):=by
 obtain⟨r,HS⟩:=dR (fl S what)
 rw[<-HS.out]
 obtain⟨W0,HW0,hC,hB⟩:=bW w 294 #[M U at_,M U kind,M U (who:Int),M U (what:Int),M U wth]
 have HO:=af (hO.below hB)
 clear hO
 by_cases hon:(what:Int)=1
 rotate_left
 ·have HON:=af (show((what:Int)==1)=false by simpa using hon)
  have hon2:((what:Int)==1)=false:=HON.out
  cases hst:S.storm with
  |false=>
   exact T15
  |true=>
   have HST:=af hst
   clear hst
   go_enter func512,ntmps512
   go_upto_region 1 with fail
   rw[HW0.out]
   obtain⟨xb,hxe⟩:=bY w.heap.size
   rw[<-hxe]at hC⊢
   clear hxe HW0
   obtain⟨x0,x1,x2,x3,x4⟩:=aL hC
   have x12:=(bK HO.out.at).2.2.2.2.2.2.2.2.2.2.2.2
   rw[HST.out]at x12
   have f12:=HO.out.c.frozen 12
   go_wp2_with fail
   refine dH ?_
   go_upto_region 4 with fail
   have hO2:=HO.out.putS false
   clear HO hC hB x0 x1 x2 x3 x4 x12 f12 hon2
   generalize W0.setCell ⟨cb,12,ag⟩ (aA false)=wt at *
   have HO:=af hO2
   clear hO2
   have x10:=(bK HO.out.at).2.2.2.2.2.2.2.2.2.2.1
   have hqs:S.sn<=1000000:=hsn
   obtain⟨sa,sc,hsv,hsc⟩:∃a c,S.qv=T a S.sn c/\S.sn<=c:=HO.out.at.s.q.form
   have x10b:wt.cell? ⟨cb,10,ag⟩=ai (T sa S.sn sc):=by rw[<-hsv];exact x10
   have HSV:=af hsv
   clear hsv x10
   go_upto_region 5 with fail
   go_loopw [29] (λi wr=>∃k:Nat,k<=S.sn/\i=M U k/\bR w0 wr cb D ((S.setS false).setQF (tq false S.Q k))) (λi _=>S.sn - (aV i).toNat)
   case atStart=>exact⟨0,aF _,rfl,by rw[pt];exact HO.out⟩
   case round=>
    obtain⟨k,hk,rfl,hOk⟩:=hrel
    by_cases hlt:k<S.sn
    rotate_left
    ·exact T51
    obtain⟨g,c,hqv,hcc,gl,ge,gf,gb,gn,HP⟩:=hOk.putQ (show k<((S.setS false).setQF (tq false S.Q k)).sn from hlt)
    have y10:=(bK hOk.at).2.2.2.2.2.2.2.2.2.2.1
    rw[hqv]at y10
    have ge2:wr.cell? ⟨g,k,ag⟩=ai (M U (S.Q k)):=by rw[ge];show ai (M U (tq false S.Q k k))=_;rw[tH]
    have y10b:wr.cell? ⟨cb,10,ag⟩=ai (T (ai ⟨g,0,ag⟩) S.sn c):=y10
    have hq9:S.qv=T (ai ⟨g,0,ag⟩) S.sn c:=hqv
    rw[HSV.out]at hq9
    cases hq9
    have i1:(k:Int)<(S.sn:Int):=om
    have HPP:=af HP
    have HOk:=af hOk
    clear HP hOk y10 ge hqv hcc
    have E9:=af (pu false S.Q k (λh=>Bool.noConfusion h.1))
    obtain⟨qk,hqk⟩:∃m,m=S.Q k:=⟨_,rfl⟩
    rw[<-hqk]at ge2
    exact T77
 have HON:=af (show((what:Int)==1)=true by simpa using hon)
 have hon2:((what:Int)==1)=true:=HON.out
 clear hon
 cases hst:S.storm with
 |false=>
  have HST:=af hst
  clear hst
  go_enter func512,ntmps512
  go_upto_region 1 with fail
  rw[HW0.out]
  obtain⟨xb,hxe⟩:=bY w.heap.size
  rw[<-hxe]at hC⊢
  clear hxe HW0
  obtain⟨x0,x1,x2,x3,x4⟩:=aL hC
  have x12:=(bK HO.out.at).2.2.2.2.2.2.2.2.2.2.2.2
  rw[HST.out]at x12
  have f12:=HO.out.c.frozen 12
  go_wp2_with fail
  refine dH ?_
  go_upto_region 4 with fail
  have hO2:=HO.out.putS true
  clear HO hC hB x0 x1 x2 x3 x4 x12 f12 hon2
  generalize W0.setCell ⟨cb,12,ag⟩ (aA true)=wt at *
  have HO:=af hO2
  clear hO2
  have x10:=(bK HO.out.at).2.2.2.2.2.2.2.2.2.2.1
  have hqs:S.sn<=1000000:=hsn
  obtain⟨sa,sc,hsv,hsc⟩:∃a c,S.qv=T a S.sn c/\S.sn<=c:=HO.out.at.s.q.form
  have x10b:wt.cell? ⟨cb,10,ag⟩=ai (T sa S.sn sc):=by rw[<-hsv];exact x10
  have HSV:=af hsv
  clear hsv x10
  go_upto_region 5 with fail
  go_loopw [29] (λi wr=>∃k:Nat,k<=S.sn/\i=M U k/\bR w0 wr cb D ((S.setS true).setQF (tq true S.Q k))) (λi _=>S.sn - (aV i).toNat)
  case atStart=>exact⟨0,aF _,rfl,by rw[pt];exact HO.out⟩
  case round=>
   obtain⟨k,hk,rfl,hOk⟩:=hrel
   by_cases hlt:k<S.sn
   rotate_left
   ·exact T51
   obtain⟨g,c,hqv,hcc,gl,ge,gf,gb,gn,HP⟩:=hOk.putQ (show k<((S.setS true).setQF (tq true S.Q k)).sn from hlt)
   have y10:=(bK hOk.at).2.2.2.2.2.2.2.2.2.2.1
   rw[hqv]at y10
   have ge2:wr.cell? ⟨g,k,ag⟩=ai (M U (S.Q k)):=by rw[ge];show ai (M U (tq true S.Q k k))=_;rw[tH]
   have y10b:wr.cell? ⟨cb,10,ag⟩=ai (T (ai ⟨g,0,ag⟩) S.sn c):=y10
   have hq9:S.qv=T (ai ⟨g,0,ag⟩) S.sn c:=hqv
   rw[HSV.out]at hq9
   cases hq9
   have i1:(k:Int)<(S.sn:Int):=om
   have HPP:=af HP
   have HOk:=af hOk
   clear HP hOk y10 ge hqv hcc
   by_cases hx:S.Q k=1
   ·have e9:=tT S.Q k hx
    rw[hx]at ge2
    have E9:=af e9
    clear e9 hx
    go_wp2_with fail
    go_roundw
    case rel=>exact⟨k+1,by omega,by go_num,by rw[<-E9.out];exact HPP.out _ 0 rfl⟩
    case measure=>simp[aV];omega
   have E9:=af (pu true S.Q k (λh=>hx h.2))
   obtain⟨qk,hqk⟩:∃m,m=S.Q k:=⟨_,rfl⟩
   rw[<-hqk]at ge2 hx
   exact T77
 |true=>
  exact T15
end
section
open Tryz
open Go.RowKit Go.Shelf
theorem bP.kept {W W':aj} {v:aw} {n g:Nat} {R:Nat->Int} {row:Option Nat} (h:bP W v n g R) (hg:W.grownBy W' row) (hrow:∀r,row=ai r->∃o:Obj,W.heap[r]?=ai o/\o.isCells=false):bP W' v n g R:=by
 obtain⟨a,c,rfl,hc,h⟩:=h
 refine⟨a,c,rfl,hc,?_⟩
 rcases h with h|⟨rfl,h1,h2⟩
 ·exact .inl h
 exact .inr ⟨rfl,aQ h1 hg.size,λi hi=>⟨cell_kept (h2 i hi).1 hg hrow,by rw[frozen_kept (h2 i hi).1 hg hrow];exact(h2 i hi).2⟩⟩
def mark (d:Nat):Deferred:={target:= .collected d,args:=#[]}
theorem bR.mark {w0 W:aj} {cb d:Nat} {D:bE} {S:bL} (h:bR w0 W cb D S) (hd:w0.heap.size<=d) (hK:W.heap[d]?=ai (.deferred (ai []))):bR w0 (W.putObj d (.deferred ag)) cb D S:=by
 have hg:W.grownBy (W.putObj d (.deferred ag)) (ai d):=grownBy_putObj' _ _ _
 have hrow:∀r,ai d=ai r->∃o:Obj,W.heap[r]?=ai o/\o.isCells=false:=λr e=>by cases e;exact⟨_,hK,rfl⟩
 have hne:∀g,ai d=ai g->g≠cb:=λg e e2=>by
  cases e;subst e2
  have h':W.heap[d]?=ai (.cells _ _ (0,0)):=h.c
  rw[hK]at h';cases h'
 obtain⟨gz,gh,gq,h1,h2,h3,hr⟩:=h.r.ex
 exact⟨h.base.grown hg h.base.size (λj e=>by cases e;exact hd),h.pd,h.cbB,dg h.c hg hne,⟨gz,gh,gq,h1.kept hg hrow,h2.kept hg hrow,h3.kept hg hrow,hr⟩⟩
def eX (B:Nat) (W:aj) (L:List Nat):Prop:=L.Nodup/\∀d,d∈L->B<=d/\W.heap[d]?=ai (.deferred (ai []))
theorem eX.next {B d:Nat} {W:aj} {L:List Nat} (h:eX B W (d :: L)):eX B (W.putObj d (.deferred ag)) L:=by
 obtain⟨h1,h2⟩:=h
 rw[List.nodup_cons]at h1
 refine⟨h1.2,λe he=>?_⟩
 have hne:e≠d:=λh=>h1.1 (h▸he)
 exact⟨(h2 e (List.mem_cons_of_mem _ he)).1,(aj.putObj_heap_other hne).trans (h2 e (List.mem_cons_of_mem _ he)).2⟩
theorem mZ {w0:aj} {cb:Nat} {D:bE} {S:bL} {tmps:Array aw}:∀(L:List Nat) (W:aj),eX w0.heap.size W L->bR w0 W cb D S->
  LeavesInM Fence.wide 3 prog f504 tmps (cu w0 cb D (.ok S)) (L.map mark) .returning W:=by
 intro L
 induction L with
 |nil=>exact λW _ h=>⟨.tuple #[],results_none rfl _ _ _,rfl,h⟩
 |cons d L ih=>exact λW hL h=>⟨by simp, .inl ⟨d,_,rfl,run_takeDeferred (hL.2 d (by simp)).2,ih _ hL.next (h.mark (hL.2 d (by simp)).1 (hL.2 d (by simp)).2)⟩⟩
theorem cT {w0:aj} {cb:Nat} {D:bE} {k:Int} {tmps:Array aw}:∀(L:List Nat) (W:aj),eX w0.heap.size W L->ap w0.heap.size w0 W->
  LeavesInM Fence.wide 3 prog f504 tmps (cu w0 cb D (.error k)) (L.map mark) (.panicking (cN k)) W:=by
 intro L
 induction L with
 |nil=>exact λW _ h=>⟨rfl,h⟩
 |cons d L ih=>exact λW hL h=>⟨by simp, .inl ⟨d,_,rfl,run_takeDeferred (hL.2 d (by simp)).2,ih _ hL.next (h.grown (grownBy_putObj' _ _ _) h.size (λj e=>by cases e;exact(hL.2 d (by simp)).1))⟩⟩
end
section
open Tryz
open Go.RowKit Go.Shelf
attribute [local go_sem] Oper.semAt_some
variable {v0 v1 v4 v5 v6 v7 v8 v9 v10 v12 v13 v14 v15 v16 v17 v18 v19 v20 v21 v22 v23 v24 v25 v26 v27 v28 v29 v30 v31 v32 v33 v34 v35 v36 v37 v38 v39 v40 v41 v42 v43 v44 v45 v46 v47 v48 v49 v50 v51 v52 v53 v54 v55 v56 v57 v58 v59 v60 v61 v62 v63 v64 v65 v66 v67 v68 v69 v70 v71 v72 v73 v74 v75 v76 v77 v78 v79 v80 v81 v82 v83 v84 v85 v86 v87 v88 v89 v90 v91 v92 v93 v94 v95 v96 v97 v98 v99 v100 v101 v102 v103 v104 v105 v106 v107 v108 v109 v110 v111 v112 v113 v114 v115 v116 v117 v118 v119 v120 v121 v122 v123 v124 v125 v126 v127 v128 v129 v130 v131 v132 v133 v134 v135 v136 v137 v138 v139 v140 v141 v142 v143 v144 v145 v146 v147 v148 v149 v150 v151 v152 v153 v154 v155 v156 v157 v158 v159 v160 v161 v162 v163 v164 v165 v166 v167 v168 v169 v170 v171 v172 v173 v174 v175 v176 v177 v178 v179 v180 v181 v182 v183 v184 v185 v186 v187:aw}
section
variable {D:bE} {S:bL} {cb b2 b3 who:Nat} {at_ kind what wto:Int}
theorem uK {c:Code} (hc:c=et f504 19) {w0 wc:aj} {Q:Exit->Act->aj->Prop} {df:List Deferred} {i:Nat} (hO:bR w0 wc cb D S) (h2:wc.cell? ⟨b2,0,ag⟩=ai (ax (ai ⟨cb,0,ag⟩))) (hX:am wc b3 294 #[M U at_,M U kind,M U (who:Int),M U what,M U wto]) (hi:i<S.zn)
 (hK:∀(u145 u146 u147 u148 u149 u150 u151 u152 u153:aw) (g c:Nat),S.zv=T (ai ⟨g,0,ag⟩) S.zn c->bR w0 (wc.drew.setCell ⟨g,i,ag⟩ (M U what)) cb D (S.setZ i what)->Q bk {tmps:=#[v0,v1,ax (ai ⟨b2,0,ag⟩),ax (ai ⟨b3,0,ag⟩),v4,v5,v6,v7,v8,v9,v10,M U (i:Int),v12,v13,v14,v15,v16,v17,v18,v19,v20,v21,v22,v23,v24,v25,v26,v27,v28,v29,v30,v31,v32,v33,v34,v35,v36,v37,v38,v39,v40,v41,v42,v43,v44,v45,v46,v47,v48,v49,v50,v51,v52,v53,v54,v55,v56,v57,v58,v59,v60,v61,v62,v63,v64,v65,v66,v67,v68,v69,v70,v71,v72,v73,v74,v75,v76,v77,v78,v79,v80,v81,v82,v83,v84,v85,v86,v87,v88,v89,v90,v91,v92,v93,v94,v95,v96,v97,v98,v99,v100,v101,v102,v103,v104,v105,v106,v107,v108,v109,v110,v111,v112,v113,v114,v115,v116,v117,v118,v119,v120,v121,v122,v123,v124,v125,v126,v127,v128,v129,v130,v131,v132,v133,v134,v135,v136,v137,v138,v139,v140,v141,v142,v143,v144,u145,u146,u147,u148,u149,u150,u151,u152,u153,v154,v155,v156,v157,v158,v159,v160,v161,v162,v163,v164,v165,v166,v167,v168,v169,v170,v171,v172,v173,v174,v175,v176,v177,v178,v179,v180,v181,v182,v183,v184,v185,v186,v187],defers:=df} (wc.drew.setCell ⟨g,i,ag⟩ (M U what))):
 bi prog c Q {tmps:=#[v0,v1,ax (ai ⟨b2,0,ag⟩),ax (ai ⟨b3,0,ag⟩),v4,v5,v6,v7,v8,v9,v10,M U (i:Int),v12,v13,v14,v15,v16,v17,v18,v19,v20,v21,v22,v23,v24,v25,v26,v27,v28,v29,v30,v31,v32,v33,v34,v35,v36,v37,v38,v39,v40,v41,v42,v43,v44,v45,v46,v47,v48,v49,v50,v51,v52,v53,v54,v55,v56,v57,v58,v59,v60,v61,v62,v63,v64,v65,v66,v67,v68,v69,v70,v71,v72,v73,v74,v75,v76,v77,v78,v79,v80,v81,v82,v83,v84,v85,v86,v87,v88,v89,v90,v91,v92,v93,v94,v95,v96,v97,v98,v99,v100,v101,v102,v103,v104,v105,v106,v107,v108,v109,v110,v111,v112,v113,v114,v115,v116,v117,v118,v119,v120,v121,v122,v123,v124,v125,v126,v127,v128,v129,v130,v131,v132,v133,v134,v135,v136,v137,v138,v139,v140,v141,v142,v143,v144,v145,v146,v147,v148,v149,v150,v151,v152,v153,v154,v155,v156,v157,v158,v159,v160,v161,v162,v163,v164,v165,v166,v167,v168,v169,v170,v171,v172,v173,v174,v175,v176,v177,v178,v179,v180,v181,v182,v183,v184,v185,v186,v187],defers:=df} wc:=by
 subst hc
 conv=>arg 2;whnf
 have HKK:=af hK
 clear hK
 obtain⟨Qx,hQx⟩:∃Qx:Exit->Act->aj->Prop,Qx=λe a w=>match e with| .panic ch=>False|e=>Q e a w:=⟨_,rfl⟩
 refine Code.wp_mono (Q:=Qx) (λe a w h=>by subst hQx;cases e<;>first|exact h|exact h.elim) ?_
 have HQQ:bj (∀(ch:List PanicEntry) (a:Act) (d:Option Tmp) (v:aw) (w:aj),Qx (Exit.panic ch) (a.put d v) w->Qx (Exit.panic ch) a w):=by subst hQx;exact λch a d v w h=>h
 have HQN:bj (∀a w,Q bk a w->Qx bk a w):=by subst hQx;exact λa w h=>h
 clear hQx
 have hO2:bR w0 wc.drew cb D S:=hO.below (au wc.heap.size wc).drew
 obtain⟨gp,cp,hvp,hccp,glp,gep,gfp,gbp,gnp,HPp⟩:=hO2.putZ hi
 have xp:=(bK hO2.at).2.2.2.2.2.2.2.2.1
 rw[hvp]at xp
 have HPP:=af HPp
 have HVP:=af hvp
 have y3:=hX.drew.cell 3
 have y2:wc.drew.cell? ⟨b2,0,ag⟩=ai (ax (ai ⟨cb,0,ag⟩)):=h2
 have ips:(i:Int)<(S.zn:Int):=om
 have HR:bj (∀w':aj,(w'.cell? ⟨b2,0,ag⟩=ai (ax (ai ⟨cb,0,ag⟩))/\w'.cell? ⟨cb,8,ag⟩=ai (T (ai ⟨gp,0,ag⟩) S.zn cp)/\w'.cell? ⟨b3,3,ag⟩=ai (M U what))->(w'.cell? ⟨b2,0,ag⟩=ai (ax (ai ⟨cb,0,ag⟩))/\w'.cell? ⟨cb,8,ag⟩=ai (T (ai ⟨gp,0,ag⟩) S.zn cp)/\w'.cell? ⟨b3,3,ag⟩=ai (M U what))):=show∀w',_->_ from λw' h=>h
 clear HPp hvp h2 hX hO hO2
 have hK:=(⟨y2,xp,y3⟩:wc.drew.cell? ⟨b2,0,ag⟩=ai (ax (ai ⟨cb,0,ag⟩))/\wc.drew.cell? ⟨cb,8,ag⟩=ai (T (ai ⟨gp,0,ag⟩) S.zn cp)/\wc.drew.cell? ⟨b3,3,ag⟩=ai (M U what))
 refine fV 9 (λw'=>w'.cell? ⟨b2,0,ag⟩=ai (ax (ai ⟨cb,0,ag⟩))/\w'.cell? ⟨cb,8,ag⟩=ai (T (ai ⟨gp,0,ag⟩) S.zn cp)/\w'.cell? ⟨b3,3,ag⟩=ai (M U what)) kr ?_
 refine iZ 0 [1,2,3,4,8,9] hK ?_
 refine iZ 1 [2,3,4,8,9] hK ?_
 refine iZ 2 [3,4,8,9] hK ?_
 refine iZ 3 [4,8,9] hK ?_
 refine iZ 4 [8,9] hK ?_
 refine iZ 5 [8,9] hK ?_
 refine iZ 6 [7,9] hK ?_
 refine iZ 7 [9] hK ?_
 refine iZ 8 [9] hK ?_
 refine pW 9 (λK' hK'=>?_)
 refine kL hK' ?_
 clear hK' K'
 refine gt kr ?_ _
 exact HQN.out _ _ (HKK.out _ _ _ _ _ _ _ _ _ gp cp HVP.out (HPP.out _ _ rfl))
end
end
end Go.Proofs.YtbpnallaifdcpaaGreatDoor
