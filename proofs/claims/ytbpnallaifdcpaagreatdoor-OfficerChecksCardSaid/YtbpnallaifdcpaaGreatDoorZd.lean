/- Parts of the proof. -/
import Derived.Test.YtbpnallaifdcpaaGreatDoorZc
set_option linter.unusedVariables false
set_option linter.unusedSimpArgs false
set_option maxRecDepth 100000
set_option maxHeartbeats 4000000
namespace Go.Proofs.YtbpnallaifdcpaaGreatDoor
open Go.Value renaming int→M
open Go.IntKind renaming i64→U
open Go.Value renaming slice→T,pointer→ax,string→ay,bool→aA,agg→aN
open Go.Lib renaming hid→af
open Option renaming none→ag,some→ai
open Go renaming World→aj,Value→aw,Calls→aC,below_drewN→aM,TypeId→aT,maxLen→cF
open Go.RowKit renaming Below→ap,intOf→aV,Hid→bj
open Go.Ending renaming returned→ar
open Go.RowKit.Below renaming refl→au,setCell→aS
open Go.IntWalk renaming i64_in→aD
open Nat renaming zero_le→aF,le_refl→aY,add_zero→bq,le_of_eq→bs
open Go.Code renaming wp→bi
open Go.Exit renaming normal→bk
section
open Tryz
open Go.RowKit Go.Maps
variable {v0 v1 v2 v3 v4 v5 v6 v7 v8 v9 v10 v11 v12 v13 v14 v15 v16 v17 v18 v19 v20 v21 v22 v23 v24 v25 v26 v27 v28 v29 v30 v31 v32 v33 v34 v35 v36 v37 v38 v39 v40 v41 v42 v43 v44 v45 v46 v47 v48 v49 v50 v51 v52 v53 v54 v55 v56 v57 v58 v59 v60 v61 v62 v63 v64 v65 v66 v67 v68 v69 v70 v71 v72 v73 v74 v75 v76 v77 v78 v79 v80 v81 v82 v83 v84 v85 v86 v87 v88 v89 v90 v91 v92 v93 v94 v95 v96 v97 v98 v99 v100 v101 v102 v103 v104 v105:aw}
theorem wv {W:aj} {b:Nat} {t:aT} {a0 a1 a2 a3 a4 a5 a6:aw} (h:am W b t #[a0,a1,a2,a3,a4,a5,a6]) (u0 u1 u2 u3 u4 u5 u6:aw):am (((((((W.setCell ⟨b,0,ag⟩ u0).setCell ⟨b,1,ag⟩ u1).setCell ⟨b,2,ag⟩ u2).setCell ⟨b,3,ag⟩ u3).setCell ⟨b,4,ag⟩ u4).setCell ⟨b,5,ag⟩ u5).setCell ⟨b,6,ag⟩ u6) b t #[u0,u1,u2,u3,u4,u5,u6]:=by
 have h7:=((((((h.set 0 u0).set 1 u1).set 2 u2).set 3 u3).set 4 u4).set 5 u5).set 6 u6
 simpa using h7
theorem q7 {B:Nat} {w W:aj} {b:Nat} (h:ap B w W) (hb:B<=b) (u0 u1 u2 u3 u4 u5 u6:aw):ap B w (((((((W.setCell ⟨b,0,ag⟩ u0).setCell ⟨b,1,ag⟩ u1).setCell ⟨b,2,ag⟩ u2).setCell ⟨b,3,ag⟩ u3).setCell ⟨b,4,ag⟩ u4).setCell ⟨b,5,ag⟩ u5).setCell ⟨b,6,ag⟩ u6):=
 aS (aS (aS (aS (aS (aS (aS h hb _) hb _) hb _) hb _) hb _) hb _) hb _
theorem rC {W:aj} {b c:Nat} {t:aT} {cs:Array aw} (h:am W c t cs) (hb:b≠c) (u0 u1 u2 u3 u4 u5 u6:aw):am (((((((W.setCell ⟨b,0,ag⟩ u0).setCell ⟨b,1,ag⟩ u1).setCell ⟨b,2,ag⟩ u2).setCell ⟨b,3,ag⟩ u3).setCell ⟨b,4,ag⟩ u4).setCell ⟨b,5,ag⟩ u5).setCell ⟨b,6,ag⟩ u6) c t cs:=
 ((((((h.set_other (p:=⟨b,0,ag⟩) hb u0).set_other (p:=⟨b,1,ag⟩) hb u1).set_other (p:=⟨b,2,ag⟩) hb u2).set_other (p:=⟨b,3,ag⟩) hb u3).set_other (p:=⟨b,4,ag⟩) hb u4).set_other (p:=⟨b,5,ag⟩) hb u5).set_other (p:=⟨b,6,ag⟩) hb u6
theorem rx {W:aj} {b c:Nat} {t:aT} {cs:Array aw} (h:am W c t cs) (hb:b≠c) (u0 u1 u2:aw):am (((W.setCell ⟨b,0,ag⟩ u0).setCell ⟨b,1,ag⟩ u1).setCell ⟨b,2,ag⟩ u2) c t cs:=
 ((h.set_other (p:=⟨b,0,ag⟩) hb u0).set_other (p:=⟨b,1,ag⟩) hb u1).set_other (p:=⟨b,2,ag⟩) hb u2
theorem am.drew {W:aj} {b:Nat} {t:aT} {cs:Array aw} (h:am W b t cs):am W.drew b t cs:=h
section
variable {xb yb sb so ns sc j lb sm lm B:Nat} {qv cv:aw} {age shear b0 b1 b2 b3 b4 s1 s2 s3 s4 s5 s6:Int} {s0:ByteArray}
theorem my {c:Code} (hc:c=et f73 3) {wc:aj} {Q:Exit->Act->aj->Prop}
 (hC:am wc xb 26 #[T (ai ⟨sb,so,ag⟩) ns sc,qv,cv,M U age,M U shear]) (hC2:am wc yb 169 #[M U b0,M U b1,M U b2,M U b3,M U b4]) (hsb:sb<wc.heap.size) (hb0:(0:Int)<=b0) (hb1:b0<(ns:Int)) (h0:wc.cell? ⟨sb,so+b0.toNat*7,ag⟩=ai (ay s0)) (h1:wc.cell? ⟨sb,so+b0.toNat*7+1,ag⟩=ai (M U s1)) (h2:wc.cell? ⟨sb,so+b0.toNat*7+2,ag⟩=ai (M U s2)) (h3:wc.cell? ⟨sb,so+b0.toNat*7+3,ag⟩=ai (M U s3)) (h4:wc.cell? ⟨sb,so+b0.toNat*7+4,ag⟩=ai (M U s4)) (h5:wc.cell? ⟨sb,so+b0.toNat*7+5,ag⟩=ai (M U s5)) (h6:wc.cell? ⟨sb,so+b0.toNat*7+6,ag⟩=ai (M U s6))
 (hK:∀(u18 u19 u20 u21 u22 u23 u24 u25 u26 u27 u28 u29 u30:aw) (kb pb:Nat) (w':aj),ap wc.heap.size wc w'->wc.heap.size<=kb->wc.heap.size<=pb->kb≠pb->am w' kb 129 #[ay s0,M U s1,M U s2,M U s3,M U s4,M U s5,M U s6]->am w' pb 264 #[M U b0,M U b1,M U b2]->
  Q bk {tmps:=#[v0,v1,v2,v3,ax (ai ⟨xb,0,ag⟩),ax (ai ⟨yb,0,ag⟩),v6,ax (ai ⟨kb,0,ag⟩),ax (ai ⟨pb,0,ag⟩),v9,v10,v11,v12,v13,v14,v15,v16,v17,u18,u19,u20,u21,u22,u23,u24,u25,u26,u27,u28,u29,u30,v31,v32,v33,v34,v35,v36,v37,v38,v39,v40,v41,v42,v43,v44,v45,v46,v47,v48,v49,v50,v51,v52,v53,v54,v55,v56,v57,v58,v59,v60,v61,v62,v63,v64,v65,v66,v67,v68,v69,v70,v71,v72,v73,v74,v75,v76,v77,v78,v79,v80,v81,v82,v83,v84,v85,v86,v87,v88,v89,v90,v91,v92,v93,v94,v95,v96,v97,v98,v99,v100,v101,v102,v103,v104,v105],defers:=[]} w'):
 bi prog c Q {tmps:=#[v0,v1,v2,v3,ax (ai ⟨xb,0,ag⟩),ax (ai ⟨yb,0,ag⟩),v6,v7,v8,v9,v10,v11,v12,v13,v14,v15,v16,v17,v18,v19,v20,v21,v22,v23,v24,v25,v26,v27,v28,v29,v30,v31,v32,v33,v34,v35,v36,v37,v38,v39,v40,v41,v42,v43,v44,v45,v46,v47,v48,v49,v50,v51,v52,v53,v54,v55,v56,v57,v58,v59,v60,v61,v62,v63,v64,v65,v66,v67,v68,v69,v70,v71,v72,v73,v74,v75,v76,v77,v78,v79,v80,v81,v82,v83,v84,v85,v86,v87,v88,v89,v90,v91,v92,v93,v94,v95,v96,v97,v98,v99,v100,v101,v102,v103,v104,v105],defers:=[]} wc:=by
 subst hc
 conv=>arg 2;whnf
 have HKK:=af hK
 have HR:=af λw' (hb:ap wc.heap.size wc w')=>an11 (kp (hC.cell 0) hb) (kp (hC2.cell 0) hb) (kp (hC2.cell 1) hb) (kp (hC2.cell 2) hb) (kp (h0) hb) (kp (h1) hb) (kp (h2) hb) (kp (h3) hb) (kp (h4) hb) (kp (h5) hb) (kp (h6) hb)
 clear hK
 have hB:ap wc.heap.size wc wc.drew:=(au _ _).drew
 clear hC hC2 h0 h1 h2 h3 h4 h5 h6
 refine wp_region_noPanic ?_
 refine bV hB ?_
 refine K1 ?_
 refine br 7 hB ?_
 refine K6 ?_
 have hwd:wc.drew.heap.size=wc.heap.size:=rfl
 refine wpAnyH_ready (rs:=[13,14]) kr (by simp) (AllReadyH.cons rfl (λK' hK'=>?_) (AllReadyH.cons rfl (λK' hK'=>?_) AllReadyH.nil))
 ·go_simp
  have hA:=(aK wc (.cells #[ay ⟨#[]⟩,M U 0,M U 0,M U 0,M U 0,M U 0,M U 0] 129))
  have hb:=aP (au wc.heap.size wc) (.cells #[ay ⟨#[]⟩,M U 0,M U 0,M U 0,M U 0,M U 0,M U 0] 129)
  have hzkb:=hB.size
  replace hB:=hb
  generalize wc.alloc (.cells #[ay ⟨#[]⟩,M U 0,M U 0,M U 0,M U 0,M U 0,M U 0] 129)=w1 at *
  obtain⟨kb,hkb⟩:=bY wc.heap.size
  rw[<-hkb]at hA⊢
  have hkb1:wc.heap.size<=kb:=bs hkb.symm
  clear hkb
  have hA1:am w1 kb 129 #[ay ⟨#[]⟩,M U 0,M U 0,M U 0,M U 0,M U 0,M U 0]:=hA
  clear hA
  refine hK'.out _ _ hB.drew (λ_=>?_)
  clear hK' K'
  replace hB:=hB.drew
  replace hA1:=hA1.drew
  generalize w1.drew=w1d at *
  refine jN ?_
  refine cL 14 (λK' hK'=>?_)
  have hA:=(aK w1d (.cells #[M U 0,M U 0,M U 0] 264))
  have hb:=aP (au w1d.heap.size w1d) (.cells #[M U 0,M U 0,M U 0] 264)
  have hlhA1:=hA1.lt
  replace hA1:=hA1.below hb
  have hzpb:=hB.size
  replace hB:=ak hB hb
  generalize w1d.alloc (.cells #[M U 0,M U 0,M U 0] 264)=w2 at *
  obtain⟨pb,hpb⟩:=bY w1d.heap.size
  rw[<-hpb]at hA⊢
  have hpb1:w1d.heap.size<=pb:=bs hpb.symm
  clear hpb
  have hA2:am w2 pb 264 #[M U 0,M U 0,M U 0]:=hA
  clear hA
  refine bO hK' hB ?_
  clear hK' K'
  have zz:=aJ hA1
  have g0:=hA1.frozen 0
  have g1:=hA1.frozen 1
  have g2:=hA1.frozen 2
  have g3:=hA1.frozen 3
  have g4:=hA1.frozen 4
  have g5:=hA1.frozen 5
  have g6:=hA1.frozen 6
  refine cL 15 (λK' hK'=>?_)
  have hk1:=wv hA1 (ay s0) (M U s1) (M U s2) (M U s3) (M U s4) (M U s5) (M U s6)
  have hk2:=rC (b:=kb) hA2 om (ay s0) (M U s1) (M U s2) (M U s3) (M U s4) (M U s5) (M U s6)
  replace hB:=q7 (b:=kb) hB om (ay s0) (M U s1) (M U s2) (M U s3) (M U s4) (M U s5) (M U s6)
  clear hA1 hA2
  refine bO hK' hB ?_
  clear hK' K'
  have zz:=dT hk2
  have g0:=hk2.frozen 0
  have g1:=hk2.frozen 1
  have g2:=hk2.frozen 2
  refine cL 16 (λK' hK'=>?_)
  have hp:=tY hk2 (M U b0) (M U b1) (M U b2)
  have hk:=rx (b:=pb) hk1 om (M U b0) (M U b1) (M U b2)
  replace hB:=gs (b:=pb) hB om (M U b0) (M U b1) (M U b2)
  refine bO hK' hB ?_
  clear hK' K'
  refine eL ?_
  exact HKK.out _ _ _ _ _ _ _ _ _ _ _ _ _ kb pb _ hB om om om hk hp
 ·go_simp
  have hA:=(aK wc (.cells #[M U 0,M U 0,M U 0] 264))
  have hb:=aP (au wc.heap.size wc) (.cells #[M U 0,M U 0,M U 0] 264)
  have hzpb:=hB.size
  replace hB:=hb
  generalize wc.alloc (.cells #[M U 0,M U 0,M U 0] 264)=w1 at *
  obtain⟨pb,hpb⟩:=bY wc.heap.size
  rw[<-hpb]at hA⊢
  have hpb1:wc.heap.size<=pb:=bs hpb.symm
  clear hpb
  have hA2:am w1 pb 264 #[M U 0,M U 0,M U 0]:=hA
  clear hA
  refine hK'.out _ _ hB.drew (λ_=>?_)
  clear hK' K'
  replace hB:=hB.drew
  replace hA2:=hA2.drew
  generalize w1.drew=w1d at *
  refine jN ?_
  refine cL 13 (λK' hK'=>?_)
  have hA:=(aK w1d (.cells #[ay ⟨#[]⟩,M U 0,M U 0,M U 0,M U 0,M U 0,M U 0] 129))
  have hb:=aP (au w1d.heap.size w1d) (.cells #[ay ⟨#[]⟩,M U 0,M U 0,M U 0,M U 0,M U 0,M U 0] 129)
  have hlhA2:=hA2.lt
  replace hA2:=hA2.below hb
  have hzkb:=hB.size
  replace hB:=ak hB hb
  generalize w1d.alloc (.cells #[ay ⟨#[]⟩,M U 0,M U 0,M U 0,M U 0,M U 0,M U 0] 129)=w2 at *
  obtain⟨kb,hkb⟩:=bY w1d.heap.size
  rw[<-hkb]at hA⊢
  have hkb1:w1d.heap.size<=kb:=bs hkb.symm
  clear hkb
  have hA1:am w2 kb 129 #[ay ⟨#[]⟩,M U 0,M U 0,M U 0,M U 0,M U 0,M U 0]:=hA
  clear hA
  refine bO hK' hB ?_
  clear hK' K'
  have zz:=aJ hA1
  have g0:=hA1.frozen 0
  have g1:=hA1.frozen 1
  have g2:=hA1.frozen 2
  have g3:=hA1.frozen 3
  have g4:=hA1.frozen 4
  have g5:=hA1.frozen 5
  have g6:=hA1.frozen 6
  refine cL 15 (λK' hK'=>?_)
  have hk1:=wv hA1 (ay s0) (M U s1) (M U s2) (M U s3) (M U s4) (M U s5) (M U s6)
  have hk2:=rC (b:=kb) hA2 om (ay s0) (M U s1) (M U s2) (M U s3) (M U s4) (M U s5) (M U s6)
  replace hB:=q7 (b:=kb) hB om (ay s0) (M U s1) (M U s2) (M U s3) (M U s4) (M U s5) (M U s6)
  clear hA1 hA2
  refine bO hK' hB ?_
  clear hK' K'
  have zz:=dT hk2
  have g0:=hk2.frozen 0
  have g1:=hk2.frozen 1
  have g2:=hk2.frozen 2
  refine cL 16 (λK' hK'=>?_)
  have hp:=tY hk2 (M U b0) (M U b1) (M U b2)
  have hk:=rx (b:=pb) hk1 om (M U b0) (M U b1) (M U b2)
  replace hB:=gs (b:=pb) hB om (M U b0) (M U b1) (M U b2)
  refine bO hK' hB ?_
  clear hK' K'
  refine eL ?_
  exact HKK.out _ _ _ _ _ _ _ _ _ _ _ _ _ kb pb _ hB om om om hk hp
theorem iG {c:Code} (hc:c=et f73 4) {wc:aj} {Q:Exit->Act->aj->Prop}
 (hL:am wc lb 167 #[.map (ai sm), .map (ai lm)]) (hC2:am wc yb 169 #[M U b0,M U b1,M U b2,M U b3,M U b4]) {v0_ v1_ v2_:Int} {ok:Bool} (hlook:∀w',ap wc.heap.size wc w'->(Instr.lookup 165 (.map (ai lm)) (M U b0) true).run prog w'= .ok (.tuple #[aN #[M U v0_,M U v1_,M U v2_],aA ok]) w')
 (hK:∀(u31 u32 u33 u34 u35 u36 u37 u38 u39 u40:aw) (pb:Nat) (w':aj),ap wc.heap.size wc w'->wc.heap.size<=pb->am w' pb 264 #[M U v0_,M U v1_,M U v2_]->
  Q bk {tmps:=#[ax (ai ⟨lb,0,ag⟩),v1,v2,v3,v4,ax (ai ⟨yb,0,ag⟩),v6,v7,v8,ax (ai ⟨pb,0,ag⟩),aA ok,v11,v12,v13,v14,v15,v16,v17,v18,v19,v20,v21,v22,v23,v24,v25,v26,v27,v28,v29,v30,u31,u32,u33,u34,u35,u36,u37,u38,u39,u40,v41,v42,v43,v44,v45,v46,v47,v48,v49,v50,v51,v52,v53,v54,v55,v56,v57,v58,v59,v60,v61,v62,v63,v64,v65,v66,v67,v68,v69,v70,v71,v72,v73,v74,v75,v76,v77,v78,v79,v80,v81,v82,v83,v84,v85,v86,v87,v88,v89,v90,v91,v92,v93,v94,v95,v96,v97,v98,v99,v100,v101,v102,v103,v104,v105],defers:=[]} w'):
 bi prog c Q {tmps:=#[ax (ai ⟨lb,0,ag⟩),v1,v2,v3,v4,ax (ai ⟨yb,0,ag⟩),v6,v7,v8,v9,v10,v11,v12,v13,v14,v15,v16,v17,v18,v19,v20,v21,v22,v23,v24,v25,v26,v27,v28,v29,v30,v31,v32,v33,v34,v35,v36,v37,v38,v39,v40,v41,v42,v43,v44,v45,v46,v47,v48,v49,v50,v51,v52,v53,v54,v55,v56,v57,v58,v59,v60,v61,v62,v63,v64,v65,v66,v67,v68,v69,v70,v71,v72,v73,v74,v75,v76,v77,v78,v79,v80,v81,v82,v83,v84,v85,v86,v87,v88,v89,v90,v91,v92,v93,v94,v95,v96,v97,v98,v99,v100,v101,v102,v103,v104,v105],defers:=[]} wc:=by
 subst hc
 conv=>arg 2;whnf
 have HKK:=af hK
 have HR:bj (∀w':aj,ap wc.heap.size wc w'->w'.cell? ⟨lb,1,ag⟩=ai (.map (ai lm))/\w'.cell? ⟨yb,0,ag⟩=ai (M U b0)/\(Instr.lookup 165 (.map (ai lm)) (M U b0) true).run prog w'= .ok (.tuple #[aN #[M U v0_,M U v1_,M U v2_],aA ok]) w'):=show∀w',_->_ from λw' hb=>⟨(hb.cell (p:=⟨lb,1,ag⟩) hL.lt).trans (hL.cell 1),(hb.cell (p:=⟨yb,0,ag⟩) hC2.lt).trans (hC2.cell 0),hlook w' hb⟩
 clear hK
 have hB:ap wc.heap.size wc wc.drew:=(au _ _).drew
 clear hL hC2 hlook
 refine wp_region_noPanic ?_
 refine bV hB ?_
 refine K1 ?_
 refine br 7 hB ?_
 refine br 8 hB ?_
 refine br 9 hB ?_
 refine cL 10 (λK' hK'=>?_)
 have hA:=(aK wc (.cells #[M U 0,M U 0,M U 0] 264))
 have hb:=aP (au wc.heap.size wc) (.cells #[M U 0,M U 0,M U 0] 264)
 have hzpb:=hB.size
 replace hB:=hb
 generalize wc.alloc (.cells #[M U 0,M U 0,M U 0] 264)=w1 at *
 obtain⟨pb,hpb⟩:=bY wc.heap.size
 rw[<-hpb]at hA⊢
 have hpb1:wc.heap.size<=pb:=bs hpb.symm
 clear hpb
 have hA2:am w1 pb 264 #[M U 0,M U 0,M U 0]:=hA
 clear hA
 refine hK'.out _ _ hB.drew (λ_=>?_)
 clear hK' K'
 replace hB:=hB.drew
 replace hA2:=hA2.drew
 generalize w1.drew=w1d at *
 refine jN ?_
 have zz:=dT hA2
 have g0:=hA2.frozen 0
 have g1:=hA2.frozen 1
 have g2:=hA2.frozen 2
 refine cL 11 (λK' hK'=>?_)
 have hp:=tY hA2 (M U v0_) (M U v1_) (M U v2_)
 replace hB:=gs (b:=pb) hB om (M U v0_) (M U v1_) (M U v2_)
 refine bO hK' hB ?_
 clear hK' K'
 refine br 12 hB ?_
 refine eL ?_
 exact HKK.out _ _ _ _ _ _ _ _ _ _ pb _ hB om hp
theorem iB {c:Code} (hc:c=et f73 7) {wc:aj} {Q:Exit->Act->aj->Prop}
 {pb:Nat} (hL:am wc lb 167 #[.map (ai sm), .map (ai lm)]) (hP:am wc pb 264 #[M U b0,M U b1,M U b2]) {ok:Bool} (hlook:∀w',ap wc.heap.size wc w'->(Instr.lookup 164 (.map (ai sm)) (aN #[M U b0,M U b1,M U b2]) false).run prog w'= .ok (aA ok) w')
 (hK:∀(u63 u64 u65 u66 u67 u68:aw) (w':aj),ap wc.heap.size wc w'->
  Q bk {tmps:=#[ax (ai ⟨lb,0,ag⟩),v1,v2,v3,v4,v5,v6,v7,ax (ai ⟨pb,0,ag⟩),v9,v10,v11,v12,v13,v14,v15,v16,v17,v18,v19,v20,v21,v22,v23,v24,v25,v26,v27,v28,v29,v30,v31,v32,v33,v34,v35,v36,v37,v38,v39,v40,v41,v42,v43,v44,v45,v46,v47,v48,v49,v50,v51,v52,v53,v54,v55,v56,v57,v58,v59,v60,v61,aA ok,u63,u64,u65,u66,u67,u68,v69,v70,v71,v72,v73,v74,v75,v76,v77,v78,v79,v80,v81,v82,v83,v84,v85,v86,v87,v88,v89,v90,v91,v92,v93,v94,v95,v96,v97,v98,v99,v100,v101,v102,v103,v104,v105],defers:=[]} w'):
 bi prog c Q {tmps:=#[ax (ai ⟨lb,0,ag⟩),v1,v2,v3,v4,v5,v6,v7,ax (ai ⟨pb,0,ag⟩),v9,v10,v11,v12,v13,v14,v15,v16,v17,v18,v19,v20,v21,v22,v23,v24,v25,v26,v27,v28,v29,v30,v31,v32,v33,v34,v35,v36,v37,v38,v39,v40,v41,v42,v43,v44,v45,v46,v47,v48,v49,v50,v51,v52,v53,v54,v55,v56,v57,v58,v59,v60,v61,v62,v63,v64,v65,v66,v67,v68,v69,v70,v71,v72,v73,v74,v75,v76,v77,v78,v79,v80,v81,v82,v83,v84,v85,v86,v87,v88,v89,v90,v91,v92,v93,v94,v95,v96,v97,v98,v99,v100,v101,v102,v103,v104,v105],defers:=[]} wc:=by
 subst hc
 conv=>arg 2;whnf
 have HKK:=af hK
 have HR:bj (∀w':aj,ap wc.heap.size wc w'->w'.cell? ⟨lb,0,ag⟩=ai (.map (ai sm))/\w'.cell? ⟨pb,0,ag⟩=ai (M U b0)/\w'.cell? ⟨pb,1,ag⟩=ai (M U b1)/\w'.cell? ⟨pb,2,ag⟩=ai (M U b2)/\(Instr.lookup 164 (.map (ai sm)) (aN #[M U b0,M U b1,M U b2]) false).run prog w'= .ok (aA ok) w'):=show∀w',_->_ from λw' hb=>⟨(hb.cell (p:=⟨lb,0,ag⟩) hL.lt).trans (hL.cell 0),(hb.cell (p:=⟨pb,0,ag⟩) hP.lt).trans (hP.cell 0),(hb.cell (p:=⟨pb,1,ag⟩) hP.lt).trans (hP.cell 1),(hb.cell (p:=⟨pb,2,ag⟩) hP.lt).trans (hP.cell 2),hlook w' hb⟩
 clear hK
 have hB:ap wc.heap.size wc wc.drew:=(au _ _).drew
 clear hL hP hlook
 refine wp_region_noPanic ?_
 refine bV hB ?_
 refine K1 ?_
 refine eL ?_
 exact HKK.out _ _ _ _ _ _ _ hB
end
end
section
open Tryz
open Go.RowKit
def oY (k er la li lo hi:Int):Int:=if aI k 1 3 then 2 else if aI er 0 5000||(aI la 0 6000||aI li 1 60000)then 7 else if aI lo 0 99999999||(aI hi 0 99999999||decide (hi<lo))then 7 else 0
theorem tg (k er la li lo hi:Int):(if aI k 1 3 then ai 2 else if aI er 0 5000||(aI la 0 6000||(aI li 1 60000||(aI lo 0 99999999||(aI hi 0 99999999||decide (hi<lo)))))then ai 7 else ag)=if oY k er la li lo hi=0 then ag else ai (oY k er la li lo hi):=by
 unfold oY
 cases aI k 1 3<;>cases aI er 0 5000<;>cases aI la 0 6000<;>cases aI li 1 60000<;>cases aI lo 0 99999999<;>cases aI hi 0 99999999<;>cases decide (hi<lo)<;>rfl
theorem jb (n:Int) (w:aj):
  aC prog 146 #[M U n] w λe w'=>e=ar (aA (aI n 0 100000))/\w=w':=by
 go_enter func146,ntmps146
 exact wx
theorem hU (n:Int) (w:aj):
  aC prog 145 #[M U n] w λe w'=>e=ar (aA (aI n 0 99999999))/\w=w':=by
 go_enter func145,ntmps145
 exact wx
theorem mf (n:Int) (w:aj):
  aC prog 255 #[M U n] w λe w'=>e=ar (aA (aI n (-20000) 20000))/\ap w.heap.size w w':=by
 go_enter func255,ntmps255
 go_wp2_with fail
 refine eH (cI _ _ _ _) ?_
 exact mE
theorem oe (n:Nat) (R:Nat->Nat->Int) (v:aw) (w:aj) (hR:aU w v n 1 (bw R)) (hn:n<=1125899906842624):
  aC prog 147 #[v] w λe w'=>e=ar (aA (bI (λi=>aI (R i 0) (-20000) 20000) n))/\ap w.heap.size w w':=by
 have HC:=af (eO 255 (λ_ _=>by kernel_rfl) n R (λi=>aI (R i 0) (-20000) 20000) v w hR hn (λi W _ _=>mf _ W))
 obtain⟨ra,rc,rfl,hrc,hx⟩:=hR
 go_enter func147,ntmps147
 exact rE
theorem jH (l:List Int) (w:aj) (t:aT) (hn:l.length<=1125899906842624):
  aC prog 147 #[T (ai ⟨w.heap.size,0,ag⟩) l.length l.length] (w.alloc (.cells ⟨l.map (M U)⟩ t)) λe w'=>e=ar (aA (l.any λn=>aI n (-20000) 20000))/\ap w.heap.size w w':=by
 have h:=oe _ _ _ _ (sG w t l) hn
 rw[gA (λn=>aI n (-20000) 20000)]at h
 exact sA
theorem mB (nm:ByteArray) (k er la li lo hi:Int) (w:aj):
  aC prog 72 #[aN #[ay nm,M U k,M U er,M U la,M U li,M U lo,M U hi]] w λe w'=>e=ar (M U (oY k er la li lo hi))/\ap w.heap.size w w':=by
 obtain⟨W0,xb,HW0,hC,hB⟩:=eB w 129 #[ay nm,M U k,M U er,M U la,M U li,M U lo,M U hi]
 obtain⟨r,HS⟩:=dR (oY k er la li lo hi)
 rw[<-HS.out]
 go_enter func72,ntmps72
 go_upto_region 1 with fail
 rw[HW0.out.1,HW0.out.2]
 clear HW0
 have xx:=aJ hC
 by_cases kd:hi<lo
 ·have k0:decide (hi<lo)=true:=decide_eq_true kd
  exact T4
 have k0:decide (hi<lo)=false:=decide_eq_false kd
 exact T4
end
section
open Tryz
open Go.RowKit Go.Maps Go.WideMaps Go.ChangeMaps Go.MapKept
section
variable {H:Type} {P:Program} {k t e:aT} {R:aw->Option (DataW H×List MemPlace)} {w:aj} {b n:Nat} {D:DataW H}
theorem fu (h:w.ownsMap P k R b n D) {w':aj} (he:w'.heap[b]?=w.heap[b]?):w'.ownsMap P k R b n D:=by
 obtain⟨es,clock,h1,h2⟩:=h
 exact⟨es,clock,he.trans h1,h2⟩
theorem iy (h:w.ownsMap P k R b n D) (Y:Keyed P k) (ht:P.underlying t=ai (.map k e)) {z:aw} (hz:∀u:aj,(zeroValue e).run P u= .ok z u) (hn:n<cF) {key:aw} {kl:Lit} (hkey:keyOf P k key=ai kl):
  ∃(v0:aw) (st:Nat) (o1:Obj),(Instr.mapEntry t (.map (ai b)) key).run P w= .ok (.tuple #[v0,goInt st]) (setBlock w b o1)/\
   ∀(w2:aj) (val:aw) (d:DataW H) (ps:List MemPlace),R val=ai (d,ps)->w2.heap[b]?=ai o1->∃o2,(Instr.entryStore t (.map (ai b)) (goInt st) val).run P w2= .ok () (setBlock w2 b o2)/\
    ∀w3:aj,w3.heap[b]?=ai o2->w3.ownsMap P k R b (n+1) (D.put kl d):=by
 have hup:=λval d ps (hv:R val=ai (d,ps))=>h.update Y ht hn hkey hv
 obtain⟨es,clock,hb,F,-⟩:=h
 obtain⟨s1,s2,-⟩:=F.stamped
 rcases Y.find w hkey es.toList F.keys with⟨h1,h2⟩|⟨j,e0,h1,h2,h3⟩
 ·refine⟨z,clock, .map (es.push ⟨key,z,clock⟩) (clock+1),by simp[Instr.mapEntry,run_underlying ht,MapKept.run_getObj_map hb,Y.check w false hkey,h1,hz,MapKept.run_setObj_map _ hb,Result.andThen,setBlock],λw2 val d ps hv hw2=>⟨.map (es.push ⟨key,val,clock⟩) (clock+1),?_,λw3 hw3=>?_⟩⟩
  rotate_left
  ·obtain⟨w',hr,ho,-⟩:=hup val d ps hv
   have hr2:(Instr.mapUpdate t (.map (ai b)) key val).run P w= .ok () (setBlock w b (.map (es.push ⟨key,val,clock⟩) (clock+1))):=by
    simp[Instr.mapUpdate,run_underlying ht,MapKept.run_getObj_map hb,Y.check w false hkey,h1,MapKept.run_setObj_map _ hb,Result.andThen,setBlock]
   exact wH
  have hi:(es.push ⟨key,z,clock⟩).findIdx? (λx=>((x.born:Nat):Int)==((clock:Nat):Int))=ai es.size:=by
   rw[WideElems.findIdx_arr]
   refine WideElems.findIdx_born (e0:=⟨key,z,clock⟩) ?_ (by simp)
   rw[Array.toList_push,List.map_append,List.nodup_append]
   refine⟨s2,by simp,λa ha c hc hac=>?_⟩
   obtain⟨x,hx,rfl⟩:=List.mem_map.1 ha
   have hlt:=s1 x hx
   simp at hc
   omega
  have hm:(es.push ⟨key,z,clock⟩).modify es.size (λx=>{x with val:=val})=es.push ⟨key,val,clock⟩:=by
   refine Array.ext' ?_
   rw[Array.toList_modify,Array.toList_push,Array.toList_push,<-Array.length_toList,WideElems.modify_last]
  exact ve
 have hj:es[j]?=ai e0:=by simpa using h2
 have hk:es.modify j (λx=>{x with key:=key})=es:=by
  refine Array.ext' ?_
  rw[Array.toList_modify,modify_eq_set _ _ _ _ h2,show({e0 with key:=key}:MapEntry)=e0 by rw[<-h3]]
  exact WideElems.set_self _ _ _ h2
 refine⟨e0.val,e0.born, .map es clock,by simp[Instr.mapEntry,run_underlying ht,MapKept.run_getObj_map hb,Y.check w false hkey,h1,hj,h3,Y.stays w hkey,hk,MapKept.run_setObj_map _ hb,Result.andThen,setBlock],λw2 val d ps hv hw2=>⟨.map (es.modify j (λx=>{x with key:=key,val:=val})) clock,?_,λw3 hw3=>?_⟩⟩
 rotate_left
 ·obtain⟨w',hr,ho,-⟩:=hup val d ps hv
  have hr2:(Instr.mapUpdate t (.map (ai b)) key val).run P w= .ok () (setBlock w b (.map (es.modify j (λx=>{x with key:=key,val:=val})) clock)):=by
   simp[Instr.mapUpdate,run_underlying ht,MapKept.run_getObj_map hb,Y.check w false hkey,h1,hj,h3,Y.stays w hkey,MapKept.run_setObj_map _ hb,Result.andThen,setBlock]
  exact wH
 have hi:es.findIdx? (λx=>((x.born:Nat):Int)==((e0.born:Nat):Int))=ai j:=by
  rw[WideElems.findIdx_arr]
  exact WideElems.findIdx_born s2 h2
 have hm:es.modify j (λx=>{x with val:=val})=es.modify j (λx=>{x with key:=key,val:=val}):=by
  refine Array.ext' ?_
  rw[Array.toList_modify,Array.toList_modify,modify_eq_set _ _ _ _ h2,modify_eq_set _ _ _ _ h2,<-h3]
 exact ve
end
def fJ (a b c:Int):DataW Unit:= .agg [.lit (.int .i64 a), .lit (.int .i64 b), .lit (.int .i64 c)]
def nh:aw->Option (DataW Unit×List MemPlace)
 | .agg cs=>match cs.toList with
  |[.int .i64 a, .int .i64 b, .int .i64 c]=>ai (fJ a b c,[])
  |_=>ag
 |_=>ag
theorem mK (a b c:Int):nh (.agg #[.int .i64 a, .int .i64 b, .int .i64 c])=ai (fJ a b c,[]):=rfl
theorem kB {v:aw} {a b c:Int} {ps:List MemPlace} (h:nh v=ai (fJ a b c,ps)):v= .agg #[.int .i64 a, .int .i64 b, .int .i64 c]:=by
 unfold nh at h
 split at h
 rotate_left
 ·cases h
 rename_i cs
 split at h
 rotate_left
 ·cases h
 rename_i x y z hc
 simp[fJ]at h
 obtain⟨⟨rfl,rfl,rfl⟩,-⟩:=h
 rw[<-Array.toArray_toList (xs:=cs),hc]
def dk (w:aj) (b m:Nat) (Q:Nat->Nat->Int):Prop:=
 ∃D:DataW Unit,w.ownsMap prog 3 nh b m D/\∀s:Int,match dE (λk=>Q k 0==s) m with
  |some k=>Maps.has D (.int .i64 s)=true/\∀z,D.atKey (.int .i64 s) z=fJ (Q k 0) (Q k 1) (Q k 2)
  |none=>Maps.has D (.int .i64 s)=false/\∀z,D.atKey (.int .i64 s) z=z
theorem dk.made (w:aj) (Q:Nat->Nat->Int):dk (w.alloc (.map #[] 0)) w.heap.size 0 Q:=
 ⟨.map [],aj.ownsMap_made _ _ _ _,λ_=>⟨rfl,λ_=>rfl⟩⟩
theorem dk.lt {w:aj} {b m:Nat} {Q:Nat->Nat->Int} (h:dk w b m Q):b<w.heap.size:=by
 obtain⟨D,h1,_⟩:=h;exact h1.lt
theorem dk.block {w w':aj} {b m:Nat} {Q:Nat->Nat->Int} (h:dk w b m Q) (he:w'.heap[b]?=w.heap[b]?):dk w' b m Q:=by
 obtain⟨D,h1,h2⟩:=h;exact⟨D,fu h1 he,h2⟩
theorem dk.below {w w':aj} {b m:Nat} {Q:Nat->Nat->Int} (h:dk w b m Q) (hb:ap w.heap.size w w'):dk w' b m Q:=h.block (hb.block b h.lt)
theorem jJ:Keyed prog 3:=int_keyed underlying3
theorem nE (w:aj):(zeroValue 264).run prog w= .ok (.agg #[.int .i64 0, .int .i64 0, .int .i64 0]) w:=by kernel_rfl
theorem dk.look {w:aj} {b m:Nat} {Q:Nat->Nat->Int} (h:dk w b m Q) {s:Int} (hs:(Lit.int .i64 s).wf=true):
  match dE (λk=>Q k 0==s) m with
  |some k=>(Instr.lookup 165 (.map (ai b)) (.int .i64 s) true).run prog w= .ok (.tuple #[.agg #[.int .i64 (Q k 0), .int .i64 (Q k 1), .int .i64 (Q k 2)], .bool true]) w
  |none=>(Instr.lookup 165 (.map (ai b)) (.int .i64 s) true).run prog w= .ok (.tuple #[.agg #[.int .i64 0, .int .i64 0, .int .i64 0], .bool false]) w:=by
 obtain⟨D,h1,h2⟩:=h
 obtain⟨v,ps,hr,hv⟩:=h1.look_ok jJ underlying165 (nE w) (mK 0 0 0) (keyOf_int_mk underlying3 hs)
 have h3:=h2 s
 cases hl:dE (λk=>Q k 0==s) m with
 |some k=>
  rw[hl]at h3
  obtain⟨h4,h5⟩:=h3
  rw[h5]at hv
  rw[hr,h4,kB hv]
 |none=>
  rw[hl]at h3
  obtain⟨h4,h5⟩:=h3
  rw[h5]at hv
  rw[hr,h4,kB hv]
theorem dk.step {D:DataW Unit} {m:Nat} {Q:Nat->Nat->Int} (him:IsMap D) (h:∀s:Int,match dE (λk=>Q k 0==s) m with
  |some k=>Maps.has D (.int .i64 s)=true/\∀z,D.atKey (.int .i64 s) z=fJ (Q k 0) (Q k 1) (Q k 2)
  |none=>Maps.has D (.int .i64 s)=false/\∀z,D.atKey (.int .i64 s) z=z):
  ∀s:Int,match dE (λk=>Q k 0==s) (m+1)with
  |some k=>Maps.has (D.put (.int .i64 (Q m 0)) (fJ (Q m 0) (Q m 1) (Q m 2))) (.int .i64 s)=true/\∀z,(D.put (.int .i64 (Q m 0)) (fJ (Q m 0) (Q m 1) (Q m 2))).atKey (.int .i64 s) z=fJ (Q k 0) (Q k 1) (Q k 2)
  |none=>Maps.has (D.put (.int .i64 (Q m 0)) (fJ (Q m 0) (Q m 1) (Q m 2))) (.int .i64 s)=false/\∀z,(D.put (.int .i64 (Q m 0)) (fJ (Q m 0) (Q m 1) (Q m 2))).atKey (.int .i64 s) z=z:=by
 intro s
 have hk:WideAt.IsKeyLit (.int .i64 (Q m 0)):=by simp[WideAt.IsKeyLit]
 cases hs:(Q m 0==s)with
 |true=>
  obtain rfl:Q m 0=s:=by simpa using hs
  rw[show dE (λk=>Q k 0==Q m 0) (m+1)=ai m from by simp[dE]]
  exact⟨has_put_same him hk _,λz=>atKey_put_same him hk _ _⟩
 |false=>
  have hne:Lit.int .i64 s≠Lit.int .i64 (Q m 0):=λe=>by cases e;simp at hs
  rw[show dE (λk=>Q k 0==s) (m+1)=dE (λk=>Q k 0==s) m from by simp[dE,hs]]
  have h3:=h s
  cases hl:dE (λk=>Q k 0==s) m with
  |some k=>
   exact wC
  |none=>
   exact wC
end
section
open Tryz
open Go.RowKit
def tB (n:Int):Bool:=aI n (-2000000000) 2000000000
def q9 (R:Nat->Nat->Int) (i:Nat):Option Int:=if aI (R i 0) 0 1000000 then ai 7 else ag
def rl (cx cy size cols rows:Int):Bool:=tB cx||(tB cy||(aI size 1 100000||(aI cols 1 20||aI rows 1 20)))
def uA (cx cy size cols rows:Int) (np:Nat) (R:Nat->Nat->Int):Int×Int×Int:=
 if rl cx cy size cols rows then(1,0,7)else if((np:Int) != cols*rows)then(2,0,2)else match aB (q9 R) np 0 with
  |some (i,e)=>(2,((i:Nat):Int),e)
  |none=>(0,0,0)
theorem kI (p:Nat->Bool):∀(n k:Nat),cH p n k=match aB (λi=>if p i then ai 7 else ag) n k with
  |some (i,_)=>((i:Nat):Int)
  |none=>-1
 |0,_=>rfl
 |n+1,k=>by
  simp only[cH,aB]
  cases p k with
  |true=>rfl
  |false=>simp only[Bool.false_eq_true,if_false];exact kI p n (k+1)
theorem iO (p:Nat->Bool):∀(n k:Nat) {i:Nat} {e:Int},aB (λi=>if p i then ai 7 else ag) n k=ai (i,e)->e=7
 |0,_,_,_,h=>by cases h
 |n+1,k,i,e,h=>by
  simp only[aB]at h
  cases hp:p k with
  |true=>rw[hp]at h;simp at h;exact h.2.symm
  |false=>rw[hp]at h;exact iO p n (k+1) h
def vr (S:Nat->Nat->Int) (i:Nat):Bool:=if i=0 then false else decide (S i 0<=S (i - 1) 0)
def nD (S:Nat->Nat->Int) (i:Nat):Option Int:=
 if vr S i then ai 2 else if aI (S i 0) 0 100000||((tB (S i 1)||tB (S i 2))||(aI (S i 3) 0 2000000000||aI (S i 4) 0 2000000000))then ai 7 else ag
def oo (nm:ByteArray) (sp cl lo hi:Int) (n:Nat) (S:Nat->Nat->Int):Int×Int:=
 if !dq nm.data.toList then(-1,6)else if aI sp 0 1000000||(aI cl 0 1000000||(aI hi 0 2000000000||aI lo 0 hi))then(-1,7)else if aI n 1 10 then(-1,3)
 else match aB (nD S) n 0 with
  |some (i,e)=>(((i:Nat):Int),e)
  |none=>(0,0)
theorem vP (sp cl lo hi:Int):(aI sp 0 1000000||(aI cl 0 1000000||(aI hi 0 2000000000||aI lo 0 hi)))=(aI sp 0 1000000||(aI cl 0 1000000||(aI lo 0 2000000000||aI hi lo 2000000000))):=by
 unfold aI;rw[Bool.eq_iff_iff];simp;omega
def E2 (w:aj) (r:Int×Int) (e:Ending) (w':aj):Prop:=e=ar (.tuple #[M U r.1,M U r.2])/\ap w.heap.size w w'
theorem bX (n lo hi:Int) (w:aj):
  aC prog 84 #[M U n,M U lo,M U hi] w λe w'=>e=ar (aA (aI n lo hi))/\w=w':=by
 go_enter func84,ntmps84
 exact iP
theorem fi (n:Int) (w:aj):
  aC prog 83 #[M U n] w λe w'=>e=ar (aA (tB n))/\w=w':=by
 go_enter func83,ntmps83
 go_wp2_with fail
 refine eH (bX _ _ _ _) ?_
 exact ly
theorem ct (n lo hi:Int) (w:aj):
  aC prog 114 #[M U n,M U lo,M U hi] w λe w'=>e=ar (aA (!aI n lo hi))/\w=w':=by
 go_enter func114,ntmps114
 exact iP
theorem iA (n:Int) (w:aj):
  aC prog 184 #[M U n] w λe w'=>e=ar (aA (!tB n))/\w=w':=by
 go_enter func184,ntmps184
 go_wp2_with fail
 refine eH (ct _ _ _ _) ?_
 exact ly
theorem fX (x y:Int) (w:aj):
  aC prog 113 #[aN #[M U x,M U y]] w λe w'=>e=ar (aA (!(tB x||tB y)))/\ap w.heap.size w w':=by
 obtain⟨W0,xb,HW0,hC,hB⟩:=eB w 30 #[M U x,M U y]
 go_enter func113,ntmps113
 go_upto_region 1 with fail
 rw[HW0.out.1,HW0.out.2]
 clear HW0
 have xx:=bA hC
 go_wp2_with fail
 refine aR (iA _ _) ?_
 rintro(_|_) g0
 rotate_left
 ·exact uM
 go_wp2_with fail
 refine aR (iA _ _) ?_
 rintro(_|_) g1
 ·exact uM
 exact uM
theorem mD (n:Int) (w:aj):
  aC prog 86 #[M U n] w λe w'=>e=ar (aA (aI n 0 1000000))/\ap w.heap.size w w':=by
 go_enter func86,ntmps86
 go_wp2_with fail
 refine eH (bX _ _ _ _) ?_
 exact mE
theorem o9 {c r:Int} (h1:aI c 1 20=false) (h2:aI r 1 20=false):0<=c*r/\c*r<=400:=by
 have a:=aW.1 h1
 have b:=aW.1 h2
 exact⟨Int.mul_nonneg om om,Int.le_trans (Int.mul_le_mul (c:=20) (d:=20) a.2 b.2 om om) om⟩
theorem ox (cx cy size cols rows:Int) (np:Nat) (R:Nat->Nat->Int) (pv:aw) (w:aj) (hRp:aU w pv np 1 (bw R)):
  aC prog 24 #[aN #[M U cx,M U cy,M U size,M U cols,M U rows,pv]] w (E3 w (uA cx cy size cols rows np R)):=by
 obtain⟨pa,pc,rfl,hpc,hx⟩:=id hRp
 have HRp:=af hRp
 clear hRp
 obtain⟨W0,xb,HW0,hC,hB⟩:=eB w 44 #[M U cx,M U cy,M U size,M U cols,M U rows,T pa np pc]
 obtain⟨r,HS⟩:=dR (uA cx cy size cols rows np R)
 rw[<-HS.out]
 go_enter func24,ntmps24
 go_upto_region 1 with fail
 rw[HW0.out.1,HW0.out.2]
 clear HW0
 have xx:=aH hC
 go_wp2_with fail
 refine bm (fi _ _) ?_
 rintro(_|_) g0
 rotate_left
 ·go_wp2_with fail
  exact eZ
 go_wp2_with fail
 refine bm (fi _ _) ?_
 rintro(_|_) g1
 rotate_left
 ·go_wp2_with fail
  exact eZ
 go_wp2_with fail
 refine bm (bX _ _ _ _) ?_
 rintro(_|_) g2
 rotate_left
 ·go_wp2_with fail
  exact eZ
 go_wp2_with fail
 refine bm (bX _ _ _ _) ?_
 rintro(_|_) g3
 rotate_left
 ·go_wp2_with fail
  exact eZ
 go_wp2_with fail
 refine bm (bX _ _ _ _) ?_
 rintro(_|_) g4
 rotate_left
 ·go_wp2_with fail
  exact eZ
 have hp:=o9 g3 g4
 have q1:=aD (cols*rows) ⟨by omega,by omega⟩
 by_cases kd:(np:Int)=cols*rows
 rotate_left
 ·exact wA
 have kn:((np:Int) != cols*rows)=false:=by simpa using kd
 have hnp:np<=1125899906842624:=om
 have HI:=af (λW h=>iJ 86 (λ_ _=>by kernel_rfl) np R (λi=>aI (R i 0) 0 1000000) _ W (HRp.out.below h) hnp (λi W _ _=>mD _ W))
 have hi0:=kI (λi=>aI (R i 0) 0 1000000) np 0
 have h7:=λi e=>iO (λi=>aI (R i 0) 0 1000000) np 0 (i:=i) (e:=e)
 rw[show(λi=>if aI (R i 0) 0 1000000=true then ai 7 else ag)=q9 R from rfl]at hi0 h7
 have HI0:=af hi0
 have H7:=af h7
 clear hi0 h7 kd hp
 go_wp2_with fail
 refine aZ (HI.out _ hB) ?_
 intro w1 hb
 obtain⟨hC,hB⟩:=bS hC hB hb
 rw[HI0.out]
 cases hf:aB (q9 R) np 0 with
 |none=>
  dsimp only
  go_wp2_with fail
  exact eZ
 |some x=>
  obtain⟨i,e⟩:=x
  obtain rfl:=H7.out i e hf
  dsimp only
  clear HI HI0 H7
  go_wp2_with fail
  exact eZ
theorem mN (cx cy size cols rows:Int) (np:Nat) (R:Nat->Nat->Int) (pv:aw) (w:aj) (hRp:aU w pv np 1 (bw R)):
  aC prog 37 #[aN #[M U cx,M U cy,M U size,M U cols,M U rows,pv]] w (E3 w (uA cx cy size cols rows np R)):=by
 obtain⟨pa,pc,rfl,hpc,hx⟩:=id hRp
 have HRp:=af hRp
 clear hRp
 obtain⟨W0,xb,HW0,hC,hB⟩:=eB w 44 #[M U cx,M U cy,M U size,M U cols,M U rows,T pa np pc]
 obtain⟨r,HS⟩:=dR (uA cx cy size cols rows np R)
 rw[<-HS.out]
 go_enter func37,ntmps37
 go_upto_region 1 with fail
 rw[HW0.out.1,HW0.out.2]
 clear HW0
 have xx:=aH hC
 go_wp2_with fail
 refine cg (fX _ _ _) ?_
 rintro(_|_) w1 g0 hb<;>obtain⟨hC,hB⟩:=bS hC hB hb
 rotate_left
 ·go_wp2_with fail
  go_ret3
  refine⟨?_,hB⟩
  rw[HS.out]
  unfold uA rl
  rw[<-Bool.or_assoc,g0]
  simp
 rw[Bool.or_eq_false_iff]at g0
 obtain⟨ga,gb⟩:=g0
 have xx:=aH hC
 go_wp2_with fail
 refine aR (ct _ _ _ _) ?_
 rintro(_|_) g1
 rotate_left
 ·go_wp2_with fail
  exact eZ
 go_wp2_with fail
 refine aR (ct _ _ _ _) ?_
 rintro(_|_) g2
 rotate_left
 ·go_wp2_with fail
  exact eZ
 go_wp2_with fail
 refine aR (ct _ _ _ _) ?_
 rintro(_|_) g3
 rotate_left
 ·go_wp2_with fail
  exact eZ
 have hp:=o9 g2 g3
 have q1:=aD (cols*rows) ⟨by omega,by omega⟩
 by_cases kd:(np:Int)=cols*rows
 rotate_left
 ·exact wA
 have kn:((np:Int) != cols*rows)=false:=by simpa using kd
 have hnp:np<=1125899906842624:=om
 go_wp2_with fail
 go_loopw [5] (λi wr=>∃j:Nat,j<=np/\i=M U j/\bj (aB (q9 R) np 0=aB (q9 R) (np - j) j)/\am wr xb 44 #[M U cx,M U cy,M U size,M U cols,M U rows,T pa np pc]/\ap w.heap.size w wr) (λi _=>np - (aV i).toNat)
 case atStart=>exact⟨0,aF _,rfl,show _=_ from rfl,hC,hB⟩
 case round=>
  clear hC hB
  obtain⟨j,hj,rfl,HJ,hC,hB⟩:=hrel
  by_cases hlt:j<np
  rotate_left
  ·obtain rfl:np=j:=om
   have HE:=af (HJ.out.trans (bh (q9 R) np))
   have hE:=HE.out
   clear HJ HE
   have xx:=aH hC
   go_wp2_with fail
   exact eZ
  have HF:=af (HJ.out.trans (bf (q9 R) hlt))
  obtain⟨q,hq⟩:∃q,q=q9 R j:=⟨_,rfl⟩
  rw[<-hq]at HF
  unfold q9 at hq
  have HQ:=af hq
  clear hq HJ
  obtain⟨bb,bo,rfl,bl,hc⟩:=(HRp.out.below hB).elem hlt
  have e0:wr.cell? ⟨bb,bo+j,ag⟩=ai (M U (R j 0)):=eI hc
  have i2:(j:Int)<(np:Int):=om
  have xx:=aH hC
  go_wp2_with fail
  refine aR (ct _ _ _ _) ?_
  rintro(_|_) g0
  rotate_left
  ·have hJ:=HF.out
   rw[HQ.out]at hJ
   simp[*]at hJ
   clear HF HQ
   go_wp2_with fail
   exact eZ
  have HJ2:bj (aB (q9 R) np 0=aB (q9 R) (np - (j+1)) (j+1)):=by
   exact gM
  exact qG
end
section
open Tryz
open Go.RowKit Go.Maps Go.ChangeMaps
variable {v1 v2 v3 v4 v6 v7 v9 v10 v11 v12 v13 v14 v15 v16 v17 v18 v19 v20 v21 v22 v23 v24 v25 v26 v27 v28 v29 v30 v31 v32 v33 v34 v35 v36 v37 v38 v39 v40 v41 v42 v43 v44 v45 v46 v47 v48 v49 v50 v51 v52 v53 v54 v55 v56 v57 v58 v59 v60 v61 v62 v63 v64 v65 v66 v67 v68 v69 v70 v71 v72 v73 v74 v75 v76 v77 v78 v79 v80 v81 v82 v83 v84 v85 v86 v87 v88 v89 v90 v91 v92 v93 v94 v95 v96 v97 v98 v99 v100 v101 v102 v103 v104 v105:aw}
theorem cG.step {P:Program} {k:aT} {m:Nat} {K:Nat->aw} {D:DataW Unit} (Y:Keyed P k) (him:IsMap D) {x:aw} {l:Lit} (hx:keyOf P k x=ai l) (hKm:K m=x)
  (h2:∀i,i<m->∃l,keyOf P k (K i)=ai l/\∀z,D.atKey l z= .lit (.bool true)) (h3:∀l z,(∀i,i<m->keyOf P k (K i)≠ai l)->D.atKey l z=z):
  (∀i,i<m+1->∃l',keyOf P k (K i)=ai l'/\∀z,(D.put l (.lit (.bool true))).atKey l' z= .lit (.bool true))/\∀l' z,(∀i,i<m+1->keyOf P k (K i)≠ai l')->(D.put l (.lit (.bool true))).atKey l' z=z:=by
 refine⟨λi hi=>?_,λl' z hn=>?_⟩
 rotate_left
 ·exact T91
 by_cases e:K i=x
 ·exact⟨l,by rw[e];exact hx,λz=>atKey_put_same him (Y.key hx) _ _⟩
 exact T44
theorem dV (w:aj) {b i:Nat} (o:Obj) (h:i≠b):(setBlock w b o).heap[i]?=w.heap[i]?:=by
 simp[setBlock,Array.getElem?_setIfInBounds,Ne.symm h]
theorem gv (w:aj) {b:Nat} (o:Obj) (h:b<w.heap.size):(setBlock w b o).heap[b]?=ai o:=by
 simp[setBlock,Array.getElem?_setIfInBounds,h]
theorem gx (w:aj) (b:Nat) (o:Obj):(setBlock w b o).heap.size=w.heap.size:=by simp[setBlock]
theorem fC {B:Nat} {w w':aj} (h:ap B w w') {b:Nat} (hb:B<=b) (o:Obj):ap B w (setBlock w' b o):=
 ⟨h.os,h.tape,h.output,by rw[gx];exact h.size,λk hk=>(dV w' o om).trans (h.block k hk)⟩
def qF (sm lm:Nat) (w w':aj):Prop:=∀i,i<w.heap.size->i≠sm->i≠lm->w'.heap[i]?=w.heap[i]?
theorem qF.cell {sm lm:Nat} {w w':aj} (h:qF sm lm w w') {b:Nat} (hb:b<w.heap.size) (h1:b≠sm) (h2:b≠lm) (i:Nat):w'.cell? ⟨b,i,ag⟩=w.cell? ⟨b,i,ag⟩:=by
 have:=h b hb h1 h2
 simp[aj.cell?,this]
theorem qF.set {sm lm:Nat} {w w':aj} (h:qF sm lm w w') {b:Nat} (hb:b=sm\/b=lm) (o:Obj):qF sm lm w (setBlock w' b o):=λi hi h1 h2=>
 (dV w' o (λe=>by rcases hb with rfl|rfl<;>omega)).trans (h i hi h1 h2)
theorem lq {yb lb sm lm pb j B:Nat} {b0 b1 b2 b3 b4:Int} {c:Code} (hc:c=et f73 11) {wc:aj} {Q:Exit->Act->aj->Prop} {K:Nat->aw} {R:Nat->Nat->Int}
 (hL:am wc lb 167 #[.map (ai sm), .map (ai lm)]) (hP:am wc pb 264 #[M U b0,M U b1,M U b2]) (hC2:am wc yb 169 #[M U b0,M U b1,M U b2,M U b3,M U b4]) (hM:cG prog 264 wc sm j K) (hT:dk wc lm j R)
 (hKj:K j= .agg #[.int .i64 b0, .int .i64 b1, .int .i64 b2]) (hR0:R j 0=b0) (hR1:R j 1=b1) (hR2:R j 2=b2) (wa:(Lit.int .i64 b0).wf=true) (wb:(Lit.int .i64 b1).wf=true) (wd:(Lit.int .i64 b2).wf=true) (hj:j<cF)
 (hne:sm≠lm) (l1:lb≠sm) (l2:lb≠lm) (p1:pb≠sm) (p2:pb≠lm) (y1:yb≠sm) (y2:yb≠lm) (hB1:B<=sm) (hB2:B<=lm)
 (hK:∀(u90 u91 u92 u93 u94 u95 u96 u97 u98 u99 u100 u101 u102 u103 u104 u105:aw) (w':aj),ap B wc w'->cG prog 264 w' sm (j+1) K->dk w' lm (j+1) R->am w' lb 167 #[.map (ai sm), .map (ai lm)]->
  Q bk {tmps:=#[ax (ai ⟨lb,0,ag⟩),v1,v2,v3,v4,ax (ai ⟨yb,0,ag⟩),v6,v7,ax (ai ⟨pb,0,ag⟩),v9,v10,v11,v12,v13,v14,v15,v16,v17,v18,v19,v20,v21,v22,v23,v24,v25,v26,v27,v28,v29,v30,v31,v32,v33,v34,v35,v36,v37,v38,v39,v40,v41,v42,v43,v44,v45,v46,v47,v48,v49,v50,v51,v52,v53,v54,v55,v56,v57,v58,v59,v60,v61,v62,v63,v64,v65,v66,v67,v68,v69,v70,v71,v72,v73,v74,v75,v76,v77,v78,v79,v80,v81,v82,v83,v84,v85,v86,v87,v88,v89,u90,u91,u92,u93,u94,u95,u96,u97,u98,u99,u100,u101,u102,u103,u104,u105],defers:=[]} w'):
 bi prog c Q {tmps:=#[ax (ai ⟨lb,0,ag⟩),v1,v2,v3,v4,ax (ai ⟨yb,0,ag⟩),v6,v7,ax (ai ⟨pb,0,ag⟩),v9,v10,v11,v12,v13,v14,v15,v16,v17,v18,v19,v20,v21,v22,v23,v24,v25,v26,v27,v28,v29,v30,v31,v32,v33,v34,v35,v36,v37,v38,v39,v40,v41,v42,v43,v44,v45,v46,v47,v48,v49,v50,v51,v52,v53,v54,v55,v56,v57,v58,v59,v60,v61,v62,v63,v64,v65,v66,v67,v68,v69,v70,v71,v72,v73,v74,v75,v76,v77,v78,v79,v80,v81,v82,v83,v84,v85,v86,v87,v88,v89,v90,v91,v92,v93,v94,v95,v96,v97,v98,v99,v100,v101,v102,v103,v104,v105],defers:=[]} wc:=by
 subst hc
 conv=>arg 2;whnf
 have HKK:=af hK
 have HR:bj (∀w':aj,qF sm lm wc w'->w'.cell? ⟨lb,0,ag⟩=ai (.map (ai sm))/\w'.cell? ⟨lb,1,ag⟩=ai (.map (ai lm))/\w'.cell? ⟨pb,0,ag⟩=ai (M U b0)/\w'.cell? ⟨pb,1,ag⟩=ai (M U b1)/\w'.cell? ⟨pb,2,ag⟩=ai (M U b2)/\w'.cell? ⟨yb,0,ag⟩=ai (M U b0)):=show∀w',_->_ from λw' hb=>⟨(hb.cell hL.lt l1 l2 0).trans (hL.cell 0),(hb.cell hL.lt l1 l2 1).trans (hL.cell 1),(hb.cell hP.lt p1 p2 0).trans (hP.cell 0),(hb.cell hP.lt p1 p2 1).trans (hP.cell 1),(hb.cell hP.lt p1 p2 2).trans (hP.cell 2),(hb.cell hC2.lt y1 y2 0).trans (hC2.cell 0)⟩
 clear hK
 have hlb:=hL.lt
 obtain⟨D1,ho1,hk1,hk2⟩:=hM
 obtain⟨D2,ho2,hl⟩:=hT
 have s1:=ho1.lt
 have s2:=ho2.lt
 obtain⟨l,hkey⟩:=lj wa wb wd
 have hcw:am wc lb 167 #[.map (ai sm), .map (ai lm)]:=hL
 clear hL hP hC2
 have hS0:qF sm lm wc wc.drew:=λi _ _ _=>rfl
 have ho1d:wc.drew.ownsMap prog 264 (plainElem prog 4) sm j D1:=fu ho1 rfl
 obtain⟨v0,st,o1,hr1,hst1⟩:=iy ho1d fF underlying164 jw hj hkey
 obtain⟨W1,hW1⟩:∃W1,W1=setBlock wc.drew sm o1:=⟨_,rfl⟩
 have hS1:qF sm lm wc W1:=by rw[hW1];exact hS0.set (.inl rfl) _
 have hB1w:ap B wc W1:=by rw[hW1];exact fC (au _ _).drew hB1 _
 obtain⟨o2,hr2,hown1⟩:=hst1 W1 (.bool true) (.lit (.bool true)) [] (plainElem_bool underlying4 true) (by rw[hW1];exact gv _ _ s1)
 obtain⟨W2,hW2⟩:∃W2,W2=setBlock W1 sm o2:=⟨_,rfl⟩
 have hS2:qF sm lm wc W2:=by rw[hW2];exact hS1.set (.inl rfl) _
 have hB2w:ap B wc W2:=by rw[hW2];exact fC hB1w hB1 _
 have hz1:W1.heap.size=wc.heap.size:=by rw[hW1,gx];rfl
 have hz2:W2.heap.size=wc.heap.size:=by rw[hW2,gx,hz1]
 have hsm2:W2.heap[sm]?=ai o2:=by rw[hW2];exact gv _ _ om
 have ho2d:W2.ownsMap prog 3 nh lm j D2:=fu ho2 (by rw[hW2,dV _ _ hne.symm,hW1,dV _ _ hne.symm];rfl)
 obtain⟨v1,su,o3,hr3,hst2⟩:=iy ho2d jJ underlying165 nE hj (keyOf_int_mk underlying3 wa)
 obtain⟨W3,hW3⟩:∃W3,W3=setBlock W2 lm o3:=⟨_,rfl⟩
 have hS3:qF sm lm wc W3:=by rw[hW3];exact hS2.set (.inr rfl) _
 have hB3w:ap B wc W3:=by rw[hW3];exact fC hB2w hB2 _
 have hz3:W3.heap.size=wc.heap.size:=by rw[hW3,gx,hz2]
 obtain⟨o4,hr4,hown2⟩:=hst2 W3 (aN #[M U b0,M U b1,M U b2]) (fJ b0 b1 b2) [] (mK b0 b1 b2) (by rw[hW3];exact gv _ _ om)
 obtain⟨W4,hW4⟩:∃W4,W4=setBlock W3 lm o4:=⟨_,rfl⟩
 have hS4:qF sm lm wc W4:=by rw[hW4];exact hS3.set (.inr rfl) _
 have hB4w:ap B wc W4:=by rw[hW4];exact fC hB3w hB2 _
 have e1:=hown1 W4 (by rw[hW4,dV _ _ hne,hW3,dV _ _ hne];exact hsm2)
 have e2:=hown2 W4 (by rw[hW4];exact gv _ _ om)
 have f1:cG prog 264 W4 sm (j+1) K:=⟨_,e1,cG.step fF ho1.isMap hkey hKj hk1 hk2⟩
 have f2:dk W4 lm (j+1) R:=⟨_,e2,by have h:=dk.step (Q:=R) (m:=j) ho2.isMap hl;rw[hR0,hR1,hR2]at h;exact h⟩
 have f3:am W4 lb 167 #[.map (ai sm), .map (ai lm)]:=(hS4 lb hlb l1 l2).trans hcw
 rw[<-hW1]at hr1
 rw[<-hW2]at hr2
 rw[<-hW3]at hr3
 rw[<-hW4]at hr4
 have F1:=af f1
 have F2:=af f2
 have F3:=af f3
 clear f1 f2 f3 e1 e2 hW1 hW2 hW3 hW4 hst1 hst2 hown1 hown2 hk1 hk2 hl ho1 ho2 ho1d ho2d hsm2 hkey hz1 hz2 hz3 hKj hR0 hR1 hR2 hcw hlb s1 s2 wa wb wd hB1w hB2w hB3w
 simp only[goInt]at hr1 hr2 hr3 hr4
 refine wp_region_noPanic ?_
 refine wp_region_held_drew (S:=qF sm lm wc) kr hS0 (λ_=>?_)
 refine br 0 hS0 ?_
 refine br 1 hS0 ?_
 refine br 2 hS0 ?_
 refine br 3 hS0 ?_
 refine br 4 hS0 ?_
 refine br 5 hS0 ?_
 refine br 6 hS0 ?_
 refine br 7 hS0 ?_
 refine br 8 hS0 ?_
 refine br 9 hS0 ?_
 refine br 10 hS0 ?_
 refine br 11 hS0 ?_
 refine cL 12 (λK' hK'=>?_)
 refine bO hK' hS1 ?_
 clear hK' K'
 refine br 13 hS1 ?_
 refine cL 14 (λK' hK'=>?_)
 refine bO hK' hS2 ?_
 clear hK' K'
 refine cL 15 (λK' hK'=>?_)
 refine bO hK' hS3 ?_
 clear hK' K'
 refine br 16 hS3 ?_
 refine cL 17 (λK' hK'=>?_)
 refine bO hK' hS4 ?_
 clear hK' K'
 refine eL ?_
 exact HKK.out _ _ _ _ _ _ _ _ _ _ _ _ _ _ _ _ _ hB4w F1.out F2.out F3.out
end
section
open Tryz
open Go.RowKit
theorem oQ (nm:ByteArray) (sp cl lo hi:Int) (n:Nat) (S:Nat->Nat->Int) (sv:aw) (w:aj) (hnm:nm.size<=9223372036854775806) (hRs:aU w sv n 5 (bw S)):
  aC prog 27 #[aN #[ay nm,M U sp,M U cl,M U lo,M U hi,sv]] w (E2 w (oo nm sp cl lo hi n S)):=by
 obtain⟨sa,sc,rfl,hsc,hx⟩:=id hRs
 have HRs:=af hRs
 clear hRs
 obtain⟨W0,xb,HW0,hC,hB⟩:=eB w 108 #[ay nm,M U sp,M U cl,M U lo,M U hi,T sa n sc]
 obtain⟨r,HS⟩:=dR (oo nm sp cl lo hi n S)
 rw[<-HS.out]
 go_enter func27,ntmps27
 go_upto_region 1 with fail
 rw[HW0.out.1,HW0.out.2]
 clear HW0
 obtain⟨x0,x1,x2,x3,x4,x5⟩:=aH hC
 go_wp2_with fail
 refine bH (cS _ _ hnm) ?_
 rintro(_|_) w1 gn hb<;>(try replace hC:=hC.below hb;replace hB:=ak hB hb;clear hb)
 ·go_wp2_with fail
  exact iF
 obtain⟨x0,x1,x2,x3,x4,x5⟩:=aH hC
 go_wp2_with fail
 refine bm (bX _ _ _ _) ?_
 rintro(_|_) g0
 rotate_left
 ·go_wp2_with fail
  exact iF
 go_wp2_with fail
 refine bm (bX _ _ _ _) ?_
 rintro(_|_) g1
 rotate_left
 ·go_wp2_with fail
  exact iF
 go_wp2_with fail
 refine bm (bX _ _ _ _) ?_
 rintro(_|_) g2
 rotate_left
 ·go_wp2_with fail
  exact iF
 go_wp2_with fail
 refine bm (bX _ _ _ _) ?_
 rintro(_|_) g3
 rotate_left
 ·go_wp2_with fail
  exact iF
 go_wp2_with fail
 refine bm (bX _ _ _ _) ?_
 rintro(_|_) gl
 rotate_left
 ·go_wp2_with fail
  exact iF
 have hn:=aW.1 gl
 go_wp2_with fail
 go_loopw [40] (λi wr=>∃j:Nat,j<=n/\i=M U j/\bj (aB (nD S) n 0=aB (nD S) (n - j) j)/\am wr xb 108 #[ay nm,M U sp,M U cl,M U lo,M U hi,T sa n sc]/\ap w.heap.size w wr) (λi _=>n - (aV i).toNat)
 case atStart=>exact⟨0,aF _,rfl,show _=_ from rfl,hC,hB⟩
 case round=>
  clear hC hB
  obtain⟨j,hj,rfl,HJ,hC,hB⟩:=hrel
  by_cases hlt:j<n
  rotate_left
  ·obtain rfl:n=j:=om
   have HE:=af (HJ.out.trans (bh (nD S) n))
   have hE:=HE.out
   clear HJ HE
   go_wp2_with fail
   exact iF
  have HF:=af (HJ.out.trans (bf (nD S) hlt))
  obtain⟨q,hq⟩:∃q,q=nD S j:=⟨_,rfl⟩
  rw[<-hq]at HF
  unfold nD at hq
  have HQ:=af hq
  clear hq HJ
  have i2:(j:Int)<(n:Int):=om
  rcases j with _|k
  ·have hG:vr S 0=false:=rfl
   rw[hG]at HQ
   obtain⟨bb,bo,rfl,bl,hc⟩:=(HRs.out.below hB).elem hlt
   have e0:wr.cell? ⟨bb,bo+0*5,ag⟩=ai (M U (S 0 0)):=hc 0 om
   have e1:wr.cell? ⟨bb,bo+0*5+1,ag⟩=ai (M U (S 0 1)):=hc 1 om
   have e2:wr.cell? ⟨bb,bo+0*5+2,ag⟩=ai (M U (S 0 2)):=hc 2 om
   have e3:wr.cell? ⟨bb,bo+0*5+3,ag⟩=ai (M U (S 0 3)):=hc 3 om
   have e4:wr.cell? ⟨bb,bo+0*5+4,ag⟩=ai (M U (S 0 4)):=hc 4 om
   generalize S 0 0=b0 at *
   generalize S 0 1=b1 at *
   generalize S 0 2=b2 at *
   generalize S 0 3=b3 at *
   generalize S 0 4=b4 at *
   rw[Nat.zero_mul,bq]at e0 e1 e2 e3 e4
   obtain⟨x0,x1,x2,x3,x4,x5⟩:=aH hC
   go_upto_region 10 with fail
   have hD:=aK wr (.cells #[M U b0,M U b1,M U b2,M U b3,M U b4] 194)
   have hba:=aP (au wr.heap.size wr) (.cells #[M U b0,M U b1,M U b2,M U b3,M U b4] 194)
   (try replace hM:=cG.below hM hba)
   try replace hC:=hC.below hba
   replace hB:=ak hB hba
   generalize wr.alloc (.cells #[M U b0,M U b1,M U b2,M U b3,M U b4] 194)=w1 at *
   generalize wr.heap.size=db at *
   have hD:am w1 db 194 #[M U b0,M U b1,M U b2,M U b3,M U b4]:=hD
   obtain⟨d0,d1,d2,d3,d4⟩:=aL hD
   go_quiet (fail)
   have hb:=aM (au w1.heap.size w1) nq
   try replace hC:=hC.below hb
   try replace hD:=hD.below hb
   try replace hM:=hM.below hb
   replace hB:=ak hB hb
   generalize w1.drewN nq=w2 at *
   obtain⟨d0,d1,d2,d3,d4⟩:=aL hD
   go_wp2_with fail
   refine bm (bX _ _ _ _) ?_
   rintro(_|_) g3
   rotate_left
   ·exact jI
   go_wp2_with fail
   refine bm (fi _ _) ?_
   rintro(_|_) g4
   rotate_left
   ·exact jI
   go_wp2_with fail
   refine bm (fi _ _) ?_
   rintro(_|_) g5
   rotate_left
   ·exact jI
   go_wp2_with fail
   refine bm (bX _ _ _ _) ?_
   rintro(_|_) g6
   rotate_left
   ·exact jI
   go_wp2_with fail
   refine bm (bX _ _ _ _) ?_
   rintro(_|_) g7
   rotate_left
   ·exact jI
   exact T40
  have hG:vr S (k+1)=decide (S (k+1) 0<=S k 0):=rfl
  rw[hG]at HQ
  clear hG
  obtain⟨bb,bo,rfl,bl,hc⟩:=(HRs.out.below hB).elem hlt
  have e0:wr.cell? ⟨bb,bo+(k+1)*5,ag⟩=ai (M U (S (k+1) 0)):=hc 0 om
  have e1:wr.cell? ⟨bb,bo+(k+1)*5+1,ag⟩=ai (M U (S (k+1) 1)):=hc 1 om
  have e2:wr.cell? ⟨bb,bo+(k+1)*5+2,ag⟩=ai (M U (S (k+1) 2)):=hc 2 om
  have e3:wr.cell? ⟨bb,bo+(k+1)*5+3,ag⟩=ai (M U (S (k+1) 3)):=hc 3 om
  have e4:wr.cell? ⟨bb,bo+(k+1)*5+4,ag⟩=ai (M U (S (k+1) 4)):=hc 4 om
  obtain⟨vb,vo,hq,-,hc2⟩:=(HRs.out.below hB).elem (show k<n by omega)
  obtain⟨rfl,rfl⟩:bb=vb/\bo=vo:=by simpa using hq
  have f0:wr.cell? ⟨bb,bo+k*5,ag⟩=ai (M U (S k 0)):=hc2 0 om
  clear hc hc2 hq
  generalize S (k+1) 0=b0 at *
  generalize S (k+1) 1=b1 at *
  generalize S (k+1) 2=b2 at *
  generalize S (k+1) 3=b3 at *
  generalize S (k+1) 4=b4 at *
  generalize S k 0=p0 at *
  go_upto_region 10 with fail
  have hf:=(aP (au wr.heap.size wr) (.cells #[M U b0,M U b1,M U b2,M U b3,M U b4] 194)).cell (p:=⟨bb,bo+k*5,ag⟩) bl
  rw[f0]at hf
  have hD:=aK wr (.cells #[M U b0,M U b1,M U b2,M U b3,M U b4] 194)
  have hba:=aP (au wr.heap.size wr) (.cells #[M U b0,M U b1,M U b2,M U b3,M U b4] 194)
  (try replace hM:=cG.below hM hba)
  try replace hC:=hC.below hba
  replace hB:=ak hB hba
  generalize wr.alloc (.cells #[M U b0,M U b1,M U b2,M U b3,M U b4] 194)=w1 at *
  generalize wr.heap.size=db at *
  have hD:am w1 db 194 #[M U b0,M U b1,M U b2,M U b3,M U b4]:=hD
  obtain⟨d0,d1,d2,d3,d4⟩:=aL hD
  obtain⟨x0,x1,x2,x3,x4,x5⟩:=aH hC
  have q1:=aD ((k:Int)+1 - 1) ⟨by omega,by omega⟩
  have q2:=aD (k:Int) ⟨by omega,by omega⟩
  have q3:(k:Int)<(n:Int):=om
  have q4:(0:Int)<(k:Int)+1:=om
  by_cases kd:b0<=p0
  ·have k1:decide (b0<=p0)=true:=decide_eq_true kd
   go_quiet (fail)
   have hb:=aM (au w1.heap.size w1) nq
   try replace hC:=hC.below hb
   try replace hD:=hD.below hb
   try replace hM:=hM.below hb
   replace hB:=ak hB hb
   generalize w1.drewN nq=w2 at *
   obtain⟨d0,d1,d2,d3,d4⟩:=aL hD
   exact jI
  have k1:decide (b0<=p0)=false:=decide_eq_false kd
  go_quiet (fail)
  have hb:=aM (au w1.heap.size w1) nq
  try replace hC:=hC.below hb
  try replace hD:=hD.below hb
  try replace hM:=hM.below hb
  replace hB:=ak hB hb
  generalize w1.drewN nq=w2 at *
  obtain⟨d0,d1,d2,d3,d4⟩:=aL hD
  have hG:=k1
  go_wp2_with fail
  refine bm (bX _ _ _ _) ?_
  rintro(_|_) g3
  rotate_left
  ·exact jI
  go_wp2_with fail
  refine bm (fi _ _) ?_
  rintro(_|_) g4
  rotate_left
  ·exact jI
  go_wp2_with fail
  refine bm (fi _ _) ?_
  rintro(_|_) g5
  rotate_left
  ·exact jI
  go_wp2_with fail
  refine bm (bX _ _ _ _) ?_
  rintro(_|_) g6
  rotate_left
  ·exact jI
  go_wp2_with fail
  refine bm (bX _ _ _ _) ?_
  rintro(_|_) g7
  rotate_left
  ·exact jI
  exact T36
theorem mF (nm:ByteArray) (sp cl lo hi:Int) (n:Nat) (S:Nat->Nat->Int) (sv:aw) (w:aj) (hnm:nm.size<=9223372036854775806) (hRs:aU w sv n 5 (bw S)):
  aC prog 116 #[aN #[ay nm,M U sp,M U cl,M U lo,M U hi,sv]] w (E2 w (oo nm sp cl lo hi n S)):=by
 obtain⟨sa,sc,rfl,hsc,hx⟩:=id hRs
 have HRs:=af hRs
 clear hRs
 obtain⟨W0,xb,HW0,hC,hB⟩:=eB w 108 #[ay nm,M U sp,M U cl,M U lo,M U hi,T sa n sc]
 obtain⟨r,HS⟩:=dR (oo nm sp cl lo hi n S)
 rw[<-HS.out]
 go_enter func116,ntmps116
 go_upto_region 1 with fail
 rw[HW0.out.1,HW0.out.2]
 clear HW0
 obtain⟨x0,x1,x2,x3,x4,x5⟩:=aH hC
 go_wp2_with fail
 refine bm (dZ _ _ hnm) ?_
 rintro(_|_) gn
 ·go_wp2_with fail
  exact gj
 go_wp2_with fail
 refine aR (ct _ _ _ _) ?_
 rintro(_|_) g0
 rotate_left
 ·go_wp2_with fail
  exact gj
 go_wp2_with fail
 refine aR (ct _ _ _ _) ?_
 rintro(_|_) g1
 rotate_left
 ·go_wp2_with fail
  exact gj
 go_wp2_with fail
 refine aR (ct _ _ _ _) ?_
 rintro(_|_) g2
 rotate_left
 ·go_wp2_with fail
  exact gj
 go_wp2_with fail
 refine aR (ct _ _ _ _) ?_
 rintro(_|_) g3
 rotate_left
 ·go_wp2_with fail
  exact gj
 go_wp2_with fail
 refine aR (ct _ _ _ _) ?_
 rintro(_|_) gl
 rotate_left
 ·go_wp2_with fail
  exact gj
 have hn:=aW.1 gl
 go_wp2_with fail
 go_loopw [4] (λi wr=>∃j:Nat,j<=n/\i=M U j/\bj (aB (nD S) n 0=aB (nD S) (n - j) j)/\am wr xb 108 #[ay nm,M U sp,M U cl,M U lo,M U hi,T sa n sc]/\ap w.heap.size w wr) (λi _=>n - (aV i).toNat)
 case atStart=>exact⟨0,aF _,rfl,show _=_ from rfl,hC,hB⟩
 case round=>
  clear hC hB
  obtain⟨j,hj,rfl,HJ,hC,hB⟩:=hrel
  by_cases hlt:j<n
  rotate_left
  ·obtain rfl:n=j:=om
   have HE:=af (HJ.out.trans (bh (nD S) n))
   have hE:=HE.out
   clear HJ HE
   obtain⟨x0,x1,x2,x3,x4,x5⟩:=aH hC
   go_wp2_with fail
   exact gj
  have HF:=af (HJ.out.trans (bf (nD S) hlt))
  obtain⟨q,hq⟩:∃q,q=nD S j:=⟨_,rfl⟩
  rw[<-hq]at HF
  unfold nD at hq
  have HQ:=af hq
  clear hq HJ
  have i2:(j:Int)<(n:Int):=om
  rcases j with _|k
  ·have hG:vr S 0=false:=rfl
   rw[hG]at HQ
   obtain⟨bb,bo,rfl,bl,hc⟩:=(HRs.out.below hB).elem hlt
   have e0:wr.cell? ⟨bb,bo+0*5,ag⟩=ai (M U (S 0 0)):=hc 0 om
   have e1:wr.cell? ⟨bb,bo+0*5+1,ag⟩=ai (M U (S 0 1)):=hc 1 om
   have e2:wr.cell? ⟨bb,bo+0*5+2,ag⟩=ai (M U (S 0 2)):=hc 2 om
   have e3:wr.cell? ⟨bb,bo+0*5+3,ag⟩=ai (M U (S 0 3)):=hc 3 om
   have e4:wr.cell? ⟨bb,bo+0*5+4,ag⟩=ai (M U (S 0 4)):=hc 4 om
   generalize S 0 0=b0 at *
   generalize S 0 1=b1 at *
   generalize S 0 2=b2 at *
   generalize S 0 3=b3 at *
   generalize S 0 4=b4 at *
   rw[Nat.zero_mul,bq]at e0 e1 e2 e3 e4
   obtain⟨x0,x1,x2,x3,x4,x5⟩:=aH hC
   go_upto_region 11 with fail
   have hD:=aK wr (.cells #[M U b0,M U b1,M U b2,M U b3,M U b4] 194)
   have hba:=aP (au wr.heap.size wr) (.cells #[M U b0,M U b1,M U b2,M U b3,M U b4] 194)
   (try replace hM:=cG.below hM hba)
   replace hC:=hC.below hba
   replace hB:=ak hB hba
   generalize wr.alloc (.cells #[M U b0,M U b1,M U b2,M U b3,M U b4] 194)=w1 at *
   generalize wr.heap.size=db at *
   have hD:am w1 db 194 #[M U b0,M U b1,M U b2,M U b3,M U b4]:=hD
   obtain⟨d0,d1,d2,d3,d4⟩:=aL hD
   go_quiet (fail)
   have hb:=aM (au w1.heap.size w1) nq
   try replace hC:=hC.below hb
   try replace hD:=hD.below hb
   try replace hM:=hM.below hb
   replace hB:=ak hB hb
   generalize w1.drewN nq=w2 at *
   obtain⟨d0,d1,d2,d3,d4⟩:=aL hD
   go_wp2_with fail
   refine aR (ct _ _ _ _) ?_
   rintro(_|_) g3
   rotate_left
   ·exact k9
   go_wp2_with fail
   refine cg (fX _ _ _) ?_
   rintro(_|_) w1 g4 hb<;>((try replace hC:=hC.below hb);(try replace hD:=hD.below hb);(try replace hM:=hM.below hb);replace hB:=ak hB hb;clear hb)
   rotate_left
   ·exact k9
   obtain⟨d0,d1,d2,d3,d4⟩:=aL hD
   go_wp2_with fail
   refine aR (ct _ _ _ _) ?_
   rintro(_|_) g5
   rotate_left
   ·exact k9
   go_wp2_with fail
   refine aR (ct _ _ _ _) ?_
   rintro(_|_) g6
   rotate_left
   ·exact k9
   exact T40
  have hG:vr S (k+1)=decide (S (k+1) 0<=S k 0):=rfl
  rw[hG]at HQ
  clear hG
  obtain⟨bb,bo,rfl,bl,hc⟩:=(HRs.out.below hB).elem hlt
  have e0:wr.cell? ⟨bb,bo+(k+1)*5,ag⟩=ai (M U (S (k+1) 0)):=hc 0 om
  have e1:wr.cell? ⟨bb,bo+(k+1)*5+1,ag⟩=ai (M U (S (k+1) 1)):=hc 1 om
  have e2:wr.cell? ⟨bb,bo+(k+1)*5+2,ag⟩=ai (M U (S (k+1) 2)):=hc 2 om
  have e3:wr.cell? ⟨bb,bo+(k+1)*5+3,ag⟩=ai (M U (S (k+1) 3)):=hc 3 om
  have e4:wr.cell? ⟨bb,bo+(k+1)*5+4,ag⟩=ai (M U (S (k+1) 4)):=hc 4 om
  obtain⟨vb,vo,hq,-,hc2⟩:=(HRs.out.below hB).elem (show k<n by omega)
  obtain⟨rfl,rfl⟩:bb=vb/\bo=vo:=by simpa using hq
  have f0:wr.cell? ⟨bb,bo+k*5,ag⟩=ai (M U (S k 0)):=hc2 0 om
  clear hc hc2 hq
  generalize S (k+1) 0=b0 at *
  generalize S (k+1) 1=b1 at *
  generalize S (k+1) 2=b2 at *
  generalize S (k+1) 3=b3 at *
  generalize S (k+1) 4=b4 at *
  generalize S k 0=p0 at *
  obtain⟨x0,x1,x2,x3,x4,x5⟩:=aH hC
  go_upto_region 11 with fail
  have hf:=(aP (au wr.heap.size wr) (.cells #[M U b0,M U b1,M U b2,M U b3,M U b4] 194)).cell (p:=⟨bb,bo+k*5,ag⟩) bl
  rw[f0]at hf
  have hD:=aK wr (.cells #[M U b0,M U b1,M U b2,M U b3,M U b4] 194)
  have hba:=aP (au wr.heap.size wr) (.cells #[M U b0,M U b1,M U b2,M U b3,M U b4] 194)
  (try replace hM:=cG.below hM hba)
  replace hC:=hC.below hba
  replace hB:=ak hB hba
  generalize wr.alloc (.cells #[M U b0,M U b1,M U b2,M U b3,M U b4] 194)=w1 at *
  generalize wr.heap.size=db at *
  have hD:am w1 db 194 #[M U b0,M U b1,M U b2,M U b3,M U b4]:=hD
  obtain⟨d0,d1,d2,d3,d4⟩:=aL hD
  obtain⟨x0,x1,x2,x3,x4,x5⟩:=aH hC
  have q1:=aD ((k:Int)+1 - 1) ⟨by omega,by omega⟩
  have q2:=aD (k:Int) ⟨by omega,by omega⟩
  have q3:(k:Int)<(n:Int):=om
  have q4:(0:Int)<(k:Int)+1:=om
  by_cases kd:b0<=p0
  ·have k1:decide (b0<=p0)=true:=decide_eq_true kd
   go_quiet (fail)
   have hb:=aM (au w1.heap.size w1) nq
   try replace hC:=hC.below hb
   try replace hD:=hD.below hb
   try replace hM:=hM.below hb
   replace hB:=ak hB hb
   generalize w1.drewN nq=w2 at *
   obtain⟨d0,d1,d2,d3,d4⟩:=aL hD
   exact k9
  have k1:decide (b0<=p0)=false:=decide_eq_false kd
  go_quiet (fail)
  have hb:=aM (au w1.heap.size w1) nq
  try replace hC:=hC.below hb
  try replace hD:=hD.below hb
  try replace hM:=hM.below hb
  replace hB:=ak hB hb
  generalize w1.drewN nq=w2 at *
  obtain⟨d0,d1,d2,d3,d4⟩:=aL hD
  have hG:=k1
  go_wp2_with fail
  refine aR (ct _ _ _ _) ?_
  rintro(_|_) g3
  rotate_left
  ·exact k9
  go_wp2_with fail
  refine cg (fX _ _ _) ?_
  rintro(_|_) w1 g4 hb<;>((try replace hC:=hC.below hb);(try replace hD:=hD.below hb);(try replace hM:=hM.below hb);replace hB:=ak hB hb;clear hb)
  rotate_left
  ·exact k9
  obtain⟨d0,d1,d2,d3,d4⟩:=aL hD
  go_wp2_with fail
  refine aR (ct _ _ _ _) ?_
  rintro(_|_) g5
  rotate_left
  ·exact k9
  go_wp2_with fail
  refine aR (ct _ _ _ _) ?_
  rintro(_|_) g6
  rotate_left
  ·exact k9
  exact T36
end
section
open Tryz
open Go.RowKit
def sq (n d:Int):Bool:=aI n 0 1000000000000000000||aI d 1 1000000000000000000
def nK (n d:Int):Int:=if sq n d then 2 else 0
def rQ (w:aj) (n d:Int) (e:Ending) (w':aj):Prop:=(∃c:Bool,e=ar (.tuple #[aA c,M U (nK n d)]))/\ap w.heap.size w w'
theorem kt (a b:Int) (w:aj):
  aC prog 87 #[.int .u64 a, .int .u64 b] w λe w'=>(∃p q:Int,e=ar (.tuple #[.int .u64 p, .int .u64 q]))/\w=w':=by
 go_enter func87,ntmps87
 go_wp2_with fail
 go_ret2
 exact⟨⟨_,_,rfl⟩,rfl⟩
theorem mL (n d:Int) (w:aj):
  aC prog 26 #[aN #[M U n,M U d],aN #[M U n,M U d]] w (rQ w n d):=by
 have hix0:∀w:aj,(Instr.index 189 (aN #[M U n,M U d,M U n,M U d]) (M U 0)).run prog w= .ok (aN #[M U n,M U d]) w:=λ_=>by kernel_rfl
 have hix1:∀w:aj,(Instr.index 189 (aN #[M U n,M U d,M U n,M U d]) (M U 1)).run prog w= .ok (aN #[M U n,M U d]) w:=λ_=>by kernel_rfl
 obtain⟨W0,xb,HW0,hC,hC2,hB⟩:=pf w 47 #[M U n,M U d] 47 #[M U n,M U d]
 go_enter func26,ntmps26
 go_upto_region 1 with fail
 rw[HW0.out.1,HW0.out.2]
 obtain⟨yb,hye⟩:=bY (xb+1)
 rw[<-hye]at hC2⊢
 clear hye
 clear HW0
 have xx:=bA hC
 have yy:=bA hC2
 go_wp2_with fail
 go_loopw [15] (λi wr=>∃k:Nat,k<=2/\i=M U k/\bj (1<=k->sq n d=false)/\am wr xb 47 #[M U n,M U d]/\am wr yb 47 #[M U n,M U d]/\ap w.heap.size w wr) (λi _=>2 - (aV i).toNat)
 case atStart=>exact⟨0,by omega,rfl,(λh=>by omega),hC,hC2,hB⟩
 case round=>
  clear hC hC2 hB
  obtain⟨k,hk,rfl,HW,hC,hC2,hB⟩:=hrel
  have hk3:k=0\/k=1\/k=2:=om
  rcases hk3 with rfl|rfl|rfl
  ·go_upto_region 4 with fail
   obtain⟨w1,hW9,hN9,hb⟩:=bW wr 47 #[M U n,M U d]
   rw[hW9.out]
   obtain⟨hC,hC2,hB⟩:=bM hC hC2 hB hb
   generalize wr.heap.size=db at *
   have hD:=hN9
   have dd:=bA hD
   clear hN9
   go_wp2_with fail
   refine bm (bX _ _ _ _) ?_
   rintro(_|_) g0
   rotate_left
   ·exact T75
   go_wp2_with fail
   refine bm (bX _ _ _ _) ?_
   rintro(_|_) g1
   ·go_wp2_with fail
    go_roundw
    case rel=>exact⟨0+1,by omega,by go_num,(λ_=>by unfold sq;simp[*]),hC,hC2,hB⟩
    case measure=>simp[aV]
   exact T75
  ·go_upto_region 4 with fail
   obtain⟨w1,hW9,hN9,hb⟩:=bW wr 47 #[M U n,M U d]
   rw[hW9.out]
   obtain⟨hC,hC2,hB⟩:=bM hC hC2 hB hb
   generalize wr.heap.size=db at *
   have hD:=hN9
   have dd:=bA hD
   clear hN9
   go_wp2_with fail
   refine bm (bX _ _ _ _) ?_
   rintro(_|_) g0
   rotate_left
   ·exact T75
   go_wp2_with fail
   refine bm (bX _ _ _ _) ?_
   rintro(_|_) g1
   ·go_wp2_with fail
    go_roundw
    case rel=>exact⟨1+1,by omega,by go_num,(λ_=>by unfold sq;simp[*]),hC,hC2,hB⟩
    case measure=>simp[aV]
   exact T75
  have hb9:=HW.out om
  have HE:bj (nK n d=0):=by unfold bj nK;simp[*]
  unfold sq at hb9
  rw[Bool.or_eq_false_iff]at hb9
  have ha1:=aW.1 hb9.1
  have ha2:=aW.1 hb9.2
  clear hb9 hix0 hix1
  have xx:=bA hC
  have yy:=bA hC2
  go_wp2_with fail
  refine(kt _ _ _).mono ?_
  rintro e w' ⟨⟨p,q,rfl⟩,rfl⟩
  go_wp2_with fail
  refine(kt _ _ _).mono ?_
  rintro e w' ⟨⟨p2,q2,rfl⟩,rfl⟩
  by_cases c1:p<p2
  ·exact uc
  by_cases c2:p=p2
  ·subst c2
   exact uc
  have c3:(p==p2)=false:=by simpa using c2
  exact uc
theorem oS:∀(m:Nat) (a b:Int) (w:aj),b.toNat<=m->0<=a->a<=1000000000000000000->1<=b->b<=1000000000000000000->
  aC prog 186 #[M U a,M U b,M U a,M U b] w λe w'=>(∃c:Bool,e=ar (aA c))/\ap w.heap.size w w':=by
 intro m
 induction m with
 |zero=>intro a b w h1 h2 h3 h4 h5;omega
 |succ m ih=>
  intro a b w h1 h2 h3 h4 h5
  have IH:=af ih
  clear ih
  have nb:¬b=0:=om
  have q1:IntKind.i64.wrap (a.tdiv b)=a / b:=by rw[Int.tdiv_eq_ediv_of_nonneg h2];exact aD _ ⟨by have:=Int.ediv_nonneg h2 (show 0<=b by omega);omega,by have:=Int.ediv_le_self b h2;omega⟩
  have r1:a.tmod b=a % b:=Int.tmod_eq_emod_of_nonneg h2
  have e1:=Int.emod_nonneg a nb
  have e2:=Int.emod_lt_of_pos a (show 0<b by omega)
  go_enter func186,ntmps186
  go_wp2_with fail
  go_quiet (fail)
  go_wp2_with fail
  go_quiet (fail)
  by_cases z1:a % b=0
  ·have z1':(a % b==0)=true:=by simpa using z1
   go_wp2_with fail
   go_ret
   exact⟨⟨_,rfl⟩,(by repeat(first|exact au _ _|assumption|refine aP ?_ _|refine ak ?_ (by assumption)|refine ap.drew ?_|refine aM ?_ _|refine aS ?_ (by simp<;>omega) _))⟩
  have z1':(a % b==0)=false:=by simpa using z1
  have HC:=af (λW=>IH.out b (a % b) W om om om om om)
  clear z1 IH
  go_wp2_with fail
  refine(HC.out _).mono ?_
  rintro e w5 ⟨⟨c,rfl⟩,hb⟩
  go_wp2_with fail
  go_ret
  exact⟨⟨_,rfl⟩,ak (aM (au w.heap.size w) _) hb⟩
theorem je (n d:Int) (w:aj):
  aC prog 185 #[aN #[M U n,M U d]] w λe w'=>e=ar (aA (!sq n d))/\ap w.heap.size w w':=by
 obtain⟨W0,xb,HW0,hC,hB⟩:=eB w 47 #[M U n,M U d]
 go_enter func185,ntmps185
 go_upto_region 1 with fail
 rw[HW0.out.1,HW0.out.2]
 clear HW0
 have xx:=bA hC
 go_wp2_with fail
 refine aR (ct _ _ _ _) ?_
 rintro(_|_) g0
 rotate_left
 ·exact tZ
 go_wp2_with fail
 refine aR (ct _ _ _ _) ?_
 rintro(_|_) g1
 ·exact tZ
 exact tZ
theorem kZ (n d:Int) (w:aj):
  aC prog 115 #[aN #[M U n,M U d],aN #[M U n,M U d]] w (rQ w n d):=by
 obtain⟨W0,xb,HW0,hC,hC2,hB⟩:=pf w 47 #[M U n,M U d] 47 #[M U n,M U d]
 go_enter func115,ntmps115
 go_upto_region 1 with fail
 rw[HW0.out.1,HW0.out.2]
 obtain⟨yb,hye⟩:=bY (xb+1)
 rw[<-hye]at hC2⊢
 clear hye
 clear HW0
 have xx:=bA hC
 have yy:=bA hC2
 go_wp2_with fail
 refine cg (je _ _ _) ?_
 rintro(_|_) w1 g0 hb<;>obtain⟨hC,hC2,hB⟩:=bM hC hC2 hB hb
 rotate_left
 ·have HE:bj (nK n d=2):=by unfold bj nK;simp[*]
  go_wp2_with fail
  go_ret2
  exact⟨⟨false,by rw[HE.out]<;>rfl⟩,hB⟩
 have xx:=bA hC
 have yy:=bA hC2
 go_wp2_with fail
 refine cg (je _ _ _) ?_
 rw[g0]
 rintro(_|_) w1 g1 hb
 rotate_left
 ·cases g1
 obtain⟨hC,hC2,hB⟩:=bM hC hC2 hB hb
 have xx:=bA hC
 have yy:=bA hC2
 have HE:bj (nK n d=0):=by unfold bj nK;simp[*]
 have hb9:=g0
 unfold sq at hb9
 rw[Bool.or_eq_false_iff]at hb9
 have ha1:=aW.1 hb9.1
 have ha2:=aW.1 hb9.2
 go_wp2_with fail
 refine(oS d.toNat n d _ (aY _) om om om om).mono ?_
 rintro e w1 ⟨⟨c,rfl⟩,hb⟩
 obtain⟨hC,hC2,hB⟩:=bM hC hC2 hB hb
 go_wp2_with fail
 go_ret2
 exact⟨⟨c,by rw[HE.out]<;>rfl⟩,hB⟩
end
section
open Tryz
open Go.RowKit Go.Maps
theorem fI {P:Program} {k:aT} {W:aj} {b s m:Nat} {t:aT} {cs:Array aw} {K:Nat->aw} (h:am W b t cs) (hM:cG P k W s m K):b≠s:=by
 exact vm
theorem eY {W:aj} {b s m:Nat} {t:aT} {cs:Array aw} {Q:Nat->Nat->Int} (h:am W b t cs) (hM:dk W s m Q):b≠s:=by
 exact vm
theorem jW (age shear:Int) (ns:Nat) (N:Nat->ByteArray) (S:Nat->Nat->Int) (Q:Nat->Nat->Int) (sv qv cv:aw) (w:aj) (hRs:aU w sv ns 7 (em N S)) (hns:ns<=1125899906842624) (j lb sm lm B:Nat) (K:Nat->aw)
  (hK:∀i,K i=aN #[M U (Q i 0),M U (Q i 1),M U (Q i 2)]) (hL:am w lb 167 #[.map (ai sm), .map (ai lm)]) (hM:cG prog 264 w sm j K) (hT:dk w lm j Q) (hj:j<=1125899906842624) (hSB:∀i,i<ns->0<=S i 5/\S i 6<=99999999) (hne:sm≠lm) (h1:B<=sm) (h2:B<=lm):
  aC prog 73 #[ax (ai ⟨lb,0,ag⟩),aN #[sv,qv,cv,M U age,M U shear],aN #[M U (Q j 0),M U (Q j 1),M U (Q j 2),M U (Q j 3),M U (Q j 4)]] w λe w'=>e=ar (M U ((i8 ns S Q j).getD 0))/\ap B w w'/\(i8 ns S Q j=ag->cG prog 264 w' sm (j+1) K/\dk w' lm (j+1) Q/\am w' lb 167 #[.map (ai sm), .map (ai lm)]):=by
 obtain⟨q,hq⟩:∃q,q=i8 ns S Q j:=⟨_,rfl⟩
 rw[<-hq]
 unfold i8 lF at hq
 rw[show jE Q j=λk=>(Q k 0==Q j 0)&&((Q k 1==Q j 1)&&(Q k 2==Q j 2))from rfl]at hq
 have HQ:=af hq
 clear hq
 have HK:=af hK
 have hKj:=hK j
 clear hK
 have HSB:=af hSB
 clear hSB
 obtain⟨b0,hQj⟩:∃b,Q j 0=b:=⟨_,rfl⟩
 simp only[hQj]at HQ hKj⊢
 have HQj0:=af hQj
 clear hQj
 obtain⟨b1,hQj⟩:∃b,Q j 1=b:=⟨_,rfl⟩
 simp only[hQj]at HQ hKj⊢
 have HQj1:=af hQj
 clear hQj
 obtain⟨b2,hQj⟩:∃b,Q j 2=b:=⟨_,rfl⟩
 simp only[hQj]at HQ hKj⊢
 have HQj2:=af hQj
 clear hQj
 obtain⟨b3,hQj⟩:∃b,Q j 3=b:=⟨_,rfl⟩
 simp only[hQj]at HQ⊢
 have HQj3:=af hQj
 clear hQj
 obtain⟨b4,hQj⟩:∃b,Q j 4=b:=⟨_,rfl⟩
 simp only[hQj]at HQ⊢
 have HQj4:=af hQj
 clear hQj
 have q1:=aD ((ns:Int) - 1) ⟨by omega,by omega⟩
 obtain⟨sa,sc,rfl,hsc,hx⟩:=id hRs
 have HRs:=af hRs
 clear hRs
 obtain⟨W0,xb,HW0,hC,hC2,hB⟩:=pf w 26 #[T sa ns sc,qv,cv,M U age,M U shear] 169 #[M U b0,M U b1,M U b2,M U b3,M U b4]
 have hbw:B<=w.heap.size:=by have:=hM.lt;omega
 replace hL:=hL.below hB
 replace hM:=hM.below hB
 replace hT:=hT.below hB
 go_enter func73,ntmps73
 go_upto_region 1 with fail
 rw[HW0.out.1,HW0.out.2]
 obtain⟨yb,hye⟩:=bY (xb+1)
 rw[<-hye]at hC2⊢
 clear hye
 clear HW0
 have xx:=aL hC
 have yy:=aL hC2
 go_wp2_with fail
 refine bm (cI _ _ _ _) ?_
 rintro(_|_) g0
 rotate_left
 ·exact mS
 have hn0:=aW.1 g0
 have hlt2:b0.toNat<ns:=om
 have hb0:b0<(ns:Int):=om
 have hb1:(0:Int)<=b0:=hn0.1
 have wa:(Lit.int .i64 b0).wf=true:=WalkArith.wf_i64 om
 have hs56:=HSB.out b0.toNat hlt2
 obtain⟨sb,so,rfl,sl,hc⟩:=(HRs.out.below hB).elem hlt2
 have f0:W0.cell? ⟨sb,so+b0.toNat*7,ag⟩=ai (ay (N b0.toNat)):=hc 0 om
 have f1:W0.cell? ⟨sb,so+b0.toNat*7+1,ag⟩=ai (M U (S b0.toNat 1)):=hc 1 om
 have f2:W0.cell? ⟨sb,so+b0.toNat*7+2,ag⟩=ai (M U (S b0.toNat 2)):=hc 2 om
 have f3:W0.cell? ⟨sb,so+b0.toNat*7+3,ag⟩=ai (M U (S b0.toNat 3)):=hc 3 om
 have f4:W0.cell? ⟨sb,so+b0.toNat*7+4,ag⟩=ai (M U (S b0.toNat 4)):=hc 4 om
 have f5:W0.cell? ⟨sb,so+b0.toNat*7+5,ag⟩=ai (M U (S b0.toNat 5)):=hc 5 om
 have f6:W0.cell? ⟨sb,so+b0.toNat*7+6,ag⟩=ai (M U (S b0.toNat 6)):=hc 6 om
 generalize S b0.toNat 1=s1 at *
 have hz0:xb<W0.heap.size:=hC.lt
 have hz1:yb<W0.heap.size:=hC2.lt
 go_wp2_with fail
 refine my kr hC hC2 sl hb1 hb0 f0 f1 f2 f3 f4 f5 f6 ?_
 intro u18 u19 u20 u21 u22 u23 u24 u25 u26 u27 u28 u29 u30 kb pb w1 hb hk1 hk2 hkp hNk hNp
 replace hC:=hC.below hb
 replace hC2:=hC2.below hb
 replace hM:=hM.below hb
 replace hL:=hL.below hb
 replace hT:=hT.below hb
 replace hB:=ak hB hb
 have hC3:=hNk
 have hD:=hNp
 clear hNk hNp
 cases hl:dE (λk=>Q k 0==b0) j with
 |none=>
  have hlk:∀w',ap w1.heap.size w1 w'->(Instr.lookup 165 (.map (ai lm)) (M U b0) true).run prog w'= .ok (.tuple #[aN #[M U 0,M U 0,M U 0],aA false]) w':=λw' hb=>by have h:=(hT.below hb).look (s:=b0) wa;rw[hl]at h;exact h
  go_wp2_with fail
  refine iG kr hL hC2 hlk ?_
  intro u31 u32 u33 u34 u35 u36 u37 u38 u39 u40 pc w2 hb hpc hE
  replace hC:=hC.below hb
  replace hC2:=hC2.below hb
  replace hC3:=hC3.below hb
  replace hD:=hD.below hb
  replace hM:=hM.below hb
  replace hL:=hL.below hb
  replace hT:=hT.below hb
  replace hB:=ak hB hb
  clear hlk
  have xx:=aL hC
  have yy:=aL hC2
  have cc:=aJ hC3
  have ee:=dT hE
  go_wp2_with fail
  refine bm (jb _ _) ?_
  rintro(_|_) g1
  rotate_left
  ·exact mS
  have hn1:=aW.1 g1
  have wb:(Lit.int .i64 b1).wf=true:=WalkArith.wf_i64 om
  go_wp2_with fail
  refine bm (cI _ _ _ _) ?_
  rintro(_|_) g2
  rotate_left
  ·exact mS
  go_wp2_with fail
  refine bH (jH [b3,b4] _ 3 (by simp)) ?_
  rintro(_|_) w1 g3 hb<;>(replace hC:=hC.below hb;replace hC2:=hC2.below hb;replace hC3:=hC3.below hb;replace hD:=hD.below hb;replace hE:=hE.below hb;replace hM:=hM.below hb;replace hL:=hL.below hb;replace hT:=hT.below hb;replace hB:=ak hB hb;clear hb)
  rotate_left
  ·exact T61
  simp only[List.any_cons,List.any_nil,Bool.or_false]at g3
  have hn2:=aW.1 g2
  have wd:(Lit.int .i64 b2).wf=true:=WalkArith.wf_i64 om
  obtain⟨l,hkey⟩:=lj wa wb wd
  have hlk7:∀w',ap w1.heap.size w1 w'->(Instr.lookup 164 (.map (ai sm)) (aN #[M U b0,M U b1,M U b2]) false).run prog w'= .ok (aA (bI (λk=>(Q k 0==b0)&&((Q k 1==b1)&&(Q k 2==b2))) j)) w':=λw' hb=>(hM.below hb).look fF underlying164 underlying4 (jw _) hkey (λk=>(Q k 0==b0)&&((Q k 1==b1)&&(Q k 2==b2))) (λi _=>by rw[HK.out i];simp)
  go_wp2_with fail
  refine iB kr hL hD hlk7 ?_
  intro u63 u64 u65 u66 u67 u68 w2 hb
  clear hlk7
  replace hC:=hC.below hb
  replace hC2:=hC2.below hb
  replace hC3:=hC3.below hb
  replace hD:=hD.below hb
  replace hE:=hE.below hb
  replace hM:=hM.below hb
  replace hL:=hL.below hb
  replace hT:=hT.below hb
  replace hB:=ak hB hb
  cases ha:bI (λk=>(Q k 0==b0)&&((Q k 1==b1)&&(Q k 2==b2))) j with
  |true=>
   exact mS
  |false=>
   have HQ2:bj (q=ag):=by unfold bj;rw[HQ.out,hl];simp[*]
   have xx:=aL hC
   have yy:=aL hC2
   have cc:=aJ hC3
   have ee:=dT hE
   cases hk2:(s1==2)
   ·exact T12
   exact T12
 |some k=>
  have hlk:∀w',ap w1.heap.size w1 w'->(Instr.lookup 165 (.map (ai lm)) (M U b0) true).run prog w'= .ok (.tuple #[aN #[M U (Q k 0),M U (Q k 1),M U (Q k 2)],aA true]) w':=λw' hb=>by have h:=(hT.below hb).look (s:=b0) wa;rw[hl]at h;exact h
  obtain⟨p0,hp0⟩:∃p,Q k 0=p:=⟨_,rfl⟩
  obtain⟨p1,hp1⟩:∃p,Q k 1=p:=⟨_,rfl⟩
  obtain⟨p2,hp2⟩:∃p,Q k 2=p:=⟨_,rfl⟩
  rw[hp0,hp1,hp2]at hlk
  go_wp2_with fail
  refine iG kr hL hC2 hlk ?_
  intro u31 u32 u33 u34 u35 u36 u37 u38 u39 u40 pc w2 hb hpc hE
  replace hC:=hC.below hb
  replace hC2:=hC2.below hb
  replace hC3:=hC3.below hb
  replace hD:=hD.below hb
  replace hM:=hM.below hb
  replace hL:=hL.below hb
  replace hT:=hT.below hb
  replace hB:=ak hB hb
  clear hlk
  have xx:=aL hC
  have yy:=aL hC2
  have cc:=aJ hC3
  have ee:=dT hE
  go_wp2_with fail
  refine bm (jb _ _) ?_
  rintro(_|_) g1
  rotate_left
  ·exact mS
  have hn1:=aW.1 g1
  have wb:(Lit.int .i64 b1).wf=true:=WalkArith.wf_i64 om
  go_wp2_with fail
  refine bm (cI _ _ _ _) ?_
  rintro(_|_) g2
  rotate_left
  ·exact mS
  go_wp2_with fail
  refine bH (jH [b3,b4] _ 3 (by simp)) ?_
  rintro(_|_) w1 g3 hb<;>(replace hC:=hC.below hb;replace hC2:=hC2.below hb;replace hC3:=hC3.below hb;replace hD:=hD.below hb;replace hE:=hE.below hb;replace hM:=hM.below hb;replace hL:=hL.below hb;replace hT:=hT.below hb;replace hB:=ak hB hb;clear hb)
  rotate_left
  ·exact T61
  simp only[List.any_cons,List.any_nil,Bool.or_false]at g3
  have hn2:=aW.1 g2
  have wd:(Lit.int .i64 b2).wf=true:=WalkArith.wf_i64 om
  obtain⟨l,hkey⟩:=lj wa wb wd
  have hlk7:∀w',ap w1.heap.size w1 w'->(Instr.lookup 164 (.map (ai sm)) (aN #[M U b0,M U b1,M U b2]) false).run prog w'= .ok (aA (bI (λk=>(Q k 0==b0)&&((Q k 1==b1)&&(Q k 2==b2))) j)) w':=λw' hb=>(hM.below hb).look fF underlying164 underlying4 (jw _) hkey (λk=>(Q k 0==b0)&&((Q k 1==b1)&&(Q k 2==b2))) (λi _=>by rw[HK.out i];simp)
  go_wp2_with fail
  refine iB kr hL hD hlk7 ?_
  intro u63 u64 u65 u66 u67 u68 w2 hb
  clear hlk7
  replace hC:=hC.below hb
  replace hC2:=hC2.below hb
  replace hC3:=hC3.below hb
  replace hD:=hD.below hb
  replace hE:=hE.below hb
  replace hM:=hM.below hb
  replace hL:=hL.below hb
  replace hT:=hT.below hb
  replace hB:=ak hB hb
  cases ha:bI (λk=>(Q k 0==b0)&&((Q k 1==b1)&&(Q k 2==b2))) j with
  |true=>
   exact mS
  |false=>
   have HQ2:bj (q=if(s1==2)&&(decide (b1<p1)||decide (b2<p2))then ai 2 else ag):=by unfold bj;rw[HQ.out,hl];simp only[hp1,hp2];simp[*]
   have xx:=aL hC
   have yy:=aL hC2
   have cc:=aJ hC3
   have ee:=dT hE
   cases hk2:(s1==2)
   ·exact T12
   by_cases l1:b1<p1
   ·have l1d:decide (b1<p1)=true:=decide_eq_true l1
    exact wu
   have l1d:decide (b1<p1)=false:=decide_eq_false l1
   by_cases l2:b2<p2
   ·have l2d:decide (b2<p2)=true:=decide_eq_true l2
    exact wu
   have l2d:decide (b2<p2)=false:=decide_eq_false l2
   exact T12
end
section
open Tryz
open Go.RowKit Go.Maps
theorem lw {a b:ByteArray}:ej a b=true↔a=b:=by
 unfold ej
 rw[beq_iff_eq,ByteArray.toList_eq,ByteArray.toList_eq]
 exact⟨λh=>Go.WideShapes.bytes_inj h,λh=>by rw[h]⟩
theorem iC {f:Nat->Option Int}:∀{n i:Nat},aB f n i=ag->∀k,i<=k->k<i+n->f k=ag
 |0,_,_,k,h1,h2=>by omega
 |n+1,i,h,k,h1,h2=>by
  simp only[aB]at h
  cases hf:f i with
  |some e=>rw[hf]at h;cases h
  |none=>
   rw[hf]at h
   rcases Nat.lt_or_ge i k with h3|h3
   ·exact iC h k om om
   ·obtain rfl:k=i:=om
    exact hf
theorem uu {N:Nat->ByteArray} {S:Nat->Nat->Int} {i:Nat} (h:jv N S i=ag):0<=S i 5/\S i 6<=99999999:=by
 unfold jv at h
 split at h
 ·cases h
 split at h
 ·cases h
 split at h
 ·cases h
 split at h
 ·cases h
 rename_i h4
 simp only[Bool.or_eq_true,not_or,Bool.not_eq_true]at h4
 exact⟨(aW.1 h4.2.2.2.1).1,(aW.1 h4.2.2.2.2.1).2⟩
def mY (C:Nat->Nat->Int) (j:Nat):Int:=if j=0 then 0 else C (j - 1) 0
theorem rh {C:Nat->Nat->Int} {j:Nat} (h:1<=C j 0):vQ C j=decide (C j 0<=mY C j):=by
 unfold vQ mY
 by_cases hj:j=0
 ·subst hj;rw[if_pos rfl,if_pos rfl];symm;exact decide_eq_false om
 rw[if_neg hj,if_neg hj]
theorem lL {W W':aj} {b B:Nat} {t:aT} {cs:Array aw} (h:am W b t cs) (hb:ap B W W') (hlt:b<B):am W' b t cs:=(hb.block b hlt).trans h
theorem oD (ns:Nat) (N:Nat->ByteArray) (S:Nat->Nat->Int) (nd:Nat) (Q:Nat->Nat->Int) (nc:Nat) (C:Nat->Nat->Int) (age shear:Int) (sv qv cv:aw) (w:aj) (hRs:aU w sv ns 7 (em N S)) (hRq:aU w qv nd 5 (bw Q)) (hRc:aU w cv nc 1 (bw C)) (hN:∀i,i<ns->(N i).size<=9223372036854775806):
  aC prog 20 #[aN #[sv,qv,cv,M U age,M U shear]] w (E3 w (ue ns N S nd Q nc C age shear)):=by
 obtain⟨sa,sc,rfl,hsc,hx⟩:=id hRs
 clear hx
 have HRs:=af hRs
 clear hRs
 obtain⟨qa,qc,rfl,hqc,hx⟩:=id hRq
 clear hx
 have HRq:=af hRq
 clear hRq
 obtain⟨ca,cc,rfl,hcc,hx⟩:=id hRc
 clear hx
 have HRc:=af hRc
 clear hRc
 obtain⟨W0,xb,HW0,hC,hB⟩:=eB w 26 #[T sa ns sc,T qa nd qc,T ca nc cc,M U age,M U shear]
 obtain⟨r,HS⟩:=dR (ue ns N S nd Q nc C age shear)
 rw[<-HS.out]
 have HN:=af hN
 clear hN
 go_enter func20,ntmps20
 go_upto_region 1 with fail
 rw[HW0.out.1,HW0.out.2]
 clear HW0
 have xx:=aL hC
 by_cases k1:6<ns
 ·go_wp2_with fail
  exact fT
 by_cases k2:60<nd
 ·go_wp2_with fail
  exact fT
 go_wp2_with fail
 refine bm (cI _ _ _ _) ?_
 rintro(_|_) g0
 rotate_left
 ·go_wp2_with fail
  exact fT
 have hn:=aW.1 g0
 obtain⟨K,hK⟩:∃K:Nat->aw,K=λi=>ay (N i):=⟨_,rfl⟩
 have HKi:bj (∀i,K i=ay (N i)):=show∀i,_ from λi=>by rw[hK]
 clear hK
 have hmm:=@run_makeMap prog
 go_upto_region 4 with fail
 clear hmm
 clear xx
 have hM:=cG.made prog 9 W0 K
 have hmb:=hB.size
 have hxm:=hC.lt
 have hb:=aP (au W0.heap.size W0) (.map #[] 0)
 try replace hC:=hC.below hb
 replace hB:=ak hB hb
 clear hb
 generalize W0.alloc (.map #[] 0)=W1 at *
 generalize W0.heap.size=mb at *
 have xx:=aL hC
 go_wp2_with fail
 clear xx
 go_loopw [34] (λi wr=>∃j:Nat,j<=ns/\i=M U j/\bj (aB (jv N S) ns 0=aB (jv N S) (ns - j) j)/\cG prog 9 wr mb j K/\am wr xb 26 #[T sa ns sc,T qa nd qc,T ca nc cc,M U age,M U shear]/\ap w.heap.size w wr) (λi _=>ns - (aV i).toNat)
 case atStart=>exact⟨0,aF _,rfl,show _=_ from rfl,hM,hC,hB⟩
 case round=>
  clear hM hC hB
  obtain⟨j,hj,rfl,HJ,hM,hC,hB⟩:=hrel
  by_cases hlt:j<ns
  ·have HF:=af (HJ.out.trans (bf (jv N S) hlt))
   obtain⟨q,hq⟩:∃q,q=jv N S j:=⟨_,rfl⟩
   rw[<-hq]at HF
   unfold jv at hq
   rw[tg]at hq
   have HQ:=af hq
   clear hq HJ
   have hNj:=HN.out j hlt
   obtain⟨bb,bo,rfl,bl,hc⟩:=(HRs.out.below hB).elem hlt
   have e0:wr.cell? ⟨bb,bo+j*7,ag⟩=ai (ay (N j)):=hc 0 om
   have e1:wr.cell? ⟨bb,bo+j*7+1,ag⟩=ai (M U (S j 1)):=hc 1 om
   have e2:wr.cell? ⟨bb,bo+j*7+2,ag⟩=ai (M U (S j 2)):=hc 2 om
   have e3:wr.cell? ⟨bb,bo+j*7+3,ag⟩=ai (M U (S j 3)):=hc 3 om
   have e4:wr.cell? ⟨bb,bo+j*7+4,ag⟩=ai (M U (S j 4)):=hc 4 om
   have e5:wr.cell? ⟨bb,bo+j*7+5,ag⟩=ai (M U (S j 5)):=hc 5 om
   have e6:wr.cell? ⟨bb,bo+j*7+6,ag⟩=ai (M U (S j 6)):=hc 6 om
   clear hc
   have hKj:K j=ay (N j):=HKi.out j
   generalize N j=b0 at *
   generalize S j 1=b1 at *
   generalize S j 2=b2 at *
   generalize S j 3=b3 at *
   generalize S j 4=b4 at *
   generalize S j 5=b5 at *
   generalize S j 6=b6 at *
   have i2:(j:Int)<(ns:Int):=om
   go_upto_region 7 with fail
   obtain⟨w1,hW9,hD,hba⟩:=bW wr 129 #[ay b0,M U b1,M U b2,M U b3,M U b4,M U b5,M U b6]
   rw[hW9.out]
   clear hW9
   (try replace hM:=cG.below hM hba)
   try replace hC:=hC.below hba
   replace hB:=ak hB hba
   generalize wr.heap.size=db at *
   have dd:=aJ hD
   clear hba e0 e1 e2 e3 e4 e5 e6
   go_wp2_with fail
   refine bH (cS _ _ hNj) ?_
   rintro(_|_) w1 g hb<;>(try replace hC:=hC.below hb;try replace hD:=hD.below hb;try replace hM:=hM.below hb;replace hB:=ak hB hb;clear hb)
   ·exact td
   clear dd
   have dd:=aJ hD
   have hl:keyOf prog 9 (.string b0)=ai (.string b0.data.toList):=Go.WideMaps.keyOf_string_mk underlying9 (by unfold cF;omega)
   have hlook:=hM.look dY underlying161 underlying4 (jw _) hl (λk=>ej (N k) b0) (λi _=>by rw[HKi.out i,lw];simp)
   cases ha:bI (λk=>ej (N k) b0) j with
   |true=>
    rw[ha]at hlook
    exact td
   |false=>
    rw[ha]at hlook
    go_wp2_with fail
    refine aZ (mB _ _ _ _ _ _ _ _) ?_
    intro w1 hb
    try replace hC:=hC.below hb
    try replace hD:=hD.below hb
    try replace hM:=hM.below hb
    replace hB:=ak hB hb
    clear hb
    clear dd
    have dd:=aJ hD
    generalize oY b1 b2 b3 b4 b5 b6=E at *
    by_cases hE:E=0
    rotate_left
    ·have hEn:(E != 0)=true:=by simpa using hE
     exact td
    subst hE
    have hE0:((0:Int) != 0)=false:=rfl
    obtain⟨w3,hput,hM3,hgr⟩:=hM.put dY underlying161 underlying4 (by unfold cF;omega) hl hKj
    replace hC:=dg hC hgr (λg e=>by cases e;omega)
    replace hB:=hB.grown hgr hB.size (λj e=>by cases e;exact hmb)
    have HJ2:bj (aB (jv N S) ns 0=aB (jv N S) (ns - (j+1)) (j+1)):=by
     exact gM
    clear HF HQ ha hl hE0
    exact vG
  obtain rfl:ns=j:=om
  have HE:=af (HJ.out.trans (bh (jv N S) ns))
  have hE:=HE.out
  clear HJ HE
  have hSB:∀i,i<ns->0<=S i 5/\S i 6<=99999999:=λi hi=>uu (iC hE i (aF _) om)
  have HSB:=af hSB
  clear hSB hM
  obtain⟨K2,hK2⟩:∃K2:Nat->aw,K2=λi=>aN #[M U (Q i 0),M U (Q i 1),M U (Q i 2)]:=⟨_,rfl⟩
  have HK2:bj (∀i,K2 i=aN #[M U (Q i 0),M U (Q i 1),M U (Q i 2)]):=show∀i,_ from λi=>by rw[hK2]
  clear hK2
  have hmm:=@run_makeMap prog
  go_upto_region 17 with fail
  clear hmm
  have hmb2:=hB.size
  have hxs:=hC.lt
  have hM:=cG.made prog 264 wr K2
  have hb:=aP (au wr.heap.size wr) (.map #[] 0)
  try replace hC:=hC.below hb
  replace hB:=ak hB hb
  clear hb
  obtain⟨W1,hW1⟩:∃W1,W1=wr.alloc (.map #[] 0):=⟨_,rfl⟩
  have hs1:W1.heap.size=wr.heap.size+1:=by rw[hW1];simp
  rw[<-hW1]at hM hC hB⊢
  clear hW1
  have hT:=dk.made W1 Q
  have hb:=aP (au W1.heap.size W1) (.map #[] 0)
  try replace hC:=hC.below hb
  try replace hM:=hM.below hb
  try replace hT:=hT.below hb
  replace hB:=ak hB hb
  clear hb
  obtain⟨W2,hW2⟩:∃W2,W2=W1.alloc (.map #[] 0):=⟨_,rfl⟩
  have hs2:W2.heap.size=wr.heap.size+2:=by rw[hW2];simp;omega
  rw[<-hW2]at hM hC hB hT⊢
  clear hW2
  rw[hs1]at hT
  obtain⟨W3,hW9,hN9,hb⟩:=bW W2 167 #[.map (ai wr.heap.size), .map (ai (wr.heap.size+1))]
  rw[hW9.out]
  clear hW9
  try replace hC:=hC.below hb
  try replace hM:=hM.below hb
  try replace hT:=hT.below hb
  replace hB:=ak hB hb
  clear hb
  rw[hs2]at hN9
  clear hs1 hs2
  have hL:am W3 (wr.heap.size+1+1) 167 #[.map (ai wr.heap.size), .map (ai (wr.heap.size+1))]:=hN9
  clear hN9
  generalize wr.heap.size=sm at *
  obtain⟨lb,hlb⟩:∃n,n=sm+1+1:=⟨_,rfl⟩
  rw[<-hlb]at hL⊢
  obtain⟨lm,hlm⟩:=bY (sm+1)
  rw[<-hlm]at hL hT
  have hsl:sm≠lm:=om
  have hlm1:sm<=lm:=om
  clear hlb hlm
  have xx:=aL hC
  go_wp2_with fail
  clear xx
  go_loopw [68] (λi wr=>∃j:Nat,j<=nd/\i=M U j/\bj (aB (i8 ns S Q) nd 0=aB (i8 ns S Q) (nd - j) j)/\cG prog 264 wr sm j K2/\dk wr lm j Q/\am wr lb 167 #[.map (ai sm), .map (ai lm)]/\am wr xb 26 #[T sa ns sc,T qa nd qc,T ca nc cc,M U age,M U shear]/\ap w.heap.size w wr) (λi _=>nd - (aV i).toNat)
  case atStart=>exact⟨0,aF _,rfl,show _=_ from rfl,hM,hT,hL,hC,hB⟩
  case round=>
   clear hM hT hL hC hB
   obtain⟨j,hj,rfl,HJ,hM,hT,hL,hC,hB⟩:=hrel
   by_cases hlt:j<nd
   ·have HF:=af (HJ.out.trans (bf (i8 ns S Q) hlt))
    have hz:=rL (ns:=ns) (S:=S) (Q:=Q) (i:=j)
    clear HJ
    have i2:(j:Int)<(nd:Int):=om
    obtain⟨bb,bo,rfl,bl,hc⟩:=(HRq.out.below hB).elem hlt
    have ee:=r5 hc
    simp only[bw,bq]at ee
    obtain⟨e0,e1,e2,e3,e4⟩:=ee
    clear hc
    go_upto_region 20 with fail
    obtain⟨w1,hW9,hN9,hb⟩:=bW wr 169 #[M U (Q j 0),M U (Q j 1),M U (Q j 2),M U (Q j 3),M U (Q j 4)]
    rw[hW9.out]
    clear hW9
    try replace hC:=hC.below hb
    try replace hM:=hM.below hb
    try replace hL:=hL.below hb
    try replace hT:=hT.below hb
    replace hB:=ak hB hb
    clear hb
    generalize wr.heap.size=db at *
    have hD:=hN9
    clear hN9 e0 e1 e2 e3 e4
    have dd:=aL hD
    have xx:=aL hC
    go_wp2_with fail
    refine(jW age shear ns N S Q _ _ _ _ (HRs.out.below hB) om j lb sm lm sm K2 HK2.out hL hM hT om HSB.out hsl (aY _) om).mono ?_
    rintro e w2 ⟨rfl,hb,hpost⟩
    clear xx dd
    replace hC:=lL hC hb hxs
    replace hB:=hB.trans (hb.mono hmb2)
    clear hb hM hT hL hD
    generalize i8 ns S Q j=q at HF hz hpost⊢
    rcases q with _|e
    rotate_left
    ·have hne:(e != 0)=true:=by have h:=hz e rfl;simpa using h
     have hJ:=HF.out
     clear HF hz hpost
     simp only at hJ
     go_wp2_with fail
     exact fT
    obtain⟨hM,hT,hL⟩:=hpost rfl
    have HJ2:bj (aB (i8 ns S Q) nd 0=aB (i8 ns S Q) (nd - (j+1)) (j+1)):=show _=_ from HF.out
    clear HF hz hpost
    go_wp2_with fail
    go_roundw
    case rel=>exact⟨j+1,by omega,by go_num,HJ2,hM,hT,hL,hC,hB⟩
    case measure=>simp[aV];omega
   obtain rfl:nd=j:=om
   have HE:=af (HJ.out.trans (bh (i8 ns S Q) nd))
   have hE2:=HE.out
   clear HJ HE hM hT hL
   have xx:=aL hC
   go_wp2_with fail
   clear xx
   go_loopw [11,85] (λbv i wr=>∃j:Nat,j<=nc/\i=M U j/\bv=M U (mY C j)/\bj (aB (lC C) nc 0=aB (lC C) (nc - j) j)/\am wr xb 26 #[T sa ns sc,T qa nd qc,T ca nc cc,M U age,M U shear]/\ap w.heap.size w wr) (λ_ i _=>nc - (aV i).toNat)
   case atStart=>exact⟨0,aF _,rfl,rfl,show _=_ from rfl,hC,hB⟩
   case round=>
    clear hC hB
    obtain⟨j,hj,rfl,rfl,HJ,hC,hB⟩:=hrel
    by_cases hlt:j<nc
    rotate_left
    ·obtain rfl:nc=j:=om
     have HE:=af (HJ.out.trans (bh (lC C) nc))
     have hE3:=HE.out
     clear HJ HE
     have xx:=aL hC
     go_wp2_with fail
     refine bm (cI _ _ _ _) ?_
     rintro(_|_) g0
     rotate_left
     ·go_wp2_with fail
      exact fT
     go_wp2_with fail
     refine bm (cI _ _ _ _) ?_
     rintro(_|_) g1
     ·go_wp2_with fail
      exact fT
     go_wp2_with fail
     exact fT
    have HF:=af (HJ.out.trans (bf (lC C) hlt))
    have HP:=af (λh=>rh (C:=C) (j:=j) h)
    have HV:=af (show mY C (j+1)=C j 0 from rfl)
    obtain⟨q,hq⟩:∃q,q=lC C j:=⟨_,rfl⟩
    rw[<-hq]at HF
    unfold lC at hq
    have HQ:=af hq
    clear hq HJ
    obtain⟨bb,bo,rfl,bl,hc⟩:=(HRc.out.below hB).elem hlt
    have e0:wr.cell? ⟨bb,bo+j,ag⟩=ai (M U (C j 0)):=eI hc
    clear hc
    generalize C j 0=b0 at *
    generalize mY C j=pv at *
    have i2:(j:Int)<(nc:Int):=om
    go_wp2_with fail
    refine bm (cI _ _ _ _) ?_
    rintro(_|_) g1
    rotate_left
    ·exact vH
    have hcb:=HP.out (aW.1 g1).1
    by_cases kd:b0<=pv
    ·have k1:decide (b0<=pv)=true:=decide_eq_true kd
     rw[k1]at hcb
     exact vH
    have k1:decide (b0<=pv)=false:=decide_eq_false kd
    rw[k1]at hcb
    have HJ2:bj (aB (lC C) nc 0=aB (lC C) (nc - (j+1)) (j+1)):=by
     exact gM
    clear HF HQ HP hcb
    go_wp2_with fail
    go_roundw
    case rel=>exact⟨j+1,by omega,by go_num,by rw[HV.out],HJ2,hC,hB⟩
    case measure=>simp[aV];omega
end
end Go.Proofs.YtbpnallaifdcpaaGreatDoor
