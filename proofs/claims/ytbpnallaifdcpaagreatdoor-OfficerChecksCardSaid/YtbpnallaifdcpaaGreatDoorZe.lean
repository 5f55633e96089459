/- Parts of the proof. -/
import Derived.Test.YtbpnallaifdcpaaGreatDoorZd
set_option linter.unusedVariables false
set_option linter.unusedSimpArgs false
set_option maxRecDepth 100000
set_option maxHeartbeats 4000000
namespace Go.Proofs.YtbpnallaifdcpaaGreatDoor
open Go.Value renaming int→M
open Go.IntKind renaming i64→U
open Go.Value renaming slice→T,pointer→ax,string→ay,bool→aA,agg→aN
open Go.Lib renaming hid→af
open Option renaming none→ag,some→ai
open Go renaming World→aj,Value→aw,Calls→aC,below_drewN→aM,TypeId→aT,bodyPost_ret→bG,maxLen→cF
open Go.RowKit renaming Below→ap,intOf→aV,Hid→bj
open Go.Ending renaming returned→ar
open Go.RowKit.Below renaming refl→au,setCell→aS
open Go.IntWalk renaming i64_in→aD
open Nat renaming zero_le→aF,le_trans→aO,le_refl→aY,add_zero→bq,le_of_eq→bs
open Go.World renaming block_lt_of_cell?→aG,size_alloc→bg
open Go.Code renaming wp→bi
open Go.Exit renaming normal→bk
section
open Tryz
open Go.RowKit Go.Shelf
attribute [local go_sem] Oper.semAt_some
variable {v0 v1 v5 v6 v7 v8 v9 v10 v11 v12 v13 v14 v15 v16 v17 v18 v19 v20 v21 v22 v23 v24 v25 v26 v27 v28 v29 v30 v31 v32 v33 v34 v35 v36 v37 v38 v39 v40 v41 v42 v43 v44 v45 v46 v47 v48 v49 v50 v51 v52 v53 v54 v55 v56 v57 v58 v59 v60 v61 v62 v63 v64 v65 v66 v67 v68 v69 v70 v71 v72 v73 v74 v75 v76 v77 v78 v79 v80 v81 v82 v83 v84 v85 v86 v87 v88 v89 v90 v91 v92 v93 v94 v95 v96 v97 v98 v99 v100 v101 v102 v103 v104 v105 v106 v107 v108 v109 v110 v111 v112 v113 v114 v115 v116 v117 v118:aw}
theorem uO {W:aj} {b:Nat} {t:aT} {a:aw} (h:am W b t #[a]) {v:aw}:am (W.setCell ⟨b,0,ag⟩ v) b t #[v]:=by
 have h2:=h.set 0 v
 simpa using h2
theorem uH {W:aj} {b:Nat} {t:aT} {cs:Array aw} (h:am W b t cs) {p:Addr} {v:aw} (hn:p.block≠b):am (W.setCell p v) b t cs:=h.set_other hn v
theorem sB {W:aj} {b:Nat} {t:aT} {cs:Array aw} (h:am W b t cs):am W.drew b t cs:=h.drew
theorem tR {B:Nat} {w W:aj} {p:Addr} {v:aw} (h:ap B w W) (hb:B<=p.block):ap B w (W.setCell p v):=aS h hb v
theorem sC {B:Nat} {w W:aj} (h:ap B w W):ap B w W.drew:=h.drew
theorem us {c:Code} (hc:c=et f89 6) {wc:aj} {Q:Exit->Act->aj->Prop} {B xb yb zb:Nat} {x:aw} {at_ e:Int}
 (hx:am wc xb 3 #[x]) (hy:am wc yb 3 #[M U at_]) (hz:am wc zb 69 #[M U e]) (hxy:xb≠yb) (hxz:xb≠zb) (hyz:yb≠zb) (h1:B<=xb) (h2:B<=yb) (h3:B<=zb)
 (hK:∀(u46 u47:aw) (w':aj),ap B wc w'->am w' xb 3 #[M U 2]->am w' yb 3 #[M U at_]->am w' zb 69 #[M U e]->
  Q bk {tmps:=#[v0,v1,ax (ai ⟨xb,0,ag⟩),ax (ai ⟨yb,0,ag⟩),ax (ai ⟨zb,0,ag⟩),v5,v6,v7,v8,v9,v10,v11,v12,v13,v14,v15,v16,v17,v18,v19,v20,v21,v22,v23,v24,v25,v26,v27,v28,v29,v30,v31,v32,v33,v34,v35,v36,v37,v38,v39,v40,v41,v42,v43,v44,v45,u46,u47,v48,v49,v50,v51,v52,v53,v54,v55,v56,v57,v58,v59,v60,v61,v62,v63,v64,v65,v66,v67,v68,v69,v70,v71,v72,v73,v74,v75,v76,v77,v78,v79,v80,v81,v82,v83,v84,v85,v86,v87,v88,v89,v90,v91,v92,v93,v94,v95,v96,v97,v98,v99,v100,v101,v102,v103,v104,v105,v106,v107,v108,v109,v110,v111,v112,v113,v114,v115,v116,v117,v118],defers:=[]} w'):
 bi prog c Q {tmps:=#[v0,v1,ax (ai ⟨xb,0,ag⟩),ax (ai ⟨yb,0,ag⟩),ax (ai ⟨zb,0,ag⟩),v5,v6,v7,v8,v9,v10,v11,v12,v13,v14,v15,v16,v17,v18,v19,v20,v21,v22,v23,v24,v25,v26,v27,v28,v29,v30,v31,v32,v33,v34,v35,v36,v37,v38,v39,v40,v41,v42,v43,v44,v45,v46,v47,v48,v49,v50,v51,v52,v53,v54,v55,v56,v57,v58,v59,v60,v61,v62,v63,v64,v65,v66,v67,v68,v69,v70,v71,v72,v73,v74,v75,v76,v77,v78,v79,v80,v81,v82,v83,v84,v85,v86,v87,v88,v89,v90,v91,v92,v93,v94,v95,v96,v97,v98,v99,v100,v101,v102,v103,v104,v105,v106,v107,v108,v109,v110,v111,v112,v113,v114,v115,v116,v117,v118],defers:=[]} wc:=by
 subst hc
 conv=>arg 2;whnf
 have HKK:=af hK
 clear hK
 have c1:=hx.cell 0
 have c2:=hy.cell 0
 have c3:=hz.cell 0
 have f1:=hx.frozen 0
 have f2:=hy.frozen 0
 have f3:=hz.frozen 0
 go_region
 all_goals exact HKK.out _ _ _ eo cw cw cw
theorem s9 {c:Code} (hc:c=et f89 17) {wc:aj} {Q:Exit->Act->aj->Prop} {B xb yb zb:Nat} {x:aw} {at_ e:Int}
 (hx:am wc xb 3 #[x]) (hy:am wc yb 3 #[M U at_]) (hz:am wc zb 69 #[M U e]) (hxy:xb≠yb) (hxz:xb≠zb) (hyz:yb≠zb) (h1:B<=xb) (h2:B<=yb) (h3:B<=zb)
 (hK:∀(u84 u85:aw) (w':aj),ap B wc w'->am w' xb 3 #[M U 4]->am w' yb 3 #[M U at_]->am w' zb 69 #[M U e]->
  Q bk {tmps:=#[v0,v1,ax (ai ⟨xb,0,ag⟩),ax (ai ⟨yb,0,ag⟩),ax (ai ⟨zb,0,ag⟩),v5,v6,v7,v8,v9,v10,v11,v12,v13,v14,v15,v16,v17,v18,v19,v20,v21,v22,v23,v24,v25,v26,v27,v28,v29,v30,v31,v32,v33,v34,v35,v36,v37,v38,v39,v40,v41,v42,v43,v44,v45,v46,v47,v48,v49,v50,v51,v52,v53,v54,v55,v56,v57,v58,v59,v60,v61,v62,v63,v64,v65,v66,v67,v68,v69,v70,v71,v72,v73,v74,v75,v76,v77,v78,v79,v80,v81,v82,v83,u84,u85,v86,v87,v88,v89,v90,v91,v92,v93,v94,v95,v96,v97,v98,v99,v100,v101,v102,v103,v104,v105,v106,v107,v108,v109,v110,v111,v112,v113,v114,v115,v116,v117,v118],defers:=[]} w'):
 bi prog c Q {tmps:=#[v0,v1,ax (ai ⟨xb,0,ag⟩),ax (ai ⟨yb,0,ag⟩),ax (ai ⟨zb,0,ag⟩),v5,v6,v7,v8,v9,v10,v11,v12,v13,v14,v15,v16,v17,v18,v19,v20,v21,v22,v23,v24,v25,v26,v27,v28,v29,v30,v31,v32,v33,v34,v35,v36,v37,v38,v39,v40,v41,v42,v43,v44,v45,v46,v47,v48,v49,v50,v51,v52,v53,v54,v55,v56,v57,v58,v59,v60,v61,v62,v63,v64,v65,v66,v67,v68,v69,v70,v71,v72,v73,v74,v75,v76,v77,v78,v79,v80,v81,v82,v83,v84,v85,v86,v87,v88,v89,v90,v91,v92,v93,v94,v95,v96,v97,v98,v99,v100,v101,v102,v103,v104,v105,v106,v107,v108,v109,v110,v111,v112,v113,v114,v115,v116,v117,v118],defers:=[]} wc:=by
 subst hc
 conv=>arg 2;whnf
 have HKK:=af hK
 clear hK
 have c1:=hx.cell 0
 have c2:=hy.cell 0
 have c3:=hz.cell 0
 have f1:=hx.frozen 0
 have f2:=hy.frozen 0
 have f3:=hz.frozen 0
 go_region
 all_goals exact HKK.out _ _ _ eo cw cw cw
theorem tz {c:Code} (hc:c=et f89 20) {wc:aj} {Q:Exit->Act->aj->Prop} {B xb yb zb:Nat} {x:aw} {at_ e:Int}
 (hx:am wc xb 3 #[x]) (hy:am wc yb 3 #[M U at_]) (hz:am wc zb 69 #[M U e]) (hxy:xb≠yb) (hxz:xb≠zb) (hyz:yb≠zb) (h1:B<=xb) (h2:B<=yb) (h3:B<=zb)
 (hK:∀(u94 u95:aw) (w':aj),ap B wc w'->am w' xb 3 #[M U 5]->am w' yb 3 #[M U at_]->am w' zb 69 #[M U e]->
  Q bk {tmps:=#[v0,v1,ax (ai ⟨xb,0,ag⟩),ax (ai ⟨yb,0,ag⟩),ax (ai ⟨zb,0,ag⟩),v5,v6,v7,v8,v9,v10,v11,v12,v13,v14,v15,v16,v17,v18,v19,v20,v21,v22,v23,v24,v25,v26,v27,v28,v29,v30,v31,v32,v33,v34,v35,v36,v37,v38,v39,v40,v41,v42,v43,v44,v45,v46,v47,v48,v49,v50,v51,v52,v53,v54,v55,v56,v57,v58,v59,v60,v61,v62,v63,v64,v65,v66,v67,v68,v69,v70,v71,v72,v73,v74,v75,v76,v77,v78,v79,v80,v81,v82,v83,v84,v85,v86,v87,v88,v89,v90,v91,v92,v93,u94,u95,v96,v97,v98,v99,v100,v101,v102,v103,v104,v105,v106,v107,v108,v109,v110,v111,v112,v113,v114,v115,v116,v117,v118],defers:=[]} w'):
 bi prog c Q {tmps:=#[v0,v1,ax (ai ⟨xb,0,ag⟩),ax (ai ⟨yb,0,ag⟩),ax (ai ⟨zb,0,ag⟩),v5,v6,v7,v8,v9,v10,v11,v12,v13,v14,v15,v16,v17,v18,v19,v20,v21,v22,v23,v24,v25,v26,v27,v28,v29,v30,v31,v32,v33,v34,v35,v36,v37,v38,v39,v40,v41,v42,v43,v44,v45,v46,v47,v48,v49,v50,v51,v52,v53,v54,v55,v56,v57,v58,v59,v60,v61,v62,v63,v64,v65,v66,v67,v68,v69,v70,v71,v72,v73,v74,v75,v76,v77,v78,v79,v80,v81,v82,v83,v84,v85,v86,v87,v88,v89,v90,v91,v92,v93,v94,v95,v96,v97,v98,v99,v100,v101,v102,v103,v104,v105,v106,v107,v108,v109,v110,v111,v112,v113,v114,v115,v116,v117,v118],defers:=[]} wc:=by
 subst hc
 conv=>arg 2;whnf
 have HKK:=af hK
 clear hK
 have c1:=hx.cell 0
 have c2:=hy.cell 0
 have c3:=hz.cell 0
 have f1:=hx.frozen 0
 have f2:=hy.frozen 0
 have f3:=hz.frozen 0
 go_region
 all_goals exact HKK.out _ _ _ eo cw cw cw
theorem ti {c:Code} (hc:c=et f89 23) {wc:aj} {Q:Exit->Act->aj->Prop} {B xb yb zb:Nat} {x:aw} {at_ e:Int}
 (hx:am wc xb 3 #[x]) (hy:am wc yb 3 #[M U at_]) (hz:am wc zb 69 #[M U e]) (hxy:xb≠yb) (hxz:xb≠zb) (hyz:yb≠zb) (h1:B<=xb) (h2:B<=yb) (h3:B<=zb)
 (hK:∀(u105 u106:aw) (w':aj),ap B wc w'->am w' xb 3 #[M U 6]->am w' yb 3 #[M U at_]->am w' zb 69 #[M U e]->
  Q bk {tmps:=#[v0,v1,ax (ai ⟨xb,0,ag⟩),ax (ai ⟨yb,0,ag⟩),ax (ai ⟨zb,0,ag⟩),v5,v6,v7,v8,v9,v10,v11,v12,v13,v14,v15,v16,v17,v18,v19,v20,v21,v22,v23,v24,v25,v26,v27,v28,v29,v30,v31,v32,v33,v34,v35,v36,v37,v38,v39,v40,v41,v42,v43,v44,v45,v46,v47,v48,v49,v50,v51,v52,v53,v54,v55,v56,v57,v58,v59,v60,v61,v62,v63,v64,v65,v66,v67,v68,v69,v70,v71,v72,v73,v74,v75,v76,v77,v78,v79,v80,v81,v82,v83,v84,v85,v86,v87,v88,v89,v90,v91,v92,v93,v94,v95,v96,v97,v98,v99,v100,v101,v102,v103,v104,u105,u106,v107,v108,v109,v110,v111,v112,v113,v114,v115,v116,v117,v118],defers:=[]} w'):
 bi prog c Q {tmps:=#[v0,v1,ax (ai ⟨xb,0,ag⟩),ax (ai ⟨yb,0,ag⟩),ax (ai ⟨zb,0,ag⟩),v5,v6,v7,v8,v9,v10,v11,v12,v13,v14,v15,v16,v17,v18,v19,v20,v21,v22,v23,v24,v25,v26,v27,v28,v29,v30,v31,v32,v33,v34,v35,v36,v37,v38,v39,v40,v41,v42,v43,v44,v45,v46,v47,v48,v49,v50,v51,v52,v53,v54,v55,v56,v57,v58,v59,v60,v61,v62,v63,v64,v65,v66,v67,v68,v69,v70,v71,v72,v73,v74,v75,v76,v77,v78,v79,v80,v81,v82,v83,v84,v85,v86,v87,v88,v89,v90,v91,v92,v93,v94,v95,v96,v97,v98,v99,v100,v101,v102,v103,v104,v105,v106,v107,v108,v109,v110,v111,v112,v113,v114,v115,v116,v117,v118],defers:=[]} wc:=by
 subst hc
 conv=>arg 2;whnf
 have HKK:=af hK
 clear hK
 have c1:=hx.cell 0
 have c2:=hy.cell 0
 have c3:=hz.cell 0
 have f1:=hx.frozen 0
 have f2:=hy.frozen 0
 have f3:=hz.frozen 0
 go_region
 all_goals exact HKK.out _ _ _ eo cw cw cw
end
section
open Tryz
open Go.RowKit Go.Shelf
def dN (x:Int) (c m:Nat):List aw:=List.replicate m (M U x)++List.replicate (c - m) (M U 0)
theorem kH (x:Int) {c m:Nat} (h:m<=c):(dN x c m).length=c:=by unfold dN;simp;omega
theorem ic (x:Int) {c m k:Nat} (h:m+k<=c):splice (dN x c m) m (List.replicate k (M U x))=dN x c (m+k):=by
 unfold splice dN
 rw[List.take_append_of_le_length (by simp),List.take_of_length_le (by simp),List.length_replicate]
 rw[List.drop_append,List.drop_eq_nil_of_le (by simp),List.nil_append,List.length_replicate]
 rw[show m+k - m=k by omega,List.drop_replicate,<-List.append_assoc,List.replicate_append_replicate]
 rw[show c - m - k=c - (m+k)by omega]
theorem pV (x:Int) {c m j:Nat} (h:j<m):(dN x c m)[j]?=ai (M U x):=by
 unfold dN
 rw[List.getElem?_append_left (by simpa using h),List.getElem?_replicate,if_pos h]
theorem jr {W:aj} {x:Int} {g c m j:Nat} (hg:W.heap[g]?=ai (.cells (dN x c m).toArray 3 (0,0))) (h:j<m):W.cell? (Addr.add ⟨g,0,ag⟩ j)=ai (M U x):=by
 have ha:Addr.add ⟨g,0,ag⟩ j=⟨g,j,ag⟩:=by
  unfold Addr.add
  by_cases hz:j=0
  ·rw[if_pos hz,hz]
  ·rw[if_neg hz];simp
 rw[ha]
 simp[aj.cell?,hg,pV x h]
theorem eG (x:Int) (c:Nat) (v0:aw) (w:aj) (hR:aU w v0 1 1 (λ_ _=>M U x)) (hc:c<=1000000):
  aC prog 323 #[v0,M U (c:Int)] w λe w'=>∃v':aw,e=ar v'/\cW w' w.heap.size v' c 1 (λ_ _=>M U x)/\ap w.heap.size w w':=by
 obtain⟨ra,rc,rfl,hrc,h⟩:=hR
 obtain⟨b,off,rfl,hlt,hcl⟩:∃b off,ra=ai ⟨b,off,ag⟩/\b<w.heap.size/\w.cell? ⟨b,off,ag⟩=ai (M U x):=by
  rcases h with h|⟨b,off,rfl,h1,h2⟩
  ·omega
  ·exact⟨b,off,rfl,h1,by have h3:=h2 0 0 om om;simpa using h3⟩
 clear h
 have hw1:IntKind.u64.wrap 1=1:=by decide
 have hw2:IntKind.u64.wrap (c:Int)=(c:Int):=by rw[IntKind.wrap_u64];omega
 have hw3:IntKind.i64.wrap (c:Int)=(c:Int):=aD _ ⟨by omega,by omega⟩
 have hm:=λW=>bits_Mul 1 c om om W
 simp only[Nat.one_mul,Nat.div_eq_of_lt (show c<18446744073709551616 by omega),Nat.mod_eq_of_lt (show c<18446744073709551616 by omega)]at hm
 have HM:=af hm
 clear hm
 obtain⟨i0,hi,hz0,hz1,hz2⟩:=info_parts infoC_clone_ints
 go_enter func323,ntmps323
 go_wp2_with fail
 refine(HM.out _).mono ?_
 rintro e w1 ⟨rfl,rfl⟩
 go_upto_region 6 with fail
 obtain⟨w2,hmk,hown,hgr⟩:=run_make_full (P:=prog) w1 w1.heap.size 24 3 i0 (M U 0) 1 underlying24 hi hz0 hz1 .i64 .i64 c (by rw[hz2];omega) (by unfold cF;omega) (aY _)
 have hpl:(madeCells (aw.cells (M U 0)) (c*1)).toList=dN x c 0:=by
  rw[Nat.mul_one,show aw.cells (M U 0)=#[M U 0]from rfl,toList_madeCells_one];simp[dN]
 rw[hpl]at hown
 have hrow:w2.heap[w1.heap.size]?=ai (.cells (dN x c 0).toArray 3 (0,0)):=by
  obtain⟨hl,h|⟨g,cap,cur,hv,hb,hg,h1,h2,h3,h4⟩⟩:=hown
  ·have:=h.1;cases this
  ·simp only[aw.slice.injEq,Option.some.injEq,Addr.mk.injEq,and_true,true_and]at hv
   obtain⟨hv1,hv2⟩:=hv
   subst hv1
   subst hv2
   rw[hg]
   rw[Nat.mul_one]at h3 h4
   have h5:cur.toList=dN x c 0:=by rw[<-h4];exact(List.take_of_length_le (by rw[Array.length_toList];omega)).symm
   rw[<-h5]
 have hB:ap w1.heap.size w1 w2:=(au _ _).grown hgr (aY _) (λk e=>by cases e)
 clear hown hgr hpl
 have hx2:w2.cell? ⟨b,off,ag⟩=ai (M U x):=(hB.cell (p:=⟨b,off,ag⟩) hlt).trans hcl
 obtain⟨g,hge⟩:∃g,g=w1.heap.size:=⟨_,rfl⟩
 have hBg:w1.heap.size<=g:=bs hge.symm
 rw[<-hge]at hrow hmk
 clear hge
 obtain⟨m0,hm0⟩:∃m0,m0=Nat.min 1 c:=⟨_,rfl⟩
 have hm00:m0=min 1 c:=hm0
 obtain⟨cs,hcs⟩:∃cs,cs=List.replicate m0 (M U x):=⟨_,rfl⟩
 have hlen:cs.length=m0:=by rw[hcs,List.length_replicate]
 have hone:∀v∈cs,v.oneCell'=true:=λv hv=>by rw[hcs]at hv;rw[List.eq_of_mem_replicate hv];rfl
 have HCS:=af hcs
 have HM0:=af hm00
 have hfit:0+cs.length<=(dN x c 0).length:=by rw[hlen,kH x (aF _)];omega
 have hn0:cs.length=Nat.min 1 c:=by rw[hlen,hm0]
 have HN0:=af hn0
 clear hcs hm00 hm0 hn0
 have HSZ:bj ((prog.info? 3).map (·.size)=ai 1):=show _=_ by kernel_rfl
 go_wp2_with (refine wpList_copy_splice rfl (.tmp 31) (.tmp 32) 24 24 rfl 3 underlying24 HSZ.out (ai ⟨g,0,ag⟩) (ai ⟨b,off,ag⟩) c c 1 rc rfl rfl g 0 (dN x c 0) 3 hrow cs HN0.out (λ_=>⟨rfl,_,rfl,?_⟩) hfit hone w1.heap.size w1 hB hBg ?_)
 ·intro j v hv
  rw[HCS.out]at hv
  rw[List.getElem?_replicate]at hv
  have hm:=HM0.out
  split at hv
  ·cases hv
   obtain rfl:j=0:=om
   exact hx2
  ·cases hv
 intro w3 hrow3 hB3
 have hm:=HM0.out
 rw[HCS.out,ic x om,Nat.zero_add]at hrow3
 have hz1':c=0\/1<=m0:=om
 have hz2':m0<=c:=om
 clear hm HM0 HN0 HCS hfit
 clear hrow hx2 hB hmk hone
 go_wp2_with fail
 go_loopw [8] (λi wr=>∃m:Nat,m<=c/\(c=0\/1<=m)/\i=M U m/\bj (wr.heap[g]?=ai (.cells (dN x c m).toArray 3 (0,0)))/\ap w1.heap.size w1 wr) (λi _=>c - (aV i).toNat)
 case atStart=>exact⟨m0,hz2',hz1',rfl,hrow3,hB3⟩
 case round=>
  clear hrow3 hB3 hz1' hz2'
  obtain⟨m,hm,hm1,rfl,HR,hB⟩:=hrel
  by_cases hlt2:m<c
  ·have i2:(m:Int)<(c:Int):=om
   have hm1:1<=m:=om
   have s1:∀W:aj,(Instr.sliceAt 24 (T (ai ⟨g,0,ag⟩) c c) (ai (M U m)) ag ag).run prog W= .ok (T (ai ⟨g,m,ag⟩) (c - m) (c - m)) W:=λW=>by
    simp[go_sem,underlying24,show m<=c by omega,show¬c=m by omega]
   have s2:∀W:aj,(Instr.sliceAt 24 (T (ai ⟨g,0,ag⟩) c c) ag (ai (M U m)) ag).run prog W= .ok (T (ai ⟨g,0,ag⟩) m c) W:=λW=>by
    simp[go_sem,underlying24];intro h9;omega
   obtain⟨k,hk⟩:∃k,k=Nat.min m (c - m):=⟨_,rfl⟩
   have hk2:k=min m (c - m):=hk
   obtain⟨cs,hcs⟩:∃cs,cs=List.replicate k (M U x):=⟨_,rfl⟩
   have hlen:cs.length=k:=by rw[hcs,List.length_replicate]
   have hone:∀v∈cs,v.oneCell'=true:=λv hv=>by rw[hcs]at hv;rw[List.eq_of_mem_replicate hv];rfl
   have hfit:m+cs.length<=(dN x c m).length:=by rw[hlen,kH x hm];omega
   have hn0:cs.length=Nat.min m (c - m):=by rw[hlen,hk]
   have hsrc:∀j v,cs[j]?=ai v->wr.cell? (Addr.add ⟨g,0,ag⟩ j)=ai v:=λj v hv=>by
    rw[hcs,List.getElem?_replicate]at hv
    split at hv
    ·cases hv;exact jr HR.out om
    ·cases hv
   have HN0:=af hn0
   have HF:=af hfit
   have HS:=af hsrc
   have HSP:=af (show splice (dN x c m) m cs=dN x c (m+k)by rw[hcs];exact ic x om)
   have hk3:1<=k:=om
   have hk4:m+k<=c:=om
   have q1:=aD ((m:Int)+(k:Int)) ⟨by omega,by omega⟩
   clear hk hk2 hcs hn0 hfit hsrc
   go_upto_region 9 with fail
   go_region_law (refine step_copy_splice rfl (.tmp 41) (.tmp 44) 24 24 rfl 3 underlying24 HSZ.out (ai ⟨g,m,ag⟩) (ai ⟨g,0,ag⟩) (c - m) (c - m) m c (by simp[Act.eval,Act.put]) (by simp[Act.eval,Act.put]) g m (dN x c m) 3 HR.out cs HN0.out (λ_=>⟨rfl,_,rfl,HS.out⟩) HF.out hone w1.heap.size w1 hB.drew hBg ?_;intro w4 hg4 hb4)
   all_goals(try simp only[Act.put,List.setIfInBounds_toArray,List.set_cons_zero,List.set_cons_succ,List.getElem_toArray,List.getElem_cons_succ,List.getElem_cons_zero])
   all_goals(simp only[Exit.inBlock];go_wp2_with fail;go_roundw)
   case rel=>exact⟨m+k,by omega, .inr om,by go_num,show _=_ by rw[<-HSP.out];exact hg4.out,hb4⟩
   case measure=>simp[aV];omega
  ·obtain rfl:m=c:=om
   go_wp2_with fail
   go_ret
   refine⟨_,rfl,⟨_,_,rfl,aY _,?_⟩,hB⟩
   refine .inr ⟨g,rfl,hBg,(Array.getElem?_eq_some_iff.1 HR.out).1,λi j hi hj=>?_⟩
   obtain rfl:j=0:=om
   rw[Nat.mul_one,bq]
   refine⟨?_,?_⟩
   ·have h9:=jr (j:=i) HR.out hi
    have ha:Addr.add ⟨g,0,ag⟩ i=⟨g,i,ag⟩:=by
     unfold Addr.add
     by_cases hz:i=0
     ·rw[if_pos hz,hz]
     ·rw[if_neg hz];simp
    rw[<-ha];exact h9
   ·simp[aj.frozen?,HR.out]
end
section
open Tryz
open Go.RowKit Go.Maps
def dy (N:Nat->ByteArray) (E:Nat->Int) (i:Nat):Option Int:=
 if !dq (N i).data.toList then ai 6 else if bI (λk=>ej (N k) (N i)) i then ai 5 else if E i=0 then ag else ai (E i)
def eD (N:Nat->ByteArray) (E:Nat->Int) (n:Nat):Int×Int:=match aB (dy N E) n 0 with
 |some (i,e)=>(((i:Nat):Int),e)
 |none=>(0,0)
def pm (N:Nat->ByteArray) (R:Nat->Nat->Int) (Bb:Nat->Bool) (i j:Nat):aw:=match j with
 |0=>ay (N i)
 |7=>aA (Bb i)
 |j=>M U (R i j)
def lB (N:Nat->ByteArray) (R:Nat->Nat->Int) (SA:Nat->Option Addr) (SN SC:Nat->Nat) (i j:Nat):aw:=match j with
 |0=>ay (N i)
 |5=>T (SA i) (SN i) (SC i)
 |j=>M U (R i j)
theorem bN (n lo hi:Int) (w:aj):
  aC prog 151 #[M U n,M U lo,M U hi] w λe w'=>e=ar (aA (aI n lo hi))/\w=w':=by
 go_enter func151,ntmps151
 exact iP
theorem ip (n:Int) (w:aj):
  aC prog 158 #[M U n] w λe w'=>e=ar (aA (aI n 0 9))/\w=w':=by
 go_enter func158,ntmps158
 exact vO
theorem oI (n:Int) (w:aj):
  aC prog 354 #[M U n] w λe w'=>e=ar (aA (aI n (-10000000) 10000000))/\ap w.heap.size w w':=by
 go_enter func354,ntmps354
 exact ui
theorem pS (n:Nat) (R:Nat->Nat->Int) (v:aw) (w:aj) (hR:aU w v n 1 (bw R)) (hn:n<=1125899906842624):
  aC prog 257 #[v] w λe w'=>e=ar (aA (bI (λi=>aI (R i 0) (-10000000) 10000000) n))/\ap w.heap.size w w':=by
 have HC:=af (eO 354 (λ_ _=>by kernel_rfl) n R (λi=>aI (R i 0) (-10000000) 10000000) v w hR hn (λi W _ _=>oI _ W))
 obtain⟨ra,rc,rfl,hrc,hx⟩:=hR
 go_enter func257,ntmps257
 exact rE
theorem ii (l:List Int) (w:aj) (t:aT) (hn:l.length<=1125899906842624):
  aC prog 257 #[T (ai ⟨w.heap.size,0,ag⟩) l.length l.length] (w.alloc (.cells ⟨l.map (M U)⟩ t)) λe w'=>e=ar (aA (l.any λn=>aI n (-10000000) 10000000))/\ap w.heap.size w w':=by
 have h:=pS _ _ _ _ (sG w t l) hn
 rw[gA (λn=>aI n (-10000000) 10000000)]at h
 exact sA
theorem pX (n:Nat) (N:Nat->ByteArray) (R:Nat->Nat->Int) (Bb:Nat->Bool) (E:Nat->Int) (v:aw) (w:aj) (hRr:aU w v n 8 (pm N R Bb)) (hn:n<=1125899906842624) (hN:∀i,i<n->(N i).size<=9223372036854775806)
  (hG:∀(i:Nat) (W:aj),i<n->ap w.heap.size w W->aC prog 153 #[aN #[ay (N i),M U (R i 1),M U (R i 2),M U (R i 3),M U (R i 4),M U (R i 5),M U (R i 6),aA (Bb i)]] W λe w'=>e=ar (ay (N i))/\ap W.heap.size W w')
  (hH:∀(i:Nat) (W:aj),i<n->ap w.heap.size w W->aC prog 154 #[aN #[ay (N i),M U (R i 1),M U (R i 2),M U (R i 3),M U (R i 4),M U (R i 5),M U (R i 6),aA (Bb i)]] W λe w'=>e=ar (M U (E i))/\ap W.heap.size W w'):
  aC prog 152 #[v, .func (.func 153) #[] #[], .func (.func 154) #[] #[]] w (E2 w (eD N E n)):=by
 obtain⟨ra,rc,rfl,hrc,hx⟩:=id hRr
 clear hx
 have HRr:=af hRr
 have HN:=af hN
 have HG:=af hG
 have HH:=af hH
 clear hRr hN hG hH
 obtain⟨r,HS⟩:=dR (eD N E n)
 rw[<-HS.out]
 obtain⟨K,hK⟩:∃K:Nat->aw,K=λi=>ay (N i):=⟨_,rfl⟩
 have HKi:bj (∀i,K i=ay (N i)):=show∀i,_ from λi=>by rw[hK]
 clear hK
 have hmm:=@run_makeMap prog
 go_enter func152,ntmps152
 go_upto_region 2 with fail
 clear hmm
 have hM:=cG.made prog 9 w K
 have hB:=aP (au w.heap.size w) (.map #[] 0)
 have hmb:=aY w.heap.size
 obtain⟨mb,hmbe⟩:=bY w.heap.size
 rw[<-hmbe]at hM⊢
 have hmb:w.heap.size<=mb:=bs hmbe.symm
 clear hmbe
 generalize w.alloc (.map #[] 0)=W1 at *
 go_wp2_with fail
 go_loopw [16] (λi wr=>∃j:Nat,j<=n/\i=M U j/\bj (aB (dy N E) n 0=aB (dy N E) (n - j) j)/\cG prog 9 wr mb j K/\ap w.heap.size w wr) (λi _=>n - (aV i).toNat)
 case atStart=>exact⟨0,aF _,rfl,show _=_ from rfl,hM,hB⟩
 case round=>
  clear hM hB
  obtain⟨j,hj,rfl,HJ,hM,hB⟩:=hrel
  by_cases hlt:j<n
  rotate_left
  ·exact T76
  have HF:=af (HJ.out.trans (bf (dy N E) hlt))
  obtain⟨q,hq⟩:∃q,q=dy N E j:=⟨_,rfl⟩
  rw[<-hq]at HF
  unfold dy at hq
  have HQ:=af hq
  clear hq HJ
  have hNj:=HN.out j hlt
  obtain⟨bb,bo,rfl,bl,hc⟩:=(HRr.out.below hB).elem hlt
  have e0:wr.cell? ⟨bb,bo+j*8,ag⟩=ai (ay (N j)):=hc 0 om
  have e1:wr.cell? ⟨bb,bo+j*8+1,ag⟩=ai (M U (R j 1)):=hc 1 om
  have e2:wr.cell? ⟨bb,bo+j*8+2,ag⟩=ai (M U (R j 2)):=hc 2 om
  have e3:wr.cell? ⟨bb,bo+j*8+3,ag⟩=ai (M U (R j 3)):=hc 3 om
  have e4:wr.cell? ⟨bb,bo+j*8+4,ag⟩=ai (M U (R j 4)):=hc 4 om
  have e5:wr.cell? ⟨bb,bo+j*8+5,ag⟩=ai (M U (R j 5)):=hc 5 om
  have e6:wr.cell? ⟨bb,bo+j*8+6,ag⟩=ai (M U (R j 6)):=hc 6 om
  have e7:wr.cell? ⟨bb,bo+j*8+7,ag⟩=ai (aA (Bb j)):=hc 7 om
  clear hc
  have HGj:=af (λW h=>HG.out j W hlt h)
  have HHj:=af (λW h=>HH.out j W hlt h)
  have hKj:K j=ay (N j):=HKi.out j
  generalize R j 1=f1 at *
  generalize R j 2=f2 at *
  generalize R j 3=f3 at *
  generalize R j 4=f4 at *
  generalize R j 5=f5 at *
  generalize R j 6=f6 at *
  generalize Bb j=f7 at *
  generalize N j=b0 at *
  generalize E j=E0 at *
  have i2:(j:Int)<(n:Int):=om
  go_upto_region 5 with fail
  obtain⟨w1,hW9,hN9,hb⟩:=bW wr 240 #[ay b0,M U f1,M U f2,M U f3,M U f4,M U f5,M U f6,aA f7]
  rw[hW9.out]
  clear hW9
  replace hM:=hM.below hb
  replace hB:=ak hB hb
  clear hb
  generalize wr.heap.size=db at *
  have hD:=hN9
  have dd:=ek hD
  clear hN9 e0 e1 e2 e3 e4 e5 e6 e7
  go_wp2_with fail
  refine aZ (HGj.out _ hB) ?_
  intro w1 hb
  replace hD:=hD.below hb
  replace hM:=hM.below hb
  replace hB:=ak hB hb
  clear hb
  clear dd
  have dd:=ek hD
  go_wp2_with fail
  refine bH (cS _ _ hNj) ?_
  rintro(_|_) w1 g hb<;>(replace hD:=hD.below hb;replace hM:=hM.below hb;replace hB:=ak hB hb;clear hb)
  ·exact nu
  clear dd
  have dd:=ek hD
  exact T0
theorem nB (n:Nat) (N:Nat->ByteArray) (R:Nat->Nat->Int) (E:Nat->Int) (v:aw) (w:aj) (hRr:aU w v n 2 (em N R)) (hn:n<=1125899906842624) (hN:∀i,i<n->(N i).size<=9223372036854775806)
  (hG:∀(i:Nat) (W:aj),i<n->ap w.heap.size w W->aC prog 156 #[aN #[ay (N i),M U (R i 1)]] W λe w'=>e=ar (ay (N i))/\ap W.heap.size W w')
  (hH:∀(i:Nat) (W:aj),i<n->ap w.heap.size w W->aC prog 157 #[aN #[ay (N i),M U (R i 1)]] W λe w'=>e=ar (M U (E i))/\ap W.heap.size W w'):
  aC prog 155 #[v, .func (.func 156) #[] #[], .func (.func 157) #[] #[]] w (E2 w (eD N E n)):=by
 obtain⟨ra,rc,rfl,hrc,hx⟩:=id hRr
 clear hx
 have HRr:=af hRr
 have HN:=af hN
 have HG:=af hG
 have HH:=af hH
 clear hRr hN hG hH
 obtain⟨r,HS⟩:=dR (eD N E n)
 rw[<-HS.out]
 obtain⟨K,hK⟩:∃K:Nat->aw,K=λi=>ay (N i):=⟨_,rfl⟩
 have HKi:bj (∀i,K i=ay (N i)):=show∀i,_ from λi=>by rw[hK]
 clear hK
 have hmm:=@run_makeMap prog
 go_enter func155,ntmps155
 go_upto_region 2 with fail
 clear hmm
 have hM:=cG.made prog 9 w K
 have hB:=aP (au w.heap.size w) (.map #[] 0)
 have hmb:=aY w.heap.size
 obtain⟨mb,hmbe⟩:=bY w.heap.size
 rw[<-hmbe]at hM⊢
 have hmb:w.heap.size<=mb:=bs hmbe.symm
 clear hmbe
 generalize w.alloc (.map #[] 0)=W1 at *
 go_wp2_with fail
 go_loopw [16] (λi wr=>∃j:Nat,j<=n/\i=M U j/\bj (aB (dy N E) n 0=aB (dy N E) (n - j) j)/\cG prog 9 wr mb j K/\ap w.heap.size w wr) (λi _=>n - (aV i).toNat)
 case atStart=>exact⟨0,aF _,rfl,show _=_ from rfl,hM,hB⟩
 case round=>
  clear hM hB
  obtain⟨j,hj,rfl,HJ,hM,hB⟩:=hrel
  by_cases hlt:j<n
  rotate_left
  ·exact T76
  have HF:=af (HJ.out.trans (bf (dy N E) hlt))
  obtain⟨q,hq⟩:∃q,q=dy N E j:=⟨_,rfl⟩
  rw[<-hq]at HF
  unfold dy at hq
  have HQ:=af hq
  clear hq HJ
  have hNj:=HN.out j hlt
  obtain⟨bb,bo,rfl,bl,hc⟩:=(HRr.out.below hB).elem hlt
  have e0:wr.cell? ⟨bb,bo+j*2,ag⟩=ai (ay (N j)):=hc 0 om
  have e1:wr.cell? ⟨bb,bo+j*2+1,ag⟩=ai (M U (R j 1)):=hc 1 om
  clear hc
  have HGj:=af (λW h=>HG.out j W hlt h)
  have HHj:=af (λW h=>HH.out j W hlt h)
  have hKj:K j=ay (N j):=HKi.out j
  generalize R j 1=f1 at *
  generalize N j=b0 at *
  generalize E j=E0 at *
  have i2:(j:Int)<(n:Int):=om
  go_upto_region 5 with fail
  obtain⟨w1,hW9,hN9,hb⟩:=bW wr 244 #[ay b0,M U f1]
  rw[hW9.out]
  clear hW9
  replace hM:=hM.below hb
  replace hB:=ak hB hb
  clear hb
  generalize wr.heap.size=db at *
  have hD:=hN9
  have dd:=bA hD
  clear hN9 e0 e1
  go_wp2_with fail
  refine aZ (HGj.out _ hB) ?_
  intro w1 hb
  replace hD:=hD.below hb
  replace hM:=hM.below hb
  replace hB:=ak hB hb
  clear hb
  clear dd
  have dd:=bA hD
  go_wp2_with fail
  refine bH (cS _ _ hNj) ?_
  rintro(_|_) w1 g hb<;>(replace hD:=hD.below hb;replace hM:=hM.below hb;replace hB:=ak hB hb;clear hb)
  ·exact nu
  clear dd
  have dd:=bA hD
  exact T0
theorem l9 (n:Nat) (N:Nat->ByteArray) (E:Nat->Int) (v:aw) (w:aj) (hRr:aU w v n 1 (λi _=>ay (N i))) (hn:n<=1125899906842624) (hN:∀i,i<n->(N i).size<=9223372036854775806)
  (hG:∀(i:Nat) (W:aj),i<n->ap w.heap.size w W->aC prog 160 #[ay (N i)] W λe w'=>e=ar (ay (N i))/\ap W.heap.size W w')
  (hH:∀(i:Nat) (W:aj),i<n->ap w.heap.size w W->aC prog 161 #[ay (N i)] W λe w'=>e=ar (M U (E i))/\ap W.heap.size W w'):
  aC prog 159 #[v, .func (.func 160) #[] #[], .func (.func 161) #[] #[]] w (E2 w (eD N E n)):=by
 obtain⟨ra,rc,rfl,hrc,hx⟩:=id hRr
 have HRr:=af hRr
 have HN:=af hN
 have HG:=af hG
 have HH:=af hH
 clear hRr hN hG hH
 obtain⟨r,HS⟩:=dR (eD N E n)
 rw[<-HS.out]
 obtain⟨K,hK⟩:∃K:Nat->aw,K=λi=>ay (N i):=⟨_,rfl⟩
 have HKi:bj (∀i,K i=ay (N i)):=show∀i,_ from λi=>by rw[hK]
 clear hK
 have hmm:=@run_makeMap prog
 go_enter func159,ntmps159
 go_upto_region 2 with fail
 clear hmm
 have hM:=cG.made prog 9 w K
 have hB:=aP (au w.heap.size w) (.map #[] 0)
 have hmb:=aY w.heap.size
 obtain⟨mb,hmbe⟩:=bY w.heap.size
 rw[<-hmbe]at hM⊢
 have hmb:w.heap.size<=mb:=bs hmbe.symm
 clear hmbe
 generalize w.alloc (.map #[] 0)=W1 at *
 go_wp2_with fail
 go_loopw [16] (λi wr=>∃j:Nat,j<=n/\i=M U j/\bj (aB (dy N E) n 0=aB (dy N E) (n - j) j)/\cG prog 9 wr mb j K/\ap w.heap.size w wr) (λi _=>n - (aV i).toNat)
 case atStart=>exact⟨0,aF _,rfl,show _=_ from rfl,hM,hB⟩
 case round=>
  clear hM hB
  obtain⟨j,hj,rfl,HJ,hM,hB⟩:=hrel
  by_cases hlt:j<n
  rotate_left
  ·exact T76
  have HF:=af (HJ.out.trans (bf (dy N E) hlt))
  obtain⟨q,hq⟩:∃q,q=dy N E j:=⟨_,rfl⟩
  rw[<-hq]at HF
  unfold dy at hq
  have HQ:=af hq
  clear hq HJ
  have hNj:=HN.out j hlt
  obtain⟨bb,bo,rfl,bl,hc⟩:=(HRr.out.below hB).elem hlt
  have e0:wr.cell? ⟨bb,bo+j,ag⟩=ai (ay (N j)):=by have h:=hc 0 om;rw[Nat.mul_one,bq]at h;exact h
  have HGj:=af (λW h=>HG.out j W hlt h)
  have HHj:=af (λW h=>HH.out j W hlt h)
  have hKj:K j=ay (N j):=HKi.out j
  generalize N j=b0 at *
  generalize E j=E0 at *
  have i2:(j:Int)<(n:Int):=om
  go_wp2_with fail
  refine aZ (HGj.out _ hB) ?_
  intro w1 hb
  replace hM:=hM.below hb
  replace hB:=ak hB hb
  go_wp2_with fail
  refine bH (cS _ _ hNj) ?_
  rintro(_|_) w1 g hb<;>(replace hM:=hM.below hb;replace hB:=ak hB hb;clear hb)
  ·exact nu
  have hl:keyOf prog 9 (.string b0)=ai (.string b0.data.toList):=Go.WideMaps.keyOf_string_mk underlying9 (by unfold cF;omega)
  have hlook:=hM.look dY underlying161 underlying4 (jw _) hl (λk=>ej (N k) b0) (λi _=>by rw[HKi.out i,lw];simp)
  cases ha:bI (λk=>ej (N k) b0) j with
  |true=>
   rw[ha]at hlook
   exact nu
  |false=>
   rw[ha]at hlook
   go_wp2_with fail
   refine aZ (HHj.out _ hB) ?_
   intro w1 hb
   replace hM:=hM.below hb
   replace hB:=ak hB hb
   by_cases hE:E0=0
   rotate_left
   ·have hEn:(E0 != 0)=true:=by simpa using hE
    exact nu
   subst hE
   have hE0:((0:Int) != 0)=false:=rfl
   obtain⟨w3,hput,hM3,hgr⟩:=hM.put dY underlying161 underlying4 (by unfold cF;omega) hl hKj
   replace hB:=hB.grown hgr hB.size (λj e=>by cases e;exact hmb)
   have HJ2:bj (aB (dy N E) n 0=aB (dy N E) (n - (j+1)) (j+1)):=by
    exact gM
   clear HF HQ ha hl
   go_wp2_with fail
   go_roundw
   case rel=>exact⟨j+1,by omega,by go_num,HJ2,hM3,hB⟩
   case measure=>simp[aV];omega
theorem oN (n:Nat) (N:Nat->ByteArray) (R:Nat->Nat->Int) (SA:Nat->Option Addr) (SN SC:Nat->Nat) (E:Nat->Int) (v:aw) (cz:aw) (w:aj) (hRr:aU w v n 6 (lB N R SA SN SC)) (hn:n<=1125899906842624) (hN:∀i,i<n->(N i).size<=9223372036854775806)
  (hG:∀(i:Nat) (W:aj),i<n->ap w.heap.size w W->aC prog 163 #[aN #[ay (N i),M U (R i 1),M U (R i 2),M U (R i 3),M U (R i 4),T (SA i) (SN i) (SC i)]] W λe w'=>e=ar (ay (N i))/\ap W.heap.size W w')
  (hH:∀(i:Nat) (W:aj),i<n->ap w.heap.size w W->aC prog 164 #[aN #[ay (N i),M U (R i 1),M U (R i 2),M U (R i 3),M U (R i 4),T (SA i) (SN i) (SC i)],cz] W λe w'=>e=ar (M U (E i))/\ap W.heap.size W w'):
  aC prog 162 #[v, .func (.func 163) #[] #[], .func (.func 164) #[] #[cz]] w (E2 w (eD N E n)):=by
 obtain⟨ra,rc,rfl,hrc,hx⟩:=id hRr
 clear hx
 have HRr:=af hRr
 have HN:=af hN
 have HG:=af hG
 have HH:=af hH
 clear hRr hN hG hH
 obtain⟨r,HS⟩:=dR (eD N E n)
 rw[<-HS.out]
 obtain⟨K,hK⟩:∃K:Nat->aw,K=λi=>ay (N i):=⟨_,rfl⟩
 have HKi:bj (∀i,K i=ay (N i)):=show∀i,_ from λi=>by rw[hK]
 clear hK
 have hmm:=@run_makeMap prog
 go_enter func162,ntmps162
 go_upto_region 2 with fail
 clear hmm
 have hM:=cG.made prog 9 w K
 have hB:=aP (au w.heap.size w) (.map #[] 0)
 have hmb:=aY w.heap.size
 obtain⟨mb,hmbe⟩:=bY w.heap.size
 rw[<-hmbe]at hM⊢
 have hmb:w.heap.size<=mb:=bs hmbe.symm
 clear hmbe
 generalize w.alloc (.map #[] 0)=W1 at *
 go_wp2_with fail
 go_loopw [16] (λi wr=>∃j:Nat,j<=n/\i=M U j/\bj (aB (dy N E) n 0=aB (dy N E) (n - j) j)/\cG prog 9 wr mb j K/\ap w.heap.size w wr) (λi _=>n - (aV i).toNat)
 case atStart=>exact⟨0,aF _,rfl,show _=_ from rfl,hM,hB⟩
 case round=>
  clear hM hB
  obtain⟨j,hj,rfl,HJ,hM,hB⟩:=hrel
  by_cases hlt:j<n
  rotate_left
  ·exact T76
  have HF:=af (HJ.out.trans (bf (dy N E) hlt))
  obtain⟨q,hq⟩:∃q,q=dy N E j:=⟨_,rfl⟩
  rw[<-hq]at HF
  unfold dy at hq
  have HQ:=af hq
  clear hq HJ
  have hNj:=HN.out j hlt
  obtain⟨bb,bo,rfl,bl,hc⟩:=(HRr.out.below hB).elem hlt
  have e0:wr.cell? ⟨bb,bo+j*6,ag⟩=ai (ay (N j)):=hc 0 om
  have e1:wr.cell? ⟨bb,bo+j*6+1,ag⟩=ai (M U (R j 1)):=hc 1 om
  have e2:wr.cell? ⟨bb,bo+j*6+2,ag⟩=ai (M U (R j 2)):=hc 2 om
  have e3:wr.cell? ⟨bb,bo+j*6+3,ag⟩=ai (M U (R j 3)):=hc 3 om
  have e4:wr.cell? ⟨bb,bo+j*6+4,ag⟩=ai (M U (R j 4)):=hc 4 om
  have e5:wr.cell? ⟨bb,bo+j*6+5,ag⟩=ai (T (SA j) (SN j) (SC j)):=hc 5 om
  clear hc
  have HGj:=af (λW h=>HG.out j W hlt h)
  have HHj:=af (λW h=>HH.out j W hlt h)
  have hKj:K j=ay (N j):=HKi.out j
  generalize R j 1=f1 at *
  generalize R j 2=f2 at *
  generalize R j 3=f3 at *
  generalize R j 4=f4 at *
  generalize SA j=sa7 at *
  generalize SN j=sn7 at *
  generalize SC j=sc7 at *
  generalize N j=b0 at *
  generalize E j=E0 at *
  have i2:(j:Int)<(n:Int):=om
  go_upto_region 5 with fail
  obtain⟨w1,hW9,hN9,hb⟩:=bW wr 246 #[ay b0,M U f1,M U f2,M U f3,M U f4,T sa7 sn7 sc7]
  rw[hW9.out]
  clear hW9
  replace hM:=hM.below hb
  replace hB:=ak hB hb
  clear hb
  generalize wr.heap.size=db at *
  have hD:=hN9
  have dd:=aH hD
  clear hN9 e0 e1 e2 e3 e4 e5
  go_wp2_with fail
  refine aZ (HGj.out _ hB) ?_
  intro w1 hb
  replace hD:=hD.below hb
  replace hM:=hM.below hb
  replace hB:=ak hB hb
  clear hb
  clear dd
  have dd:=aH hD
  go_wp2_with fail
  refine bH (cS _ _ hNj) ?_
  rintro(_|_) w1 g hb<;>(replace hD:=hD.below hb;replace hM:=hM.below hb;replace hB:=ak hB hb;clear hb)
  ·exact nu
  clear dd
  have dd:=aH hD
  exact T0
end
section
open Tryz
open Go.RowKit
variable {v0 v2 v3 v4 v5 v6 v7 v8 v9 v10 v11 v12 v13 v14 v15 v16 v17 v18 v19 v20 v21 v22 v23 v24 v25 v26 v27 v28 v29 v30 v31 v32 v33 v34 v35 v36 v37 v38 v39 v40 v41 v42 v43 v44:aw}
def ud (xl xh yl yh g r:Int):Bool:=([xl,xh,yl,yh].any λn=>aI n (-10000000) 10000000)||(decide (xh<xl)||(decide (yh<yl)||(aI g 0 9||aI r 1 8)))
def sM (xl xh yl yh g r:Int):Int:=if ud xl xh yl yh g r then 7 else 0
theorem sN {W:aj} {b:Nat} {t:aT} {a0 a1:aw} (h:am W b t #[a0,a1]) (u0 u1:aw):am ((W.setCell ⟨b,0,ag⟩ u0).setCell ⟨b,1,ag⟩ u1) b t #[u0,u1]:=by
 have h2:=(h.set 0 u0).set 1 u1
 simpa using h2
theorem eT {B:Nat} {w W:aj} {b:Nat} (h:ap B w W) (hb:B<=b) (u0 u1:aw):ap B w ((W.setCell ⟨b,0,ag⟩ u0).setCell ⟨b,1,ag⟩ u1):=aS (aS h hb _) hb _
theorem kU {W:aj} {b c:Nat} {t:aT} {cs:Array aw} (h:am W c t cs) (hb:b≠c) (u0 u1:aw):am ((W.setCell ⟨b,0,ag⟩ u0).setCell ⟨b,1,ag⟩ u1) c t cs:=
 (h.set_other (p:=⟨b,0,ag⟩) hb u0).set_other (p:=⟨b,1,ag⟩) hb u1
section
variable {xb:Nat} {nm:ByteArray} {xl xh yl yh g r:Int} {pr:Bool}
theorem pQ {c:Code} (hc:c=et f154 1) {wc:aj} {Q:Exit->Act->aj->Prop}
 (hC:am wc xb 240 #[ay nm,M U xl,M U xh,M U yl,M U yh,M U g,M U r,aA pr])
 (hK:∀(u5 u6 u7 u8 u9 u10:aw) (kb pb:Nat) (w':aj),ap wc.heap.size wc w'->am w' kb 32 #[M U xl,M U xh]->am w' pb 32 #[M U yl,M U yh]->
  Q bk {tmps:=#[v0,ax (ai ⟨xb,0,ag⟩),v2,ax (ai ⟨kb,0,ag⟩),ax (ai ⟨pb,0,ag⟩),u5,u6,u7,u8,u9,u10,v11,v12,v13,v14,v15,v16,v17,v18,v19,v20,v21,v22,v23,v24,v25,v26,v27,v28,v29,v30,v31,v32,v33,v34,v35,v36,v37,v38,v39,v40,v41,v42,v43,v44],defers:=[]} w'):
 bi prog c Q {tmps:=#[v0,ax (ai ⟨xb,0,ag⟩),v2,v3,v4,v5,v6,v7,v8,v9,v10,v11,v12,v13,v14,v15,v16,v17,v18,v19,v20,v21,v22,v23,v24,v25,v26,v27,v28,v29,v30,v31,v32,v33,v34,v35,v36,v37,v38,v39,v40,v41,v42,v43,v44],defers:=[]} wc:=by
 subst hc
 conv=>arg 2;whnf
 have HKK:=af hK
 have HR:=af λw' (hb:ap wc.heap.size wc w')=>tD (kp (hC.cell 1) hb) (kp (hC.cell 2) hb) (kp (hC.cell 3) hb) (kp (hC.cell 4) hb)
 clear hK
 have hB:ap wc.heap.size wc wc.drew:=(au _ _).drew
 clear hC
 refine wp_region_noPanic ?_
 refine bV hB ?_
 refine br 0 hB ?_
 refine br 1 hB ?_
 refine br 2 hB ?_
 refine br 3 hB ?_
 refine br 4 hB ?_
 refine br 5 hB ?_
 refine wpAnyH_ready (rs:=[6,7]) kr (by simp) (AllReadyH.cons rfl (λK' hK'=>?_) (AllReadyH.cons rfl (λK' hK'=>?_) AllReadyH.nil))
 ·go_simp
  have hA:=(aK wc (.cells #[M U 0,M U 0] 32))
  have hb:=aP (au wc.heap.size wc) (.cells #[M U 0,M U 0] 32)
  have hzkb:=hB.size
  replace hB:=hb
  generalize wc.alloc (.cells #[M U 0,M U 0] 32)=w1 at *
  obtain⟨kb,hkb⟩:=bY wc.heap.size
  rw[<-hkb]at hA⊢
  have hkb1:wc.heap.size<=kb:=bs hkb.symm
  clear hkb
  have hA1:am w1 kb 32 #[M U 0,M U 0]:=hA
  clear hA
  refine hK'.out _ _ hB.drew (λ_=>?_)
  clear hK' K'
  replace hB:=hB.drew
  replace hA1:=hA1.drew
  generalize w1.drew=w1d at *
  refine jN ?_
  refine cL 7 (λK' hK'=>?_)
  have hA:=(aK w1d (.cells #[M U 0,M U 0] 32))
  have hb:=aP (au w1d.heap.size w1d) (.cells #[M U 0,M U 0] 32)
  have hlhA1:=hA1.lt
  replace hA1:=hA1.below hb
  have hzpb:=hB.size
  replace hB:=ak hB hb
  generalize w1d.alloc (.cells #[M U 0,M U 0] 32)=w2 at *
  obtain⟨pb,hpb⟩:=bY w1d.heap.size
  rw[<-hpb]at hA⊢
  have hpb1:w1d.heap.size<=pb:=bs hpb.symm
  clear hpb
  have hA2:am w2 pb 32 #[M U 0,M U 0]:=hA
  clear hA
  refine bO hK' hB ?_
  clear hK' K'
  have zz:=bA hA1
  have g0:=hA1.frozen 0
  have g1:=hA1.frozen 1
  refine cL 8 (λK' hK'=>?_)
  have hk1:=sN hA1 (M U xl) (M U xh)
  have hk2:=kU (b:=kb) hA2 om (M U xl) (M U xh)
  replace hB:=eT (b:=kb) hB om (M U xl) (M U xh)
  clear hA1 hA2
  refine bO hK' hB ?_
  clear hK' K'
  have zz:=bA hk2
  have g0:=hk2.frozen 0
  have g1:=hk2.frozen 1
  refine cL 9 (λK' hK'=>?_)
  have hp:=sN hk2 (M U yl) (M U yh)
  have hk:=kU (b:=pb) hk1 om (M U yl) (M U yh)
  replace hB:=eT (b:=pb) hB om (M U yl) (M U yh)
  refine bO hK' hB ?_
  clear hK' K'
  refine eL ?_
  exact HKK.out _ _ _ _ _ _ kb pb _ hB hk hp
 ·go_simp
  have hA:=(aK wc (.cells #[M U 0,M U 0] 32))
  have hb:=aP (au wc.heap.size wc) (.cells #[M U 0,M U 0] 32)
  have hzpb:=hB.size
  replace hB:=hb
  generalize wc.alloc (.cells #[M U 0,M U 0] 32)=w1 at *
  obtain⟨pb,hpb⟩:=bY wc.heap.size
  rw[<-hpb]at hA⊢
  have hpb1:wc.heap.size<=pb:=bs hpb.symm
  clear hpb
  have hA2:am w1 pb 32 #[M U 0,M U 0]:=hA
  clear hA
  refine hK'.out _ _ hB.drew (λ_=>?_)
  clear hK' K'
  replace hB:=hB.drew
  replace hA2:=hA2.drew
  generalize w1.drew=w1d at *
  refine jN ?_
  refine cL 6 (λK' hK'=>?_)
  have hA:=(aK w1d (.cells #[M U 0,M U 0] 32))
  have hb:=aP (au w1d.heap.size w1d) (.cells #[M U 0,M U 0] 32)
  have hlhA2:=hA2.lt
  replace hA2:=hA2.below hb
  have hzkb:=hB.size
  replace hB:=ak hB hb
  generalize w1d.alloc (.cells #[M U 0,M U 0] 32)=w2 at *
  obtain⟨kb,hkb⟩:=bY w1d.heap.size
  rw[<-hkb]at hA⊢
  have hkb1:w1d.heap.size<=kb:=bs hkb.symm
  clear hkb
  have hA1:am w2 kb 32 #[M U 0,M U 0]:=hA
  clear hA
  refine bO hK' hB ?_
  clear hK' K'
  have zz:=bA hA1
  have g0:=hA1.frozen 0
  have g1:=hA1.frozen 1
  refine cL 8 (λK' hK'=>?_)
  have hk1:=sN hA1 (M U xl) (M U xh)
  have hk2:=kU (b:=kb) hA2 om (M U xl) (M U xh)
  replace hB:=eT (b:=kb) hB om (M U xl) (M U xh)
  clear hA1 hA2
  refine bO hK' hB ?_
  clear hK' K'
  have zz:=bA hk2
  have g0:=hk2.frozen 0
  have g1:=hk2.frozen 1
  refine cL 9 (λK' hK'=>?_)
  have hp:=sN hk2 (M U yl) (M U yh)
  have hk:=kU (b:=pb) hk1 om (M U yl) (M U yh)
  replace hB:=eT (b:=pb) hB om (M U yl) (M U yh)
  refine bO hK' hB ?_
  clear hK' K'
  refine eL ?_
  exact HKK.out _ _ _ _ _ _ kb pb _ hB hk hp
end
theorem qg (nm:ByteArray) (xl xh yl yh gr rm:Int) (pr:Bool) (w:aj):
  aC prog 154 #[aN #[ay nm,M U xl,M U xh,M U yl,M U yh,M U gr,M U rm,aA pr]] w λe w'=>e=ar (M U (sM xl xh yl yh gr rm))/\ap w.heap.size w w':=by
 obtain⟨W0,xb,HW0,hC,hB⟩:=eB w 240 #[ay nm,M U xl,M U xh,M U yl,M U yh,M U gr,M U rm,aA pr]
 obtain⟨r,HS⟩:=dR (sM xl xh yl yh gr rm)
 rw[<-HS.out]
 go_enter func154,ntmps154
 go_upto_region 1 with fail
 rw[HW0.out.1,HW0.out.2]
 clear HW0
 have xx:=ek hC
 refine pQ kr hC ?_
 intro u5 u6 u7 u8 u9 u10 kb pb w1 hb hk hp
 obtain⟨hC,hB⟩:=bS hC hB hb
 have hC2:=hk
 have hC3:=hp
 have yy:=bA hC2
 have zz:=bA hC3
 have xx:=ek hC
 by_cases k0d:xh<xl
 ·have k0:decide (xh<xl)=true:=decide_eq_true k0d
  exact T9
 have k0:decide (xh<xl)=false:=decide_eq_false k0d
 by_cases k1d:yh<yl
 ·have k1:decide (yh<yl)=true:=decide_eq_true k1d
  exact T9
 have k1:decide (yh<yl)=false:=decide_eq_false k1d
 go_wp2_with fail
 refine bH (ii [xl,xh,yl,yh] _ 3 (by simp)) ?_
 rintro(_|_) w1 g1 hb<;>obtain⟨hC,hC2,hC3,hB⟩:=oy hC hC2 hC3 hB hb
 rotate_left
 ·simp only[List.any_cons,List.any_nil,Bool.or_false]at g1
  exact uS
 simp only[List.any_cons,List.any_nil,Bool.or_false]at g1
 have xx:=ek hC
 have yy:=bA hC2
 have zz:=bA hC3
 go_wp2_with fail
 refine bm (ip _ _) ?_
 rintro(_|_) g2
 rotate_left
 ·exact uS
 go_wp2_with fail
 refine bm (bN _ _ _ _) ?_
 rintro(_|_) g3
 ·exact uS
 exact uS
end
section
open Tryz
open Go.RowKit
def rT (K:Nat->Int) (n:Nat) (keys:Int):Bool:=bI (λi=>aI (K i) 0 (keys - 1)) n
def nO (K:Nat->Int) (n:Nat):Bool:=bI (λi=>decide (K (i+1)<=K i)) (n - 1)
def sg (x y cl gr:Int) (n:Nat) (K:Nat->Int) (keys:Int):Int:=
 if([x,y].any λn=>aI n (-10000000) 10000000)||(aI cl 0 10000000||aI gr 0 9)then 7 else if decide (n=0)||rT K n keys then 4 else if nO K n then 2 else 0
theorem nR (n keys:Int) (zb:Nat) (w:aj) (hz:w.cell? ⟨zb,0,ag⟩=ai (M U keys)) (h0:0<=keys) (h1:keys<=1125899906842624):
  aC prog 258 #[M U n,ax (ai ⟨zb,0,ag⟩)] w λe w'=>e=ar (aA (aI n 0 (keys - 1)))/\ap w.heap.size w w':=by
 have hw:=aD (keys - 1) ⟨by omega,by omega⟩
 go_enter func258,ntmps258
 exact ui
theorem nY (nm:ByteArray) (x y cl gr:Int) (kn:Nat) (K:Nat->Int) (kv:aw) (keys:Int) (w:aj) (hRk:aU w kv kn 1 (bw λi _=>K i)) (hkn:kn<=1125899906842624) (h0:0<=keys) (h1:keys<=1125899906842624):
  aC prog 165 #[aN #[ay nm,M U x,M U y,M U cl,M U gr,kv],M U keys] w λe w'=>e=ar (M U (sg x y cl gr kn K keys))/\ap w.heap.size w w':=by
 obtain⟨ka,kc,rfl,hkc,hx⟩:=id hRk
 have HRk:=af hRk
 clear hRk
 obtain⟨W0,xb,HW0,hC,hC2,hB⟩:=pf w 246 #[ay nm,M U x,M U y,M U cl,M U gr,T ka kn kc] 3 #[M U keys]
 obtain⟨r,HS⟩:=dR (sg x y cl gr kn K keys)
 rw[<-HS.out]
 go_enter func165,ntmps165
 go_upto_region 1 with fail
 rw[HW0.out.1,HW0.out.2]
 obtain⟨yb,hye⟩:=bY (xb+1)
 rw[<-hye]at hC2⊢
 clear hye
 clear HW0
 have xx:=aH hC
 have y0:=lu hC2
 go_wp2_with fail
 refine bH (ii [x,y] _ 3 (by simp)) ?_
 rintro(_|_) w1 g1 hb<;>obtain⟨hC,hC2,hB⟩:=bM hC hC2 hB hb
 ·simp only[List.any_cons,List.any_nil,Bool.or_false]at g1
  have xx:=aH hC
  have y0:=lu hC2
  go_wp2_with fail
  refine bm (bN _ _ _ _) ?_
  rintro(_|_) g2
  ·go_wp2_with fail
   refine bm (ip _ _) ?_
   rintro(_|_) g3
   ·rcases kn with _|kn
    ·exact uQ
    ·obtain⟨kb,ko,rfl,kl,hc⟩:=(HRk.out.below hB).elem (show 0<kn+1 by omega)
     have hcap:1<=kc:=om
     have hk0:((kn:Int)+1==0)=false:=by simp;omega
     have HI:=af (eJ 258 (λ_ _=>by kernel_rfl) (kn+1) (λi _=>K i) (λi=>aI (K i) 0 (keys - 1)) _ (ax (ai ⟨yb,0,ag⟩)) _ (HRk.out.below hB) hkn (λi W _ hb=>nR _ keys _ W ((hb.cell (p:=⟨yb,0,ag⟩) hC2.lt).trans y0) h0 h1))
     go_wp2_with fail
     refine bH HI.out ?_
     rintro(_|_) w1 g4 hb<;>obtain⟨hC,hC2,hB⟩:=bM hC hC2 hB hb
     ·have hkB:rT K (kn+1) keys=false:=g4
      have xx:=aH hC
      have y0:=lu hC2
      go_wp2_with fail
      all_goals(
       go_loopw [40] (λi wr=>∃j:Nat,j<=kn/\i=M U j/\bj (∀k,k<j->decide (K (k+1)<=K k)=false)/\am wr xb 246 #[ay nm,M U x,M U y,M U cl,M U gr,T (ai ⟨kb,ko,ag⟩) (kn+1) kc]/\am wr yb 3 #[M U keys]/\ap w.heap.size w wr) (λi _=>kn - (aV i).toNat)
       case atStart=>exact⟨0,aF _,rfl,show∀k,k<0->_ from(λk h=>absurd h om),hC,hC2,hB⟩
       case round=>
        clear hC hC2 hB
        obtain⟨j,hj,rfl,HM,hC,hC2,hB⟩:=hrel
        by_cases hl2:j<kn
        ·first
         |(exfalso;omega)
         |(
           obtain⟨vb,vo,hq,-,hc⟩:=(HRk.out.below hB).elem (show j<kn+1 by omega)
           obtain⟨rfl,rfl⟩:kb=vb/\ko=vo:=by simpa using hq
           have e0:wr.cell? ⟨kb,ko+j,ag⟩=ai (M U (K j)):=eI hc
           obtain⟨vb,vo,hq,-,hc⟩:=(HRk.out.below hB).elem (show j+1<kn+1 by omega)
           obtain⟨rfl,rfl⟩:kb=vb/\ko=vo:=by simpa using hq
           have f0:wr.cell? ⟨kb,ko+(j+1),ag⟩=ai (M U (K (j+1))):=eI hc
           have HM2:=af (λh=>dS (p:=λi=>decide (K (i+1)<=K i)) HM.out h)
           have HH:=af (λh=>cd (p:=λi=>decide (K (i+1)<=K i)) hl2 h)
           clear HM
           generalize K j=k0 at *
           generalize K (j+1)=k1 at *
           have i2:(j:Int)<(kn:Int):=om
           have i3:(j:Int)<(kn:Int)+1:=om
           have i4:(j:Int)+1<(kn:Int)+1:=om
           have q1:=aD ((j:Int)+1) ⟨by omega,by omega⟩
           have xx:=aH hC
           go_upto_region 8 with fail
           by_cases kd:k1<=k0
           ·have hA:nO K (kn+1)=true:=HH.out (decide_eq_true kd)
            clear HM2 HH
            go_quiet (fail)
            have hb:=aM (au wr.heap.size wr) nq
            obtain⟨hC,hC2,hB⟩:=bM hC hC2 hB hb
            generalize wr.drewN nq=w2 at *
            exact uQ
           ·have hM1:=HM2.out (decide_eq_false kd)
            have HM:=af hM1
            clear HM2 HH hM1
            go_quiet (fail)
            have hb:=aM (au wr.heap.size wr) nq
            obtain⟨hC,hC2,hB⟩:=bM hC hC2 hB hb
            generalize wr.drewN nq=w2 at *
            go_wp2_with fail
            go_roundw
            case rel=>exact⟨j+1,by omega,by go_num,HM,hC,hC2,hB⟩
            case measure=>simp[aV];omega)
        ·obtain rfl:kn=j:=om
         have hA:nO K (kn+1)=false:=bT HM.out
         clear HM
         go_wp2_with fail
         go_ret
         exact⟨bJ (by rw[HS.out];unfold sg;simp only[List.any_cons,List.any_nil,Bool.or_false];simp[*]),hB⟩)
     ·have hkB:rT K (kn+1) keys=true:=g4
      exact uQ
   ·exact uQ
  ·exact uQ
 ·simp only[List.any_cons,List.any_nil,Bool.or_false]at g1
  exact uQ
end
section
open Tryz
open Go.RowKit Go.Shelf
theorem qJ (nm:ByteArray) (a b c d g r:Int) (pr:Bool) (w:aj):
  aC prog 153 #[aN #[ay nm,M U a,M U b,M U c,M U d,M U g,M U r,aA pr]] w λe w'=>e=ar (ay nm)/\ap w.heap.size w w':=by
 obtain⟨W0,xb,HW0,hC,hB⟩:=eB w 240 #[ay nm,M U a,M U b,M U c,M U d,M U g,M U r,aA pr]
 go_enter func153,ntmps153
 go_upto_region 1 with fail
 rw[HW0.out.1,HW0.out.2]
 clear HW0
 have xx:=ek hC
 exact gU
theorem ro (nm:ByteArray) (g:Int) (w:aj):
  aC prog 156 #[aN #[ay nm,M U g]] w λe w'=>e=ar (ay nm)/\ap w.heap.size w w':=by
 obtain⟨W0,xb,HW0,hC,hB⟩:=eB w 244 #[ay nm,M U g]
 go_enter func156,ntmps156
 go_upto_region 1 with fail
 rw[HW0.out.1,HW0.out.2]
 clear HW0
 have xx:=bA hC
 exact gU
theorem rG (nm:ByteArray) (g:Int) (w:aj):
  aC prog 157 #[aN #[ay nm,M U g]] w λe w'=>e=ar (M U (if aI g 0 9 then 7 else 0))/\ap w.heap.size w w':=by
 obtain⟨r,HS⟩:=dR ((if aI g 0 9 then(7:Int)else 0))
 rw[<-HS.out]
 obtain⟨W0,xb,HW0,hC,hB⟩:=eB w 244 #[ay nm,M U g]
 go_enter func157,ntmps157
 go_upto_region 1 with fail
 rw[HW0.out.1,HW0.out.2]
 clear HW0
 have xx:=bA hC
 go_wp2_with fail
 refine bm (ip _ _) ?_
 rintro(_|_) g1
 ·go_wp2_with fail
  go_ret
  exact⟨bJ (by rw[HS.out,g1];rfl),hB⟩
 go_wp2_with fail
 go_ret
 exact⟨bJ (by rw[HS.out,g1];rfl),hB⟩
theorem rZ (nm:ByteArray) (w:aj):
  aC prog 160 #[ay nm] w λe w'=>e=ar (ay nm)/\ap w.heap.size w w':=by
 go_enter func160,ntmps160
 exact mE
theorem rD (nm:ByteArray) (w:aj):
  aC prog 161 #[ay nm] w λe w'=>e=ar (M U 0)/\ap w.heap.size w w':=by
 go_enter func161,ntmps161
 exact mE
theorem rq (nm:ByteArray) (x y cl gr:Int) (kv:aw) (w:aj):
  aC prog 163 #[aN #[ay nm,M U x,M U y,M U cl,M U gr,kv]] w λe w'=>e=ar (ay nm)/\ap w.heap.size w w':=by
 obtain⟨W0,HW0,hC,hB⟩:=bW w 246 #[ay nm,M U x,M U y,M U cl,M U gr,kv]
 go_enter func163,ntmps163
 exact T63
theorem rK (nm:ByteArray) (x y cl gr:Int) (kn:Nat) (K:Nat->Int) (kv:aw) (pb:Nat) (vz vd vp vq:aw) (ka:Option Addr) (keys kc:Nat) (pa wa:Int) (w:aj) (hRk:aU w kv kn 1 (bw λi _=>K i)) (hkn:kn<=1125899906842624) (h1:keys<=1125899906842624)
  (hP:am w pb 55 #[vz,vd,vp,T ka keys kc,vq,M U pa,M U wa]):
  aC prog 164 #[aN #[ay nm,M U x,M U y,M U cl,M U gr,kv],ax (ai ⟨pb,0,ag⟩)] w λe w'=>e=ar (M U (sg x y cl gr kn K keys))/\ap w.heap.size w w':=by
 have HRk:=af hRk
 obtain⟨ka2,kc2,rfl,hkc2,hx⟩:=id hRk
 clear hx hRk
 obtain⟨W0,xb,HW0,hC,hB⟩:=eB w 246 #[ay nm,M U x,M U y,M U cl,M U gr,T ka2 kn kc2]
 have hplt:=hP.lt
 have hP0:=hP.below hB
 clear hP
 have hpx:pb≠w.heap.size:=om
 go_enter func164,ntmps164
 go_upto_region 1 with fail
 rw[HW0.out.1,HW0.out.2]
 clear HW0
 have xx:=aH hC
 have p3:W0.cell? ⟨pb,3,ag⟩=ai (T ka keys kc):=hP0.cell 3
 go_wp2_with fail
 refine aZ (nY nm x y cl gr kn K _ keys _ (HRk.out.below hB) hkn om om) ?_
 exact tV
structure bE where
 zn:Nat
 ZN:Nat->ByteArray
 ZR:Nat->Nat->Int
 ZB:Nat->Bool
 dn:Nat
 DR:Nat->Nat->Int
 pn:Nat
 PN:Nat->ByteArray
 PR:Nat->Nat->Int
 kn:Nat
 KN:Nat->ByteArray
 qn:Nat
 QN:Nat->ByteArray
 QR:Nat->Nat->Int
 SA:Nat->Option Addr
 SN:Nat->Nat
 SC:Nat->Nat
 QK:Nat->Nat->Int
 panel:Int
 wait:Int
 vz:aw
 vd:aw
 vp:aw
 vk:aw
 vq:aw
def bE.cells (D:bE):Array aw:=#[D.vz,D.vd,D.vp,D.vk,D.vq,M U D.panel,M U D.wait]
structure eP (w:aj) (D:bE):Prop where
 z:aU w D.vz D.zn 8 (pm D.ZN D.ZR D.ZB)
 d:aU w D.vd D.dn 2 (bw D.DR)
 p:aU w D.vp D.pn 2 (em D.PN D.PR)
 k:aU w D.vk D.kn 1 (λi _=>ay (D.KN i))
 q:aU w D.vq D.qn 6 (lB D.QN D.QR D.SA D.SN D.SC)
 s:∀i,i<D.qn->aU w (T (D.SA i) (D.SN i) (D.SC i)) (D.SN i) 1 (bw λj _=>D.QK i j)
 nz:∀i,i<D.zn->(D.ZN i).size<=9223372036854775806
 np:∀i,i<D.pn->(D.PN i).size<=9223372036854775806
 nk:∀i,i<D.kn->(D.KN i).size<=9223372036854775806
 nq:∀i,i<D.qn->(D.QN i).size<=9223372036854775806
 ls:∀i,i<D.qn->D.SN i<=1125899906842624
 lz:D.zn<=9223372036854775807
theorem eP.below {w w':aj} {D:bE} (h:eP w D) (hb:ap w.heap.size w w'):eP w' D:=
 ⟨h.z.below hb,h.d.below hb,h.p.below hb,h.k.below hb,h.q.below hb,λi hi=>(h.s i hi).below hb,h.nz,h.np,h.nk,h.nq,h.ls,h.lz⟩
def fN (lo hi n:Int):Int:=max (max (lo - n) (n - hi)) 0
def lQ (xl xh yl yh qx qy cl:Int):Bool:=decide (fN xl xh qx*fN xl xh qx+fN yl yh qy*fN yl yh qy<cl*cl)
def bE.near (D:bE) (z q:Nat):Bool:=lQ (D.ZR z 1) (D.ZR z 2) (D.ZR z 3) (D.ZR z 4) (D.QR q 1) (D.QR q 2) (D.QR q 3)
def bE.nearsB (D:bE) (z:Int) (k:Nat):List Nat:=if z<0 then[]else(List.range k).filter (D.near z.toNat)
def bE.nears (D:bE) (z:Int):List Nat:=D.nearsB z D.qn
def iU (n:Int):Prop:=-10000000<=n/\n<=10000000
structure sV (D:bE):Prop where
 zl:D.zn<=1125899906842624
 ql:D.qn<=1125899906842624
 za:∀i,i<D.zn->iU (D.ZR i 1)/\iU (D.ZR i 2)/\iU (D.ZR i 3)/\iU (D.ZR i 4)
 qa:∀i,i<D.qn->iU (D.QR i 1)/\iU (D.QR i 2)/\iU (D.QR i 3)
theorem iX {lo hi n:Int} (h1:iU lo) (h2:iU hi) (h3:iU n):0<=fN lo hi n/\fN lo hi n<=20000000:=by
 unfold fN iU at *;omega
theorem nG (D:bE) {z:Int} (hz:¬z<0) (k:Nat):D.nearsB z (k+1)=D.nearsB z k++(if D.near z.toNat k then[k]else[]):=by
 unfold bE.nearsB
 rw[if_neg hz,if_neg hz,List.range_succ,List.filter_append]
 congr 1
 simp only[List.filter_cons,List.filter_nil]
def SeqP (n:Nat) (P:Program) (g:Nat) (lb:Array aw) (S Sp:List Nat->Prop) (w:aj):Prop:=
 ∀(l:Nat) (J Jx:List Nat->aj->Prop) (Jp:Ending->aj->Prop) (W:aj),ap w.heap.size w W->AbidesFrom W.heap.size J->
  (∀pre x W1,J pre W1->Sp (pre++[x])->YieldAt Fence.wide (n - 1) P l #[M U ((x:Nat):Int)] W1 λe W'=>
   (e=ar (aA true)/\J (pre++[x]) W'/\ap W1.heap.size W1 W')\/(e=ar (aA false)/\Jx (pre++[x]) W')\/(∃ch,e= .panicked ch/\Jp e W'))->
  J [] W->
  CallsIn Fence.wide n P g (#[.func (.yield l) #[] #[]]++lb) W λe W'=>((∃v,e=ar v)/\((∃xs,S xs/\J xs W')\/(∃pre,Sp pre/\Jx pre W')))\/(∃ch,e= .panicked ch/\Jp e W')
theorem pp {a:Int} (h:0<=a) (h2:a<=20000000):0<=a*a/\a*a<=400000000000000:=⟨Int.mul_nonneg h h,Int.le_trans (Int.mul_le_mul h2 h2 h om) om⟩
theorem rA {a:Int} (h:-10000000<=a) (h2:a<=10000000):0<=a*a/\a*a<=100000000000000:=by
 rcases Int.le_total 0 a with h3|h3
 ·exact⟨Int.mul_nonneg h3 h3,Int.le_trans (Int.mul_le_mul h2 h2 h3 om) om⟩
 have h4:0<=-a:=om
 have h5:-a<=10000000:=om
 rw[show a*a=-a*-a by rw[Int.neg_mul_neg]]
 exact⟨Int.mul_nonneg h4 h4,Int.le_trans (Int.mul_le_mul h5 h5 h4 om) om⟩
theorem gV (w:aj):∀q,w.grownBy (w.drewN q) ag:=λ_=>⟨rfl,rfl,rfl,aY _,λ_ _ _=>rfl⟩
theorem pC (D:bE) (z:Int) (zb pb:Nat) (w:aj) (hz:w.cell? ⟨zb,0,ag⟩=ai (M U z)) (hP:am w pb 55 D.cells) (hV:eP w D) (hN:sV D) (hzl:z<D.zn) (n:Nat) (hn:1<=n):
  SeqP n prog 259 #[ax (ai ⟨zb,0,ag⟩),ax (ai ⟨pb,0,ag⟩)] (λxs=>xs=D.nears z) (λpre=>pre≠[]/\pre<+:D.nears z) w:=by
 intro l J Jx Jp W hb hJ hY h0
 have hzlt:zb<w.heap.size:=aG w _ hz
 have hz:=(hb.cell (p:=⟨zb,0,ag⟩) hzlt).trans hz
 have hP:=hP.below hb
 have hV:=hV.below hb
 refine callsIn_of_wp func259 rfl trivial ?_ rfl
 refine wpIn_wide.2 ?_
 simp only[ntmps259,List.size_toArray,List.length_cons,List.length_nil,Nat.reduceAdd,Nat.reduceSub,Array.replicate_succ,Array.replicate_zero,List.push_toArray,List.append_toArray,List.nil_append,List.cons_append]
 by_cases hz0:z<0
 ·have hnil:D.nears z=[]:=by unfold bE.nears bE.nearsB;rw[if_pos hz0]
  rw[hnil]
  go_wp2_with fail
  refine bG (results_none rfl _ _ _) rfl ?_
  exact Or.inl ⟨⟨_,rfl⟩,h0⟩
 have HS:=af (nG D hz0)
 have HN0:bj (D.nearsB z 0=[]):=show _=_ by unfold bE.nearsB;rw[if_neg hz0];rfl
 have HNL:bj (∀k,(D.nearsB z k).length<=k):=show∀k,_ from λk=>by unfold bE.nearsB;rw[if_neg hz0];exact aO (List.length_filter_le _ _) (by simp)
 have HPre:bj (∀k,k<=D.qn->D.nearsB z k<+:D.nears z):=show∀k,k<=D.qn->_ from λk hk=>by
  unfold bE.nears bE.nearsB;rw[if_neg hz0,if_neg hz0]
  obtain⟨m,hm⟩:∃m,D.qn=k+m:=⟨D.qn - k,by omega⟩
  rw[hm,List.range_add,List.filter_append]
  exact List.prefix_append _ _
 have HEnd:bj (D.nearsB z D.qn=D.nears z):=show _=_ from rfl
 obtain⟨zi,rfl⟩:∃m:Nat,z=(m:Int):=⟨z.toNat,by omega⟩
 have hzi:zi<D.zn:=om
 have HNear:bj (∀k,D.near ((zi:Int)).toNat k=lQ (D.ZR zi 1) (D.ZR zi 2) (D.ZR zi 3) (D.ZR zi 4) (D.QR k 1) (D.QR k 2) (D.QR k 3)):=show∀k,_ from λk=>rfl
 obtain⟨NF,hNF⟩:∃NF,NF=D.nearsB (zi:Int):=⟨_,rfl⟩
 obtain⟨ND,hND⟩:∃ND,ND=D.nears (zi:Int):=⟨_,rfl⟩
 rw[<-hNF]at HS HN0 HNL HPre HEnd
 rw[<-hND]at HPre HEnd⊢
 simp only[<-hND]at hY
 clear hNF hND
 have hza:=hN.za zi hzi
 have HQA:=af hN.qa
 have hql:=hN.ql
 have HJ:=af hJ
 have HY:=af hY
 have HV:=af hV
 clear hN hJ hY
 unfold bE.cells at hP
 obtain⟨_,zc,hvz,hzc,hx⟩:=id hV.z
 obtain⟨_,qc,hvq,hqc,hx⟩:=id hV.q
 clear hx
 have hZ:=hV.z
 have hQ:=hV.q
 rw[hvz,hvq]at hP
 rw[hvz]at hZ
 rw[hvq]at hQ
 have HQ:=af hQ
 obtain⟨bz,oz,rfl,lz,hcz⟩:=hZ.elem hzi
 clear hV hQ hvz hvq hZ
 have e1:W.cell? ⟨bz,oz+zi*8+1,ag⟩=ai (M U (D.ZR zi 1)):=hcz 1 om
 have e2:W.cell? ⟨bz,oz+zi*8+2,ag⟩=ai (M U (D.ZR zi 2)):=hcz 2 om
 have e3:W.cell? ⟨bz,oz+zi*8+3,ag⟩=ai (M U (D.ZR zi 3)):=hcz 3 om
 have e4:W.cell? ⟨bz,oz+zi*8+4,ag⟩=ai (M U (D.ZR zi 4)):=hcz 4 om
 clear hcz
 generalize D.ZR zi 1=a1 at *
 generalize D.ZR zi 2=a2 at *
 generalize D.ZR zi 3=a3 at *
 generalize D.ZR zi 4=a4 at *
 have i1:(zi:Int)<(D.zn:Int):=om
 obtain⟨x0,x1,x2,x3,x4,x5,x6⟩:=aJ hP
 clear x1 x2 x3 x5 x6
 go_upto_region 2 with fail
 have hN9:=aK W (.cells #[M U a1,M U a2,M U a3,M U a4] 34)
 have hB:=aP (au W.heap.size W) (.cells #[M U a1,M U a2,M U a3,M U a4] 34)
 replace hP:=hP.below hB
 have hJ1:J [] (W.alloc (.cells #[M U a1,M U a2,M U a3,M U a4] 34)):=HJ.out _ _ _ ag h0 (aj.grownBy_alloc _ _ ag) (λr e=>by cases e)
 have hsl:W.heap.size<=(W.alloc (.cells #[M U a1,M U a2,M U a3,M U a4] 34)).heap.size:=hB.size
 generalize W.alloc (.cells #[M U a1,M U a2,M U a3,M U a4] 34)=W1 at *
 obtain⟨ab,habe⟩:=bY W.heap.size
 rw[<-habe]at hN9⊢
 have hD:am W1 ab 34 #[M U a1,M U a2,M U a3,M U a4]:=hN9
 clear hN9 habe e1 e2 e3 e4 x0 x4 h0 hz
 obtain⟨x0,x1,x2,x3,x4,x5,x6⟩:=aJ hP
 clear x0 x1 x2 x3 x5 x6
 go_wp2_with fail
 clear x4
 rw[<-HN0.out]at hJ1
 go_loopw [20] (λi wr=>∃k:Nat,k<=D.qn/\i=M U k/\J (NF k) wr/\am wr ab 34 #[M U a1,M U a2,M U a3,M U a4]/\ap W.heap.size W wr) (λi _=>D.qn - (aV i).toNat)
 case atStart=>exact⟨0,aF _,rfl,hJ1,hD,hB⟩
 case round=>
  clear hJ1 hD hB hP
  obtain⟨k,hk,rfl,hJ1,hD,hB⟩:=hrel
  by_cases hlt:k<D.qn
  rotate_left
  ·obtain rfl:k=D.qn:=om
   rw[HEnd.out]at hJ1
   go_wp2_with fail
   refine bodyPost_end (results_none rfl _ _ _) rfl ?_
   exact .inl ⟨⟨_,rfl⟩, .inl ⟨_,rfl,hJ1⟩⟩
  have HSk:=af (HS.out k)
  rw[HNear.out]at HSk
  have hlen:(NF k).length<D.qn:=Nat.lt_of_le_of_lt (HNL.out k) hlt
  have HYk:=af (λW1 hj hp=>HY.out (NF k) k W1 hj hp)
  have HPr:=af (HPre.out (k+1) hlt)
  have HNk:=af (HNL.out k)
  have hqa:=HQA.out k hlt
  obtain⟨bb,bo,rfl,bl,hc⟩:=(HQ.out.below hB).elem hlt
  have e0:wr.cell? ⟨bb,bo+k*6,ag⟩=ai (ay (D.QN k)):=hc 0 om
  have e1:wr.cell? ⟨bb,bo+k*6+1,ag⟩=ai (M U (D.QR k 1)):=hc 1 om
  have e2:wr.cell? ⟨bb,bo+k*6+2,ag⟩=ai (M U (D.QR k 2)):=hc 2 om
  have e3:wr.cell? ⟨bb,bo+k*6+3,ag⟩=ai (M U (D.QR k 3)):=hc 3 om
  have e4:wr.cell? ⟨bb,bo+k*6+4,ag⟩=ai (M U (D.QR k 4)):=hc 4 om
  have e5:wr.cell? ⟨bb,bo+k*6+5,ag⟩=ai (T (D.SA k) (D.SN k) (D.SC k)):=hc 5 om
  clear hc
  generalize D.QN k=f0 at *
  generalize D.QR k 1=f1 at *
  generalize D.QR k 2=f2 at *
  generalize D.QR k 3=f3 at *
  generalize D.QR k 4=f4 at *
  generalize D.SA k=sa at *
  generalize D.SN k=sn at *
  generalize D.SC k=sc at *
  have i2:(k:Int)<(D.qn:Int):=om
  go_upto_region 5 with fail
  have hN9:=aK wr (.cells #[ay f0,M U f1,M U f2,M U f3,M U f4,T sa sn sc] 246)
  have hb:=aP (au wr.heap.size wr) (.cells #[ay f0,M U f1,M U f2,M U f3,M U f4,T sa sn sc] 246)
  replace hJ1:=HJ.out _ _ _ ag hJ1 (aj.grownBy_alloc wr (.cells #[ay f0,M U f1,M U f2,M U f3,M U f4,T sa sn sc] 246) ag) (λr e=>by cases e)
  obtain⟨hD,hB⟩:=bS hD hB hb
  generalize wr.alloc (.cells #[ay f0,M U f1,M U f2,M U f3,M U f4,T sa sn sc] 246)=w1 at *
  generalize wr.heap.size=db at *
  have hC:am w1 db 246 #[ay f0,M U f1,M U f2,M U f3,M U f4,T sa sn sc]:=hN9
  obtain⟨x0,x1,x2,x3,x4,x5⟩:=aH hC
  obtain⟨d0,d1,d2,d3⟩:=eW hD
  clear hN9 e0 e1 e2 e3 e4 e5
  obtain⟨⟨h1a,h1b⟩,⟨h2a,h2b⟩,⟨h3a,h3b⟩,⟨h4a,h4b⟩⟩:=hza
  obtain⟨⟨g1a,g1b⟩,⟨g2a,g2b⟩,⟨g3a,g3b⟩⟩:=hqa
  have q1:=aD (a1 - f1) ⟨by omega,by omega⟩
  have q2:=aD (f1 - a2) ⟨by omega,by omega⟩
  have q3:=aD (a3 - f2) ⟨by omega,by omega⟩
  have q4:=aD (f2 - a4) ⟨by omega,by omega⟩
  go_quiet (fail)
  have hb:=aM (au w1.heap.size w1) nq
  replace hJ1:=HJ.out _ _ _ ag hJ1 (gV w1 nq) (λr e=>by cases e)
  obtain⟨hC,hD,hB⟩:=bM hC hD hB hb
  generalize w1.drewN nq=w2 at *
  have h7:(if(if a1 - f1<f1 - a2 then f1 - a2 else a1 - f1)<0 then(0:Int)else if a1 - f1<f1 - a2 then f1 - a2 else a1 - f1)=fN a1 a2 f1:=by unfold fN;omega
  have h8:(if(if a3 - f2<f2 - a4 then f2 - a4 else a3 - f2)<0 then(0:Int)else if a3 - f2<f2 - a4 then f2 - a4 else a3 - f2)=fN a3 a4 f2:=by unfold fN;omega
  rw[h7,h8]
  have hf7:=iX (lo:=a1) (hi:=a2) (n:=f1) ⟨h1a,h1b⟩ ⟨h2a,h2b⟩ ⟨g1a,g1b⟩
  have hf8:=iX (lo:=a3) (hi:=a4) (n:=f2) ⟨h3a,h3b⟩ ⟨h4a,h4b⟩ ⟨g2a,g2b⟩
  unfold lQ at HSk
  generalize fN a1 a2 f1=fx at *
  generalize fN a3 a4 f2=fy at *
  clear h7 h8 q1 q2 q3 q4 x0 x1 x2 x3 x4 x5 d0 d1 d2 d3
  have hs7:=pp hf7.1 hf7.2
  have hs8:=pp hf8.1 hf8.2
  have hs9:=rA g3a g3b
  obtain⟨sx,hsx⟩:∃s,s=fx*fx:=⟨_,rfl⟩
  obtain⟨sy,hsy⟩:∃s,s=fy*fy:=⟨_,rfl⟩
  obtain⟨sc2,hsc⟩:∃s,s=f3*f3:=⟨_,rfl⟩
  rw[<-hsx]at hs7 HSk
  rw[<-hsy]at hs8 HSk
  rw[<-hsc]at hs9 HSk
  have q1:=aD (fx*fx) ⟨by rw[<-hsx];omega,by rw[<-hsx];omega⟩
  have q2:=aD (fy*fy) ⟨by rw[<-hsy];omega,by rw[<-hsy];omega⟩
  have q3:=aD (f3*f3) ⟨by rw[<-hsc];omega,by rw[<-hsc];omega⟩
  have q4:=aD (fx*fx+fy*fy) ⟨by rw[<-hsx,<-hsy];omega,by rw[<-hsx,<-hsy];omega⟩
  have hx2:w2.cell? ⟨db,2,ag⟩=ai (M U f2):=hC.cell 2
  have hx3:w2.cell? ⟨db,3,ag⟩=ai (M U f3):=hC.cell 3
  have HSX:=af hsx
  have HSY:=af hsy
  have HSC:=af hsc
  clear hsx hsy hsc hx2
  by_cases hd:sx+sy<sc2
  rotate_left
  ·have hd2:decide (fx*fx+fy*fy<f3*f3)=false:=by rw[<-HSX.out,<-HSY.out,<-HSC.out];exact decide_eq_false hd
   have HSn:bj (NF (k+1)=NF k):=by unfold bj;rw[HSk.out,decide_eq_false hd];simp
   go_wp2_with fail
   go_roundw
   case rel=>exact⟨k+1,by omega,by go_num,by rw[HSn.out];exact hJ1,hD,hB⟩
   case measure=>simp[aV];omega
  have hd2:decide (fx*fx+fy*fy<f3*f3)=true:=by rw[<-HSX.out,<-HSY.out,<-HSC.out];exact decide_eq_true hd
  have HSn:bj (NF (k+1)=NF k++[k]):=by unfold bj;rw[HSk.out,decide_eq_true hd];rfl
  have hSp:NF k++[k]≠[]/\NF k++[k]<+:ND:=⟨by simp,by rw[<-HSn.out];exact HPr.out⟩
  have HSp:=af hSp
  clear hSp
  obtain⟨fn,tmps,assign,body,hy,hR⟩:=HYk.out _ hJ1 HSp.out
  have HR:=af hR
  clear hR
  (try simp only[Exit.then])
  refine‹∀(a:Act) (w:aj),bi prog _ _ a w->_› _ _ ?_
  refine(wpIn_wide (n:=n)).1 ?_
  gi_wp2
  refine HR.out.mono ?_
  rintro e W3 (⟨rfl,hJ3,hk3⟩|⟨rfl,hJx⟩|⟨ch,rfl,hJp⟩)
  ·gi_wp2
   replace hD:=hD.below hk3
   replace hB:=ak hB hk3
   go_wp2_with fail
   go_roundw
   case rel=>exact⟨k+1,by omega,by go_num,by rw[HSn.out];exact hJ3,hD,hB⟩
   case measure=>simp[aV];omega
  ·gi_wp2
   refine bG (results_none rfl _ _ _) rfl ?_
   exact .inl ⟨⟨_,rfl⟩, .inr ⟨_,HSp.out,hJx⟩⟩
  gi_wp2
  exact⟨rfl, .inr ⟨_,rfl,hJp⟩⟩
theorem jk (z:Int) (D:bE) (w:aj):
  aC prog 166 #[aN D.cells,M U z] w λe w'=>e=ar (.func (.func 259) #[] #[ax (ai ⟨w.heap.size+1,0,ag⟩),ax (ai ⟨w.heap.size,0,ag⟩)])/\w'=(w.alloc (.cells D.cells 55)).alloc (.cells #[M U z] 3):=by
 have hmf:∀(fn:Fn) (first cap:Array aw) (w:aj),(Instr.makeFunc fn first cap).run prog w= .ok (.func fn first cap) w:=λ_ _ _ _=>rfl
 unfold bE.cells
 go_enter func166,ntmps166
 exact ly
def wi (fn:FuncId) (a:Act) (ps:Array Tmp) (assign body:Code) (Dd:Nat) (st:LoopState) (pe:Option Code):Loop:={state:=st,pending:=pe,fn,tmps:=a.tmps,params:=ps,assign,body,defers:=Dd}
def qY (I:List Nat->Prop) (Ix:Code->List Nat->aj->Prop) (xs:List Nat) (W:aj):Exit->Act->aj->Prop
 | .normal,_,W'=>ap W.heap.size W W'/\I xs
 | .ret,_,W'=>KeepsOthers W W'/\Ix .ret xs W'
 |_,_,_=>False
theorem gL {n:Nat} {g:Operand} {p:Tmp} {assign body:Code} {Q:Exit->Act->aj->Prop} {a:Act} {w:aj} (h1:2<=n) {zb pb:Nat} {z:Int} {D:bE}
  (hg:a.eval g= .func (.func 259) #[] #[ax (ai ⟨zb,0,ag⟩),ax (ai ⟨pb,0,ag⟩)])
  (hz:w.cell? ⟨zb,0,ag⟩=ai (M U z)) (hP:am w pb 55 D.cells) (hV:eP w D) (hN:sV D) (hzl:z<D.zn)
  (I:List Nat->Prop) (Ix:Code->List Nat->aj->Prop) (hIx:∀c,OwnFrom w.heap.size (Ix c)) (h0:I []) (a₁:Nat->Act)
  (hassign:∀(l:Nat) (x:Nat) (W:aj) (K:Act->aj->Prop),K (a₁ x) W->
   assign.wpIn (Fence.wide.inRound l) (n - 1 - 1) prog (Exit.then K (λ_ _ _=>False)) {tmps:=a.tmps.setIfInBounds p (M U (x:Int)),defers:=[]} W)
  (hbody:∀(l:Nat) (pre:List Nat) (x:Nat) (W:aj),I pre->pre++[x]<+:D.nears z->ap w.heap.size w W->body.wpIn (Fence.wide.inRound l) (n - 1 - 1) prog (qY I Ix (pre++[x]) W) (a₁ x) W)
  (hdone:∀(Dd:Nat) (W:aj),w.heap.size<=Dd->I (D.nears z)->ap w.heap.size w W->W.heap[Dd]?=ai (.deferred (ai []))->Q .normal {a with defers:={target:= .collected Dd,args:=#[]} :: a.defers} W)
  (hstop:∀(Dd:Nat) (pre:List Nat) (W:aj),w.heap.size<=Dd->pre<+:D.nears z->Ix .ret pre W->W.heap[Dd]?=ai (.deferred (ai []))->Q .ret {a with defers:={target:= .collected Dd,args:=#[]} :: a.defers} W):
  (Code.rangeFunc g #[p] assign body).wpIn Fence.wide n prog Q a w:=by
 refine wpIn_rangeFunc ?_
 intro fn hfn
 rw[show Fence.wide.round=ag from rfl]
 have eg:∀args w,(callFunc 259 args).run prog w= .ok (.enter 259 args) w:=enters_of func259 kr rfl
 obtain⟨rec,hrec⟩:∃rec:LoopState->Option Code->Loop,rec=wi fn a #[p] assign body w.heap.size:=⟨_,rfl⟩
 have hre:∀st pe,rec st pe={state:=st,pending:=pe,fn,tmps:=a.tmps,params:=#[p],assign,body,defers:=w.heap.size}:=λst pe=>by rw[hrec];rfl
 obtain⟨W1,hW1⟩:∃W1,(w.alloc (.deferred (ai []))).alloc (.loop (rec .ready ag))=W1:=⟨_,rfl⟩
 have hL1:W1.heap[w.heap.size+1]?=ai (.loop (rec .ready ag)):=by
  rw[<-hW1];have:=aj.alloc_heap_new (w.alloc (.deferred (ai []))) (.loop (rec .ready ag));rwa [bg]at this
 have hK1:W1.heap[w.heap.size]?=ai (.deferred (ai [])):=by
  rw[<-hW1];exact(ap.heap_alloc _ _ _ (by simp)).trans (aj.alloc_heap_new w _)
 have hb1:ap w.heap.size w W1:=by
  rw[<-hW1];exact((au _ w).alloc (aY _) _).alloc (by simp) _
 have hs1:W1.heap.size=w.heap.size+2:=by rw[<-hW1];simp
 refine⟨w.heap.size+1,[{target:= .collected w.heap.size,args:=#[]}],W1,{target:= .fn (.func 259) #[ax (ai ⟨zb,0,ag⟩),ax (ai ⟨pb,0,ag⟩)],args:=#[.func (.yield (w.heap.size+1)) #[] #[]]},W1,259,
  #[.func (.yield (w.heap.size+1)) #[] #[]]++#[ax (ai ⟨zb,0,ag⟩),ax (ai ⟨pb,0,ag⟩)],W1,?_,?_,?_,?_,λ_=>by omega,?_⟩
 ·rw[<-hW1,hre];exact run_enterLoop_outer _ _ _ _ _
 ·simp only[resolve,hg]
  simp[go_sem]
 ·intro f' hf';trivial
 ·simp[invoke,go_sem,eg]
 have hlt:zb<w.heap.size:=aG w _ hz
 refine(pC D z zb pb w hz hP hV hN hzl (n - 1) om (w.heap.size+1)
  (λpre W=>I pre/\ap w.heap.size w W/\W.heap[w.heap.size+1]?=ai (.loop (rec .ready ag))/\W.heap[w.heap.size]?=ai (.deferred (ai [])))
  (λpre W=>Ix .ret pre W/\W.heap[w.heap.size+1]?=ai (.loop (rec .done (ai .ret)))/\W.heap[w.heap.size]?=ai (.deferred (ai [])))
  (λ_ _=>False)
  W1 hb1 ?_ ?_ ⟨h0,hb1,hL1,hK1⟩).mono ?_
 ·intro s A B row hs hg' hr
  obtain⟨h2,h3,h4,h5⟩:=hs
  exact⟨h2,h3.grown hg' h3.size (λr e=>by have:=(hr r e).1;omega),(grownBy_keeps hg' (λr e=>(hr r e).2) h4 rfl).trans h4,(grownBy_keeps hg' (λr e=>(hr r e).2) h5 rfl).trans h5⟩
 ·rintro pre x W ⟨hi,hB,hl,hk⟩ ⟨-,hp⟩
  have hlt2:w.heap.size+1<W.heap.size:=(Array.getElem?_eq_some_iff.1 hl).1
  have hy:(Instr.yield (w.heap.size+1) #[M U (x:Int)]).run prog W= .ok (.round (w.heap.size+1) fn (a.tmps.setIfInBounds p (M U (x:Int))) assign body) W:=by
   have h:=run_yield (P:=prog) (args:=#[M U (x:Int)]) hl (by rw[hre];rfl)
   rw[h,hre]
   simp
  refine⟨fn,_,assign,body,hy,roundIn_of_wpIn hfn (hassign _ x W _ ⟨_,run_beginRound hl (by rw[hre]),?_⟩)⟩
  obtain⟨rb,hrb⟩:∃rb:Loop,rb={rec .ready ag with state:= .busy}:=⟨_,rfl⟩
  rw[<-hrb]
  obtain⟨Wb,hWb⟩:∃Wb,W.putObj (w.heap.size+1) (.loop rb)=Wb:=⟨_,rfl⟩
  rw[hWb]
  have hsb:Wb.heap.size=W.heap.size:=by rw[<-hWb];simp[aj.putObj]
  have hl2:Wb.heap[w.heap.size+1]?=ai (.loop rb):=by rw[<-hWb];exact aj.putObj_heap_same hlt2
  have hk2:Wb.heap[w.heap.size]?=ai (.deferred (ai [])):=by rw[<-hWb];exact(aj.putObj_heap_other om).trans hk
  have hBb:ap w.heap.size w Wb:=by rw[<-hWb];exact hB.grown (grownBy_putObj' _ _ _) hB.size (λk e=>by cases e;omega)
  have fin:∀(jump:Option Code) (W3:aj),W3.heap[w.heap.size+1]?=ai (.loop rb)->
    (Instr.endRound (w.heap.size+1) jump).run prog W3= .ok (aA jump.isNone) (W3.putObj (w.heap.size+1) (.loop (rec (if jump.isNone then .ready else .done) jump))):=λjump W3 hl3=>by
   have:=run_endRound (P:=prog) jump hl3
   rw[hrb]at this
   simp only[hre]at this⊢
   exact this
  refine wpIn_mono (hbody _ pre x _ hi hp hBb) ?_
  rintro e a3 W3 hpo
  cases e with
  |normal=>
   obtain⟨hb3,hi3⟩:=hpo
   have hl3:W3.heap[w.heap.size+1]?=ai (.loop rb):=(hb3.block _ om).trans hl2
   have hk3:W3.heap[w.heap.size]?=ai (.deferred (ai [])):=(hb3.block _ om).trans hk2
   have hz3:=hb3.size
   have hg3:W3.grownBy (W3.putObj (w.heap.size+1) (.loop (rec .ready ag))) (ai (w.heap.size+1)):=grownBy_putObj' _ _ _
   have hlt3:w.heap.size+1<W3.heap.size:=om
   refine⟨_,_,fin ag W3 hl3, .inl ⟨rfl,⟨hi3,?_,aj.putObj_heap_same hlt3,(aj.putObj_heap_other om).trans hk3⟩,?_⟩⟩
   ·exact(hBb.trans (hb3.mono (by have:=hBb.size;omega))).grown hg3 (by have:=hBb.size;omega) (λk e=>by cases e;omega)
   refine⟨hb3.os.trans (by rw[<-hWb];rfl),hb3.tape.trans (by rw[<-hWb];rfl),hb3.output.trans (by rw[<-hWb];rfl),?_,λk hk4=>?_⟩
   ·rw[aj.putObj_size];omega
   by_cases hkl:k=w.heap.size+1
   ·rw[hkl,aj.putObj_heap_same hlt3,hl];simp
   rw[aj.putObj_heap_other hkl,hb3.block k om,<-hWb,aj.putObj_heap_other hkl]
  |ret=>
   obtain⟨hk3,hi3⟩:=hpo
   have hl3:=hk3.same _ _ hl2 rfl
   have hlt3:w.heap.size+1<W3.heap.size:=(Array.getElem?_eq_some_iff.1 hl3).1
   exact⟨_,_,fin (ai .ret) W3 hl3, .inr (.inl ⟨rfl,(hIx _).putObj _ hi3 om hl3 rfl,aj.putObj_heap_same hlt3,(aj.putObj_heap_other om).trans (hk3.same _ _ hk2 rfl)⟩)⟩
  |panic ch=>exact hpo.elim
  |exit id=>exact hpo.elim
  |goto t=>exact hpo.elim
  |outgrown=>exact hpo.elim
 rintro e W2 (⟨⟨v,rfl⟩,(⟨xs,rfl,hi,hB,hl,hk⟩|⟨pre,⟨-,hp⟩,hi,hl,hk⟩)⟩|⟨ch,rfl,hi⟩)
 ·refine⟨ag,_,by have:=run_endLoop (P:=prog) hl (by rw[hre];simp);rw[hre]at this;exact this,hdone _ _ (aY _) hi ?_ ((aj.putObj_heap_other om).trans hk)⟩
  exact hB.grown (grownBy_putObj' _ _ _) hB.size (λk e=>by cases e;omega)
 ·refine⟨ai .ret,_,by have:=run_endLoop (P:=prog) hl (by rw[hre];simp);rw[hre]at this;exact this,wpIn_ret ?_⟩
  exact hstop _ pre _ (aY _) hp ((hIx .ret).putObj _ hi om hl rfl) ((aj.putObj_heap_other om).trans hk)
 exact hi.elim
theorem iR {n:Nat} {g:Operand} {p:Tmp} {body:Code} {Q:Exit->Act->aj->Prop} {tmps:Array aw} {defers:List Deferred} {w:aj} (h1:2<=n) {zb pb:Nat} {z:Int} {D:bE}
  (hg:({tmps,defers}:Act).eval g= .func (.func 259) #[] #[ax (ai ⟨zb,0,ag⟩),ax (ai ⟨pb,0,ag⟩)])
  (hz:w.cell? ⟨zb,0,ag⟩=ai (M U z)) (hP:am w pb 55 D.cells) (hV:eP w D) (hN:sV D) (hzl:z<D.zn)
  (I:List Nat->Prop) (Ix:List Nat->aj->Prop) (hIx:OwnFrom w.heap.size Ix) (h0:I [])
  (hbody:∀(l:Nat) (pre:List Nat) (x:Nat) (W:aj),I pre->pre++[x]<+:D.nears z->ap w.heap.size w W->body.wpIn (Fence.wide.inRound l) (n - 1 - 1) prog (qY I (λ_=>Ix) (pre++[x]) W) {tmps:=tmps.setIfInBounds p (M U (x:Int)),defers:=[]} W)
  (hdone:∀(Dd:Nat) (W:aj),w.heap.size<=Dd->I (D.nears z)->ap w.heap.size w W->W.heap[Dd]?=ai (.deferred (ai []))->Q .normal {tmps,defers:={target:= .collected Dd,args:=#[]} :: defers} W)
  (hstop:∀(Dd:Nat) (pre:List Nat) (W:aj),w.heap.size<=Dd->pre<+:D.nears z->Ix pre W->W.heap[Dd]?=ai (.deferred (ai []))->Q .ret {tmps,defers:={target:= .collected Dd,args:=#[]} :: defers} W):
  (Code.rangeFunc g #[p] .skip body).wp prog Q {tmps,defers} w:=
 (wpIn_wide (n:=n)).1 (gL h1 hg hz hP hV hN hzl I (λ_=>Ix) (λ_=>hIx) h0 (λx=>{tmps:=tmps.setIfInBounds p (M U (x:Int)),defers:=[]}) (λ_ _ _ _ hK=>wpIn_skip hK) hbody hdone hstop)
theorem gB {β:Type} (B b:Nat) (t:aT) (cs:Array aw):OwnFrom B (λ(_:β) W=>am W b t cs):=
 λ_ W W' row hs hg hr=>dg hs hg (λg e e2=>by
  obtain⟨_,o,ho,hc⟩:=hr g e
  subst e2
  have h:W.heap[g]?=ai (.cells cs t (0,0)):=hs
  rw[h]at ho
  cases ho
  cases hc)
theorem mc {β:Type} (B:Nat) (p:β->Prop):OwnFrom B (λ(s:β) (_:aj)=>p s):=λ_ _ _ _ hs _ _=>hs
end
section
open Tryz
open Go.RowKit Go.Shelf
def bE.zE (D:bE) (i:Nat):Int:=sM (D.ZR i 1) (D.ZR i 2) (D.ZR i 3) (D.ZR i 4) (D.ZR i 5) (D.ZR i 6)
def bE.dF (D:bE) (i:Nat):Option Int:=if aI (D.DR i 0) (-1) ((D.zn:Int) - 1)||aI (D.DR i 1) (-1) ((D.zn:Int) - 1)then ai 4 else if D.DR i 0==D.DR i 1 then ai 2 else ag
def bE.pE (D:bE) (i:Nat):Int:=if aI (D.PR i 1) 0 9 then 7 else 0
def bE.sE (D:bE) (i:Nat):Int:=sg (D.QR i 1) (D.QR i 2) (D.QR i 3) (D.QR i 4) (D.SN i) (D.QK i) D.kn
def bE.long (D:bE):Bool:=aI ((D.zn:Int) - 1) 0 7||(decide (24<D.dn)||(decide (8<D.pn)||(decide (8<D.kn)||decide (6<D.qn))))
def fB (panel last wait:Int) (near:Bool):Int×Int×Int:=if aI panel 0 last then(7,0,4)else if near then(7,0,2)else if aI wait 0 6000 then(7,0,7)else(0,0,0)
def eF (D:bE):Int×Int×Int:=
 if D.long then(1,0,3)else
 if(eD D.ZN D.zE D.zn).2 != 0 then(2,(eD D.ZN D.zE D.zn).1,(eD D.ZN D.zE D.zn).2)else
 match aB D.dF D.dn 0 with
 |some (i,e)=>(3,((i:Nat):Int),e)
 |none=>
 if(eD D.PN D.pE D.pn).2 != 0 then(4,(eD D.PN D.pE D.pn).1,(eD D.PN D.pE D.pn).2)else
 if(eD D.KN (λ_=>0) D.kn).2 != 0 then(5,(eD D.KN (λ_=>0) D.kn).1,(eD D.KN (λ_=>0) D.kn).2)else
 if(eD D.QN D.sE D.qn).2 != 0 then(6,(eD D.QN D.sE D.qn).1,(eD D.QN D.sE D.qn).2)else
 fB D.panel ((D.zn:Int) - 1) D.wait (!(D.nears D.panel).isEmpty)
theorem fG {f:Nat->Option Int}:∀(m k:Nat),aB f m k=ag->∀i,k<=i->i<k+m->f i=ag
 |0,k,_,i,h1,h2=>by omega
 |m+1,k,h,i,h1,h2=>by
  simp only[aB]at h
  cases hk:f k with
  |some e=>rw[hk]at h;cases h
  |none=>
   rw[hk]at h
   rcases Nat.lt_or_ge k i with h3|h3
   ·exact fG m (k+1) h i h3 om
   ·have:i=k:=om
    rw[this];exact hk
theorem cJ {f:Nat->Option Int}:∀(m k:Nat) {i:Nat} {e:Int},aB f m k=ai (i,e)->k<=i/\i<k+m/\f i=ai e
 |0,k,i,e,h=>by cases h
 |m+1,k,i,e,h=>by
  simp only[aB]at h
  cases hk:f k with
  |some e2=>rw[hk]at h;simp at h;obtain⟨rfl,rfl⟩:=h;exact⟨aY _,by omega,hk⟩
  |none=>rw[hk]at h;have:=cJ m (k+1) h;exact⟨by omega,by omega,this.2.2⟩
theorem ug {N:Nat->ByteArray} {E:Nat->Int} {i:Nat} {e:Int} (h:dy N E i=ai e):e≠0:=by
 unfold dy at h
 split at h
 ·simp at h;omega
 split at h
 ·simp at h;omega
 split at h
 ·cases h
 simp at h;omega
theorem uj {N:Nat->ByteArray} {E:Nat->Int} {i:Nat} (h:dy N E i=ag):dq (N i).data.toList=true/\bI (λk=>ej (N k) (N i)) i=false/\E i=0:=by
 unfold dy at h
 split at h
 ·cases h
 rename_i h1
 split at h
 ·cases h
 rename_i h2
 split at h
 ·rename_i h3;exact⟨by simpa using h1,by simpa using h2,h3⟩
 cases h
theorem gT {N:Nat->ByteArray} {E:Nat->Int} {n:Nat} (h:(eD N E n).2=0):∀i,i<n->dq (N i).data.toList=true/\bI (λk=>ej (N k) (N i)) i=false/\E i=0:=by
 unfold eD at h
 cases hf:aB (dy N E) n 0 with
 |some p=>
  obtain⟨i,e⟩:=p
  rw[hf]at h
  exact absurd h (ug (cJ n 0 hf).2.2)
 |none=>exact λi hi=>uj (fG n 0 hf i (aF _) om)
theorem nU {xl xh yl yh g r:Int} (h:sM xl xh yl yh g r=0):iU xl/\iU xh/\iU yl/\iU yh/\xl<=xh/\yl<=yh/\0<=g/\g<=9/\1<=r/\r<=8:=by
 have h1:ud xl xh yl yh g r=false:=by
  cases hb:ud xl xh yl yh g r with
  |false=>rfl
  |true=>unfold sM at h;rw[hb]at h;simp at h
 unfold ud aI at h1
 simp at h1
 unfold iU
 omega
theorem oH {x y cl gr:Int} {n:Nat} {K:Nat->Int} {keys:Int} (h:sg x y cl gr n K keys=0):iU x/\iU y/\0<=cl/\cl<=10000000/\0<=gr/\gr<=9/\0<n/\(∀i,i<n->0<=K i/\K i<keys)/\nO K n=false:=by
 unfold sg at h
 split at h
 ·cases h
 rename_i h1
 split at h
 ·cases h
 rename_i h2
 split at h
 ·cases h
 rename_i h3
 unfold aI at h1
 simp at h1 h2
 refine⟨by unfold iU;omega,by unfold iU;omega,by omega,by omega,by omega,by omega,by omega,λi hi=>?_,by simpa using h3⟩
 have h4:=h2.2
 unfold rT bI at h4
 rw[List.any_eq_false]at h4
 have h5:=h4 i (List.mem_range.2 hi)
 unfold aI at h5
 simp at h5
 omega
structure cA (D:bE):Prop where
 zn:1<=D.zn/\D.zn<=8
 dn:D.dn<=24
 pn:D.pn<=8
 kn:D.kn<=8
 qn:D.qn<=6
 z:∀i,i<D.zn->D.zE i=0
 d:∀i,i<D.dn->D.dF i=ag
 p:∀i,i<D.pn->D.pE i=0
 q:∀i,i<D.qn->D.sE i=0
 panel:0<=D.panel/\D.panel<D.zn
 wait:0<=D.wait/\D.wait<=6000
theorem dJ {D:bE} (h:D.long=false):(1<=D.zn/\D.zn<=8)/\D.dn<=24/\D.pn<=8/\D.kn<=8/\D.qn<=6:=by
 unfold bE.long aI at h
 simp at h
 omega
theorem nQ {D:bE} (hl:D.long=false) (hz:∀i,i<D.zn->D.zE i=0) (hq:∀i,i<D.qn->D.sE i=0):sV D:=by
 have h:=dJ hl
 refine⟨by omega,by omega,λi hi=>?_,λi hi=>?_⟩
 ·have h1:=nU (hz i hi);exact⟨h1.1,h1.2.1,h1.2.2.1,h1.2.2.2.1⟩
 have h1:=oH (hq i hi);refine⟨h1.1,h1.2.1,?_⟩;unfold iU;omega
theorem du {D:bE} (h:(eF D).2.2=0):cA D:=by
 unfold eF at h
 by_cases h1:D.long=true
 ·rw[if_pos h1]at h;cases h
 rw[if_neg h1]at h
 have h1:D.long=false:=by simpa using h1
 have hl:=dJ h1
 by_cases h2:¬(eD D.ZN D.zE D.zn).2=0
 ·rw[if_pos (by simpa using h2)]at h;exact absurd h h2
 have h2:=Decidable.not_not.1 h2
 rw[if_neg (by simpa using h2)]at h
 cases h3:aB D.dF D.dn 0 with
 |some p=>
  obtain⟨i,e⟩:=p
  rw[h3]at h
  simp only at h
  have h4:=(cJ _ _ h3).2.2
  unfold bE.dF at h4
  split at h4
  ·simp at h4;omega
  split at h4
  ·simp at h4;omega
  cases h4
 |none=>
  rw[h3]at h
  simp only at h
  by_cases h4:¬(eD D.PN D.pE D.pn).2=0
  ·rw[if_pos (by simpa using h4)]at h;exact absurd h h4
  have h4:=Decidable.not_not.1 h4
  rw[if_neg (by simpa using h4)]at h
  by_cases h5:¬(eD D.KN (λ_=>0) D.kn).2=0
  ·rw[if_pos (by simpa using h5)]at h;exact absurd h h5
  have h5:=Decidable.not_not.1 h5
  rw[if_neg (by simpa using h5)]at h
  by_cases h6:¬(eD D.QN D.sE D.qn).2=0
  ·rw[if_pos (by simpa using h6)]at h;exact absurd h h6
  have h6:=Decidable.not_not.1 h6
  rw[if_neg (by simpa using h6)]at h
  unfold fB at h
  split at h
  ·cases h
  ·split at h
   ·cases h
   split at h
   ·cases h
   rename_i h7 h8 h9
   unfold aI at h7 h9
   simp at h7 h9
   exact⟨hl.1,hl.2.1,hl.2.2.1,hl.2.2.2.1,hl.2.2.2.2,λi hi=>(gT h2 i hi).2.2,λi hi=>fG _ _ h3 i (aF _) om,λi hi=>(gT h4 i hi).2.2,λi hi=>(gT h6 i hi).2.2,by omega,by omega⟩
theorem cA.near {D:bE} (h:cA D):sV D:=nQ (by have:=h.zn;have:=h.dn;have:=h.pn;have:=h.kn;have:=h.qn;unfold bE.long aI;simp;omega) h.z h.q
end
section
open Tryz
open Go.RowKit Go.Shelf
attribute [local go_sem] Oper.semAt_some
theorem rW {P:Program} {w:aj} {d:Nat} {xs ys:Array aw} {f:Field} {fs:List Field} {va vb:aw} {r:Bool} (hn:¬f.name= "_") (h1:(part f.type xs f.offset).run P w= .ok va w) (h2:(part f.type ys f.offset).run P w= .ok vb w) (h3:(Op.equalIn d f.type va vb).run P w= .ok r w):
  (Op.eqFields d xs ys (f :: fs)).run P w=if r then(Op.eqFields d xs ys fs).run P w else .ok false w:=by
 conv=>lhs;rw[Op.eqFields]
 rw[if_pos hn]
 simp only[Sem.run_bind,h1,Result.andThen_ok,h2,h3]
 cases r<;>simp
theorem nX:(prog.fieldsOf 242).toList.map (λf=>(f.name != "_",f.type,f.offset))=[(true,3,0),(true,3,1)]:=by kernel_rfl
theorem oX (a0 a1 b0 b1:Int) (w:aj):(binOp .eql 242 (aN #[M U a0,M U a1]) (aN #[M U b0,M U b1])).run prog w= .ok (aA (a0==b0&&a1==b1)) w:=by
 rw[run_eql_struct,run_equalIn_agg _ _ _ _ _ kr kr]
 generalize hf:(prog.fieldsOf 242).toList=fs
 have h:=nX
 rw[hf]at h
 match fs,h with
 |[f0,f1],h=>
  simp at h
  obtain⟨⟨n0,t0,o0⟩,n1,t1,o1⟩:=h
  rw[rW n0 (va:=M U a0) (vb:=M U b0) (r:=a0==b0) (by rw[t0,o0];kernel_rfl) (by rw[t0,o0];kernel_rfl) (by rw[t0];exact run_equalIn_int _ _ _ _ _ _ _ underlying3),
   rW n1 (va:=M U a1) (vb:=M U b1) (r:=a1==b1) (by rw[t1,o1];kernel_rfl) (by rw[t1,o1];kernel_rfl) (by rw[t1];exact run_equalIn_int _ _ _ _ _ _ _ underlying3)]
  cases a0==b0<;>cases a1==b1<;>simp[Op.eqFields]
def pH (D:bE) (a b:Int) (j:Nat):Bool:=a==D.DR j 0&&b==D.DR j 1
def fj (D:bE) (a b:Int):Bool:=bI (pH D a b) D.dn
theorem mA (D:bE) (a b:Int) (w:aj) (hR:aU w D.vd D.dn 2 (bw D.DR)) (hn:D.dn<=1000000):
  aC prog 602 #[D.vd,aN #[M U a,M U b]] w λe w'=>e=ar (M U (cH (pH D a b) D.dn 0))/\ap w.heap.size w w':=by
 have HDP:bj (∀j,pH D a b j=(a==D.DR j 0&&b==D.DR j 1)):=show∀j,_ from λj=>rfl
 obtain⟨ra,rc,hv,hrc,hx⟩:=id hR
 rw[hv]at hR⊢
 have HR:=af hR
 clear hR
 generalize pH D a b=P at *
 generalize D.dn=n at *
 obtain⟨W0,xb,HW0,hC,hB0⟩:=eB w 242 #[M U a,M U b]
 go_enter func602,ntmps602
 go_upto_region 1 with fail
 rw[HW0.out.1,HW0.out.2]
 clear HW0
 go_upto_region 2 with fail
 go_loopw [8] (λi wr=>∃j:Nat,j<=n/\i=M U j/\ap w.heap.size w wr/\am wr xb 242 #[M U a,M U b]/\bj (cH P n 0=cH P (n - j) j)) (λi _=>n - (aV i).toNat)
 case atStart=>exact⟨0,aF _,rfl,hB0,hC,rfl⟩
 case round=>
  obtain⟨j,hj,rfl,hB,hCr,HI⟩:=hrel
  have y0:=hCr.cell 0
  have y1:=hCr.cell 1
  have hxl:=hCr.lt
  by_cases hlt:j<n
  rotate_left
  ·obtain rfl:j=n:=om
   go_wp2_with fail
   go_ret
   exact⟨bJ (by rw[HI.out,Nat.sub_self];rfl),eo⟩
  have HS:=af (dj P hlt)
  obtain⟨b2,off,rfl,hb,e0,e1⟩:=(HR.out.below hB).eI2 hlt
  have hpj:=HDP.out j
  generalize D.DR j 0=r0 at *
  generalize D.DR j 1=r1 at *
  have HPJ:=af hpj
  have i2:(j:Int)<(n:Int):=om
  clear hpj
  by_cases hq0:a=r0
  rotate_left
  ·have hsv:cH P n 0=cH P (n - (j+1)) (j+1):=by rw[HI.out,HS.out,HPJ.out];simp[hq0]
   have HSV:=af hsv
   clear hsv HS HI
   have he:∀W:aj,Sem.run prog (binOp .eql 242 (aN #[M U a,M U b]) (aN #[M U r0,M U r1])) W= .ok (aA false) W:=λW=>by rw[oX];simp[hq0]
   exact T67
  by_cases hq:b=r1
  ·have hsv:cH P n 0=(j:Int):=by rw[HI.out,HS.out,HPJ.out];simp[hq0,hq]
   have HSV:=af hsv
   clear hsv HS HI
   subst hq0
   subst hq
   have he:∀W:aj,Sem.run prog (binOp .eql 242 (aN #[M U a,M U b]) (aN #[M U a,M U b])) W= .ok (aA true) W:=λW=>by rw[oX];simp
   go_upto_region 4 with fail
   go_region
   go_wp2_with fail
   go_ret
   exact⟨bJ HSV.out.symm,eo⟩
  have hsv:cH P n 0=cH P (n - (j+1)) (j+1):=by rw[HI.out,HS.out,HPJ.out];simp[hq]
  have HSV:=af hsv
  clear hsv HS HI
  have he:∀W:aj,Sem.run prog (binOp .eql 242 (aN #[M U a,M U b]) (aN #[M U r0,M U r1])) W= .ok (aA false) W:=λW=>by rw[oX];simp[hq]
  exact T67
theorem jj (D:bE) (a b:Int) (w:aj) (hR:aU w D.vd D.dn 2 (bw D.DR)) (hn:D.dn<=1000000):
  aC prog 568 #[D.vd,aN #[M U a,M U b]] w λe w'=>e=ar (aA (fj D a b))/\ap w.heap.size w w':=by
 have HDB:bj (fj D a b=bI (pH D a b) D.dn):=show _=_ from rfl
 have HI:=af (λw' (hb:ap w.heap.size w w')=>mA D a b w' (hR.below hb) hn)
 have hk:=dp (pH D a b) D.dn
 have HK:=af hk
 obtain⟨ra,rc,hv,hrc,hx⟩:=id hR
 clear hk hR hx
 obtain⟨W0,xb,HW0,hC,hB0⟩:=eB w 242 #[M U a,M U b]
 rw[hv]at HI⊢
 go_enter func568,ntmps568
 go_upto_region 1 with fail
 rw[HW0.out.1,HW0.out.2]
 clear HW0
 have y0:=hC.cell 0
 have y1:=hC.cell 1
 go_wp2_with fail
 refine(HI.out _ hB0).mono ?_
 rintro e w2 ⟨rfl,hb2⟩
 have hB:=ak hB0 hb2
 go_wp2_with fail
 all_goals(go_ret;refine⟨bt ?_,hB⟩)
 all_goals(rw[HDB.out];have hq:=HK.out;rw[Bool.eq_iff_iff,<-hq];simp;try omega)
end
section
open Tryz
open Go.RowKit Go.Shelf
attribute [local go_sem] Oper.semAt_some
variable {v0 v1 v5 v6 v7 v8 v9 v10 v11 v12 v13 v14 v15 v16 v17 v18 v19 v20 v21 v22 v23 v24 v25 v26 v27 v28 v29 v30 v31 v32 v33 v34 v35 v36 v37 v38 v39 v40 v41 v42 v43 v44 v45 v46 v47 v48 v49 v50 v51 v52 v53 v54 v55 v56 v57 v58 v59 v60 v61 v62 v63 v64 v65 v66 v67 v68 v69 v70 v71 v72 v73 v74 v75 v76 v77 v78 v79 v80 v81 v82 v83 v84 v85 v86 v87 v88 v89 v90 v91 v92 v93 v94 v95 v96 v97 v98 v99 v100 v101 v102 v103 v104 v105 v106 v107 v108 v109 v110 v111 v112 v113 v114 v115 v116 v117 v118:aw}
theorem ei {w W:aj} {r:Int×Int×Int} {b2 b3 b4:Nat} {k at_ e:Int} (h2:am W b2 3 #[M U k]) (h3:am W b3 3 #[M U at_]) (h4:am W b4 69 #[M U e]) (hB:ap w.heap.size w W) (hr:r=(k,at_,e)):
 bodyPostM Fence.wide 3 prog f89 (E3 w r) .ret {tmps:=#[v0,v1,ax (ai ⟨b2,0,ag⟩),ax (ai ⟨b3,0,ag⟩),ax (ai ⟨b4,0,ag⟩),v5,v6,v7,v8,v9,v10,v11,v12,v13,v14,v15,v16,v17,v18,v19,v20,v21,v22,v23,v24,v25,v26,v27,v28,v29,v30,v31,v32,v33,v34,v35,v36,v37,v38,v39,v40,v41,v42,v43,v44,v45,v46,v47,v48,v49,v50,v51,v52,v53,v54,v55,v56,v57,v58,v59,v60,v61,v62,v63,v64,v65,v66,v67,v68,v69,v70,v71,v72,v73,v74,v75,v76,v77,v78,v79,v80,v81,v82,v83,v84,v85,v86,v87,v88,v89,v90,v91,v92,v93,v94,v95,v96,v97,v98,v99,v100,v101,v102,v103,v104,v105,v106,v107,v108,v109,v110,v111,v112,v113,v114,v115,v116,v117,v118],defers:=[]} W:=by
 have c2:=h2.cell 0
 have c3:=h3.cell 0
 have c4:=h4.cell 0
 refine⟨.tuple #[M U k,M U at_,M U e],?_,?_,hB⟩
 ·simp[results,results89,go_sem,c2,c3,c4]
 ·rw[hr]
theorem gZ {B:Nat} {w w1 w2:aj} (h:ap B w w1) (h2:ap B w1 w2):ap B w w2:=h.trans h2
theorem ix {w W:aj} {r:Int×Int×Int} {b2 b3 b4 Dd:Nat} {k at_ e:Int} (hd:w.heap.size<=Dd) (hK:W.heap[Dd]?=ai (.deferred (ai []))) (h2:am W b2 3 #[M U k]) (h3:am W b3 3 #[M U at_]) (h4:am W b4 69 #[M U e]) (hB:ap w.heap.size w W) (hr:r=(k,at_,e)):
 bodyPostM Fence.wide 3 prog f89 (E3 w r) .ret {tmps:=#[v0,v1,ax (ai ⟨b2,0,ag⟩),ax (ai ⟨b3,0,ag⟩),ax (ai ⟨b4,0,ag⟩),v5,v6,v7,v8,v9,v10,v11,v12,v13,v14,v15,v16,v17,v18,v19,v20,v21,v22,v23,v24,v25,v26,v27,v28,v29,v30,v31,v32,v33,v34,v35,v36,v37,v38,v39,v40,v41,v42,v43,v44,v45,v46,v47,v48,v49,v50,v51,v52,v53,v54,v55,v56,v57,v58,v59,v60,v61,v62,v63,v64,v65,v66,v67,v68,v69,v70,v71,v72,v73,v74,v75,v76,v77,v78,v79,v80,v81,v82,v83,v84,v85,v86,v87,v88,v89,v90,v91,v92,v93,v94,v95,v96,v97,v98,v99,v100,v101,v102,v103,v104,v105,v106,v107,v108,v109,v110,v111,v112,v113,v114,v115,v116,v117,v118],defers:=[{target:= .collected Dd,args:=#[]}]} W:=by
 have hg:W.grownBy (W.putObj Dd (.deferred ag)) (ai Dd):=grownBy_putObj' _ _ _
 have hne:∀{b:Nat} {t:aT} {cs:Array aw},am W b t cs->∀g,ai Dd=ai g->g≠b:=λh g e e2=>by
  cases e;subst e2
  have h':W.heap[Dd]?=ai (.cells _ _ (0,0)):=h
  rw[hK]at h';cases h'
 have c2:=(dg h2 hg (hne h2)).cell 0
 have c3:=(dg h3 hg (hne h3)).cell 0
 have c4:=(dg h4 hg (hne h4)).cell 0
 refine⟨by simp, .inl ⟨_,_,rfl,run_takeDeferred hK, .tuple #[M U k,M U at_,M U e],?_,?_,hB.grown hg hB.size (λj e=>by cases e;exact hd)⟩⟩
 ·simp[results,results89,go_sem,c2,c3,c4]
 ·rw[hr]
theorem px {w w1 w2:aj} (h:ap w.heap.size w w1) (h2:ap w1.heap.size w1 w2):ap w.heap.size w w2:=ak h h2
theorem go (D:bE) (w:aj) (hV:eP w D):
  aC prog 89 #[aN D.cells] w (E3 w (eF D)):=by
 have HV:=af hV
 obtain⟨r,HS⟩:=dR (eF D)
 rw[<-HS.out]
 obtain⟨za,zc,hvz,hzc,hx⟩:=id hV.z
 obtain⟨da,dc,hvd,hdc,hx⟩:=id hV.d
 obtain⟨pa,pc,hvp,hpc,hx⟩:=id hV.p
 obtain⟨ka,kc,hvk,hkc,hx⟩:=id hV.k
 obtain⟨qa,qc,hvq,hqc,hx⟩:=id hV.q
 clear hx
 have HDC:bj (D.cells=#[T za D.zn zc,T da D.dn dc,T pa D.pn pc,T ka D.kn kc,T qa D.qn qc,M U D.panel,M U D.wait]):=show _=_ by unfold bE.cells;rw[hvz,hvd,hvp,hvk,hvq]
 rw[HDC.out]
 have hRz:=hV.z
 have hRd:=hV.d
 have hRp:=hV.p
 have hRk:=hV.k
 have hRq:=hV.q
 rw[hvz]at hRz
 rw[hvd]at hRd
 rw[hvp]at hRp
 rw[hvk]at hRk
 rw[hvq]at hRq
 have HRz:=af hRz
 have HRd:=af hRd
 have HRp:=af hRp
 have HRk:=af hRk
 have HRq:=af hRq
 clear hRz hRd hRp hRk hRq hvz hvd hvp hvk hvq hV
 obtain⟨W0,hW0⟩:∃W0,((((w.alloc (.cells #[T za D.zn zc,T da D.dn dc,T pa D.pn pc,T ka D.kn kc,T qa D.qn qc,M U D.panel,M U D.wait] 55)).alloc (.cells #[M U 0] 3)).alloc (.cells #[M U 0] 3)).alloc (.cells #[M U 0] 69))=W0:=⟨_,rfl⟩
 have hC:am W0 (w.heap.size) 55 #[T za D.zn zc,T da D.dn dc,T pa D.pn pc,T ka D.kn kc,T qa D.qn qc,M U D.panel,M U D.wait]:=by
  rw[<-hW0]
  have h:=aK w (.cells #[T za D.zn zc,T da D.dn dc,T pa D.pn pc,T ka D.kn kc,T qa D.qn qc,M U D.panel,M U D.wait] 55)
  exact T66
 have hC2:am W0 (w.heap.size+1) 3 #[M U 0]:=by
  rw[<-hW0]
  have h:=aK (w.alloc (.cells #[T za D.zn zc,T da D.dn dc,T pa D.pn pc,T ka D.kn kc,T qa D.qn qc,M U D.panel,M U D.wait] 55)) (.cells #[M U 0] 3)
  simp only[bg]at h
  exact sQ
 have hC3:am W0 (w.heap.size+1+1) 3 #[M U 0]:=by
  rw[<-hW0]
  have h:=aK ((w.alloc (.cells #[T za D.zn zc,T da D.dn dc,T pa D.pn pc,T ka D.kn kc,T qa D.qn qc,M U D.panel,M U D.wait] 55)).alloc (.cells #[M U 0] 3)) (.cells #[M U 0] 3)
  simp only[bg]at h
  exact sH
 have hD:am W0 (w.heap.size+1+1+1) 69 #[M U 0]:=by
  rw[<-hW0]
  have h:=aK (((w.alloc (.cells #[T za D.zn zc,T da D.dn dc,T pa D.pn pc,T ka D.kn kc,T qa D.qn qc,M U D.panel,M U D.wait] 55)).alloc (.cells #[M U 0] 3)).alloc (.cells #[M U 0] 3)) (.cells #[M U 0] 69)
  simp only[bg]at h
  exact h
 have hB:ap w.heap.size w W0:=by rw[<-hW0];exact aP (aP (aP (aP (au _ _) _) _) _) _
 have HW0:=af hW0
 clear hW0
 refine(callsIn_wide (n:=3)).1 (callsIn_of_wp_marks func89 rfl trivial ?_ rfl)
 refine wpIn_wide.2 ?_
 simp only[ntmps89,List.size_toArray,List.length_cons,List.length_nil,Nat.reduceAdd,Nat.reduceSub,Array.replicate_succ,Array.replicate_zero,List.push_toArray,List.append_toArray,List.nil_append,List.cons_append]
 go_upto_region 1 with fail
 rw[HW0.out]
 clear HW0
 obtain⟨pb,hpe⟩:=bY w.heap.size
 have hpb:w.heap.size<=pb:=bs hpe.symm
 rw[<-hpe]at hC hC2 hC3 hD⊢
 obtain⟨b2,h2e⟩:=bY (pb+1)
 have hb2:pb<b2:=om
 rw[<-h2e]at hC2 hC3 hD⊢
 obtain⟨b3,h3e⟩:=bY (b2+1)
 have hb3:b2<b3:=om
 rw[<-h3e]at hC3 hD⊢
 obtain⟨b4,h4e⟩:=bY (b3+1)
 have hb4:b3<b4:=om
 rw[<-h4e]at hD⊢
 clear hpe h2e h3e h4e
 obtain⟨x0,x1,x2,x3,x4,x5,x6⟩:=aJ hC
 have c2:=hC2.cell 0
 have c3:=hC3.cell 0
 have c4:=hD.cell 0
 have f2:=hC2.frozen 0
 have f3:=hC3.frozen 0
 have f4:=hD.frozen 0
 have hlz:=HV.out.lz
 have qz:=aD ((D.zn:Int) - 1) ⟨by omega,by omega⟩
 go_wp2_with fail
 clear qz hlz
 refine bm (bN _ _ _ _) ?_
 rintro(_|_) g1
 rotate_left
 ·exact vy
 by_cases k0:24<D.dn
 ·have j0:(24:Int)<(D.dn:Int):=om
  exact vy
 have j0:¬(24:Int)<(D.dn:Int):=om
 by_cases k1:8<D.pn
 ·have j1:(8:Int)<(D.pn:Int):=om
  exact vy
 have j1:¬(8:Int)<(D.pn:Int):=om
 by_cases k2:8<D.kn
 ·have j2:(8:Int)<(D.kn:Int):=om
  exact vy
 have j2:¬(8:Int)<(D.kn:Int):=om
 by_cases k3:6<D.qn
 ·have j3:(6:Int)<(D.qn:Int):=om
  exact vy
 have j3:¬(6:Int)<(D.qn:Int):=om
 have hL:D.long=false:=by unfold bE.long;simp[*]
 have hlk:=dJ hL
 obtain⟨⟨hl0,hl1⟩,hl2,hl3,hl4,hl5⟩:=hlk
 have HL:=af hL
 clear hL g1 k0 k1 k2 k3 j0 j1 j2 j3
 go_wp2_with fail
 refine aZ (pX D.zn D.ZN D.ZR D.ZB D.zE _ _ (HRz.out.below hB) om HV.out.nz (λi W _ _=>qJ _ _ _ _ _ _ _ _ W) (λi W _ _=>qg _ _ _ _ _ _ _ _ W)) ?_
 intro w1 hb
 try replace hC:=hC.below hb
 try replace hC2:=hC2.below hb
 try replace hC3:=hC3.below hb
 try replace hD:=hD.below hb
 try replace hL:=hL.below hb
 replace hB:=ak hB hb
 clear hb
 clear x0 x1 x2 x3 x4 x5 x6 c2 c3 c4 f2 f3 f4
 obtain⟨p1,hp1⟩:∃p,p=eD D.ZN D.zE D.zn:=⟨_,rfl⟩
 rw[<-hp1]
 have Hp1:=af hp1.symm
 clear hp1
 obtain⟨p1a,p1e⟩:=p1
 obtain⟨x0,x1,x2,x3,x4,x5,x6⟩:=aJ hC
 have c2:=hC2.cell 0
 have c3:=hC3.cell 0
 have c4:=hD.cell 0
 have f2:=hC2.frozen 0
 have f3:=hC3.frozen 0
 have f4:=hD.frozen 0
 go_upto_region 5 with fail
 clear x0 x1 x2 x3 x4 x5 x6 c2 c3 c4 f2 f3 f4
 obtain⟨w2,hW2⟩:∃W2,(w1.setCell ⟨b3,0,ag⟩ (M U p1a)).setCell ⟨b4,0,ag⟩ (M U p1e)=W2:=⟨_,rfl⟩
 have hC_:am w2 pb 55 #[T za D.zn zc,T da D.dn dc,T pa D.pn pc,T ka D.kn kc,T qa D.qn qc,M U D.panel,M U D.wait]:=by rw[<-hW2];exact cw
 have hC2_:am w2 b2 3 #[M U 0]:=by rw[<-hW2];exact cw
 have hC3_:am w2 b3 3 #[M U p1a]:=by rw[<-hW2];exact cw
 have hD_:am w2 b4 69 #[M U p1e]:=by rw[<-hW2];exact cw
 have hB_:ap w.heap.size w w2:=by rw[<-hW2];exact eo
 rw[hW2]
 clear hW2 hC hC2 hC3 hD hB
 have hC:=hC_
 have hC2:=hC2_
 have hC3:=hC3_
 have hD:=hD_
 have hB:=hB_
 clear hC_ hC2_ hC3_ hD_ hB_
 obtain⟨x0,x1,x2,x3,x4,x5,x6⟩:=aJ hC
 have c2:=hC2.cell 0
 have c3:=hC3.cell 0
 have c4:=hD.cell 0
 have f2:=hC2.frozen 0
 have f3:=hC3.frozen 0
 have f4:=hD.frozen 0
 by_cases hp10:¬p1e=0
 ·have hp1n:(p1e != 0)=true:=by simpa using hp10
  go_upto_region 6 with fail
  refine us (B:=w.heap.size) kr hC2 hC3 hD om om om om om om ?_
  intro _ _ w3 hb3 g2 g3 g4
  (try simp only[Exit.then])
  refine‹∀(a:Act) (w:aj),bi prog _ _ a w->_› _ _ ?_
  clear c2 c3 c4 f2 f3 f4
  have c2:=g2.cell 0
  go_wp2_with fail
  refine ei (k:=2) (at_:=p1a) (e:=p1e) g2 g3 g4 (gZ hB hb3) ?_
  rw[HS.out]
  have hf0:=HL.out
  have hf:=Hp1.out
  simp[eF, *]
 obtain rfl:p1e=0:=Decidable.not_not.1 hp10
 clear hp10
 go_upto_region 8 with fail
 clear x0 x1 x2 x3 x4 x5 x6 c2 c3 c4 f2 f3 f4
 go_loopw [51] (λi wr=>∃j:Nat,j<=D.dn/\i=M U j/\bj (aB D.dF D.dn 0=aB D.dF (D.dn - j) j)/\am wr pb 55 #[T za D.zn zc,T da D.dn dc,T pa D.pn pc,T ka D.kn kc,T qa D.qn qc,M U D.panel,M U D.wait]/\am wr b2 3 #[M U 0]/\am wr b3 3 #[M U p1a]/\am wr b4 69 #[M U 0]/\ap w.heap.size w wr) (λi _=>D.dn - (aV i).toNat)
 case atStart=>exact⟨0,aF _,rfl,show _=_ from rfl,hC,hC2,hC3,hD,hB⟩
 case round=>
  clear hC hC2 hC3 hD hB
  obtain⟨j,hj,rfl,HJ,hC,hC2,hC3,hD,hB⟩:=hrel
  by_cases hlt:j<D.dn
  ·have HF:=af (HJ.out.trans (bf D.dF hlt))
   obtain⟨q,hq⟩:∃q,q=D.dF j:=⟨_,rfl⟩
   rw[<-hq]at HF
   unfold bE.dF at hq
   have HQ:=af hq
   clear hq HJ
   obtain⟨vb,vo,rfl,vl,e0,e1⟩:=(HRd.out.below hB).eI2 hlt
   generalize D.DR j 0=d0 at *
   generalize D.DR j 1=d1 at *
   have i2:(j:Int)<(D.dn:Int):=om
   go_upto_region 10 with fail
   obtain⟨w1,hW9,hN9,hb⟩:=bW wr 242 #[M U d0,M U d1]
   rw[hW9.out]
   clear hW9
   try replace hC:=hC.below hb
   try replace hC2:=hC2.below hb
   try replace hC3:=hC3.below hb
   try replace hD:=hD.below hb
   try replace hL:=hL.below hb
   replace hB:=ak hB hb
   clear hb
   generalize wr.heap.size=db at *
   have hE:=hN9
   obtain⟨y0,y1⟩:=bA hE
   clear hN9 e0 e1
   obtain⟨x0,x1,x2,x3,x4,x5,x6⟩:=aJ hC
   have c2:=hC2.cell 0
   have c3:=hC3.cell 0
   have c4:=hD.cell 0
   have f2:=hC2.frozen 0
   have f3:=hC3.frozen 0
   have f4:=hD.frozen 0
   go_wp2_with fail
   refine bm (bN _ _ _ _) ?_
   rintro(_|_) g1
   rotate_left
   ·exact T45
   go_wp2_with fail
   refine bm (bN _ _ _ _) ?_
   rintro(_|_) g2
   rotate_left
   ·exact T45
   by_cases hdd:d0=d1
   ·have hdb:(d0==d1)=true:=by simpa using hdd
    have hJ:=HF.out
    rw[HQ.out]at hJ
    have hJ2:aB D.dF D.dn 0=ai (j,2):=by rw[hJ];simp[*]
    clear HF HQ hJ
    have hf0:=HL.out
    have hf:=Hp1.out
    go_wp2_with fail
    refine ei (k:=3) (at_:=j) (e:=2) cw cw cw eo ?_
    rw[HS.out]
    simp[eF, *]
   have hdb:(d0==d1)=false:=by simpa using hdd
   have HJ2:bj (aB D.dF D.dn 0=aB D.dF (D.dn - (j+1)) (j+1)):=by
    exact gM
   clear HF HQ
   go_wp2_with fail
   go_roundw
   case rel=>exact⟨j+1,by omega,by go_num,HJ2,hC,hC2,hC3,hD,hB⟩
   case measure=>simp[aV];omega
  obtain rfl:j=D.dn:=om
  have HE:=af (HJ.out.trans (bh D.dF D.dn))
  clear HJ
  obtain⟨x0,x1,x2,x3,x4,x5,x6⟩:=aJ hC
  have c2:=hC2.cell 0
  have c3:=hC3.cell 0
  have c4:=hD.cell 0
  have f2:=hC2.frozen 0
  have f3:=hC3.frozen 0
  have f4:=hD.frozen 0
  go_wp2_with fail
  refine aZ (nB D.pn D.PN D.PR D.pE _ _ (HRp.out.below hB) om HV.out.np (λi W _ _=>ro _ _ W) (λi W _ _=>rG _ _ W)) ?_
  intro w1 hb
  try replace hC:=hC.below hb
  try replace hC2:=hC2.below hb
  try replace hC3:=hC3.below hb
  try replace hD:=hD.below hb
  try replace hL:=hL.below hb
  replace hB:=ak hB hb
  clear hb
  clear x0 x1 x2 x3 x4 x5 x6 c2 c3 c4 f2 f3 f4
  obtain⟨p4,hp4⟩:∃p,p=eD D.PN D.pE D.pn:=⟨_,rfl⟩
  rw[<-hp4]
  have Hp4:=af hp4.symm
  clear hp4
  obtain⟨p4a,p4e⟩:=p4
  obtain⟨x0,x1,x2,x3,x4,x5,x6⟩:=aJ hC
  have c2:=hC2.cell 0
  have c3:=hC3.cell 0
  have c4:=hD.cell 0
  have f2:=hC2.frozen 0
  have f3:=hC3.frozen 0
  have f4:=hD.frozen 0
  go_upto_region 16 with fail
  clear x0 x1 x2 x3 x4 x5 x6 c2 c3 c4 f2 f3 f4
  obtain⟨w2,hW2⟩:∃W2,(w1.setCell ⟨b3,0,ag⟩ (M U p4a)).setCell ⟨b4,0,ag⟩ (M U p4e)=W2:=⟨_,rfl⟩
  have hC_:am w2 pb 55 #[T za D.zn zc,T da D.dn dc,T pa D.pn pc,T ka D.kn kc,T qa D.qn qc,M U D.panel,M U D.wait]:=by rw[<-hW2];exact cw
  have hC2_:am w2 b2 3 #[M U 0]:=by rw[<-hW2];exact cw
  have hC3_:am w2 b3 3 #[M U p4a]:=by rw[<-hW2];exact cw
  have hD_:am w2 b4 69 #[M U p4e]:=by rw[<-hW2];exact cw
  have hB_:ap w.heap.size w w2:=by rw[<-hW2];exact eo
  rw[hW2]
  clear hW2 hC hC2 hC3 hD hB
  have hC:=hC_
  have hC2:=hC2_
  have hC3:=hC3_
  have hD:=hD_
  have hB:=hB_
  clear hC_ hC2_ hC3_ hD_ hB_
  obtain⟨x0,x1,x2,x3,x4,x5,x6⟩:=aJ hC
  have c2:=hC2.cell 0
  have c3:=hC3.cell 0
  have c4:=hD.cell 0
  have f2:=hC2.frozen 0
  have f3:=hC3.frozen 0
  have f4:=hD.frozen 0
  by_cases hp40:¬p4e=0
  ·have hp4n:(p4e != 0)=true:=by simpa using hp40
   go_upto_region 17 with fail
   refine s9 (B:=w.heap.size) kr hC2 hC3 hD om om om om om om ?_
   intro _ _ w3 hb3 g2 g3 g4
   (try simp only[Exit.then])
   refine‹∀(a:Act) (w:aj),bi prog _ _ a w->_› _ _ ?_
   clear c2 c3 c4 f2 f3 f4
   have c2:=g2.cell 0
   go_wp2_with fail
   refine ei (k:=4) (at_:=p4a) (e:=p4e) g2 g3 g4 (gZ hB hb3) ?_
   rw[HS.out]
   have hf0:=HL.out
   have hf1:=Hp1.out
   have hf2:=HE.out
   have hf:=Hp4.out
   simp[eF, *]
  obtain rfl:p4e=0:=Decidable.not_not.1 hp40
  clear hp40
  go_wp2_with fail
  refine aZ (l9 D.kn D.KN (λ_=>0) _ _ (HRk.out.below hB) om HV.out.nk (λi W _ _=>rZ _ W) (λi W _ _=>rD _ W)) ?_
  intro w1 hb
  try replace hC:=hC.below hb
  try replace hC2:=hC2.below hb
  try replace hC3:=hC3.below hb
  try replace hD:=hD.below hb
  try replace hL:=hL.below hb
  replace hB:=ak hB hb
  clear hb
  clear x0 x1 x2 x3 x4 x5 x6 c2 c3 c4 f2 f3 f4
  obtain⟨p5,hp5⟩:∃p,p=eD D.KN (λ_=>0) D.kn:=⟨_,rfl⟩
  rw[<-hp5]
  have Hp5:=af hp5.symm
  clear hp5
  obtain⟨p5a,p5e⟩:=p5
  obtain⟨x0,x1,x2,x3,x4,x5,x6⟩:=aJ hC
  have c2:=hC2.cell 0
  have c3:=hC3.cell 0
  have c4:=hD.cell 0
  have f2:=hC2.frozen 0
  have f3:=hC3.frozen 0
  have f4:=hD.frozen 0
  go_upto_region 19 with fail
  clear x0 x1 x2 x3 x4 x5 x6 c2 c3 c4 f2 f3 f4
  obtain⟨w2,hW2⟩:∃W2,(w1.setCell ⟨b3,0,ag⟩ (M U p5a)).setCell ⟨b4,0,ag⟩ (M U p5e)=W2:=⟨_,rfl⟩
  have hC_:am w2 pb 55 #[T za D.zn zc,T da D.dn dc,T pa D.pn pc,T ka D.kn kc,T qa D.qn qc,M U D.panel,M U D.wait]:=by rw[<-hW2];exact cw
  have hC2_:am w2 b2 3 #[M U 0]:=by rw[<-hW2];exact cw
  have hC3_:am w2 b3 3 #[M U p5a]:=by rw[<-hW2];exact cw
  have hD_:am w2 b4 69 #[M U p5e]:=by rw[<-hW2];exact cw
  have hB_:ap w.heap.size w w2:=by rw[<-hW2];exact eo
  rw[hW2]
  clear hW2 hC hC2 hC3 hD hB
  have hC:=hC_
  have hC2:=hC2_
  have hC3:=hC3_
  have hD:=hD_
  have hB:=hB_
  clear hC_ hC2_ hC3_ hD_ hB_
  obtain⟨x0,x1,x2,x3,x4,x5,x6⟩:=aJ hC
  have c2:=hC2.cell 0
  have c3:=hC3.cell 0
  have c4:=hD.cell 0
  have f2:=hC2.frozen 0
  have f3:=hC3.frozen 0
  have f4:=hD.frozen 0
  by_cases hp50:¬p5e=0
  ·have hp5n:(p5e != 0)=true:=by simpa using hp50
   go_upto_region 20 with fail
   refine tz (B:=w.heap.size) kr hC2 hC3 hD om om om om om om ?_
   intro _ _ w3 hb3 g2 g3 g4
   (try simp only[Exit.then])
   refine‹∀(a:Act) (w:aj),bi prog _ _ a w->_› _ _ ?_
   clear c2 c3 c4 f2 f3 f4
   have c2:=g2.cell 0
   go_wp2_with fail
   refine ei (k:=5) (at_:=p5a) (e:=p5e) g2 g3 g4 (gZ hB hb3) ?_
   rw[HS.out]
   have hf0:=HL.out
   have hf1:=Hp1.out
   have hf2:=HE.out
   have hf3:=Hp4.out
   have hf:=Hp5.out
   simp[eF, *]
  obtain rfl:p5e=0:=Decidable.not_not.1 hp50
  clear hp50
  go_wp2_with fail
  refine aZ (oN D.qn D.QN D.QR D.SA D.SN D.SC D.sE _ _ _ (HRq.out.below hB) om HV.out.nq (λi W _ _=>rq _ _ _ _ _ _ W) (λi W hi hb=>rK _ _ _ _ _ (D.SN i) (D.QK i) _ pb _ _ _ _ ka D.kn kc _ _ W ((HV.out.s i hi).below (px hB hb)) (HV.out.ls i hi) om (hC.below hb))) ?_
  intro w1 hb
  try replace hC:=hC.below hb
  try replace hC2:=hC2.below hb
  try replace hC3:=hC3.below hb
  try replace hD:=hD.below hb
  try replace hL:=hL.below hb
  replace hB:=ak hB hb
  clear hb
  clear x0 x1 x2 x3 x4 x5 x6 c2 c3 c4 f2 f3 f4
  obtain⟨p6,hp6⟩:∃p,p=eD D.QN D.sE D.qn:=⟨_,rfl⟩
  rw[<-hp6]
  have Hp6:=af hp6.symm
  clear hp6
  obtain⟨p6a,p6e⟩:=p6
  obtain⟨x0,x1,x2,x3,x4,x5,x6⟩:=aJ hC
  have c2:=hC2.cell 0
  have c3:=hC3.cell 0
  have c4:=hD.cell 0
  have f2:=hC2.frozen 0
  have f3:=hC3.frozen 0
  have f4:=hD.frozen 0
  go_upto_region 22 with fail
  clear x0 x1 x2 x3 x4 x5 x6 c2 c3 c4 f2 f3 f4
  obtain⟨w2,hW2⟩:∃W2,(w1.setCell ⟨b3,0,ag⟩ (M U p6a)).setCell ⟨b4,0,ag⟩ (M U p6e)=W2:=⟨_,rfl⟩
  have hC_:am w2 pb 55 #[T za D.zn zc,T da D.dn dc,T pa D.pn pc,T ka D.kn kc,T qa D.qn qc,M U D.panel,M U D.wait]:=by rw[<-hW2];exact cw
  have hC2_:am w2 b2 3 #[M U 0]:=by rw[<-hW2];exact cw
  have hC3_:am w2 b3 3 #[M U p6a]:=by rw[<-hW2];exact cw
  have hD_:am w2 b4 69 #[M U p6e]:=by rw[<-hW2];exact cw
  have hB_:ap w.heap.size w w2:=by rw[<-hW2];exact eo
  rw[hW2]
  clear hW2 hC hC2 hC3 hD hB
  have hC:=hC_
  have hC2:=hC2_
  have hC3:=hC3_
  have hD:=hD_
  have hB:=hB_
  clear hC_ hC2_ hC3_ hD_ hB_
  obtain⟨x0,x1,x2,x3,x4,x5,x6⟩:=aJ hC
  have c2:=hC2.cell 0
  have c3:=hC3.cell 0
  have c4:=hD.cell 0
  have f2:=hC2.frozen 0
  have f3:=hC3.frozen 0
  have f4:=hD.frozen 0
  by_cases hp60:¬p6e=0
  ·have hp6n:(p6e != 0)=true:=by simpa using hp60
   go_upto_region 23 with fail
   refine ti (B:=w.heap.size) kr hC2 hC3 hD om om om om om om ?_
   intro _ _ w3 hb3 g2 g3 g4
   (try simp only[Exit.then])
   refine‹∀(a:Act) (w:aj),bi prog _ _ a w->_› _ _ ?_
   clear c2 c3 c4 f2 f3 f4
   have c2:=g2.cell 0
   go_wp2_with fail
   refine ei (k:=6) (at_:=p6a) (e:=p6e) g2 g3 g4 (gZ hB hb3) ?_
   rw[HS.out]
   have hf0:=HL.out
   have hf1:=Hp1.out
   have hf2:=HE.out
   have hf3:=Hp4.out
   have hf4:=Hp5.out
   have hf:=Hp6.out
   simp[eF, *]
  obtain rfl:p6e=0:=Decidable.not_not.1 hp60
  clear hp60
  have hPN:sV D:=nQ HL.out (λi hi=>(gT (by rw[Hp1.out]) i hi).2.2) (λi hi=>(gT (by rw[Hp6.out]) i hi).2.2)
  have HPN:=af hPN
  clear hPN
  go_wp2_with fail
  refine bm (bN _ _ _ _) ?_
  rintro(_|_) g7
  ·have hpan:=aW.1 g7
   have hnear:=jk D.panel D w2
   rw[HDC.out]at hnear
   have HNR:=af hnear
   clear hnear
   go_wp2_with fail
   refine HNR.out.mono ?_
   rintro e w4 ⟨rfl,rfl⟩
   clear x0 x1 x2 x3 x4 x5 x6 c2 c3 c4 f2 f3 f4
   have hN9:=aK w2 (.cells #[T za D.zn zc,T da D.dn dc,T pa D.pn pc,T ka D.kn kc,T qa D.qn qc,M U D.panel,M U D.wait] 55)
   have hN8:=aK (w2.alloc (.cells #[T za D.zn zc,T da D.dn dc,T pa D.pn pc,T ka D.kn kc,T qa D.qn qc,M U D.panel,M U D.wait] 55)) (.cells #[M U D.panel] 3)
   have hb:=aP (aP (au w2.heap.size w2) (.cells #[T za D.zn zc,T da D.dn dc,T pa D.pn pc,T ka D.kn kc,T qa D.qn qc,M U D.panel,M U D.wait] 55)) (.cells #[M U D.panel] 3)
   have hN7:am ((w2.alloc (.cells #[T za D.zn zc,T da D.dn dc,T pa D.pn pc,T ka D.kn kc,T qa D.qn qc,M U D.panel,M U D.wait] 55)).alloc (.cells #[M U D.panel] 3)) w2.heap.size 55 #[T za D.zn zc,T da D.dn dc,T pa D.pn pc,T ka D.kn kc,T qa D.qn qc,M U D.panel,M U D.wait]:=am.below hN9 (aP (au _ _) _)
   rw[bg]at hN8
   try replace hC:=hC.below hb
   try replace hC2:=hC2.below hb
   try replace hC3:=hC3.below hb
   try replace hD:=hD.below hb
   try replace hL:=hL.below hb
   replace hB:=ak hB hb
   clear hb
   go_wp2_with fail
   generalize(w2.alloc (.cells #[T za D.zn zc,T da D.dn dc,T pa D.pn pc,T ka D.kn kc,T qa D.qn qc,M U D.panel,M U D.wait] 55)).alloc (.cells #[M U D.panel] 3)=w4 at *
   have hcz:am w4 (w2.heap.size+1) 3 #[M U D.panel]:=hN8
   generalize w2.heap.size=nb at *
   clear hN8 hN9
   refine iR (n:=3) om (zb:=nb+1) (pb:=nb) (z:=D.panel) (D:=D) rfl (hcz.cell 0) (by rw[HDC.out];exact hN7) (HV.out.below hB) HPN.out om (λxs=>xs=[]) (λpre W=>(pre≠[]/\pre<+:D.nears D.panel)/\am W b2 3 #[M U 7]/\am W b3 3 #[M U 0]/\am W b4 69 #[M U 2]/\ap w.heap.size w W) ?own rfl ?body ?done ?stop
   case own=>exact(mc _ _).and ((gB _ _ _ _).and ((gB _ _ _ _).and ((gB _ _ _ _).and (ownFrom_below (aY _) hB.size))))
   case body=>
    rintro l pre x W rfl hp hb
    try replace hC:=hC.below hb
    try replace hC2:=hC2.below hb
    try replace hC3:=hC3.below hb
    try replace hD:=hD.below hb
    try replace hL:=hL.below hb
    replace hB:=ak hB hb
    clear hb
    simp only[List.setIfInBounds_toArray,List.set_cons_zero,List.set_cons_succ]
    have c2:=hC2.cell 0
    have c3:=hC3.cell 0
    have c4:=hD.cell 0
    have f2:=hC2.frozen 0
    have f3:=hC3.frozen 0
    have f4:=hD.frozen 0
    gi_wp2
    refine⟨((KeepsOthers.setCell _ _ _).trans (KeepsOthers.setCell _ _ _)).trans (KeepsOthers.setCell _ _ _),⟨by simp,hp⟩,?_,?_,?_,?_⟩
    ·exact cw
    ·exact cw
    ·exact cw
    exact eo
   case done=>
    rintro Dd W hDd hnil hb hK
    have hsz:=hB.size
    try replace hC:=hC.below hb
    try replace hC2:=hC2.below hb
    try replace hC3:=hC3.below hb
    try replace hD:=hD.below hb
    try replace hL:=hL.below hb
    replace hB:=ak hB hb
    clear hb
    (try simp only[Exit.inBlock,Exit.then])
    refine‹∀(a:Act) (w:aj),bi prog _ _ a w->_› _ _ ?_
    obtain⟨x0,x1,x2,x3,x4,x5,x6⟩:=aJ hC
    have c2:=hC2.cell 0
    have c3:=hC3.cell 0
    have c4:=hD.cell 0
    have f2:=hC2.frozen 0
    have f3:=hC3.frozen 0
    have f4:=hD.frozen 0
    clear x0 x1 x2 x3 x4 x5
    go_wp2_with fail
    refine bm (bN _ _ _ _) ?_
    rintro(_|_) g8
    ·go_wp2_with fail
     refine ix (k:=0) (at_:=0) (e:=0) (Dd:=Dd) om ((((KeepsOthers.setCell _ _ _).trans (KeepsOthers.setCell _ _ _)).trans (KeepsOthers.setCell _ _ _)).same Dd _ hK rfl) cw cw cw eo ?_
     exact T78
    go_wp2_with fail
    refine ix (k:=7) (at_:=0) (e:=7) (Dd:=Dd) om ((((KeepsOthers.setCell _ _ _).trans (KeepsOthers.setCell _ _ _)).trans (KeepsOthers.setCell _ _ _)).same Dd _ hK rfl) cw cw cw eo ?_
    exact T78
   have hsz:=hB.size
   rintro Dd pre W hDd hp2 ⟨⟨hp1,hp⟩,g2,g3,g4,hB⟩ hK
   simp only[Exit.inBlock,Exit.then]
   refine ix (k:=7) (at_:=0) (e:=2) om hK g2 g3 g4 hB ?_
   rw[HS.out]
   have hf0:=HL.out
   have hf1:=Hp1.out
   have hf2:=HE.out
   have hf3:=Hp4.out
   have hf4:=Hp5.out
   have hf5:=Hp6.out
   have hnn:(D.nears D.panel).isEmpty=false:=by
    cases hnn:D.nears D.panel with
    |nil=>rw[hnn]at hp;exact absurd (List.prefix_nil.1 hp) hp1
    |cons a l=>rfl
   simp[eF,fB, *]
  ·have hf0:=HL.out
   have hf1:=Hp1.out
   have hf2:=HE.out
   have hf3:=Hp4.out
   have hf4:=Hp5.out
   have hf5:=Hp6.out
   have hL9:fB D.panel ((D.zn:Int) - 1) D.wait (!(D.nears D.panel).isEmpty)=(7,0,4):=by unfold fB;rw[g7];rfl
   go_wp2_with fail
   refine ei (k:=7) (at_:=0) (e:=4) cw cw cw eo ?_
   rw[HS.out]
   simp[eF, *]
end
end Go.Proofs.YtbpnallaifdcpaaGreatDoor
