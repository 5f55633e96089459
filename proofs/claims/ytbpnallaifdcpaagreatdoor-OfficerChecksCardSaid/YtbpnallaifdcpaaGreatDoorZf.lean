/- Parts of the proof. -/
import Derived.Test.YtbpnallaifdcpaaGreatDoorZe
set_option linter.unusedVariables false
set_option linter.unusedSimpArgs false
set_option maxRecDepth 100000
set_option maxHeartbeats 4000000
namespace Go.Proofs.YtbpnallaifdcpaaGreatDoor
open Go.Value renaming int→M
open Go.IntKind renaming i64→U
open Go.Value renaming slice→T,pointer→ax,string→ay,bool→aA,agg→aN
open Go.Lib renaming hid→af
open Option renaming none→ag,some→ai
open Go renaming World→aj,Value→aw,Calls→aC,below_drewN→aM,TypeId→aT,wpList_append_lies→ci,maxLen→cF
open Go.RowKit renaming Below→ap,intOf→aV,Hid→bj
open Go.Ending renaming returned→ar
open Go.RowKit.Below renaming refl→au,setCell→aS
open Go.IntWalk renaming i64_in→aD
open Nat renaming zero_le→aF,le_trans→aO,lt_of_lt_of_le→aQ,le_refl→aY,add_zero→bq,le_of_eq→bs
open Go.World renaming block_lt_of_cell?→aG,size_alloc→bg,ownsRow.alloc→ck,news_of_block→cm
open Go.Code renaming wp→bi
open Go.Exit renaming normal→bk
section
open Tryz
open Go.RowKit Go.Shelf
structure bL where
 now:Int
 zn:Nat
 Z:Nat->Int
 hn:Nat
 H:Nat->Int
 sn:Nat
 Q:Nat->Int
 siren:Int
 storm:Bool
 zv:aw
 hv:aw
 qv:aw
def bL.cells (S:bL):Array aw:=#[M U S.now,S.zv,S.hv,S.qv,M U S.siren,aA S.storm]
structure gC (w:aj) (S:bL):Prop where
 z:aU w S.zv S.zn 1 (bw λi _=>S.Z i)
 h:aU w S.hv S.hn 1 (bw λi _=>S.H i)
 q:aU w S.qv S.sn 1 (bw λi _=>S.Q i)
theorem gC.below {w w':aj} {S:bL} (h:gC w S) (hb:ap w.heap.size w w'):gC w' S:=⟨h.z.below hb,h.h.below hb,h.q.below hb⟩
def kY (D:bE) (S:bL):Array aw:=#[D.vz,D.vd,D.vp,D.vk,D.vq,M U D.panel,M U D.wait,M U S.now,S.zv,S.hv,S.qv,M U S.siren,aA S.storm]
structure dG (w:aj) (cb:Nat) (D:bE) (S:bL):Prop where
 c:am w cb 557 (kY D S)
 p:eP w D
 s:gC w S
theorem dG.below {w w':aj} {cb:Nat} {D:bE} {S:bL} (h:dG w cb D S) (hb:ap w.heap.size w w'):dG w' cb D S:=⟨h.c.below hb,h.p.below hb,h.s.below hb⟩
theorem bK {w:aj} {cb:Nat} {D:bE} {S:bL} (h:dG w cb D S):w.cell? ⟨cb,0,ag⟩=ai D.vz/\w.cell? ⟨cb,1,ag⟩=ai D.vd/\w.cell? ⟨cb,2,ag⟩=ai D.vp/\w.cell? ⟨cb,3,ag⟩=ai D.vk/\w.cell? ⟨cb,4,ag⟩=ai D.vq/\w.cell? ⟨cb,5,ag⟩=ai (M U D.panel)/\w.cell? ⟨cb,6,ag⟩=ai (M U D.wait)/\w.cell? ⟨cb,7,ag⟩=ai (M U S.now)/\w.cell? ⟨cb,8,ag⟩=ai S.zv/\w.cell? ⟨cb,9,ag⟩=ai S.hv/\w.cell? ⟨cb,10,ag⟩=ai S.qv/\w.cell? ⟨cb,11,ag⟩=ai (M U S.siren)/\w.cell? ⟨cb,12,ag⟩=ai (aA S.storm):=
 ⟨h.c.cell 0,h.c.cell 1,h.c.cell 2,h.c.cell 3,h.c.cell 4,h.c.cell 5,h.c.cell 6,h.c.cell 7,h.c.cell 8,h.c.cell 9,h.c.cell 10,h.c.cell 11,h.c.cell 12⟩
theorem aU.form {w:aj} {v:aw} {n k:Nat} {F:Nat->Nat->aw} (h:aU w v n k F):∃a c,v=T a n c/\n<=c:=by
 obtain⟨a,c,h1,h2,_⟩:=h
 exact⟨a,c,h1,h2⟩
def fR (p:Nat->Bool) (n:Nat):Nat:=(List.range n).countP p
theorem im (p:Nat->Bool) (n:Nat):fR p (n+1)=fR p n+if p n then 1 else 0:=by
 unfold fR;rw[List.range_succ,List.countP_append];simp[List.countP_cons]
theorem kQ (p:Nat->Bool) (n:Nat):fR p n<=n:=by
 unfold fR;exact aO List.countP_le_length (by simp)
def bL.crowd (S:bL) (z:Int):Nat:=fR (λi=>S.Z i==z) S.zn
def dz (D:bE) (S:bL) (z:Int):Bool:=decide (0<=z)&&(D.ZB z.toNat&&(S.crowd z==1))
def kF (D:bE) (S:bL) (q:Nat):Nat:=fR (λj=>decide (0<=S.H (D.QK q j).toNat)) (D.SN q)
theorem io (D:bE) (S:bL) (cb:Nat) (z:Int) (w:aj) (hA:dG w cb D S) (hzn:S.zn<=1000000):
  aC prog 500 #[ax (ai ⟨cb,0,ag⟩),M U z] w λe w'=>e=ar (M U (S.crowd z:Nat))/\w=w':=by
 obtain⟨r,HS⟩:∃r:Nat,bj (r=S.crowd z):=⟨_,show _=_ from rfl⟩
 rw[<-HS.out]
 obtain⟨x0,x1,x2,x3,x4,x5,x6,x7,x8,x9,x10,x11,x12⟩:=bK hA
 obtain⟨za,zc,hzv,hzc⟩:=hA.s.z.form
 have hZ:=hA.s.z
 rw[hzv]at hZ x8
 have HZ:=af hZ
 clear hZ hzv hA
 go_enter func500,ntmps500
 go_upto_region 2 with fail
 go_loopw [4,13] (λc i wr=>∃j:Nat,j<=S.zn/\i=M U j/\c=M U (fR (λi=>S.Z i==z) j:Nat)/\wr=w) (λ_ i _=>S.zn - (aV i).toNat)
 case atStart=>exact⟨0,aF _,rfl,rfl,rfl⟩
 case round=>
  obtain⟨j,hj,rfl,rfl,rfl⟩:=hrel
  by_cases hlt:j<S.zn
  rotate_left
  ·obtain rfl:j=S.zn:=om
   go_wp2_with fail
   go_ret
   exact⟨bJ (by rw[HS.out];rfl),rfl⟩
  obtain⟨b,off,rfl,hb,hc⟩:=HZ.out.elem hlt
  have e0:wr.cell? ⟨b,off+j,ag⟩=ai (M U (S.Z j)):=eI hc
  have hs:=im (λi=>S.Z i==z) j
  have hle:=kQ (λi=>S.Z i==z) j
  generalize S.Z j=q at *
  generalize hcn:fR (λi=>S.Z i==z) j=cn at *
  have HCN:=af hs
  clear hs hcn
  have i2:(j:Int)<(S.zn:Int):=om
  have q1:=aD ((cn:Int)+1) ⟨by omega,by omega⟩
  by_cases hq:q=z
  ·have hq2:(q==z)=true:=by simpa using hq
   exact T83
  have hq2:(q==z)=false:=by simpa using hq
  exact T83
theorem fm (D:bE) (S:bL) (cb:Nat) (z:Int) (w:aj) (hA:dG w cb D S) (hzn:S.zn<=1000000) (hz:z<D.zn):
  aC prog 501 #[ax (ai ⟨cb,0,ag⟩),M U z] w λe w'=>e=ar (aA (dz D S z))/\w=w':=by
 have hcr:=io D S cb z w hA hzn
 have HCR:=af hcr
 obtain⟨x0,x1,x2,x3,x4,x5,x6,x7,x8,x9,x10,x11,x12⟩:=bK hA
 clear x1 x2 x3 x4 x5 x6 x7 x8 x9 x10 x11 x12 hcr
 obtain⟨r,HS⟩:=dR (dz D S z)
 rw[<-HS.out]
 by_cases hz0:0<=z
 rotate_left
 ·clear hA
  go_enter func501,ntmps501
  go_wp2_with fail
  go_ret
  exact⟨bt (by rw[HS.out];unfold dz;simp;try omega),rfl⟩
 obtain⟨za,zc,hvz,hzc⟩:=hA.p.z.form
 have hZ:=hA.p.z
 rw[hvz]at hZ x0
 obtain⟨zi,rfl⟩:∃m:Nat,z=(m:Int):=⟨z.toNat,by omega⟩
 have hzi:zi<D.zn:=om
 obtain⟨b,off,rfl,hb,hc⟩:=hZ.elem hzi
 have e7:w.cell? ⟨b,off+zi*8+7,ag⟩=ai (aA (D.ZB zi)):=hc 7 om
 clear hc hA hZ hvz
 have HZ:bj (dz D S (zi:Int)=(D.ZB zi&&(S.crowd zi==1))):=show _=_ by unfold dz;simp
 generalize D.ZB zi=zb at *
 cases zb with
 |false=>
  go_enter func501,ntmps501
  go_wp2_with fail
  go_ret
  exact⟨bt (by rw[HS.out,HZ.out];rfl),rfl⟩
 |true=>
  go_enter func501,ntmps501
  go_wp2_with fail
  refine eH HCR.out ?_
  go_wp2_with fail
  go_ret
  exact⟨bt (by rw[HS.out,HZ.out,Bool.eq_iff_iff];simp;try omega),rfl⟩
end
section
open Tryz
open Go.RowKit Go.Shelf
attribute [local go_sem] Oper.semAt_some
variable {v0 v1 v2 v3 v4 v5 v7 v8 v9 v10 v11 v12 v13 v14 v15 v16 v17 v18 v19 v20 v21 v22 v23 v24 v25 v26 v27 v28 v29 v30 v31 v32 v33 v34 v35 v36 v37:aw}
theorem mG (F:FuncId) (eg:∀(args:Array aw) (w:aj),(callFunc F args).run prog w= .ok (.enter F args) w) (n:Nat) (R:Nat->Nat->Int) (p:Nat->Bool) (v:aw) (cz cy:aw) (w:aj) (hRr:aU w v n 1 (bw R)) (hn:n<=1125899906842624) (hF:∀(i:Nat) (W:aj),i<n->ap w.heap.size w W->aC prog F #[M U (R i 0),cz,cy] W λe w'=>e=ar (aA (p i))/\ap W.heap.size W w'):
  aC prog 85 #[v, .func (.func F) #[] #[cz,cy]] w λe w'=>e=ar (M U (cH p n 0))/\ap w.heap.size w w':=by
 exact T1
theorem fQ (F:FuncId) (eg:∀(args:Array aw) (w:aj),(callFunc F args).run prog w= .ok (.enter F args) w) (n:Nat) (R:Nat->Nat->Int) (p:Nat->Bool) (v:aw) (cz cy:aw) (w:aj) (hRr:aU w v n 1 (bw R)) (hn:n<=1125899906842624) (hF:∀(i:Nat) (W:aj),i<n->ap w.heap.size w W->aC prog F #[M U (R i 0),cz,cy] W λe w'=>e=ar (aA (p i))/\ap W.heap.size W w'):
  aC prog 59 #[v, .func (.func F) #[] #[cz,cy]] w λe w'=>e=ar (aA (bI p n))/\ap w.heap.size w w':=by
 have HI:=af (mG F eg n R p v cz cy w hRr hn hF)
 exact T29
def kS (D:bE) (S:bL) (person:Int) (q:Nat):Bool:=bI (λj=>S.H (D.QK q j).toNat==person) (D.SN q)
def jo (D:bE) (S:bL) (person:Int) (q:Nat):Bool:=S.Q q==2||kS D S person q
def dX (D:bE) (S:bL) (person zone:Int):Bool:=(D.nears zone).all (jo D S person)
structure gJ (D:bE) (S:bL):Prop where
 z:S.zn=D.pn
 h:S.hn=D.kn
 q:S.sn=D.qn
theorem qZ {K:Nat->Int} {n:Nat} (h:nO K n=false) (h0:∀i,i<n->0<=K i):∀i,i<n->(i:Int)<=K i
 |0,hi=>h0 0 hi
 |i+1,hi=>by
  have h1:=qZ h h0 i om
  unfold nO bI at h
  rw[List.any_eq_false]at h
  have h2:=h i (List.mem_range.2 om)
  simp at h2
  omega
theorem cA.sn {D:bE} (h:cA D) {q:Nat} (hq:q<D.qn):D.SN q<=8:=by
 have h1:=oH (h.q q hq)
 have h2:=h1.2.2.2.2.2.2.2
 have h3:=h1.2.2.2.2.2.2.1
 have h4:=qZ h2.2 (λi hi=>(h2.1 i hi).1) (D.SN q - 1) om
 have h5:=(h2.1 (D.SN q - 1) om).2
 have h6:=h.kn
 omega
theorem cA.key {D:bE} (h:cA D) {q j:Nat} (hq:q<D.qn) (hj:j<D.SN q):0<=D.QK q j/\D.QK q j<D.kn:=(oH (h.q q hq)).2.2.2.2.2.2.2.1 j hj
theorem ov (D:bE) (S:bL) (cb b3 b4:Nat) (person:Int) (k:Int) (w:aj) (h3:w.cell? ⟨b3,0,ag⟩=ai (ax (ai ⟨cb,0,ag⟩))) (h4:w.cell? ⟨b4,0,ag⟩=ai (M U person)) (hA:dG w cb D S) (hk0:0<=k) (hk1:k<S.hn):
  aC prog 567 #[M U k,ax (ai ⟨b3,0,ag⟩),ax (ai ⟨b4,0,ag⟩)] w λe w'=>e=ar (aA (S.H k.toNat==person))/\ap w.heap.size w w':=by
 obtain⟨x0,x1,x2,x3,x4,x5,x6,x7,x8,x9,x10,x11,x12⟩:=bK hA
 obtain⟨za,zc,hhv,hzc⟩:=hA.s.h.form
 have hH:=hA.s.h
 rw[hhv]at hH x9
 obtain⟨ki,rfl⟩:∃m:Nat,k=(m:Int):=⟨k.toNat,by omega⟩
 have hki:ki<S.hn:=om
 obtain⟨b,off,rfl,hb,hc⟩:=hH.elem hki
 have e0:w.cell? ⟨b,off+ki,ag⟩=ai (M U (S.H ki)):=eI hc
 clear hc hA hH hhv
 obtain⟨r,HS⟩:=dR ((S.H ((ki:Int)).toNat==person))
 rw[<-HS.out]
 have HK:bj (S.H ((ki:Int)).toNat=S.H ki):=show _=_ by simp
 generalize hq:S.H ki=hv at *
 clear hq
 go_enter func567,ntmps567
 go_upto_region 1 with fail
 by_cases hq:hv=person
 ·have hq2:(hv==person)=true:=by simpa using hq
  exact vu
 have hq2:(hv==person)=false:=by simpa using hq
 exact vu
theorem lW (D:bE) (S:bL) (person:Int) {cb b3 b4:Nat} {w:aj} (h3:w.cell? ⟨b3,0,ag⟩=ai (ax (ai ⟨cb,0,ag⟩))) (h4:w.cell? ⟨b4,0,ag⟩=ai (M U person)) (hA:dG w cb D S) (hG:cA D) (hF:gJ D S) {q:Nat} (hq:q<D.qn):
  aC prog 59 #[T (D.SA q) (D.SN q) (D.SC q), .func (.func 567) #[] #[ax (ai ⟨b3,0,ag⟩),ax (ai ⟨b4,0,ag⟩)]] w λe w'=>e=ar (aA (kS D S person q))/\ap w.heap.size w w':=by
 refine fQ 567 (λ_ _=>by kernel_rfl) (D.SN q) (λj _=>D.QK q j) (λj=>S.H (D.QK q j).toNat==person) _ _ _ w (hA.p.s q hq) (hA.p.ls q hq) (λj W hj hb=>?_)
 have hk:=hG.key hq hj
 exact ov D S cb b3 b4 person (D.QK q j) W ((hb.cell (p:=⟨b3,0,ag⟩) (aG w _ h3)).trans h3) ((hb.cell (p:=⟨b4,0,ag⟩) (aG w _ h4)).trans h4) (hA.below hb) hk.1 (by rw[hF.h];exact hk.2)
theorem mJ {W W':aj} (h:ap W.heap.size W W'):KeepsOthers W W':=
 ⟨h.size,λk o hk _=>(h.block k (Array.getElem?_eq_some_iff.1 hk).1).trans hk⟩
theorem kN {w W:aj} {r:Bool} {b6 Dd:Nat} {x:Bool} (hd:w.heap.size<=Dd) (hK:W.heap[Dd]?=ai (.deferred (ai []))) (h2:am W b6 4 #[aA x]) (hB:ap w.heap.size w W) (hr:r=x):
 bodyPostM Fence.wide 3 prog f502 (λe w'=>e=ar (aA r)/\ap w.heap.size w w') .ret {tmps:=#[v0,v1,v2,v3,v4,v5,ax (ai ⟨b6,0,ag⟩),v7,v8,v9,v10,v11,v12,v13,v14,v15,v16,v17,v18,v19,v20,v21,v22,v23,v24,v25,v26,v27,v28,v29,v30,v31,v32,v33,v34,v35,v36,v37],defers:=[{target:= .collected Dd,args:=#[]}]} W:=by
 have hg:W.grownBy (W.putObj Dd (.deferred ag)) (ai Dd):=grownBy_putObj' _ _ _
 have hne:∀g,ai Dd=ai g->g≠b6:=λg e e2=>by
  cases e;subst e2
  have h':W.heap[Dd]?=ai (.cells _ _ (0,0)):=h2
  rw[hK]at h';cases h'
 have c2:=(dg h2 hg hne).cell 0
 refine⟨by simp, .inl ⟨_,_,rfl,run_takeDeferred hK,aA x,?_,?_,hB.grown hg hB.size (λj e=>by cases e;exact hd)⟩⟩
 ·simp[results,results502,go_sem,c2]
 ·rw[hr]
theorem il (D:bE) (S:bL) (cb:Nat) (person zone:Int) (w:aj) (hA:dG w cb D S) (hG:cA D) (hF:gJ D S) (hz:zone<D.zn):
  aC prog 502 #[ax (ai ⟨cb,0,ag⟩),M U person,M U zone] w λe w'=>e=ar (aA (dX D S person zone))/\ap w.heap.size w w':=by
 obtain⟨r,HS⟩:=dR (dX D S person zone)
 rw[<-HS.out]
 have HG:=af hG
 have HF:=af hF
 clear hG hF
 obtain⟨W0,hW0⟩:∃W0,((w.alloc (.cells #[ax (ai ⟨cb,0,ag⟩)] 554)).alloc (.cells #[M U person] 3)).alloc (.cells #[aA false] 4)=W0:=⟨_,rfl⟩
 have hB:ap w.heap.size w W0:=by rw[<-hW0];exact aP (aP (aP (au _ _) _) _) _
 have hC:am W0 w.heap.size 554 #[ax (ai ⟨cb,0,ag⟩)]:=by
  rw[<-hW0]
  exact am.below (am.below (aK w _) (aP (au _ _) _)) (aP (au _ _) _)
 have hC2:am W0 (w.heap.size+1) 3 #[M U person]:=by
  rw[<-hW0]
  have h:=aK (w.alloc (.cells #[ax (ai ⟨cb,0,ag⟩)] 554)) (.cells #[M U person] 3)
  simp only[bg]at h
  exact am.below h (aP (au _ _) _)
 have hC3:am W0 (w.heap.size+1+1) 4 #[aA false]:=by
  rw[<-hW0]
  have h:=aK ((w.alloc (.cells #[ax (ai ⟨cb,0,ag⟩)] 554)).alloc (.cells #[M U person] 3)) (.cells #[aA false] 4)
  simp only[bg]at h
  exact h
 have hA:=hA.below hB
 have HW0:=af hW0
 clear hW0
 refine(callsIn_wide (n:=3)).1 (callsIn_of_wp_marks func502 rfl trivial ?_ rfl)
 refine wpIn_wide.2 ?_
 simp only[ntmps502,List.size_toArray,List.length_cons,List.length_nil,Nat.reduceAdd,Nat.reduceSub,Array.replicate_succ,Array.replicate_zero,List.push_toArray,List.append_toArray,List.nil_append,List.cons_append]
 go_upto_region 1 with fail
 rw[HW0.out]
 clear HW0
 obtain⟨xb,hpe⟩:=bY w.heap.size
 have hxb:w.heap.size<=xb:=bs hpe.symm
 rw[<-hpe]at hC hC2 hC3⊢
 obtain⟨yb,hye⟩:=bY (xb+1)
 have hyb:xb<yb:=om
 rw[<-hye]at hC2 hC3⊢
 obtain⟨zb,hze⟩:=bY (yb+1)
 have hzb:yb<zb:=om
 rw[<-hze]at hC3⊢
 clear hpe hye hze
 obtain⟨x0,x1,x2,x3,x4,x5,x6,x7,x8,x9,x10,x11,x12⟩:=bK hA
 have c0:=hC.cell 0
 have hl:W0.cell? ⟨cb,0,ag⟩=ai D.vz:=x0
 have hnear:=jk zone D W0
 unfold bE.cells at hnear
 have HNR:=af hnear
 clear hnear
 go_wp2_with fail
 refine HNR.out.mono ?_
 rintro e w4 ⟨rfl,rfl⟩
 have hN9:=aK W0 (.cells #[D.vz,D.vd,D.vp,D.vk,D.vq,M U D.panel,M U D.wait] 55)
 have hN8:=aK (W0.alloc (.cells #[D.vz,D.vd,D.vp,D.vk,D.vq,M U D.panel,M U D.wait] 55)) (.cells #[M U zone] 3)
 have hb:=aP (aP (au W0.heap.size W0) (.cells #[D.vz,D.vd,D.vp,D.vk,D.vq,M U D.panel,M U D.wait] 55)) (.cells #[M U zone] 3)
 have hN7:am ((W0.alloc (.cells #[D.vz,D.vd,D.vp,D.vk,D.vq,M U D.panel,M U D.wait] 55)).alloc (.cells #[M U zone] 3)) W0.heap.size 55 #[D.vz,D.vd,D.vp,D.vk,D.vq,M U D.panel,M U D.wait]:=am.below hN9 (aP (au _ _) _)
 rw[bg]at hN8
 replace hA:=hA.below hb
 replace hC:=hC.below hb
 replace hC2:=hC2.below hb
 replace hC3:=hC3.below hb
 replace hB:=ak hB hb
 go_wp2_with fail
 generalize(W0.alloc (.cells #[D.vz,D.vd,D.vp,D.vk,D.vq,M U D.panel,M U D.wait] 55)).alloc (.cells #[M U zone] 3)=w4 at *
 have hcz:am w4 (W0.heap.size+1) 3 #[M U zone]:=hN8
 generalize W0.heap.size=nb at *
 clear hN8 hN9 x0 x1 x2 x3 x4 x5 x6 c0 hl
 have HALL:bj (r=(D.nears zone).all (jo D S person)):=HS.out
 have HNQ:bj (∀pre x,pre++[x]<+:D.nears zone->x<D.qn):=show∀pre x,_->_ from λpre x hp=>by
  have h1:x∈D.nears zone:=hp.subset (by simp)
  unfold bE.nears bE.nearsB at h1
  split at h1
  ·cases h1
  rw[List.mem_filter]at h1;exact List.mem_range.1 h1.1
 refine(wpIn_wide (n:=3)).1 (gL (n:=3) om (zb:=nb+1) (pb:=nb) (z:=zone) (D:=D) rfl (hcz.cell 0) hN7 hA.p HG.out.near hz (λpre=>pre.all (jo D S person)=true) (λ_ pre W=>(pre.all (jo D S person)=false/\pre<+:D.nears zone)/\am W zb 4 #[aA false]/\ap w.heap.size w W) (λ_=>?own) rfl (λx=>{tmps:=#[ax (ai ⟨cb,0,ag⟩),M U person,M U zone,ax (ai ⟨xb,0,ag⟩),ax (ai ⟨yb,0,ag⟩),undef,ax (ai ⟨zb,0,ag⟩),M U (x:Int),ax (ai ⟨cb,0,ag⟩),ax (ai ⟨cb,0,ag⟩),ax (ai ⟨cb,0,ag⟩),aN #[D.vz,D.vd,D.vp,D.vk,D.vq,M U D.panel,M U D.wait],M U zone, .func (.func 259) #[] #[ax (ai ⟨nb+1,0,ag⟩),ax (ai ⟨nb,0,ag⟩)],M U (x:Int),undef,undef,undef,undef,undef,undef,undef,undef,undef,undef,undef,undef,undef,undef,undef,undef,undef,undef,undef,undef,undef,undef,undef],defers:=[]}) ?assign ?body ?done ?stop)
 case own=>exact(mc _ _).and ((gB _ _ _ _).and (ownFrom_below (aY _) hB.size))
 case assign=>
  intro l x W K hK
  gi_wp2
  exact hK
 case body=>
  rintro l pre x W hI hp hb
  have hx:=HNQ.out pre x hp
  have hI':pre.all (jo D S person)=true:=hI
  clear hI
  replace hA:=hA.below hb
  replace hC:=hC.below hb
  replace hC2:=hC2.below hb
  replace hC3:=hC3.below hb
  replace hB:=ak hB hb
  have HCt:=af (λW' (h:ap W.heap.size W W')=>lW D S person ((h.cell (p:=⟨xb,0,ag⟩) hC.lt).trans (hC.cell 0)) ((h.cell (p:=⟨yb,0,ag⟩) hC2.lt).trans (hC2.cell 0)) (hA.below h) HG.out HF.out hx)
  have hHC:=HCt.out W (au _ _)
  have HHC:=af hHC
  clear hHC HCt
  obtain⟨x0,x1,x2,x3,x4,x5,x6,x7,x8,x9,x10,x11,x12⟩:=bK hA
  obtain⟨_,qc,hqv,hqc⟩:=hA.s.q.form
  obtain⟨_,sc,hsv,hsc⟩:=hA.p.q.form
  have hQ:=hA.s.q
  have hP:=hA.p.q
  rw[hqv]at hQ x10
  rw[hsv]at hP x4
  have hFq:=HF.out.q
  obtain⟨qb,qo,rfl,hqb,hcq⟩:=hQ.elem (show x<S.sn by omega)
  obtain⟨bb,bo,rfl,hbb,hcb⟩:=hP.elem hx
  have e0:W.cell? ⟨qb,qo+x,ag⟩=ai (M U (S.Q x)):=eI hcq
  have e5:W.cell? ⟨bb,bo+x*6+5,ag⟩=ai (T (D.SA x) (D.SN x) (D.SC x)):=hcb 5 om
  have HKB:bj (jo D S person x=(S.Q x==2||kS D S person x)):=show _=_ from rfl
  clear hcq hcb hQ hP hqv hsv
  have c0:=hC.cell 0
  have c3:=hC3.cell 0
  have f3:=hC3.frozen 0
  have i1:(x:Int)<(D.qn:Int):=om
  have i2:(x:Int)<(S.sn:Int):=om
  have HA2:=af hA
  clear hA
  generalize hqx:S.Q x=qx at *
  clear hqx
  by_cases hq2:qx=2
  ·have hq3:(qx != 2)=false:=by simpa using hq2
   gi_wp2
   refine⟨trivial,?_⟩
   gi_wp2
   refine⟨au _ _,?_⟩
   show(pre++[x]).all _=true
   rw[List.all_append,hI']
   simp[HKB.out,hq2]
  have hq3:(qx != 2)=true:=by simpa using hq2
  gi_wp2
  refine⟨trivial,((callsIn_wide.2 HHC.out).inRound l).mono ?_⟩
  rintro e W3 ⟨rfl,hb3⟩
  have hC3':=hC3.below hb3
  have f3':=hC3'.frozen 0
  have c3':=hC3'.cell 0
  have hB3:=ak hB hb3
  have HKB3:=HKB.out
  generalize kS D S person x=hd at *
  cases hd with
  |true=>
   gi_wp2
   refine⟨hb3,?_⟩
   show(pre++[x]).all _=true
   rw[List.all_append,hI']
   simp[HKB3]
  |false=>
   gi_wp2
   refine⟨?_,⟨?_,hp⟩,?_,?_⟩
   ·exact(mJ hb3).trans (KeepsOthers.setCell _ _ _)
   ·rw[List.all_append,hI']
    simp[HKB3,hq2]
   ·exact cw
   exact eo
 case done=>
  rintro Dd W hDd hI hb hK
  have hsz:=hB.size
  have hI':(D.nears zone).all (jo D S person)=true:=hI
  replace hC:=hC.below hb
  replace hC2:=hC2.below hb
  replace hC3:=hC3.below hb
  replace hB:=ak hB hb
  have c3:=hC3.cell 0
  have f3:=hC3.frozen 0
  (try simp only[Exit.inBlock,Exit.then])
  refine‹∀(a:Act) (w:aj),bi prog _ _ a w->_› _ _ ?_
  go_wp2_with fail
  exact kN (x:=true) (Dd:=Dd) om ((KeepsOthers.setCell _ _ _).same Dd _ hK rfl) cw eo (by rw[HALL.out,hI'])
 have hsz:=hB.size
 rintro Dd pre W hDd hp2 ⟨⟨hp1,hp⟩,g2,hB⟩ hK
 (try simp only[Exit.inBlock,Exit.then])
 refine kN (x:=false) (Dd:=Dd) om hK g2 hB ?_
 rw[HALL.out]
 obtain⟨l2,hl2⟩:=hp
 rw[<-hl2,List.all_append,hp1]
 rfl
end
section
open Tryz
open Go.RowKit Go.Shelf
attribute [local go_sem] Oper.semAt_some
variable {v0 v1 v2 v4 v5 v6 v7 v8 v9 v10 v11 v12 v13 v14 v15 v16 v17 v18 v19 v20:aw}
def bP (w:aj) (v:aw) (n g:Nat) (R:Nat->Int):Prop:=
 ∃a c,v=T a n c/\n<=c/\(n=0\/(a=ai ⟨g,0,ag⟩/\g<w.heap.size/\∀i,i<n->w.cell? ⟨g,i,ag⟩=ai (M U (R i))/\w.frozen? ⟨g,i,ag⟩=false))
theorem bP.row {w:aj} {v:aw} {n g:Nat} {R:Nat->Int} (h:bP w v n g R):aU w v n 1 (bw λi _=>R i):=by
 obtain⟨a,c,rfl,hc,h⟩:=h
 refine⟨a,c,rfl,hc,?_⟩
 rcases h with h|⟨rfl,h1,h2⟩
 ·exact .inl h
 exact .inr ⟨g,0,rfl,h1,λi j hi hj=>by
  obtain rfl:j=0:=om
  rw[Nat.zero_add,Nat.mul_one,bq];exact(h2 i hi).1⟩
theorem bP.below {w w':aj} {v:aw} {n g:Nat} {R:Nat->Int} (h:bP w v n g R) (hb:ap w.heap.size w w'):bP w' v n g R:=by
 obtain⟨a,c,rfl,hc,h⟩:=h
 refine⟨a,c,rfl,hc,?_⟩
 rcases h with h|⟨rfl,h1,h2⟩
 ·exact .inl h
 exact .inr ⟨rfl,aQ h1 hb.size,λi hi=>⟨by rw[hb.cell (p:=⟨g,i,ag⟩) h1];exact(h2 i hi).1,by rw[fo (p:=⟨g,i,ag⟩) (hb.block g h1)];exact(h2 i hi).2⟩⟩
theorem bP.other {w:aj} {v:aw} {n g:Nat} {R:Nat->Int} (h:bP w v n g R) {p:Addr} (hp:0<n->p.block≠g) (u:aw):bP (w.setCell p u) v n g R:=by
 obtain⟨a,c,rfl,hc,h⟩:=h
 refine⟨a,c,rfl,hc,?_⟩
 rcases h with h|⟨rfl,h1,h2⟩
 ·exact .inl h
 refine .inr ⟨rfl,by simpa using h1,λi hi=>?_⟩
 have hne:=hp om
 refine⟨?_,?_⟩
 ·have hpe:p≠⟨g,i,ag⟩:=λe=>hne (by rw[e])
  rw[aj.cell?_setCell_other (h:=hpe)];exact(h2 i hi).1
 rw[aj.frozen?_setCell];exact(h2 i hi).2
theorem bP.of {w:aj} {B:Nat} {v:aw} {n:Nat} {R:Nat->Int} (h:cW w B v n 1 (bw λi _=>R i)):∃g,bP w v n g R/\(0<n->B<=g/\g<w.heap.size):=by
 obtain⟨a,c,rfl,hc,h⟩:=h
 rcases h with h|⟨g,rfl,h0,h1,h2⟩
 ·exact⟨0,⟨a,c,rfl,hc, .inl h⟩,λh9=>by omega⟩
 exact⟨g,⟨_,c,rfl,hc, .inr ⟨rfl,h1,λi hi=>by have h3:=h2 i 0 hi om;rw[Nat.mul_one,bq]at h3;exact h3⟩⟩,λ_=>⟨h0,h1⟩⟩
structure iH (w:aj) (B cb:Nat) (S:bL):Prop where
 ex:∃gz gh gq,bP w S.zv S.zn gz S.Z/\bP w S.hv S.hn gh S.H/\bP w S.qv S.sn gq S.Q/\(0<S.zn->B<=gz/\gz≠cb)/\(0<S.hn->B<=gh/\gh≠cb)/\(0<S.sn->B<=gq/\gq≠cb)/\(0<S.zn->0<S.hn->gz≠gh)/\(0<S.zn->0<S.sn->gz≠gq)/\(0<S.hn->0<S.sn->gh≠gq)
structure bR (w0 w:aj) (cb:Nat) (D:bE) (S:bL):Prop where
 base:ap w0.heap.size w0 w
 pd:eP w0 D
 cbB:w0.heap.size<=cb
 c:am w cb 557 (kY D S)
 r:iH w w0.heap.size cb S
theorem bR.at {w0 w:aj} {cb:Nat} {D:bE} {S:bL} (h:bR w0 w cb D S):dG w cb D S:=by
 obtain⟨gz,gh,gq,h1,h2,h3,_⟩:=h.r.ex
 exact⟨h.c,h.pd.below h.base,⟨h1.row,h2.row,h3.row⟩⟩
theorem jG (R:Nat->Int):∀i j:Nat,(bw (λi _=>R i) i j).oneCell'=true:=λ_ _=>rfl
section
variable {sb B:Nat} {nw sr:Int} {st:Bool} {zv hv qv:aw} {zn hn sn:Nat} {Z H Qf:Nat->Int}
theorem rS {c:Code} (hc:c=et f432 1) {wc:aj} {Q:Exit->Act->aj->Prop} (hC:am wc sb 75 #[M U nw,zv,hv,qv,M U sr,aA st]) (hZ:aU wc zv zn 1 (bw λi _=>Z i)) (hH:aU wc hv hn 1 (bw λi _=>H i)) (hQ:aU wc qv sn 1 (bw λi _=>Qf i)) (n1:zn<=1000000) (n2:hn<=1000000) (n3:sn<=1000000) (hBs:B<=sb)
 (hK:∀(u5 u6 u7 u8 u9 u10 u11 u12 u13 u14 u15 u16 zv' hv' qv':aw) (w':aj),ap B wc w'->am w' sb 75 #[M U nw,zv',hv',qv',M U sr,aA st]->(∀cb now siren storm,w'.heap.size<=cb->iH w' B cb ⟨now,zn,Z,hn,H,sn,Qf,siren,storm,zv',hv',qv'⟩)->
  Q bk {tmps:=#[v0,v1,v2,ax (ai ⟨sb,0,ag⟩),v4,u5,u6,u7,u8,u9,u10,u11,u12,u13,u14,u15,u16,v17,v18,v19,v20],defers:=[]} w'):
 bi prog c Q {tmps:=#[v0,v1,v2,ax (ai ⟨sb,0,ag⟩),v4,v5,v6,v7,v8,v9,v10,v11,v12,v13,v14,v15,v16,v17,v18,v19,v20],defers:=[]} wc:=by
 subst hc
 conv=>arg 2;whnf
 have HKK:=af hK
 have HR:bj (∀w':aj,am w' sb 75 #[M U nw,zv,hv,qv,M U sr,aA st]->w'.cell? ⟨sb,1,ag⟩=ai zv/\w'.cell? ⟨sb,2,ag⟩=ai hv/\w'.cell? ⟨sb,3,ag⟩=ai qv):=show∀w',_->_ from λw' h=>⟨h.cell 1,h.cell 2,h.cell 3⟩
 have HZ:=af hZ
 have HH:=af hH
 have HQ:=af hQ
 have hK:am wc.drew sb 75 #[M U nw,zv,hv,qv,M U sr,aA st]:=hC.drew
 have hB:ap wc.heap.size wc wc.drew:=(au _ _).drew
 have hsbl:=hC.lt
 clear hZ hH hQ hC
 refine wp_region_noPanic ?_
 refine fV 10 (λw'=>am w' sb 75 #[M U nw,zv,hv,qv,M U sr,aA st]) kr ?_
 refine iZ 0 [1,2,5,8,10] hK ?_
 refine iZ 1 [2,5,8,10] hK ?_
 refine iZ 3 [4,5,8,10] hK ?_
 refine iZ 4 [5,8,10] hK ?_
 refine iZ 6 [7,8,10] hK ?_
 refine iZ 7 [8,10] hK ?_
 refine pW 2 (λK' hK'=>?_)
 refine(gN zn (bw λi _=>Z i) _ _ (HZ.out.below hB) n1 (λi j _ _=>jG Z i j)).mono ?_
 rintro e wn1 ⟨vzn,rfl,ho1,hb⟩
 obtain⟨gz,hg1,hg1b⟩:=bP.of ho1
 replace hK:=hK.below hb
 have hz1:=hb.size
 replace hB:=ak hB hb
 refine hK'.out _ _ (λ_=>hK) ?_
 clear hK' K'
 refine jN ?_
 refine iZ 9 [10] hK ?_
 refine pW 5 (λK' hK'=>?_)
 refine(gN hn (bw λi _=>H i) _ _ (HH.out.below hB) n2 (λi j _ _=>jG H i j)).mono ?_
 rintro e wn2 ⟨vhn,rfl,ho2,hb⟩
 obtain⟨gh,hg2,hg2b⟩:=bP.of ho2
 replace hK:=hK.below hb
 replace hg1:=hg1.below hb
 have hz2:=hb.size
 replace hB:=ak hB hb
 refine hK'.out _ _ (λ_=>hK) ?_
 clear hK' K'
 refine jN ?_
 refine pW 8 (λK' hK'=>?_)
 refine(gN sn (bw λi _=>Qf i) _ _ (HQ.out.below hB) n3 (λi j _ _=>jG Qf i j)).mono ?_
 rintro e wn3 ⟨vqn,rfl,ho3,hb⟩
 obtain⟨gq,hg3,hg3b⟩:=bP.of ho3
 replace hK:=hK.below hb
 replace hg1:=hg1.below hb
 replace hg2:=hg2.below hb
 have hz3:=hb.size
 replace hB:=ak hB hb
 refine hK'.out _ _ (λ_=>hK) ?_
 clear hK' K'
 refine jN ?_
 obtain⟨a1,c1,rfl,_⟩:=id ho1
 obtain⟨a2,c2,rfl,_⟩:=id ho2
 obtain⟨a3,c3,rfl,_⟩:=id ho3
 have hsz0:wc.drew.heap.size=wc.heap.size:=rfl
 have hd:(0<zn->B<=gz/\sb<gz/\gz<wn3.heap.size)/\(0<hn->B<=gh/\sb<gh/\gh<wn3.heap.size)/\(0<sn->B<=gq/\sb<gq/\gq<wn3.heap.size)/\(0<zn->0<hn->gz≠gh)/\(0<zn->0<sn->gz≠gq)/\(0<hn->0<sn->gh≠gq):=by
  exact⟨λh=>by have:=hg1b h;omega,λh=>by have:=hg2b h;omega,λh=>by have:=hg3b h;omega,λh h2=>by have:=hg1b h;have:=hg2b h2;omega,λh h2=>by have:=hg1b h;have:=hg3b h2;omega,λh h2=>by have:=hg2b h;have:=hg3b h2;omega⟩
 have HD:=af hd
 clear hd ho1 ho2 ho3
 replace hB:=hB.mono (show B<=wc.heap.size by omega)
 have zz:=aH hK
 have f1:=hK.frozen 1
 refine pW 10 (λK' hK'=>?_)
 replace hK:=hK.set 1 (T a1 zn c1)
 simp only[List.setIfInBounds_toArray,List.set_cons_zero,List.set_cons_succ]at hK
 replace hB:=aS (p:=⟨sb,1,ag⟩) hB hBs (T a1 zn c1)
 replace hg1:=bP.other hg1 (p:=⟨sb,1,ag⟩) (λh=>by have:=hg1b h;show sb≠_;omega) (T a1 zn c1)
 replace hg2:=bP.other hg2 (p:=⟨sb,1,ag⟩) (λh=>by have:=hg2b h;show sb≠_;omega) (T a1 zn c1)
 replace hg3:=bP.other hg3 (p:=⟨sb,1,ag⟩) (λh=>by have:=hg3b h;show sb≠_;omega) (T a1 zn c1)
 refine kL hK' ?_
 clear hK' K'
 refine pW 11 (λK' hK'=>?_)
 refine kL hK' ?_
 clear hK' K'
 have zz:=aH hK
 have f2:=hK.frozen 2
 refine pW 12 (λK' hK'=>?_)
 replace hK:=hK.set 2 (T a2 hn c2)
 simp only[List.setIfInBounds_toArray,List.set_cons_zero,List.set_cons_succ]at hK
 replace hB:=aS (p:=⟨sb,2,ag⟩) hB hBs (T a2 hn c2)
 replace hg1:=bP.other hg1 (p:=⟨sb,2,ag⟩) (λh=>by have:=hg1b h;show sb≠_;omega) (T a2 hn c2)
 replace hg2:=bP.other hg2 (p:=⟨sb,2,ag⟩) (λh=>by have:=hg2b h;show sb≠_;omega) (T a2 hn c2)
 replace hg3:=bP.other hg3 (p:=⟨sb,2,ag⟩) (λh=>by have:=hg3b h;show sb≠_;omega) (T a2 hn c2)
 refine kL hK' ?_
 clear hK' K'
 refine pW 13 (λK' hK'=>?_)
 refine kL hK' ?_
 clear hK' K'
 have zz:=aH hK
 have f3:=hK.frozen 3
 refine pW 14 (λK' hK'=>?_)
 replace hK:=hK.set 3 (T a3 sn c3)
 simp only[List.setIfInBounds_toArray,List.set_cons_zero,List.set_cons_succ]at hK
 replace hB:=aS (p:=⟨sb,3,ag⟩) hB hBs (T a3 sn c3)
 replace hg1:=bP.other hg1 (p:=⟨sb,3,ag⟩) (λh=>by have:=hg1b h;show sb≠_;omega) (T a3 sn c3)
 replace hg2:=bP.other hg2 (p:=⟨sb,3,ag⟩) (λh=>by have:=hg2b h;show sb≠_;omega) (T a3 sn c3)
 replace hg3:=bP.other hg3 (p:=⟨sb,3,ag⟩) (λh=>by have:=hg3b h;show sb≠_;omega) (T a3 sn c3)
 refine kL hK' ?_
 clear hK' K'
 refine gt kr (NoPanic.normal ?_) _
 refine jN ?_
 refine HKK.out _ _ _ _ _ _ _ _ _ _ _ _ _ _ _ _ hB hK (λcb now siren storm hcb=>⟨gz,gh,gq,hg1,hg2,hg3,?_⟩)
 obtain⟨d1,d2,d3,d4,d5,d6⟩:=HD.out
 simp only[aj.size_setCell]at hcb
 exact⟨λh=>⟨(d1 h).1,by have:=d1 h;omega⟩,λh=>⟨(d2 h).1,by have:=d2 h;omega⟩,λh=>⟨(d3 h).1,by have:=d3 h;omega⟩,d4,d5,d6⟩
end
end
section
open Tryz
open Go.RowKit Go.Shelf
attribute [local go_sem] Oper.semAt_some
theorem lg {w:aj} {B:Nat} {e:aT} {k:Nat} {v:aw} {n:Nat} {xs:List aw} (h:w.ownsRow B e k v n xs):∀g,v.ownBlock=ai g->B<=g:=λg hg=>by
 obtain⟨_,⟨rfl,_⟩|⟨g',cap,cur,rfl,hb,_⟩⟩:=h
 ·cases hg
 ·cases hg;exact hb
def vY (v:aw) (n:Nat):Prop:=∃a c,v=T a n c
theorem rU (D:bE) (S:bL) (cb:Nat) (q:Nat) (w:aj) (hA:dG w cb D S) (hG:cA D) (hF:gJ D S) (hq:q<D.qn):
  aC prog 503 #[ax (ai ⟨cb,0,ag⟩),M U (q:Int)] w λe w'=>∃v,e=ar v/\vY v (kF D S q)/\ap w.heap.size w w':=by
 obtain⟨r,HS⟩:∃r:Nat,bj (r=kF D S q):=⟨_,show _=_ from rfl⟩
 rw[<-HS.out]
 have HO:bj (kF D S q=fR (λj=>decide (0<=S.H (D.QK q j).toNat)) (D.SN q)):=show _=_ from rfl
 have HKK:bj (∀j,j<D.SN q->0<=D.QK q j/\D.QK q j<S.hn):=show∀j,_->_ from λj hj=>by rw[hF.h];exact hG.key hq hj
 have hsl:=hG.sn hq
 have hk:=hA.p.s q hq
 have HRk:=af hk
 obtain⟨_,sc,hsv,hsc⟩:=hA.p.q.form
 have hP:=hA.p.q
 rw[hsv]at hP
 obtain⟨bb,bo,rfl,hbb,hcb⟩:=hP.elem hq
 have e5:w.cell? ⟨bb,bo+q*6+5,ag⟩=ai (T (D.SA q) (D.SN q) (D.SC q)):=hcb 5 om
 obtain⟨x0,x1,x2,x3,x4,x5,x6,x7,x8,x9,x10,x11,x12⟩:=bK hA
 clear x0 x1 x2 x3 x5 x6 x7 x8 x9 x10 x11 x12 hcb hk hG hF hP
 rw[hsv]at x4
 have HA:=af hA
 clear hsv hA
 generalize D.SA q=sa at *
 generalize D.SC q=ssc at *
 generalize D.SN q=sn at *
 have HR0:=HRk.out
 obtain⟨i0,hi,hz0,hz1,hz2⟩:=info_parts infoC_clone_ints
 have hi1:(q:Int)<(D.qn:Int):=om
 go_enter func503,ntmps503
 go_upto_region 2 with fail
 go_loopw [4,17] (λl i wr=>∃(j:Nat) (xs:List aw),j<=sn/\i=M U j/\wr.ownsRow w.heap.size 3 1 l (fR (λj=>decide (0<=S.H (D.QK q j).toNat)) j) xs/\ap w.heap.size w wr) (λ_ i _=>sn - (aV i).toNat)
 case atStart=>exact⟨0,[],aF _,rfl,aj.ownsRow_nil _ _ _ _,au _ _⟩
 case round=>
  obtain⟨j,xs,hj,rfl,hown,hB⟩:=hrel
  have hsx:=hown.1
  by_cases hlt:j<sn
  rotate_left
  ·obtain rfl:j=sn:=om
   obtain⟨hl,h|⟨g,cap,cur,hv,_⟩⟩:=hown
   rotate_left
   ·subst hv
    go_wp2_with fail
    go_ret
    refine⟨_,rfl,?_,hB⟩
    rw[HS.out,HO.out]
    exact⟨_,_,rfl⟩
   obtain⟨rfl,h0⟩:=h
   go_wp2_with fail
   go_ret
   refine⟨_,rfl,?_,hB⟩
   rw[HS.out,HO.out,h0]
   exact⟨_,_,rfl⟩
  obtain⟨b,off,rfl,hb,hc⟩:=(HRk.out.below hB).elem hlt
  have e0:wr.cell? ⟨b,off+j,ag⟩=ai (M U (D.QK q j)):=eI hc
  have hA:=HA.out.below hB
  obtain⟨y0,y1,y2,y3,y4,y5,y6,y7,y8,y9,y10,y11,y12⟩:=bK hA
  have hH:=hA.s.h
  obtain⟨_,hc,hhv,hhc⟩:=hH.form
  rw[hhv]at hH y9
  have hkj:=HKK.out j hlt
  have hs:=im (λj=>decide (0<=S.H (D.QK q j).toNat)) j
  have hle:=kQ (λj=>decide (0<=S.H (D.QK q j).toNat)) j
  obtain⟨ki,hki⟩:∃m:Nat,D.QK q j=(m:Int):=⟨(D.QK q j).toNat,by omega⟩
  rw[hki]at hkj e0 hs
  obtain⟨hb2,ho2,rfl,hlt2,hcc⟩:=hH.elem (show ki<S.hn by omega)
  have e1:wr.cell? ⟨hb2,ho2+ki,ag⟩=ai (M U (S.H ki)):=eI hcc
  rw[Int.toNat_natCast]at hs
  clear hcc hH hhv hki hA
  generalize S.H ki=hv at *
  generalize fR (λj=>decide (0<=S.H (D.QK q j).toNat)) j=cn at *
  have HCN:=af hs
  have HOW:=af hown
  clear hs hown hsx
  have i2:(j:Int)<(sn:Int):=om
  have i3:(ki:Int)<(S.hn:Int):=om
  by_cases hq2:0<=hv
  rotate_left
  ·go_wp2_with fail
   go_roundw
   case rel=>exact⟨j+1,xs,by omega,by go_num,by rw[HCN.out,decide_eq_false hq2];exact HOW.out,hB⟩
   case measure=>simp[aV];omega
  go_upto_region 5 with fail
  go_wp2_with (at_builtin;refine ci _ (by rfl) _ _ _ (by rfl) w.heap.size 3 i0 _ 1 8 underlying24 hi hz0 hz1 hz2 rfl om _ cn xs (by rfl) (ck HOW.out _) ⟨wr.heap.size,0,ag⟩ 1 1 [M U (ki:Int)] (by rfl) (by rfl) (cm (cs:=#[M U (ki:Int)]) (t:=3) (fr:=(0,0)) (aK wr _)) (by simp[aw.oneCell']) om (by unfold cF;omega) om (by have:=hB.size;simp;omega) (wr.heap.size+1) (by simp) ?_;intro g cap w1 hown1 hgrow hat hltg)
  go_roundw
  case rel=>exact⟨j+1,xs++[M U (ki:Int)],by omega,by go_num,by rw[HCN.out,decide_eq_true hq2];exact hown1,gO (aP hB _) hgrow (lg HOW.out)⟩
  case measure=>simp[aV];omega
end
section
open Tryz
open Go.RowKit Go.Shelf
attribute [local go_sem] Oper.semAt_some
variable {v1 v2 v3 v4 v7 v8 v9 v10 v11 v12 v13 v14 v15 v16 v17 v18 v19 v20 v21 v22 v23 v24 v25 v26 v27 v28 v29 v30 v31 v32 v33 v34 v35 v36 v37 v38 v39 v40 v41 v42 v43 v44 v45 v46 v47 v48 v49 v50 v51 v52 v53 v54 v55 v56 v57 v58 v59 v60 v61 v62 v63 v64 v65 v66 v67 v68 v69 v70 v71 v72 v73 v74 v75 v76 v77 v78 v79 v80 v81 v82 v83 v84 v85 v86 v87 v88 v89 v90 v91 v92 v93 v94 v95 v96 v97 v98 v99 v100 v101 v102 v103 v104 v105 v106 v107 v108 v109:aw}
def lP (D:bE) (S:bL) (i:Nat):Bool:=decide (D.ZR i 6<(S.crowd i:Int))||dz D S i
def mx (D:bE) (S:bL) (i:Nat):Bool:=(decide (0<=S.Z i)&&decide (D.PR i 1<D.ZR (S.Z i).toNat 5))||!dX D S i (S.Z i)
def lN (D:bE) (S:bL) (q:Nat):Bool:=S.Q q==1&&(decide (0<kF D S q)||(decide (S.siren<0)||S.storm))
def fw (D:bE) (S:bL):Bool:=!bI (lP D S) D.zn&&(!bI (mx D S) S.zn&&!bI (lN D S) S.sn)
section
variable {D:bE} {S:bL} {cb i:Nat} {z g1 g2:Int} {zb pb:Nat} {zo po zc pc:Nat}
theorem uz {c:Code} (hc:c=et f434 10) {wc:aj} {Q:Exit->Act->aj->Prop} (hz:z<0)
 (h0:wc.cell? ⟨cb,0,ag⟩=ai (T (ai ⟨zb,zo,ag⟩) D.zn zc)) (h2:wc.cell? ⟨cb,2,ag⟩=ai (T (ai ⟨pb,po,ag⟩) D.pn pc)) (hi:i<D.pn) (hp:wc.cell? ⟨pb,po+i*2+1,ag⟩=ai (M U g1)) (hzz:0<=z->wc.cell? ⟨zb,zo+z.toNat*8+5,ag⟩=ai (M U g2))
 (hA:dG wc cb D S) (hG:cA D) (hF:gJ D S) (hzd:z<D.zn)
 (hK:∀(u43 u44 u45 u46 u47 u48 u49 u50 u51 u52 u53 u54 u55 u56 u57 u58 u59 u60 u61 u62 u63 u64 u65 u66 u67 u68 u69 u70 u71 u72:aw) (w':aj),ap wc.heap.size wc w'->u72=aA (!dX D S i z)->
  Q bk {tmps:=#[ax (ai ⟨cb,0,ag⟩),v1,v2,v3,v4,M U (i:Int),M U z,v7,v8,v9,v10,v11,v12,v13,v14,v15,v16,v17,v18,v19,v20,v21,v22,v23,v24,v25,v26,v27,v28,v29,v30,v31,v32,v33,v34,v35,v36,v37,v38,v39,v40,v41,v42,u43,u44,u45,u46,u47,u48,u49,u50,u51,u52,u53,u54,u55,u56,u57,u58,u59,u60,u61,u62,u63,u64,u65,u66,u67,u68,u69,u70,u71,u72,v73,v74,v75,v76,v77,v78,v79,v80,v81,v82,v83,v84,v85,v86,v87,v88,v89,v90,v91,v92,v93,v94,v95,v96,v97,v98,v99,v100,v101,v102,v103,v104,v105,v106,v107,v108,v109],defers:=[]} w'):
 bi prog c Q {tmps:=#[ax (ai ⟨cb,0,ag⟩),v1,v2,v3,v4,M U (i:Int),M U z,v7,v8,v9,v10,v11,v12,v13,v14,v15,v16,v17,v18,v19,v20,v21,v22,v23,v24,v25,v26,v27,v28,v29,v30,v31,v32,v33,v34,v35,v36,v37,v38,v39,v40,v41,v42,v43,v44,v45,v46,v47,v48,v49,v50,v51,v52,v53,v54,v55,v56,v57,v58,v59,v60,v61,v62,v63,v64,v65,v66,v67,v68,v69,v70,v71,v72,v73,v74,v75,v76,v77,v78,v79,v80,v81,v82,v83,v84,v85,v86,v87,v88,v89,v90,v91,v92,v93,v94,v95,v96,v97,v98,v99,v100,v101,v102,v103,v104,v105,v106,v107,v108,v109],defers:=[]} wc:=by
 subst hc
 conv=>arg 2;whnf
 have HKK:=af hK
 have HKD:=af (λW (h:ap wc.heap.size wc W)=>il D S cb i z W (hA.below h) hG hF hzd)
 have l0:cb<wc.heap.size:=aG wc _ h0
 have l1:pb<wc.heap.size:=aG wc _ hp
 have hdz:decide (0<=z)=false:=decide_eq_false om
 have hz2:¬0<=z:=om
 have HR:bj (∀w':aj,ap wc.heap.size wc w'->w'.cell? ⟨cb,0,ag⟩=wc.cell? ⟨cb,0,ag⟩/\True):=show∀w',_->_ from λw' hb=>⟨hb.cell (p:=⟨cb,0,ag⟩) l0,trivial⟩
 clear hK h0 h2 hp hzz hA hG hF
 have hB:ap wc.heap.size wc wc.drew:=(au _ _).drew
 refine wp_region_noPanic ?_
 refine bV hB ?_
 refine K0 ?_
 refine K4 ?_
 refine br 25 hB ?_
 refine br 26 hB ?_
 refine cL 27 (λK' hK'=>?_)
 refine aZ (HKD.out _ hB) ?_
 intro w1 hb
 have hB1:ap wc.heap.size wc w1:=ak hB hb
 refine bO hK' hB1 ?_
 clear hK' K'
 refine br 28 hB1 ?_
 refine br 29 hB1 ?_
 refine eL ?_
 exact HKK.out _ _ _ _ _ _ _ _ _ _ _ _ _ _ _ _ _ _ _ _ _ _ _ _ _ _ _ _ _ _ _ hB1 (by simp)
end
section
variable {D:bE} {S:bL} {cb i:Nat} {z g1 g2:Int} {zb pb:Nat} {zo po zc pc:Nat}
theorem t9 {c:Code} (hc:c=et f434 10) {wc:aj} {Q:Exit->Act->aj->Prop} (hz:0<=z) (hzl:z<D.zn) (hg:¬g1<g2)
 (h0:wc.cell? ⟨cb,0,ag⟩=ai (T (ai ⟨zb,zo,ag⟩) D.zn zc)) (h2:wc.cell? ⟨cb,2,ag⟩=ai (T (ai ⟨pb,po,ag⟩) D.pn pc)) (hi:i<D.pn) (hp:wc.cell? ⟨pb,po+i*2+1,ag⟩=ai (M U g1)) (hzz:0<=z->wc.cell? ⟨zb,zo+z.toNat*8+5,ag⟩=ai (M U g2))
 (hA:dG wc cb D S) (hG:cA D) (hF:gJ D S) (hzd:z<D.zn)
 (hK:∀(u43 u44 u45 u46 u47 u48 u49 u50 u51 u52 u53 u54 u55 u56 u57 u58 u59 u60 u61 u62 u63 u64 u65 u66 u67 u68 u69 u70 u71 u72:aw) (w':aj),ap wc.heap.size wc w'->u72=aA (!dX D S i z)->
  Q bk {tmps:=#[ax (ai ⟨cb,0,ag⟩),v1,v2,v3,v4,M U (i:Int),M U z,v7,v8,v9,v10,v11,v12,v13,v14,v15,v16,v17,v18,v19,v20,v21,v22,v23,v24,v25,v26,v27,v28,v29,v30,v31,v32,v33,v34,v35,v36,v37,v38,v39,v40,v41,v42,u43,u44,u45,u46,u47,u48,u49,u50,u51,u52,u53,u54,u55,u56,u57,u58,u59,u60,u61,u62,u63,u64,u65,u66,u67,u68,u69,u70,u71,u72,v73,v74,v75,v76,v77,v78,v79,v80,v81,v82,v83,v84,v85,v86,v87,v88,v89,v90,v91,v92,v93,v94,v95,v96,v97,v98,v99,v100,v101,v102,v103,v104,v105,v106,v107,v108,v109],defers:=[]} w'):
 bi prog c Q {tmps:=#[ax (ai ⟨cb,0,ag⟩),v1,v2,v3,v4,M U (i:Int),M U z,v7,v8,v9,v10,v11,v12,v13,v14,v15,v16,v17,v18,v19,v20,v21,v22,v23,v24,v25,v26,v27,v28,v29,v30,v31,v32,v33,v34,v35,v36,v37,v38,v39,v40,v41,v42,v43,v44,v45,v46,v47,v48,v49,v50,v51,v52,v53,v54,v55,v56,v57,v58,v59,v60,v61,v62,v63,v64,v65,v66,v67,v68,v69,v70,v71,v72,v73,v74,v75,v76,v77,v78,v79,v80,v81,v82,v83,v84,v85,v86,v87,v88,v89,v90,v91,v92,v93,v94,v95,v96,v97,v98,v99,v100,v101,v102,v103,v104,v105,v106,v107,v108,v109],defers:=[]} wc:=by
 subst hc
 conv=>arg 2;whnf
 have HKK:=af hK
 have HKD:=af (λW (h:ap wc.heap.size wc W)=>il D S cb i z W (hA.below h) hG hF hzd)
 have l0:cb<wc.heap.size:=aG wc _ h0
 have l1:pb<wc.heap.size:=aG wc _ hp
 have hzc:=hzz hz
 have l2:zb<wc.heap.size:=aG wc _ hzc
 obtain⟨zi,rfl⟩:∃m:Nat,z=(m:Int):=⟨z.toNat,by omega⟩
 rw[Int.toNat_natCast]at hzc
 have hdz:decide (0<=(zi:Int))=true:=decide_eq_true om
 have hdg:decide (g1<g2)=false:=decide_eq_false hg
 have HR:=af λw' (hb:ap wc.heap.size wc w')=>tD (kp h0 hb) (kp h2 hb) (kp hp hb) (kp hzc hb)
 have i1:(i:Int)<(D.pn:Int):=om
 have i2:(zi:Int)<(D.zn:Int):=om
 clear hK h0 h2 hp hzz hA hG hF
 have hB:ap wc.heap.size wc wc.drew:=(au _ _).drew
 refine wp_region_noPanic ?_
 refine bV hB ?_
 refine K0 ?_
 refine K4 ?_
 refine br 25 hB ?_
 refine br 26 hB ?_
 refine cL 27 (λK' hK'=>?_)
 refine aZ (HKD.out _ hB) ?_
 intro w1 hb
 have hB1:ap wc.heap.size wc w1:=ak hB hb
 refine bO hK' hB1 ?_
 clear hK' K'
 refine br 28 hB1 ?_
 refine br 29 hB1 ?_
 refine eL ?_
 exact HKK.out _ _ _ _ _ _ _ _ _ _ _ _ _ _ _ _ _ _ _ _ _ _ _ _ _ _ _ _ _ _ _ hB1 (by simp)
end
end
section
open Tryz
open Go.RowKit Go.Shelf
attribute [local go_sem] Oper.semAt_some
variable {v1 v2 v5 v6 v7 v8 v9 v10 v11 v12 v13 v14 v15 v16 v17 v18 v19 v20 v21 v22 v23 v24 v25 v26 v27 v28 v29 v30 v31 v32 v33 v34 v35 v36 v37 v38 v39 v40 v41 v42 v43 v44 v45 v46 v47 v48 v49 v50 v51 v52 v53 v54 v55 v56 v57 v58 v59 v60 v61 v62 v63 v64 v65 v66 v67 v68 v69 v70 v71 v72 v73 v74 v75 v76 v77 v78 v79 v80 v81 v82 v83 v84 v85 v86 v87 v88 v89 v90 v91 v92 v93 v94 v95 v96 v97 v98 v99 v100 v101 v102:aw}
def uo (D:bE) (S:bL):Bool:=bI (λi=>aI (S.Z i) (-1) ((D.zn:Int) - 1)) S.zn
def ur (D:bE) (S:bL):Bool:=bI (λi=>aI (S.H i) (-1) ((D.pn:Int) - 1)) S.hn
def uV (S:bL):Bool:=bI (λi=>aI (S.Q i) 0 2) S.sn
def dM (D:bE) (S:bL):Bool:=!(aI S.now 0 100000||aI S.siren (-1) S.now)&&((!decide ((S.zn:Int)≠D.pn)&&(!decide ((S.hn:Int)≠D.kn)&&!decide ((S.sn:Int)≠D.qn)))&&(!uo D S&&(!ur D S&&!uV S)))
theorem jC (lo hi:Int) (w:aj):
  aC prog 498 #[M U lo,M U hi] w λe w'=>∃lb hb:Nat,e=ar (.func (.func 499) #[] #[ax (ai ⟨lb,0,ag⟩),ax (ai ⟨hb,0,ag⟩)])/\w'.cell? ⟨lb,0,ag⟩=ai (M U lo)/\w'.cell? ⟨hb,0,ag⟩=ai (M U hi)/\ap w.heap.size w w':=by
 have hmf:∀(fn:Fn) (first cap:Array aw) (w:aj),(Instr.makeFunc fn first cap).run prog w= .ok (.func fn first cap) w:=λ_ _ _ _=>rfl
 have h1:am ((w.alloc (.cells #[M U lo] 3)).alloc (.cells #[M U hi] 3)) w.heap.size 3 #[M U lo]:=am.below (aK w _) (aP (au _ _) _)
 have h2:=aK (w.alloc (.cells #[M U lo] 3)) (.cells #[M U hi] 3)
 rw[bg]at h2
 have h3:am ((w.alloc (.cells #[M U lo] 3)).alloc (.cells #[M U hi] 3)) (w.heap.size+1) 3 #[M U hi]:=h2
 have hB:=aP (aP (au w.heap.size w) (.cells #[M U lo] 3)) (.cells #[M U hi] 3)
 have H1:=af h1
 have H3:=af h3
 have HB:=af hB
 clear h1 h2 h3 hB
 go_enter func498,ntmps498
 go_wp2_with fail
 go_ret
 exact⟨_,_,rfl,H1.out.cell 0,H3.out.cell 0,HB.out⟩
theorem pT (n lo hi:Int) (lb hb:Nat) (w:aj) (h1:w.cell? ⟨lb,0,ag⟩=ai (M U lo)) (h2:w.cell? ⟨hb,0,ag⟩=ai (M U hi)):
  aC prog 499 #[M U n,ax (ai ⟨lb,0,ag⟩),ax (ai ⟨hb,0,ag⟩)] w λe w'=>e=ar (aA (aI n lo hi))/\ap w.heap.size w w':=by
 go_enter func499,ntmps499
 exact ui
theorem jy (n:Nat) (R:Nat->Int) (v:aw) (lo hi:Int) (lb hb:Nat) (w:aj) (hR:aU w v n 1 (bw λi _=>R i)) (hn:n<=1000000) (h1:w.cell? ⟨lb,0,ag⟩=ai (M U lo)) (h2:w.cell? ⟨hb,0,ag⟩=ai (M U hi)):
  aC prog 59 #[v, .func (.func 499) #[] #[ax (ai ⟨lb,0,ag⟩),ax (ai ⟨hb,0,ag⟩)]] w λe w'=>e=ar (aA (bI (λi=>aI (R i) lo hi) n))/\ap w.heap.size w w':=
 fQ 499 (λ_ _=>by kernel_rfl) n (λi _=>R i) (λi=>aI (R i) lo hi) v _ _ w hR om (λi W _ hb'=>pT (R i) lo hi lb hb W ((hb'.cell (p:=⟨lb,0,ag⟩) (aG w _ h1)).trans h1) ((hb'.cell (p:=⟨hb,0,ag⟩) (aG w _ h2)).trans h2))
section
variable {D:bE} {S:bL} {cb xb:Nat} {za ha qa:Option Addr} {zc hc qc:Nat} {ya pa:Option Addr} {yc pc:Nat}
theorem sU {c:Code} (hcode:c=et f433 7) {wc:aj} {Q:Exit->Act->aj->Prop} (x0:wc.cell? ⟨xb,0,ag⟩=ai (T ya D.zn yc)) (x2:wc.cell? ⟨xb,2,ag⟩=ai (T pa D.pn pc)) (c8:wc.cell? ⟨cb,8,ag⟩=ai (T za S.zn zc)) (c9:wc.cell? ⟨cb,9,ag⟩=ai (T ha S.hn hc)) (c10:wc.cell? ⟨cb,10,ag⟩=ai (T qa S.sn qc))
 (hRz:aU wc (T za S.zn zc) S.zn 1 (bw λi _=>S.Z i)) (hRh:aU wc (T ha S.hn hc) S.hn 1 (bw λi _=>S.H i)) (hRq:aU wc (T qa S.sn qc) S.sn 1 (bw λi _=>S.Q i)) (n1:S.zn<=1000000) (n2:S.hn<=1000000) (n3:S.sn<=1000000) (n4:D.zn<=1000000) (n5:D.pn<=1000000)
 (hK:∀(u2 u64 u65 u66 u67 u68 u69 u70 u71 u72 u73 u74 u75 u76 u77 u78 u79 u80 u81 u82 u83 u84 u85 u86 u87 u88 u89 u90 u91 u92 u93 u94 u95 u96 u97 u98 u99 u100 u101 u102:aw) (w':aj),ap wc.heap.size wc w'->u2=aA (!uo D S&&(!ur D S&&!uV S))->
  Q bk {tmps:=#[ax (ai ⟨cb,0,ag⟩),v1,u2,ax (ai ⟨xb,0,ag⟩), .func (.func 498) #[] #[],v5,v6,v7,v8,v9,v10,v11,v12,v13,v14,v15,v16,v17,v18,v19,v20,v21,v22,v23,v24,v25,v26,v27,v28,v29,v30,v31,v32,v33,v34,v35,v36,v37,v38,v39,v40,v41,v42,v43,v44,v45,v46,v47,v48,v49,v50,v51,v52,v53,v54,v55,v56,v57,v58,v59,v60,v61,v62,v63,u64,u65,u66,u67,u68,u69,u70,u71,u72,u73,u74,u75,u76,u77,u78,u79,u80,u81,u82,u83,u84,u85,u86,u87,u88,u89,u90,u91,u92,u93,u94,u95,u96,u97,u98,u99,u100,u101,u102],defers:=[]} w'):
 bi prog c Q {tmps:=#[ax (ai ⟨cb,0,ag⟩),v1,v2,ax (ai ⟨xb,0,ag⟩), .func (.func 498) #[] #[],v5,v6,v7,v8,v9,v10,v11,v12,v13,v14,v15,v16,v17,v18,v19,v20,v21,v22,v23,v24,v25,v26,v27,v28,v29,v30,v31,v32,v33,v34,v35,v36,v37,v38,v39,v40,v41,v42,v43,v44,v45,v46,v47,v48,v49,v50,v51,v52,v53,v54,v55,v56,v57,v58,v59,v60,v61,v62,v63,v64,v65,v66,v67,v68,v69,v70,v71,v72,v73,v74,v75,v76,v77,v78,v79,v80,v81,v82,v83,v84,v85,v86,v87,v88,v89,v90,v91,v92,v93,v94,v95,v96,v97,v98,v99,v100,v101,v102],defers:=[]} wc:=by
 subst hcode
 conv=>arg 2;whnf
 have HKK:=af hK
 have HRz:=af hRz
 have HRh:=af hRh
 have HRq:=af hRq
 have l0:cb<wc.heap.size:=aG wc _ c8
 have l1:xb<wc.heap.size:=aG wc _ x0
 have HR:=af λw' (hb:ap wc.heap.size wc w')=>an5 (kp x0 hb) (kp x2 hb) (kp c8 hb) (kp c9 hb) (kp c10 hb)
 have HFA:bj (bI (λi=>aI (S.Z i) (-1) ((D.zn:Int) - 1)) S.zn=uo D S):=show _=_ from rfl
 have HFB:bj (bI (λi=>aI (S.H i) (-1) ((D.pn:Int) - 1)) S.hn=ur D S):=show _=_ from rfl
 have HFC:bj (bI (λi=>aI (S.Q i) 0 2) S.sn=uV S):=show _=_ from rfl
 have w1:=aD ((D.zn:Int) - 1) ⟨by omega,by omega⟩
 have w2:=aD ((D.pn:Int) - 1) ⟨by omega,by omega⟩
 clear hK x0 x2 c8 c9 c10 hRz hRh hRq l0 l1
 have hB:ap wc.heap.size wc wc.drew:=(au _ _).drew
 refine wp_region_noPanic ?_
 refine bV hB ?_
 refine K1 ?_
 refine br 7 hB ?_
 refine br 8 hB ?_
 refine br 9 hB ?_
 refine cL 10 (λK' hK'=>?_)
 refine(jC (-1) ((D.zn:Int) - 1) _).mono ?_
 rintro e wa1 ⟨lb,hb2,rfl,hl1,hl2,hb⟩
 have hB1:ap wc.heap.size wc wa1:=ak hB hb
 refine bO hK' hB1 ?_
 clear hK' K'
 have HF1:=af (jy S.zn (λi=>S.Z i) _ (-1) ((D.zn:Int) - 1) lb hb2 wa1 (HRz.out.below hB1) om hl1 hl2)
 refine cL 11 (λK' hK'=>?_)
 refine aZ HF1.out ?_
 intro wb1 hb
 have hC1:ap wc.heap.size wc wb1:=ak hB1 hb
 clear hb HF1 hl1 hl2
 refine bO hK' hC1 ?_
 clear hK' K'
 rw[HFA.out]
 generalize uo D S=f1 at *
 cases f1 with
 |true=>
  refine K7 ?_
  refine br 24 hC1 ?_
  refine br 25 hC1 ?_
  refine br 26 hC1 ?_
  refine br 27 hC1 ?_
  refine br 28 hC1 ?_
  refine br 29 hC1 ?_
  refine br 30 hC1 ?_
  refine br 31 hC1 ?_
  refine br 32 hC1 ?_
  refine br 33 hC1 ?_
  refine br 34 hC1 ?_
  refine br 35 hC1 ?_
  refine br 36 hC1 ?_
  refine br 37 hC1 ?_
  refine br 38 hC1 ?_
  refine br 39 hC1 ?_
  refine eL ?_
  exact HKK.out _ _ _ _ _ _ _ _ _ _ _ _ _ _ _ _ _ _ _ _ _ _ _ _ _ _ _ _ _ _ _ _ _ _ _ _ _ _ _ _ _ hC1 (by simp[*])
 |false=>
  refine K7 ?_
  refine cL 24 (λK' hK'=>?_)
  refine(jC (-1) ((D.pn:Int) - 1) _).mono ?_
  rintro e wa2 ⟨lb,hb2,rfl,hl1,hl2,hb⟩
  have hB2:ap wc.heap.size wc wa2:=ak hC1 hb
  refine bO hK' hB2 ?_
  clear hK' K'
  have HF2:=af (jy S.hn (λi=>S.H i) _ (-1) ((D.pn:Int) - 1) lb hb2 wa2 (HRh.out.below hB2) om hl1 hl2)
  refine cL 25 (λK' hK'=>?_)
  refine aZ HF2.out ?_
  intro wb2 hb
  have hC2:ap wc.heap.size wc wb2:=ak hB2 hb
  clear hb HF2 hl1 hl2
  refine bO hK' hC2 ?_
  clear hK' K'
  rw[HFB.out]
  generalize ur D S=f2 at *
  cases f2 with
  |true=>
   refine K9 ?_
   refine br 35 hC2 ?_
   refine br 36 hC2 ?_
   refine br 37 hC2 ?_
   refine br 38 hC2 ?_
   refine br 39 hC2 ?_
   refine eL ?_
   exact HKK.out _ _ _ _ _ _ _ _ _ _ _ _ _ _ _ _ _ _ _ _ _ _ _ _ _ _ _ _ _ _ _ _ _ _ _ _ _ _ _ _ _ hC2 (by simp[*])
  |false=>
   refine K9 ?_
   refine cL 35 (λK' hK'=>?_)
   refine(jC (0) (2) _).mono ?_
   rintro e wa3 ⟨lb,hb2,rfl,hl1,hl2,hb⟩
   have hB3:ap wc.heap.size wc wa3:=ak hC2 hb
   refine bO hK' hB3 ?_
   clear hK' K'
   have HF3:=af (jy S.sn (λi=>S.Q i) _ (0) (2) lb hb2 wa3 (HRq.out.below hB3) om hl1 hl2)
   refine cL 36 (λK' hK'=>?_)
   refine aZ HF3.out ?_
   intro wb3 hb
   have hC3:ap wc.heap.size wc wb3:=ak hB3 hb
   clear hb HF3 hl1 hl2
   refine bO hK' hC3 ?_
   clear hK' K'
   rw[HFC.out]
   refine br 37 hC3 ?_
   refine br 38 hC3 ?_
   refine br 39 hC3 ?_
   refine eL ?_
   exact HKK.out _ _ _ _ _ _ _ _ _ _ _ _ _ _ _ _ _ _ _ _ _ _ _ _ _ _ _ _ _ _ _ _ _ _ _ _ _ _ _ _ _ hC3 (by simp[*])
end
theorem oT (D:bE) (S:bL) (cb:Nat) (w:aj) (hA:dG w cb D S) (hG:cA D) (hzn:S.zn<=1000000) (hhn:S.hn<=1000000) (hsn:S.sn<=1000000):
  aC prog 433 #[ax (ai ⟨cb,0,ag⟩)] w λe w'=>e=ar (aA (dM D S))/\ap w.heap.size w w':=by
 obtain⟨r,HS⟩:=dR (dM D S)
 rw[<-HS.out]
 have HA:=af hA
 obtain⟨x0,x1,x2,x3,x4,x5,x6,x7,x8,x9,x10,x11,x12⟩:=bK hA
 obtain⟨za,zc,hz1,hz2⟩:=hA.s.z.form
 obtain⟨ha,hc,hh1,hh2⟩:=hA.s.h.form
 obtain⟨qa,qc,hq1,hq2⟩:=hA.s.q.form
 have hRz:=hA.s.z
 have hRh:=hA.s.h
 have hRq:=hA.s.q
 rw[hz1]at hRz x8
 rw[hh1]at hRh x9
 rw[hq1]at hRq x10
 obtain⟨ya,yc,hy1,hy2⟩:=hA.p.z.form
 obtain⟨pa,pc,hp1,hp2⟩:=hA.p.p.form
 obtain⟨da,dc,hd1,hd2⟩:=hA.p.d.form
 obtain⟨ka,kc,hk1,hk2⟩:=hA.p.k.form
 obtain⟨sa,sc,hs1,hs2⟩:=hA.p.q.form
 have HRz:=af hRz
 have HRh:=af hRh
 have HRq:=af hRq
 rw[hy1]at x0
 rw[hp1]at x2
 rw[hd1]at x1
 rw[hk1]at x3
 rw[hs1]at x4
 clear hRz hRh hRq hz1 hh1 hq1 hy1 hp1 hk1 hs1 hd1 hA
 have hg1:=hG.zn
 have hg2:=hG.pn
 have hg3:=hG.kn
 have hg4:=hG.qn
 have HFB:bj (dM D S=(!(aI S.now 0 100000||aI S.siren (-1) S.now)&&((!decide ((S.zn:Int)≠D.pn)&&(!decide ((S.hn:Int)≠D.kn)&&!decide ((S.sn:Int)≠D.qn)))&&(!uo D S&&(!ur D S&&!uV S))))):=show _=_ from rfl
 clear hG
 go_enter func433,ntmps433
 go_upto_region 3 with fail
 obtain⟨w1,hW9,hN9,hB⟩:=bW w 55 #[T ya D.zn yc,T da D.dn dc,T pa D.pn pc,T ka D.kn kc,T sa D.qn sc,M U D.panel,M U D.wait]
 rw[hW9.out]
 have hC:am w1 w.heap.size 55 #[T ya D.zn yc,T da D.dn dc,T pa D.pn pc,T ka D.kn kc,T sa D.qn sc,M U D.panel,M U D.wait]:=hN9
 clear hN9
 have hcl:=HA.out.c.lt
 have hxe:∃x,x=w.heap.size:=⟨_,rfl⟩
 obtain⟨xb,hxe⟩:=hxe
 rw[<-hxe]at hC⊢
 clear hxe
 have y7:=(hB.cell (p:=⟨cb,7,ag⟩) hcl).trans x7
 have y8:=(hB.cell (p:=⟨cb,8,ag⟩) hcl).trans x8
 have y9:=(hB.cell (p:=⟨cb,9,ag⟩) hcl).trans x9
 have y10:=(hB.cell (p:=⟨cb,10,ag⟩) hcl).trans x10
 have y11:=(hB.cell (p:=⟨cb,11,ag⟩) hcl).trans x11
 have hzz1:=(HRz.out.below hB)
 have HZ1:=af hzz1
 clear hzz1
 generalize S.now=nw at *
 generalize S.siren=sr at *
 cases g1:aI nw 0 100000 with
 |true=>
  have g1h:=af g1
  have ho1:=bN nw 0 100000
  rw[g1]at ho1
  have HO1:=af ho1
  clear ho1
  go_quiet ((go_at_call 151;with_reducible exact gI (HO1.out _)))
  go_wp2_with fail
  go_ret
  exact⟨bt (by rw[HS.out,HFB.out];rw[g1h.out];rfl),aM hB _⟩
 |false=>
  have g1h:=af g1
  have ho1:=bN nw 0 100000
  rw[g1]at ho1
  have HO1:=af ho1
  clear ho1
  cases g2:aI sr (-1) nw with
  |true=>
   have g2h:=af g2
   have ho2:=bN sr (-1) nw
   rw[g2]at ho2
   have HO2:=af ho2
   clear ho2
   go_quiet (first|(go_at_call 151;with_reducible exact gI (HO1.out _))|(go_at_call 151;with_reducible exact gI (HO2.out _)))
   go_wp2_with fail
   go_ret
   exact⟨bt (by rw[HS.out,HFB.out];rw[g1h.out,g2h.out];rfl),aM hB _⟩
  |false=>
   have g2h:=af g2
   have ho2:=bN sr (-1) nw
   rw[g2]at ho2
   have HO2:=af ho2
   clear ho2
   go_quiet (first|(go_at_call 151;with_reducible exact gI (HO1.out _))|(go_at_call 151;with_reducible exact gI (HO2.out _)))
   (try simp only[Exit.then])
   refine‹∀(a:Act) (w:aj),bi prog _ _ a w->_› _ _ ?_
   obtain⟨z0,z1,z2,z3,z4,z5,z6⟩:=aJ hC
   go_upto_region 5 with fail
   by_cases kz:S.zn≠D.pn
   ·have kzd:decide ((S.zn:Int)≠(D.pn:Int))=true:=decide_eq_true om
    have kzb:((S.zn:Int) != (D.pn:Int))=true:=by simp;omega
    exact T79
   have kze:S.zn=D.pn:=Decidable.not_not.1 kz
   have kzb:((S.zn:Int) != (D.pn:Int))=false:=by simp;omega
   by_cases kh:S.hn≠D.kn
   ·have khd:decide ((S.hn:Int)≠(D.kn:Int))=true:=decide_eq_true om
    have khb:((S.hn:Int) != (D.kn:Int))=true:=by simp;omega
    exact T79
   have khe:S.hn=D.kn:=Decidable.not_not.1 kh
   have khb:((S.hn:Int) != (D.kn:Int))=false:=by simp;omega
   by_cases kq:S.sn≠D.qn
   ·have kqd:decide ((S.sn:Int)≠(D.qn:Int))=true:=decide_eq_true om
    have kqb:((S.sn:Int) != (D.qn:Int))=true:=by simp;omega
    exact T79
   have kqe:S.sn=D.qn:=Decidable.not_not.1 kq
   have kqb:((S.sn:Int) != (D.qn:Int))=false:=by simp;omega
   have KZ:=af kze
   have KH:=af khe
   have KQ:=af kqe
   have z0:=hC.cell 0
   go_quiet (fail)
   (try simp only[Exit.then])
   refine‹∀(a:Act) (w:aj),bi prog _ _ a w->_› _ _ ?_
   go_upto_region 7 with fail
   refine sU (wc:=(w1.drewN _).drewN _) kr z0 z2 y8 y9 y10 (HRz.out.below (aM (aM hB _) _)) (HRh.out.below (aM (aM hB _) _)) (HRq.out.below (aM (aM hB _) _)) hzn hhn hsn om om ?_
   intro u2 _ _ _ _ _ _ _ _ _ _ _ _ _ _ _ _ _ _ _ _ _ _ _ _ _ _ _ _ _ _ _ _ _ _ _ _ _ _ _ w3 hb hu
   subst hu
   replace hB:=ak (aM (aM hB _) _) hb
   (try simp only[Exit.then])
   (try refine‹∀(a:Act) (w:aj),bi prog _ _ a w->_› _ _ ?_)
   go_wp2_with fail
   go_ret
   exact⟨bt (by rw[HS.out,HFB.out,g1h.out,g2h.out,KZ.out,KH.out,KQ.out];simp),hB⟩
end
section
open Tryz
open Go.RowKit Go.Shelf
attribute [local go_sem] Oper.semAt_some
theorem qh (D:bE) (S:bL) (cb:Nat) (w:aj) (hA:dG w cb D S) (hG:cA D) (hF:gJ D S) (hZ:∀i,i<S.zn->S.Z i<D.zn):
  aC prog 434 #[ax (ai ⟨cb,0,ag⟩)] w λe w'=>e=ar (aA (fw D S))/\ap w.heap.size w w':=by
 obtain⟨r,HS⟩:=dR (fw D S)
 rw[<-HS.out]
 have HSB:bj (fw D S=(!bI (lP D S) D.zn&&(!bI (mx D S) S.zn&&!bI (lN D S) S.sn))):=show _=_ from rfl
 have HG:=af hG
 have HF:=af hF
 have HA:=af hA
 have hzn1:S.zn<=D.pn:=by rw[hF.z];exact aY _
 have hzn2:D.pn<=S.zn:=by rw[hF.z];exact aY _
 have hqn1:S.sn<=D.qn:=by rw[hF.q];exact aY _
 have hqn2:D.qn<=S.sn:=by rw[hF.q];exact aY _
 have hg1:=hG.zn
 have hg2:=hG.pn
 have hg3:=hG.qn
 obtain⟨x0,x1,x2,x3,x4,x5,x6,x7,x8,x9,x10,x11,x12⟩:=bK hA
 clear x1 x3 x5 x6 x7 x9
 obtain⟨za,zc,hvz,hzc⟩:=hA.p.z.form
 have hRz:=hA.p.z
 rw[hvz]at hRz x0
 have HRz:=af hRz
 obtain⟨_,pc,hvp,hpc⟩:=hA.p.p.form
 have hRp:=hA.p.p
 rw[hvp]at hRp x2
 have HRp:=af hRp
 obtain⟨_,sc,hsz,hsc⟩:=hA.s.z.form
 have hRs:=hA.s.z
 rw[hsz]at hRs x8
 have HRs:=af hRs
 obtain⟨_,qc,hsq,hqc⟩:=hA.s.q.form
 have hRq:=hA.s.q
 rw[hsq]at hRq x10
 have HRq:=af hRq
 clear hRz hRp hRs hRq hvz hvp hsz hsq hA hG hF
 have HX:=af (show∀W,ap w.heap.size w W->W.cell? ⟨cb,0,ag⟩=_/\W.cell? ⟨cb,2,ag⟩=_/\W.cell? ⟨cb,8,ag⟩=_/\W.cell? ⟨cb,10,ag⟩=_/\W.cell? ⟨cb,11,ag⟩=_/\W.cell? ⟨cb,12,ag⟩=_ from λW hb=>⟨(hb.cell (p:=⟨cb,0,ag⟩) HA.out.c.lt).trans x0,(hb.cell (p:=⟨cb,2,ag⟩) HA.out.c.lt).trans x2,(hb.cell (p:=⟨cb,8,ag⟩) HA.out.c.lt).trans x8,(hb.cell (p:=⟨cb,10,ag⟩) HA.out.c.lt).trans x10,(hb.cell (p:=⟨cb,11,ag⟩) HA.out.c.lt).trans x11,(hb.cell (p:=⟨cb,12,ag⟩) HA.out.c.lt).trans x12⟩)
 clear x2 x4 x8 x10 x11 x12
 go_enter func434,ntmps434
 go_upto_region 2 with fail
 go_loopw [15] (λi wr=>∃j:Nat,j<=D.zn/\i=M U j/\bj (∀k,k<j->lP D S k=false)/\ap w.heap.size w wr) (λi _=>D.zn - (aV i).toNat)
 case atStart=>exact⟨0,aF _,rfl,show∀k,k<0->_ from(λk h=>absurd h om),au _ _⟩
 case round=>
  clear x0
  obtain⟨j,hj,rfl,HM,hB⟩:=hrel
  by_cases hlt:j<D.zn
  ·have HM2:=af (λh=>dS (p:=lP D S) HM.out h)
   have HH:=af (λh=>cd (p:=lP D S) hlt h)
   have HBZ:bj (lP D S j=(decide (D.ZR j 6<(S.crowd j:Int))||dz D S j)):=show _=_ from rfl
   clear HM
   have HC1:=af (λW (h:ap w.heap.size w W)=>io D S cb (j:Int) W (HA.out.below h) om)
   have HC2:=af (λW (h:ap w.heap.size w W)=>fm D S cb (j:Int) W (HA.out.below h) om om)
   obtain⟨bb,bo,rfl,bl,hc⟩:=(HRz.out.below hB).elem hlt
   have e0:wr.cell? ⟨bb,bo+j*8,ag⟩=ai (ay (D.ZN j)):=hc 0 om
   have e1:wr.cell? ⟨bb,bo+j*8+1,ag⟩=ai (M U (D.ZR j 1)):=hc 1 om
   have e2:wr.cell? ⟨bb,bo+j*8+2,ag⟩=ai (M U (D.ZR j 2)):=hc 2 om
   have e3:wr.cell? ⟨bb,bo+j*8+3,ag⟩=ai (M U (D.ZR j 3)):=hc 3 om
   have e4:wr.cell? ⟨bb,bo+j*8+4,ag⟩=ai (M U (D.ZR j 4)):=hc 4 om
   have e5:wr.cell? ⟨bb,bo+j*8+5,ag⟩=ai (M U (D.ZR j 5)):=hc 5 om
   have e6:wr.cell? ⟨bb,bo+j*8+6,ag⟩=ai (M U (D.ZR j 6)):=hc 6 om
   have e7:wr.cell? ⟨bb,bo+j*8+7,ag⟩=ai (aA (D.ZB j)):=hc 7 om
   clear hc
   generalize D.ZR j 1=f1 at *
   generalize D.ZR j 2=f2 at *
   generalize D.ZR j 3=f3 at *
   generalize D.ZR j 4=f4 at *
   generalize D.ZR j 5=f5 at *
   generalize D.ZR j 6=f6 at *
   generalize D.ZN j=f0 at *
   generalize D.ZB j=f7 at *
   have i2:(j:Int)<(D.zn:Int):=om
   go_upto_region 4 with fail
   obtain⟨w1,hW9,hN9,hb⟩:=bW wr 240 #[ay f0,M U f1,M U f2,M U f3,M U f4,M U f5,M U f6,aA f7]
   rw[hW9.out]
   clear hW9
   replace hB:=ak hB hb
   clear hb
   generalize wr.heap.size=db at *
   have hD:=hN9
   have d6:=hD.cell 6
   clear hN9 e0 e1 e2 e3 e4 e5 e6 e7
   have HC1w:=af (λn=>HC1.out (w1.drewN n) (ak hB (aM (au _ _) n)))
   have HC2w:=af (λn=>HC2.out (w1.drewN n) (ak hB (aM (au _ _) n)))
   generalize S.crowd (j:Int)=cr at *
   generalize dz D S (j:Int)=al at *
   by_cases hcr:f6<(cr:Int)
   ·have hA2:=HH.out (by rw[HBZ.out,decide_eq_true hcr];rfl)
    clear HH HM2
    have hcd:decide (f6<(cr:Int))=true:=decide_eq_true hcr
    go_quiet ((go_at_call 500;exact gI (HC1w.out _)))
    exact vV
   have hcd:decide (f6<(cr:Int))=false:=decide_eq_false hcr
   cases al with
   |true=>
    have hA2:=HH.out (by rw[HBZ.out];simp)
    clear HH HM2
    go_quiet (first|(go_at_call 500;exact gI (HC1w.out _))|(go_at_call 501;exact gI (HC2w.out _)))
    exact vV
   |false=>
    have hM1:=HM2.out (by rw[HBZ.out,hcd];rfl)
    have HM:=af hM1
    clear HM2 HH hM1
    go_quiet (first|(go_at_call 500;exact gI (HC1w.out _))|(go_at_call 501;exact gI (HC2w.out _)))
    go_wp2_with fail
    go_roundw
    case rel=>exact⟨j+1,by omega,by go_num,HM,aM hB _⟩
    case measure=>simp[aV];omega
  obtain rfl:j=D.zn:=om
  have hA1:=bT HM.out
  have HA1:=af hA1
  clear HM hA1
  obtain⟨x0,x2,x8,x10,x11,x12⟩:=HX.out _ hB
  go_upto_region 8 with fail
  go_loopw [38] (λi wr=>∃j:Nat,j<=S.zn/\i=M U j/\bj (∀k,k<j->mx D S k=false)/\ap w.heap.size w wr) (λi _=>S.zn - (aV i).toNat)
  case atStart=>exact⟨0,aF _,rfl,show∀k,k<0->_ from(λk h=>absurd h om),hB⟩
  case round=>
   clear x0 x2 x8 x10 x11 x12
   obtain⟨j,hj,rfl,HM,hB⟩:=hrel
   by_cases hlt:j<S.zn
   rotate_left
   ·obtain rfl:j=S.zn:=om
    have hA2:=bT HM.out
    have HA2:=af hA2
    clear HM hA2
    obtain⟨x0,x2,x8,x10,x11,x12⟩:=HX.out _ hB
    go_upto_region 14 with fail
    go_loopw [80] (λi wr=>∃j:Nat,j<=S.sn/\i=M U j/\bj (∀k,k<j->lN D S k=false)/\ap w.heap.size w wr) (λi _=>S.sn - (aV i).toNat)
    case atStart=>exact⟨0,aF _,rfl,show∀k,k<0->_ from(λk h=>absurd h om),hB⟩
    case round=>
     clear x0 x2 x8 x10 x11 x12
     obtain⟨j,hj,rfl,HM,hB⟩:=hrel
     by_cases hlt:j<S.sn
     rotate_left
     ·obtain rfl:j=S.sn:=om
      have hA3:=bT HM.out
      clear HM
      go_wp2_with fail
      go_ret
      exact⟨bt (by rw[HS.out,HSB.out,HA1.out,HA2.out,hA3];rfl),hB⟩
     have HM2:=af (λh=>dS (p:=lN D S) HM.out h)
     have HH:=af (λh=>cd (p:=lN D S) hlt h)
     have HBQ:bj (lN D S j=(S.Q j==1&&(decide (0<kF D S j)||(decide (S.siren<0)||S.storm)))):=show _=_ from rfl
     clear HM
     have HOW:=af (rU D S cb j wr (HA.out.below hB) HG.out HF.out om)
     obtain⟨x0,x2,x8,x10,x11,x12⟩:=HX.out _ hB
     clear x0 x2 x8 x10 x11 x12
     obtain⟨sb,so,rfl,sl,hc⟩:=(HRq.out.below hB).elem hlt
     have e0:wr.cell? ⟨sb,so+j,ag⟩=ai (M U (S.Q j)):=eI hc
     clear hc
     generalize hqq:S.Q j=qv at *
     clear hqq
     have i2:(j:Int)<(S.sn:Int):=om
     by_cases hq1:qv=1
     rotate_left
     ·have hq3:(qv==1)=false:=by simpa using hq1
      exact T56
     subst hq1
     go_wp2_with fail
     refine HOW.out.mono ?_
     rintro e w1 ⟨v,rfl,⟨oa,oc,rfl⟩,hb⟩
     replace hB:=ak hB hb
     clear hb
     obtain⟨x0,x2,x8,x10,x11,x12⟩:=HX.out _ hB
     clear x0 x2 x8 x10
     generalize kF D S j=on at *
     by_cases hon:0<on
     ·have hon2:(0:Int)<(on:Int):=om
      exact T70
     obtain rfl:on=0:=om
     by_cases hsi:S.siren<0
     ·exact T70
     cases hst:S.storm with
     |true=>
      rw[hst]at x12
      exact T70
     |false=>
      rw[hst]at x12
      have hs2:¬S.siren<0:=om
      exact T56
   have HM2:=af (λh=>dS (p:=mx D S) HM.out h)
   have HH:=af (λh=>cd (p:=mx D S) hlt h)
   have HBM:bj (mx D S j=((decide (0<=S.Z j)&&decide (D.PR j 1<D.ZR (S.Z j).toNat 5))||!dX D S j (S.Z j))):=show _=_ from rfl
   clear HM
   have hzj:=hZ j hlt
   obtain⟨x0,x2,x8,x10,x11,x12⟩:=HX.out _ hB
   clear x8 x10 x11 x12
   obtain⟨sb,so,rfl,sl,hc⟩:=(HRs.out.below hB).elem hlt
   have e0:wr.cell? ⟨sb,so+j,ag⟩=ai (M U (S.Z j)):=eI hc
   clear hc
   have hjp:j<D.pn:=om
   obtain⟨mb,mo,rfl,ml,hc⟩:=(HRp.out.below hB).elem hjp
   have p1:wr.cell? ⟨mb,mo+j*2+1,ag⟩=ai (M U (D.PR j 1)):=hc 1 om
   clear hc
   obtain⟨vb,vo,hzae,vl⟩:∃vb vo,za=ai (⟨vb,vo,ag⟩:Addr)/\∀k:Nat,k<D.zn->wr.cell? ⟨vb,vo+k*8+5,ag⟩=ai (M U (D.ZR k 5)):=by
    obtain⟨vb,vo,h,-,-⟩:=(HRz.out.below hB).elem (show 0<D.zn by omega)
    refine⟨vb,vo,h,λk hk=>?_⟩
    obtain⟨vb2,vo2,h2,-,hc⟩:=(HRz.out.below hB).elem hk
    rw[h]at h2
    cases h2
    exact hc 5 om
   subst hzae
   generalize hzq:S.Z j=zq at *
   have i2:(j:Int)<(S.zn:Int):=om
   have i3:(j:Int)<(D.pn:Int):=om
   generalize D.PR j 1=g1 at *
   clear hzq
   have HZ5:=af vl
   clear vl
   by_cases hz0:0<=zq
   rotate_left
   ·have hdz:decide (0<=zq)=false:=decide_eq_false hz0
    go_upto_region 10 with fail
    refine uz kr om x0 x2 hjp p1 (λh=>absurd h hz0) (g2:=0) (HA.out.below hB) HG.out HF.out hzj ?_
    intro _ _ _ _ _ _ _ _ _ _ _ _ _ _ _ _ _ _ _ _ _ _ _ _ _ _ _ _ _ u72 w1 hb hu
    subst hu
    (try simp only[Exit.then])
    refine‹∀(a:Act) (w:aj),bi prog _ _ a w->_› _ _ ?_
    replace hB:=ak hB hb
    clear hb
    generalize dX D S (j:Int) zq=kd at *
    cases kd with
    |false=>
     exact T80
    |true=>
     have hM1:=HM2.out (by rw[HBM.out,hdz];rfl)
     exact T71
   obtain⟨zi,rfl⟩:∃m:Nat,zq=(m:Int):=⟨zq.toNat,by omega⟩
   have v5:=HZ5.out zi om
   rw[Int.toNat_natCast]at HBM
   generalize hg5:D.ZR zi 5=g2 at *
   clear hg5
   have i4:(zi:Int)<(D.zn:Int):=om
   have hdz:decide (0<=(zi:Int))=true:=decide_eq_true hz0
   by_cases hgg:g1<g2
   ·have hdg:decide (g1<g2)=true:=decide_eq_true hgg
    have hA2:=HH.out (by rw[HBM.out,hdz,hdg];rfl)
    clear HH HM2
    go_upto_region 10 with fail
    go_quiet (fail)
    go_wp2_with fail
    go_ret
    exact⟨bt (by rw[HS.out,HSB.out,HA1.out,hA2];rfl),aM hB _⟩
   have hdg:decide (g1<g2)=false:=decide_eq_false hgg
   go_upto_region 10 with fail
   refine t9 kr hz0 om hgg x0 x2 hjp p1 (λ_=>by rw[Int.toNat_natCast];exact v5) (HA.out.below hB) HG.out HF.out hzj ?_
   intro _ _ _ _ _ _ _ _ _ _ _ _ _ _ _ _ _ _ _ _ _ _ _ _ _ _ _ _ _ u72 w1 hb hu
   subst hu
   (try simp only[Exit.then])
   refine‹∀(a:Act) (w:aj),bi prog _ _ a w->_› _ _ ?_
   replace hB:=ak hB hb
   clear hb
   generalize dX D S (j:Int) (zi:Int)=kd at *
   cases kd with
   |false=>
    exact T80
   |true=>
    have hM1:=HM2.out (by rw[HBM.out,hdz,hdg];rfl)
    exact T71
end
section
open Tryz
open Go.RowKit Go.Shelf
attribute [local go_sem] Oper.semAt_some
theorem iH.below {w w':aj} {B cb:Nat} {S:bL} (h:iH w B cb S) (hb:ap w.heap.size w w'):iH w' B cb S:=by
 obtain⟨gz,gh,gq,h1,h2,h3,h4⟩:=h.ex
 exact⟨gz,gh,gq,h1.below hb,h2.below hb,h3.below hb,h4⟩
theorem iH.mono {w:aj} {B B' cb:Nat} {S:bL} (h:iH w B cb S) (hB:B'<=B):iH w B' cb S:=by
 obtain⟨gz,gh,gq,h1,h2,h3,h4,h5,h6,h7⟩:=h.ex
 exact⟨gz,gh,gq,h1,h2,h3,λh=>⟨aO hB (h4 h).1,(h4 h).2⟩,λh=>⟨aO hB (h5 h).1,(h5 h).2⟩,λh=>⟨aO hB (h6 h).1,(h6 h).2⟩,h7⟩
def bL.with (S:bL) (zv hv qv:aw):bL:=⟨S.now,S.zn,S.Z,S.hn,S.H,S.sn,S.Q,S.siren,S.storm,zv,hv,qv⟩
theorem kJ (D:bE) (S:bL) (w:aj) (hV:eP w D) (hS:gC w S) (n1:S.zn<=1000000) (n2:S.hn<=1000000) (n3:S.sn<=1000000):
  aC prog 432 #[aN D.cells,aN S.cells] w λe w'=>∃(cb:Nat) (zv' hv' qv':aw),e=ar (ax (ai ⟨cb,0,ag⟩))/\bR w w' cb D (S.with zv' hv' qv'):=by
 unfold bE.cells bL.cells
 obtain⟨W0,hW0⟩:∃W0,(w.alloc (.cells #[D.vz,D.vd,D.vp,D.vk,D.vq,M U D.panel,M U D.wait] 55)).alloc (.cells #[M U S.now,S.zv,S.hv,S.qv,M U S.siren,aA S.storm] 75)=W0:=⟨_,rfl⟩
 have hC:am W0 w.heap.size 55 #[D.vz,D.vd,D.vp,D.vk,D.vq,M U D.panel,M U D.wait]:=by
  exact ul
 have hC2:am W0 (w.heap.size+1) 75 #[M U S.now,S.zv,S.hv,S.qv,M U S.siren,aA S.storm]:=by
  exact T46
 have hB:ap w.heap.size w W0:=by rw[<-hW0];exact aP (aP (au _ _) _) _
 have HW0:=af hW0
 have HV:=af hV
 have HS:=af hS
 clear hW0 hV hS
 go_enter func432,ntmps432
 go_upto_region 1 with fail
 rw[HW0.out]
 clear HW0
 obtain⟨xb,hpe⟩:=bY w.heap.size
 have hxb:w.heap.size<=xb:=bs hpe.symm
 rw[<-hpe]at hC hC2⊢
 obtain⟨yb,hye⟩:=bY (xb+1)
 have hyb:xb<yb:=om
 rw[<-hye]at hC2⊢
 clear hpe hye
 refine rS (B:=yb) kr hC2 (HS.out.z.below hB) (HS.out.h.below hB) (HS.out.q.below hB) n1 n2 n3 (aY _) ?_
 intro _ _ _ _ _ _ _ _ _ _ _ _ zv' hv' qv' w2 hb hC3 hR
 have hC4:am w2 xb 55 #[D.vz,D.vd,D.vp,D.vk,D.vq,M U D.panel,M U D.wait]:=(hb.block xb hyb).trans hC
 have hB2:ap w.heap.size w w2:=hB.trans (hb.mono om)
 have HR:=af hR
 clear hR hb hC hC2 hB
 have xx:=aJ hC4
 have yy:=aH hC3
 (try simp only[Exit.then])
 refine‹∀(a:Act) (w:aj),bi prog _ _ a w->_› _ _ ?_
 go_wp2_with fail
 go_ret
 refine⟨w2.heap.size,zv',hv',qv',rfl,aP hB2 _,HV.out,hB2.size,aK w2 _,?_⟩
 exact((HR.out w2.heap.size S.now S.siren S.storm (aY _)).below (aP (au _ _) _)).mono om
theorem oA {D:bE} {S:bL} (h:dM D S=true):gJ D S/\(∀i,i<S.zn->-1<=S.Z i/\S.Z i<D.zn)/\(∀i,i<S.hn->-1<=S.H i/\S.H i<D.pn)/\(∀i,i<S.sn->0<=S.Q i/\S.Q i<=2)/\(0<=S.now/\S.now<=100000/\-1<=S.siren/\S.siren<=S.now):=by
 unfold dM at h
 simp only[Bool.and_eq_true,Bool.not_eq_true',Bool.or_eq_false_iff,decide_eq_false_iff_not,Decidable.not_not]at h
 obtain⟨⟨h1,h2⟩,⟨h3,h4,h5⟩,h6,h7,h8⟩:=h
 have h1:=aW.1 h1
 have h2:=aW.1 h2
 refine⟨⟨by omega,by omega,by omega⟩,λi hi=>?_,λi hi=>?_,λi hi=>?_,by omega⟩
 ·unfold uo bI at h6
  rw[List.any_eq_false]at h6
  have h9:=h6 i (List.mem_range.2 hi)
  have h9:=aW.1 (by simpa using h9)
  omega
 ·unfold ur bI at h7
  rw[List.any_eq_false]at h7
  have h9:=h7 i (List.mem_range.2 hi)
  have h9:=aW.1 (by simpa using h9)
  omega
 unfold uV bI at h8
 rw[List.any_eq_false]at h8
 have h9:=h8 i (List.mem_range.2 hi)
 have h9:=aW.1 (by simpa using h9)
 omega
def pq (D:bE) (S:bL):Int:=if(eF D).2.2 != 0 then(eF D).2.2 else if !dM D S||!fw D S then 6 else 0
theorem og (D:bE) (S:bL) (w:aj) (hV:eP w D) (hS:gC w S) (n1:S.zn<=1000000) (n2:S.hn<=1000000) (n3:S.sn<=1000000):
  aC prog 357 #[aN D.cells,aN S.cells] w λe w'=>e=ar (M U (pq D S))/\ap w.heap.size w w':=by
 obtain⟨r,HS⟩:=dR (pq D S)
 rw[<-HS.out]
 have HP:=af (λW (h:ap w.heap.size w W)=>go D W (hV.below h))
 have HST:=af (λW (h:ap w.heap.size w W)=>kJ D S W (hV.below h) (hS.below h) n1 n2 n3)
 have HGD:=af (@du D)
 unfold bE.cells at HP HST
 unfold bL.cells at HST
 unfold bE.cells bL.cells
 unfold E3 at HP
 obtain⟨W0,hW0⟩:∃W0,(w.alloc (.cells #[D.vz,D.vd,D.vp,D.vk,D.vq,M U D.panel,M U D.wait] 55)).alloc (.cells #[M U S.now,S.zv,S.hv,S.qv,M U S.siren,aA S.storm] 75)=W0:=⟨_,rfl⟩
 have hC:am W0 w.heap.size 55 #[D.vz,D.vd,D.vp,D.vk,D.vq,M U D.panel,M U D.wait]:=by
  exact ul
 have hC2:am W0 (w.heap.size+1) 75 #[M U S.now,S.zv,S.hv,S.qv,M U S.siren,aA S.storm]:=by
  exact T46
 have hB:ap w.heap.size w W0:=by rw[<-hW0];exact aP (aP (au _ _) _) _
 have HW0:=af hW0
 clear hW0 hV hS
 go_enter func357,ntmps357
 go_upto_region 1 with fail
 rw[HW0.out]
 clear HW0
 obtain⟨xb,hpe⟩:=bY w.heap.size
 have hxb:w.heap.size<=xb:=bs hpe.symm
 rw[<-hpe]at hC hC2⊢
 obtain⟨yb,hye⟩:=bY (xb+1)
 have hyb:xb<yb:=om
 rw[<-hye]at hC2⊢
 clear hpe hye
 have xx:=aJ hC
 have HCS:bj (pq D S=if(eF D).2.2 != 0 then(eF D).2.2 else if !dM D S||!fw D S then 6 else 0):=show _=_ from rfl
 go_wp2_with fail
 refine aZ (HP.out _ hB) ?_
 intro w1 hb
 obtain⟨hC,hC2,hB⟩:=bM hC hC2 hB hb
 generalize hpe:eF D=p at *
 obtain⟨pa,pi,pe⟩:=p
 simp only at HCS HGD
 by_cases hpe0:pe=0
 rotate_left
 ·have hpn:(pe != 0)=true:=by simpa using hpe0
  go_wp2_with fail
  go_ret
  exact⟨bJ (by rw[HS.out,HCS.out,hpn];rfl),hB⟩
 subst hpe0
 have hG:=HGD.out rfl
 have xx:=aJ hC
 have yy:=aH hC2
 have HG:=af hG
 clear hG
 go_wp2_with fail
 refine(HST.out _ hB).mono ?_
 rintro e w2 ⟨cb,zv',hv',qv',rfl,hO⟩
 have hA:=hO.at
 have hB2:ap w.heap.size w w2:=ak hB hO.base
 have HF:=af (oT D (S.with zv' hv' qv') cb w2 hA HG.out n1 n2 n3)
 have HA:=af hA
 clear hO hA hC hC2
 go_wp2_with fail
 refine bH HF.out ?_
 rintro(_|_) w3 hf hb
 ·have hf2:dM D S=false:=hf
  have hB3:=ak hB2 hb
  go_wp2_with fail
  go_ret
  exact⟨bJ (by rw[HS.out,HCS.out,hf2];rfl),hB3⟩
 have hf2:dM D S=true:=hf
 have hfit:=oA (D:=D) (S:=S.with zv' hv' qv') hf
 have HSO:=af (qh D (S.with zv' hv' qv') cb w3 (HA.out.below hb) HG.out hfit.1 (λi hi=>(hfit.2.1 i hi).2))
 have hB3:=ak hB2 hb
 clear hb hfit
 go_wp2_with fail
 refine bH HSO.out ?_
 rintro(_|_) w4 hs hb
 ·have hs2:fw D S=false:=hs
  exact wm
 have hs2:fw D S=true:=hs
 exact wm
end
end Go.Proofs.YtbpnallaifdcpaaGreatDoor
