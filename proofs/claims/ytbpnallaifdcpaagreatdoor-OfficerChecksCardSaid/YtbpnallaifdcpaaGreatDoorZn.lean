/- Parts of the proof. -/
import Derived.Test.YtbpnallaifdcpaaGreatDoorZl
import Derived.Test.YtbpnallaifdcpaaGreatDoorZm
set_option linter.unusedVariables false
set_option linter.unusedSimpArgs false
set_option maxRecDepth 100000
set_option maxHeartbeats 4000000
namespace Go.Proofs.YtbpnallaifdcpaaGreatDoor
open Go.Value renaming int→M
open Go.IntKind renaming i64→U
open Go.Value renaming slice→T,string→ay,bool→aA,agg→aN
open Go.Lib renaming hid→af
open Option renaming none→ag,some→ai
open Go renaming World→aj,Value→aw,Calls→aC,below_drewN→aM,bodyPost_ret→bG,wpList_append_lies→ci,maxLen→cF
open Go.RowKit renaming Below→ap,intOf→aV,Hid→bj
open Go.Ending renaming returned→ar
open Go.RowKit.Below renaming refl→au,setCell→aS
open Go.IntWalk renaming i64_in→aD
open Nat renaming zero_le→aF,le_trans→aO,le_refl→aY,add_zero→bq,le_of_eq→bs
open Go.Code renaming wp→bi
open Go.World renaming ownsRow.alloc→ck,news_of_block→cm
section
open Tryz
open Go.RowKit Go.Shelf
attribute [local go_sem] Oper.semAt_some
def vX (W:aj) (kb:Nat) (kcs:Array aw) (w0:aj) (e:Ending) (w':aj):Prop:=uq w0 e w'/\am w' kb 75 kcs
theorem R94 {G:Prop} (h:G:=by
  rintro e w3 ⟨⟨n,sr,st,y1,y2,y3,n1,e1,n2,e2,n3,e3,k,rfl,hk,hb3⟩,hD9⟩
  clear hC hC2 hC3 hL hD hB H1 H2 H3 H4 xx y0 y4 y5 vv d0 d1 d2 d3 d4 d5
  have hC:=HC0.out.below hb3
  have hC2:=HY0.out.below hb3
  have hC3:=HV0.out.below hb3
  have hL:=HL0.out.below hb3
  have hB:=ak HBw.out hb3
  clear hb3 HC0 HY0 HV0 HL0 HBw HB1 HB2
  have vv:=aL hC3
  obtain⟨d0,d1,d2,d3,d4,d5⟩:=aH hD9
  have m0:=hD9.frozen 0
  have m1:=hD9.frozen 1
  have m2:=hD9.frozen 2
  have m3:=hD9.frozen 3
  have m4:=hD9.frozen 4
  have m5:=hD9.frozen 5
  go_upto_region 16 with fail
  have hD4:=dQ hD9 (M U n) (T y1 n1 e1) (T y2 n2 e2) (T y3 n3 e3) (M U sr) (aA st)
  have hL4:=fL hL (show db≠tb by omega) (M U n) (T y1 n1 e1) (T y2 n2 e2) (T y3 n3 e3) (M U sr) (aA st)
  have hV4:=fL hC3 (show db≠zb by omega) (M U n) (T y1 n1 e1) (T y2 n2 e2) (T y3 n3 e3) (M U sr) (aA st)
  have hB4:=dO hB (show w.heap.size<=db by omega) (M U n) (T y1 n1 e1) (T y2 n2 e2) (T y3 n3 e3) (M U sr) (aA st)
  generalize((((((w3.setCell ⟨db,0,ag⟩ (M U n)).setCell ⟨db,1,ag⟩ (T y1 n1 e1)).setCell ⟨db,2,ag⟩ (T y2 n2 e2)).setCell ⟨db,3,ag⟩ (T y3 n3 e3)).setCell ⟨db,4,ag⟩ (M U sr)).setCell ⟨db,5,ag⟩ (aA st))=w4 at *
  clear hC hC2 hC3 hL hB hD9 vv d0 d1 d2 d3 d4 d5 m0 m1 m2 m3 m4 m5
  have hL:=hL4
  have hC3:=hV4
  have hB:=hB4
  have hD:=hD4
  clear hL4 hV4 hB4 hD4
  have vv:=aL hC3
  obtain⟨d0,d1,d2,d3,d4,d5⟩:=aH hD
  by_cases hk0:k=0
  rotate_left
  ·have hkb:(k != 0)=true:=by simpa using hk0
   have tt:=aH hL
   have m0:=hL.frozen 0
   have m1:=hL.frozen 1
   have m2:=hL.frozen 2
   have m3:=hL.frozen 3
   have m4:=hL.frozen 4
   have m5:=hL.frozen 5
   go_wp2_with fail
   have hL9:=dQ hL (M U 0) (T ag 0 0) (T ag 0 0) (T ag 0 0) (M U 0) (aA false)
   have hB9:=dO hB (show w.heap.size<=tb by omega) (M U 0) (T ag 0 0) (T ag 0 0) (T ag 0 0) (M U 0) (aA false)
   generalize((((((w4.setCell ⟨tb,0,ag⟩ (M U 0)).setCell ⟨tb,1,ag⟩ (T ag 0 0)).setCell ⟨tb,2,ag⟩ (T ag 0 0)).setCell ⟨tb,3,ag⟩ (T ag 0 0)).setCell ⟨tb,4,ag⟩ (M U 0)).setCell ⟨tb,5,ag⟩ (aA false))=w9 at *
   have tt:=aH hL9
   refine bG (P:=prog) (fn:=f364) (v:= .tuple #[aN #[M U 0,T ag 0 0,T ag 0 0,T ag 0 0,M U 0,aA false],M U k]) ?_ rfl ?_
   ·simp[results,results364,go_sem, *]
   exact⟨_,_,_,_,_,_,_,_,_,_,_,_,k,rfl,hk,hB9⟩
  subst hk0
  have f0:=hD.frozen 0
  go_upto_region 19 with fail
  have hD5:=hD.set 0 (M U at_)
  simp only[List.setIfInBounds_toArray,List.set_cons_zero,List.set_cons_succ]at hD5
  have hL5:=hL.set_other (p:=⟨db,0,ag⟩) (show db≠tb by omega) (M U at_)
  have hB5:=aS (p:=⟨db,0,ag⟩) hB (show w.heap.size<=db by omega) (M U at_)
  generalize w4.setCell ⟨db,0,ag⟩ (M U at_)=w5 at *
  clear hD hL hB hC3 vv d0 d1 d2 d3 d4 d5 f0
  have hL:=hL5
  have hB:=hB5
  clear hL5 hB5
  obtain⟨d0,d1,d2,d3,d4,d5⟩:=aH hD5
  have tt:=aH hL
  have m0:=hL.frozen 0
  have m1:=hL.frozen 1
  have m2:=hL.frozen 2
  have m3:=hL.frozen 3
  have m4:=hL.frozen 4
  have m5:=hL.frozen 5
  go_wp2_with fail
  have hL9:=dQ hL (M U at_) (T y1 n1 e1) (T y2 n2 e2) (T y3 n3 e3) (M U sr) (aA st)
  have hB9:=dO hB (show w.heap.size<=tb by omega) (M U at_) (T y1 n1 e1) (T y2 n2 e2) (T y3 n3 e3) (M U sr) (aA st)
  generalize((((((w5.setCell ⟨tb,0,ag⟩ (M U at_)).setCell ⟨tb,1,ag⟩ (T y1 n1 e1)).setCell ⟨tb,2,ag⟩ (T y2 n2 e2)).setCell ⟨tb,3,ag⟩ (T y3 n3 e3)).setCell ⟨tb,4,ag⟩ (M U sr)).setCell ⟨tb,5,ag⟩ (aA st))=w9 at *
  have tt:=aH hL9
  refine bG (P:=prog) (fn:=f364) (v:= .tuple #[aN #[M U at_,T y1 n1 e1,T y2 n2 e2,T y3 n3 e3,M U sr,aA st],M U 0]) ?_ rfl ?_
  ·simp[results,results364,go_sem, *]
  exact⟨_,_,_,_,_,_,_,_,_,_,_,_,0,rfl,Or.inl rfl,hB9⟩):G:=h
theorem kT (D:bE) (zv hv qv:aw) (at_ kind who what wto:Int) (w:aj) (hV:eP w D) (hS:gC w (bp D zv hv qv)) (hE:(eF D).2.2=0) (hac:dm D at_ kind who what wto=0):
  aC prog 364 #[aN D.cells,aN (bp D zv hv qv).cells,aN #[M U at_,M U kind,M U who,M U what,M U wto]] w (uq w):=by
 have hG:=du hE
 obtain⟨p1,p2,p3,p4,p5,p6,p7,p8,p9,p10⟩:=pg hac
 have g1:=hG.pn
 have g2:=hG.kn
 have g3:=hG.qn
 have g4:=hG.panel
 have g5:=hG.zn
 obtain⟨wh,rfl⟩:∃m:Nat,who=(m:Int):=⟨who.toNat,by omega⟩
 have HV:=af hV
 have HG:=af hG
 have HCy:=af (λW (h:ap w.heap.size w W)=>o5 (bp D zv hv qv) W (hS.below h) (show D.pn<=8 by omega) (show D.kn<=8 by omega) (show D.qn<=8 by omega))
 obtain⟨za,zc,da,dc,pa,pc,ka,kc,qa,qc,HDC,HRz,HRd,HRp,HRk,HRq⟩:=hV.lit
 obtain⟨a1,c1,a2,c2,a3,c3,hw1,hw2,hw3⟩:=hS.forms
 simp only[bp]at hw1 hw2 hw3
 subst hw1 hw2 hw3
 have HSC:bj ((bp D (T a1 D.pn c1) (T a2 D.kn c2) (T a3 D.qn c3)).cells=#[M U 0,T a1 D.pn c1,T a2 D.kn c2,T a3 D.qn c3,M U (-1),aA false]):=show _=_ from rfl
 rw[HSC.out]at HCy
 rw[HDC.out,HSC.out]
 clear hV hG
 obtain⟨W0,HW0,hC,hC2,hC3,hL,hB⟩:=oZ w 55 #[T za D.zn zc,T da D.dn dc,T pa D.pn pc,T ka D.kn kc,T qa D.qn qc,M U D.panel,M U D.wait] 75 #[M U 0,T a1 D.pn c1,T a2 D.kn c2,T a3 D.qn c3,M U (-1),aA false] 294 #[M U at_,M U kind,M U (wh:Int),M U what,M U wto] 75 #[M U 0,T ag 0 0,T ag 0 0,T ag 0 0,M U 0,aA false]
 go_enter func364,ntmps364
 go_upto_region 1 with fail
 rw[HW0.out]
 obtain⟨xb,hxe⟩:=bY w.heap.size
 rw[<-hxe]at hC hC2 hC3 hL⊢
 obtain⟨yb,hyb⟩:=bY (xb+1)
 rw[<-hyb]
 rw[show xb+1=yb by omega]at hC2
 obtain⟨zb,hzb⟩:=bY (yb+1)
 rw[<-hzb]
 rw[show xb+2=zb by omega]at hC3
 obtain⟨tb,htb⟩:=bY (zb+1)
 rw[<-htb]
 rw[show xb+3=tb by omega]at hL
 have l1:w.heap.size<=xb:=om
 have l3:xb<yb:=om
 have l4:yb<zb:=om
 have l5:zb<tb:=om
 have iZ:=hL.lt
 have HC0:=af hC
 have HY0:=af hC2
 have HV0:=af hC3
 have HL0:=af hL
 clear hxe HW0 hyb hzb htb
 have xx:=aJ hC
 obtain⟨y0,y1,y2,y3,y4,y5⟩:=aH hC2
 have vv:=aL hC3
 have hat:¬at_<0:=om
 go_wp2_with fail
 refine(HCy.out W0 hB).mono ?_
 rintro e w1 ⟨z1,h1,q1,rfl,hO,hb⟩
 obtain⟨gz,gh,gq,⟨ba1,bc1,hvz,-⟩,⟨ba2,bc2,hvh,-⟩,⟨ba3,bc3,hvq,-⟩,-⟩:=id hO
 unfold bL.with bp at hvz hvh hvq
 simp only at hvz hvh hvq
 subst hvz hvh hvq
 have HOw:=af hO
 have HB1:=af hb
 have HBw:=af hB
 clear hO
 unfold bL.cells bL.with bp
 simp only
 obtain⟨hC,hC2,hC3,hL,hB⟩:=jO hC hC2 hC3 hL hB hb
 have xx:=aJ hC
 obtain⟨y0,y1,y2,y3,y4,y5⟩:=aH hC2
 have vv:=aL hC3
 go_upto_region 4 with fail
 obtain⟨w2,hW9,hN9,hb⟩:=bW w1 75 #[M U 0,T ba1 D.pn bc1,T ba2 D.kn bc2,T ba3 D.qn bc3,M U (-1),aA false]
 rw[hW9.out]
 have HB2:=af hb
 have HK2:=af (aY w1.heap.size)
 obtain⟨hC,hC2,hC3,hL,hB⟩:=jO hC hC2 hC3 hL hB hb
 obtain⟨db,hdb⟩:=bY w1.heap.size
 rw[<-hdb]at hN9⊢
 have hdl:w1.heap.size<=db:=bs hdb.symm
 clear hdb HK2
 have hD:am w2 db 75 #[M U 0,T ba1 D.pn bc1,T ba2 D.kn bc2,T ba3 D.qn bc3,M U (-1),aA false]:=hN9
 clear hN9
 obtain⟨d0,d1,d2,d3,d4,d5⟩:=aH hD
 have xx:=aJ hC
 obtain⟨y0,y1,y2,y3,y4,y5⟩:=aH hC2
 have vv:=aL hC3
 obtain⟨S1,hS1⟩:∃S1:bL,S1=(bp D (T a1 D.pn c1) (T a2 D.kn c2) (T a3 D.qn c3)).with (T ba1 D.pn bc1) (T ba2 D.kn bc2) (T ba3 D.qn bc3):=⟨_,rfl⟩
 have HXC:bj (S1.cells=#[M U 0,T ba1 D.pn bc1,T ba2 D.kn bc2,T ba3 D.qn bc3,M U (-1),aA false]):=show _=_ by rw[hS1];rfl
 rw[<-hS1]at HOw
 have s1:S1.zn=D.pn:=by rw[hS1];rfl
 have s2:S1.hn=D.kn:=by rw[hS1];rfl
 have s3:S1.sn=D.qn:=by rw[hS1];rfl
 have s4:S1.storm=false:=by rw[hS1];rfl
 have s5:∀i,S1.Z i=-1:=λi=>by rw[hS1];rfl
 have s6:∀i,S1.H i=-1:=λi=>by rw[hS1];rfl
 have s7:∀i,S1.Q i=0:=λi=>by rw[hS1];rfl
 have hS2:gC w2 S1:=(HOw.out.below HB2.out).st
 have hV2:eP w2 D:=HV.out.below hB
 have ini:∀{F:FuncId} {A:Array aw},aC prog F A w2 (uq w2)->aC prog F A w2 (vX w2 db #[M U 0,T ba1 D.pn bc1,T ba2 D.kn bc2,T ba3 D.qn bc3,M U (-1),aA false] W0):=λh=>h.mono λe w3 ⟨n,sr,st,y1,y2,y3,n1,d1,n2,d2,n3,d3,k,e1,e2,e3⟩=>⟨⟨n,sr,st,y1,y2,y3,n1,d1,n2,d2,n3,d3,k,e1,e2,ak HB1.out (ak HB2.out e3)⟩,hD.below e3⟩
 have H1:kind=1->aC prog 442 #[aN #[T za D.zn zc,T da D.dn dc,T pa D.pn pc,T ka D.kn kc,T qa D.qn qc,M U D.panel,M U D.wait],aN #[M U 0,T ba1 D.pn bc1,T ba2 D.kn bc2,T ba3 D.qn bc3,M U (-1),aA false],aN #[M U at_,M U kind,M U (wh:Int),M U what,M U wto]] w2 (vX w2 db #[M U 0,T ba1 D.pn bc1,T ba2 D.kn bc2,T ba3 D.qn bc3,M U (-1),aA false] W0):=λhk=>by have h9:=(m8 D S1 wh at_ kind what wto W0 w2 (HV.out.below HBw.out) (ak HB1.out HB2.out) HOw.out HB2.out hdl (show am w2 db 75 S1.cells by rw[HXC.out];exact hD) HG.out om om om om s4 om (p6 hk).2.2.2 (p6 hk).1 (p6 hk).2.1 (s5 wh));rw[HDC.out,HXC.out]at h9;exact h9
 have wnat:∃m:Nat,0<=what->what=(m:Int):=⟨what.toNat,λh=>by omega⟩
 obtain⟨wn,hwn⟩:=wnat
 have H2:kind=2\/kind=3\/kind=4->aC prog 443 #[aN #[T za D.zn zc,T da D.dn dc,T pa D.pn pc,T ka D.kn kc,T qa D.qn qc,M U D.panel,M U D.wait],aN #[M U 0,T ba1 D.pn bc1,T ba2 D.kn bc2,T ba3 D.qn bc3,M U (-1),aA false],aN #[M U at_,M U kind,M U (wh:Int),M U what,M U wto]] w2 (vX w2 db #[M U 0,T ba1 D.pn bc1,T ba2 D.kn bc2,T ba3 D.qn bc3,M U (-1),aA false] W0):=λhk=>by have h9:=p7 hk;rw[hwn h9.1];exact ini (HDC.out▸HXC.out▸(oK D S1 wh wn at_ kind wto w2 hV2 hS2 s4 g4.1 (s5 wh) om hk (by have:=hwn h9.1;omega) (s6 wn)))
 have H3:kind=5\/kind=6\/kind=7->aC prog 444 #[aN #[T za D.zn zc,T da D.dn dc,T pa D.pn pc,T ka D.kn kc,T qa D.qn qc,M U D.panel,M U D.wait],aN #[M U 0,T ba1 D.pn bc1,T ba2 D.kn bc2,T ba3 D.qn bc3,M U (-1),aA false],aN #[M U at_,M U kind,M U (wh:Int),M U what,M U wto]] w2 (vX w2 db #[M U 0,T ba1 D.pn bc1,T ba2 D.kn bc2,T ba3 D.qn bc3,M U (-1),aA false] W0):=λhk=>by have h9:=p8 hk;rw[hwn h9.1];exact ini (HDC.out▸HXC.out▸(lH D S1 wh wn at_ kind wto w2 hV2 hS2 s4 g4.1 (s5 wh) om (by have:=hwn h9.1;omega)))
 have H4:kind=8\/kind=9->aC prog 445 #[aN #[T za D.zn zc,T da D.dn dc,T pa D.pn pc,T ka D.kn kc,T qa D.qn qc,M U D.panel,M U D.wait],aN #[M U 0,T ba1 D.pn bc1,T ba2 D.kn bc2,T ba3 D.qn bc3,M U (-1),aA false],aN #[M U at_,M U kind,M U (wh:Int),M U what,M U wto]] w2 (vX w2 db #[M U 0,T ba1 D.pn bc1,T ba2 D.kn bc2,T ba3 D.qn bc3,M U (-1),aA false] W0):=λhk=>by have h9:=p9 hk;rw[hwn h9.1];exact ini (HDC.out▸HXC.out▸(j6 D S1 wh wn at_ kind wto w2 hV2 hS2 s4 g4.1 (s5 wh) om hk (by have:=hwn h9.1;omega) (λi _=>s7 i) om))
 have hks:kind=1\/kind=2\/kind=3\/kind=4\/kind=5\/kind=6\/kind=7\/kind=8\/kind=9:=om
 have hdz:W0.heap.size<=db:=aO HB1.out.size hdl
 have htd:tb<db:=om
 clear s1 s2 s3 s4 s5 s6 s7 hS2 hV2 hS1 HXC HOw ini p1 p6 p7 p8 p9 p10 hwn g4
 have grp:kind=1\/(kind=2\/kind=3\/kind=4)\/(kind=5\/kind=6\/kind=7)\/(kind=8\/kind=9):=om
 clear hks
 rcases grp with rfl|hk|hk|hk
 ·go_wp2_with fail
  refine(H1 (by first|trivial|simp)).mono ?_
  exact R94
 ·rcases hk with rfl|rfl|rfl
  all_goals
   go_wp2_with fail
   refine(H2 (by first|trivial|simp)).mono ?_
   exact R94
 ·rcases hk with rfl|rfl|rfl
  all_goals
   go_wp2_with fail
   refine(H3 (by first|trivial|simp)).mono ?_
   exact R94
 rcases hk with rfl|rfl
 all_goals
  go_wp2_with fail
  refine(H4 (by first|trivial|simp)).mono ?_
  exact R94
end
section
open Tryz
open Go.RowKit Go.Shelf
attribute [local go_sem] Oper.semAt_some
def StK (w:aj) (c:Int->Prop) (e:Ending) (w1:aj):Prop:=∃(n sr:Int) (st:Bool) (a1 a2 a3:Option Addr) (n1 c1 n2 c2 n3 c3:Nat) (k:Int),e=ar (.tuple #[aN #[M U n,T a1 n1 c1,T a2 n2 c2,T a3 n3 c3,M U sr,aA st],M U k])/\c k/\ap w.heap.size w w1
def doK (ac k:Int):Prop:=if ac=0 then(k=0\/171<=k)else k=ac
theorem o7 (D:bE) (zv hv qv:aw) (at_ kind who what wto:Int) (w:aj) (hV:eP w D) (hS:gC w (bp D zv hv qv)) (hE:(eF D).2.2=0):
  aC prog 275 #[aN D.cells,aN (bp D zv hv qv).cells,aN #[M U at_,M U kind,M U who,M U what,M U wto]] w (StK w (doK (dm D at_ kind who what wto))):=by
 have hG:=du hE
 have HCs:=af (λW (h:ap w.heap.size w W)=>jp D zv hv qv W (hV.below h) (hS.below h) hE)
 have HAc:=af (λW (h:ap w.heap.size w W)=>qu D at_ kind who what wto W (hV.below h) hG)
 have HDn:=af (λ(h0:dm D at_ kind who what wto=0) W (h:ap w.heap.size w W)=>kT D zv hv qv at_ kind who what wto W (hV.below h) (hS.below h) hE h0)
 obtain⟨za,zc,da,dc,pa,pc,ka,kc,qa,qc,HDC,HRz,HRd,HRp,HRk,HRq⟩:=hV.lit
 obtain⟨a1,c1,a2,c2,a3,c3,hw1,hw2,hw3⟩:=hS.forms
 simp only[bp]at hw1 hw2 hw3
 subst hw1 hw2 hw3
 have HSC:bj ((bp D (T a1 D.pn c1) (T a2 D.kn c2) (T a3 D.qn c3)).cells=#[M U 0,T a1 D.pn c1,T a2 D.kn c2,T a3 D.qn c3,M U (-1),aA false]):=show _=_ from rfl
 rw[HDC.out,HSC.out]at HCs HDn
 rw[HDC.out]at HAc
 rw[HDC.out,HSC.out]
 generalize dm D at_ kind who what wto=ac at *
 clear hV hG
 obtain⟨W0,HW0,hC,hC2,hC3,hL,hB⟩:=oZ w 55 #[T za D.zn zc,T da D.dn dc,T pa D.pn pc,T ka D.kn kc,T qa D.qn qc,M U D.panel,M U D.wait] 75 #[M U 0,T a1 D.pn c1,T a2 D.kn c2,T a3 D.qn c3,M U (-1),aA false] 294 #[M U at_,M U kind,M U who,M U what,M U wto] 75 #[M U 0,T ag 0 0,T ag 0 0,T ag 0 0,M U 0,aA false]
 go_enter func275,ntmps275
 go_upto_region 1 with fail
 rw[HW0.out]
 obtain⟨xb,hxe⟩:=bY w.heap.size
 rw[<-hxe]at hC hC2 hC3 hL⊢
 obtain⟨yb,hyb⟩:=bY (xb+1)
 rw[<-hyb]
 rw[show xb+1=yb by omega]at hC2
 obtain⟨zb,hzb⟩:=bY (yb+1)
 rw[<-hzb]
 rw[show xb+2=zb by omega]at hC3
 obtain⟨tb,htb⟩:=bY (zb+1)
 rw[<-htb]
 rw[show xb+3=tb by omega]at hL
 have l1:w.heap.size<=xb:=om
 have l3:xb<yb:=om
 have l4:yb<zb:=om
 have l5:zb<tb:=om
 clear hxe HW0 hyb hzb htb
 have xx:=aJ hC
 obtain⟨y0,y1,y2,y3,y4,y5⟩:=aH hC2
 have vv:=aL hC3
 go_wp2_with fail
 refine aZ (HCs.out _ hB) ?_
 intro w1 hb
 obtain⟨hC,hC2,hC3,hL,hB⟩:=jO hC hC2 hC3 hL hB hb
 have xx:=aJ hC
 obtain⟨y0,y1,y2,y3,y4,y5⟩:=aH hC2
 have vv:=aL hC3
 go_wp2_with fail
 refine aZ (HAc.out _ hB) ?_
 intro w2 hb
 obtain⟨hC,hC2,hC3,hL,hB⟩:=jO hC hC2 hC3 hL hB hb
 have xx:=aJ hC
 obtain⟨y0,y1,y2,y3,y4,y5⟩:=aH hC2
 have vv:=aL hC3
 by_cases h0:ac=0
 rotate_left
 ·have h0b:(ac != 0)=true:=by simpa using h0
  have h0c:(ac==0)=false:=by simpa using h0
  have tt:=aH hL
  have m0:=hL.frozen 0
  have m1:=hL.frozen 1
  have m2:=hL.frozen 2
  have m3:=hL.frozen 3
  have m4:=hL.frozen 4
  have m5:=hL.frozen 5
  go_wp2_with fail
  have hL9:=dQ hL (M U 0) (T ag 0 0) (T ag 0 0) (T ag 0 0) (M U 0) (aA false)
  have hB9:=dO hB (show w.heap.size<=tb by omega) (M U 0) (T ag 0 0) (T ag 0 0) (T ag 0 0) (M U 0) (aA false)
  generalize((((((w2.setCell ⟨tb,0,ag⟩ (M U 0)).setCell ⟨tb,1,ag⟩ (T ag 0 0)).setCell ⟨tb,2,ag⟩ (T ag 0 0)).setCell ⟨tb,3,ag⟩ (T ag 0 0)).setCell ⟨tb,4,ag⟩ (M U 0)).setCell ⟨tb,5,ag⟩ (aA false))=w9 at *
  have tt:=aH hL9
  refine bG (P:=prog) (fn:=f275) (v:= .tuple #[aN #[M U 0,T ag 0 0,T ag 0 0,T ag 0 0,M U 0,aA false],M U ac]) ?_ rfl ?_
  ·simp[results,results275,go_sem, *]
  exact⟨_,_,_,_,_,_,_,_,_,_,_,_,ac,rfl,(by unfold doK;rw[if_neg h0]),hB9⟩
 subst h0
 have HD:=HDn.out rfl
 go_wp2_with fail
 refine(HD _ hB).mono ?_
 rintro e w3 ⟨n,sr,st,y1,y2,y3,n1,e1,n2,e2,n3,e3,k,rfl,hk,hb⟩
 obtain⟨hC,hC2,hC3,hL,hB⟩:=jO hC hC2 hC3 hL hB hb
 clear HD
 have tt:=aH hL
 have m0:=hL.frozen 0
 have m1:=hL.frozen 1
 have m2:=hL.frozen 2
 have m3:=hL.frozen 3
 have m4:=hL.frozen 4
 have m5:=hL.frozen 5
 go_wp2_with fail
 have hL9:=dQ hL (M U n) (T y1 n1 e1) (T y2 n2 e2) (T y3 n3 e3) (M U sr) (aA st)
 have hB9:=dO hB (show w.heap.size<=tb by omega) (M U n) (T y1 n1 e1) (T y2 n2 e2) (T y3 n3 e3) (M U sr) (aA st)
 generalize((((((w3.setCell ⟨tb,0,ag⟩ (M U n)).setCell ⟨tb,1,ag⟩ (T y1 n1 e1)).setCell ⟨tb,2,ag⟩ (T y2 n2 e2)).setCell ⟨tb,3,ag⟩ (T y3 n3 e3)).setCell ⟨tb,4,ag⟩ (M U sr)).setCell ⟨tb,5,ag⟩ (aA st))=w9 at *
 have tt:=aH hL9
 refine bG (P:=prog) (fn:=f275) (v:= .tuple #[aN #[M U n,T y1 n1 e1,T y2 n2 e2,T y3 n3 e3,M U sr,aA st],M U k]) ?_ rfl ?_
 ·simp[results,results275,go_sem, *]
 exact⟨_,_,_,_,_,_,_,_,_,_,_,_,k,rfl,(by unfold doK;rw[if_pos rfl];exact hk),hB9⟩
theorem nC (D:fO) (at_ kind who what wto:Int) (w:aj) (hV:rf w D) (hE:(eF D.pd).2.2=0):
  aC prog 197 #[aN D.cells,aN #[M U at_,M U kind,M U who,M U what,M U wto]] w λe w'=>e=ar (M U (dm D.pd at_ kind who what wto))/\ap w.heap.size w w':=by
 have HA:=af (ma D.pd at_ kind who what wto)
 have HST:=af (λW (h:ap w.heap.size w W)=>mI D.pd W (hV.p.below h) hE)
 have HDO:=af (λ(zv hv qv:aw) (W:aj) (h:ap w.heap.size w W) (hS:gC W (bp D.pd zv hv qv))=>o7 D.pd zv hv qv at_ kind who what wto W (hV.p.below h) hS hE)
 obtain⟨sa,sc,ba,bc,ta,tc,qa,qc,hvs,hvb,hvt,hvp⟩:=hV.forms
 obtain⟨za,zc,da,dc,pa,pc,ka,kc,ga,gc,hz1,hz2,hz3,hz4,hz5⟩:=hV.p.forms
 have HDC:bj (D.cells=#[T za D.pd.zn zc,T da D.pd.dn dc,T pa D.pd.pn pc,T ka D.pd.kn kc,T ga D.pd.qn gc,M U D.pd.panel,M U D.pd.wait,T sa D.sn sc,T ba D.bn bc,T ta D.tn tc,T qa D.pn qc,M U D.wlo,M U D.whi]):=show _=_ by unfold fO.cells;rw[hvs,hvb,hvt,hvp,hz1,hz2,hz3,hz4,hz5]
 have HPC:bj (D.pd.cells=#[T za D.pd.zn zc,T da D.pd.dn dc,T pa D.pd.pn pc,T ka D.pd.kn kc,T ga D.pd.qn gc,M U D.pd.panel,M U D.pd.wait]):=show _=_ by unfold bE.cells;rw[hz1,hz2,hz3,hz4,hz5]
 have HRs:=af (show aU w (T sa D.sn sc) _ _ _ from hvs▸hV.s)
 have HRb:=af (show aU w (T ba D.bn bc) _ _ _ from hvb▸hV.b)
 have HRt:=af (show aU w (T ta D.tn tc) _ _ _ from hvt▸hV.t)
 have HRq:=af (show aU w (T qa D.pn qc) _ _ _ from hvp▸hV.q)
 rw[HDC.out]
 rw[HPC.out]at HST HDO
 generalize hac:dm D.pd at_ kind who what wto=ac at *
 clear hac
 clear hvs hvb hvt hvp hz1 hz2 hz3 hz4 hz5
 obtain⟨W0,xb,HW0,hC,hC2,hB⟩:=pf w 59 #[T za D.pd.zn zc,T da D.pd.dn dc,T pa D.pd.pn pc,T ka D.pd.kn kc,T ga D.pd.qn gc,M U D.pd.panel,M U D.pd.wait,T sa D.sn sc,T ba D.bn bc,T ta D.tn tc,T qa D.pn qc,M U D.wlo,M U D.whi] 294 #[M U at_,M U kind,M U who,M U what,M U wto]
 go_enter func197,ntmps197
 go_upto_region 1 with fail
 rw[HW0.out.1,HW0.out.2]
 obtain⟨yb,hye⟩:=bY (xb+1)
 rw[<-hye]at hC2⊢
 clear hye
 clear HW0
 have xx:=aX hC
 have yy:=aL hC2
 go_wp2_with fail
 refine(HST.out _ hB).mono ?_
 rintro e w1 ⟨zv,hv,qv,rfl,hS1,hb⟩
 obtain⟨hC,hC2,hB⟩:=bM hC hC2 hB hb
 have HS1:=af hS1
 have HD1:=af (HDO.out zv hv qv)
 obtain⟨za9,z1,hze,-⟩:=id hS1.z
 obtain⟨ha9,h1,hhe,-⟩:=id hS1.h
 obtain⟨qa9,q1,hqe,-⟩:=id hS1.q
 unfold bp at hze hhe hqe
 simp only at hze hhe hqe
 subst hze hhe hqe
 clear hS1 HDO HST
 unfold bL.cells bp at HD1⊢
 simp only at HD1
 have xx:=aX hC
 have yy:=aL hC2
 go_upto_region 2 with fail
 obtain⟨w2,hW9,hN9,hb⟩:=bW w1 75 #[M U 0,T za9 D.pd.pn z1,T ha9 D.pd.kn h1,T qa9 D.pd.qn q1,M U (-1),aA false]
 rw[hW9.out]
 have HS2:=af (HS1.out.below hb);clear HS1
 obtain⟨hC,hC2,hB⟩:=bM hC hC2 hB hb
 generalize w1.heap.size=db at *
 have hD:=hN9
 have dd:=aH hD
 clear hN9
 have xx:=aX hC
 have yy:=aL hC2
 go_wp2_with fail
 refine(HD1.out _ hB HS2.out).mono ?_
 rintro e w3 ⟨n,sr,st,t1,t2,t3,n1,e1,n2,e2,n3,e3,k,rfl,hk,hb⟩
 clear HS2 HD1
 obtain⟨hC,hC2,hD,hB⟩:=oy hC hC2 hD hB hb
 unfold doK at hk
 by_cases hac:ac=0
 rotate_left
 ·rw[if_neg hac]at hk
  subst hk
  have hk2:¬(170:Int)<=k:=by have:=HA.out;omega
  exact uh
 subst hac
 rw[if_pos rfl]at hk
 by_cases hk0:k=0
 ·subst hk0
  exact uh
 have hk2:(170:Int)<=k:=om
 exact uh
end
section
open Tryz
open Go.RowKit Go.Shelf
attribute [local go_sem] Oper.semAt_some
def rp (N:Nat->ByteArray) (n:Nat):Int×Int:=match aB (eu N) n 0 with
 |some (i,e)=>(((i:Nat):Int),e)
 |none=>(0,0)
theorem sk (N:Nat->ByteArray) (i:Nat):eu N i=if !dq (N i).data.toList then ai 6 else if bI (λk=>ej (N k) (N i)) i then ai 5 else ag:=by
 unfold eu eR
 cases dq (N i).data.toList<;>cases bI (λk=>ej (N k) (N i)) i<;>simp
theorem iD {f:Nat->Option Int} {n:Nat}:∀{k:Nat},k<=n->(∀i,i<k->f i=ag)->aB f n 0=aB f (n - k) k
 |0,_,_=>rfl
 |k+1,hk,h=>(iD (k:=k) om (λi hi=>h i om)).trans (gu om (h k om))
theorem sf {N:Nat->ByteArray} {i:Nat} (h:∀k,k<i->eR N k=0):rp N (i+1)=if eR N i=0 then(0,0)else((i:Int),eR N i):=by
 unfold rp
 rw[iD (k:=i) om (λk hk=>by unfold eu;rw[if_pos (h k hk)])]
 rw[show i+1 - i=1 by omega]
 unfold aB eu
 by_cases h0:eR N i=0
 ·rw[if_pos h0,if_pos h0];rfl
 rw[if_neg h0,if_neg h0]
theorem iM (n:Nat) (N:Nat->ByteArray) (v:aw) (w:aj) (hR:aU w v n 1 (λi _=>ay (N i))) (hn:n<=100) (hN:∀i,i<n->(N i).size<=9223372036854775806):
  aC prog 119 #[v] w (E2 w (rp N n)):=by
 obtain⟨a,c,rfl,hac,hx⟩:=id hR
 have HRr:=af hR
 have HN:=af hN
 clear hR hN
 obtain⟨r,HS⟩:=dR (rp N n)
 rw[<-HS.out]
 go_enter func119,ntmps119
 go_wp2_with fail
 go_loopw [4] (λt wr=>∃j:Nat,j<=n/\t=M U (j:Int)/\bj (aB (eu N) n 0=aB (eu N) (n - j) j)/\ap w.heap.size w wr) (λt _=>n - (aV t).toNat)
 case atStart=>exact⟨0,aF _,rfl,show _=_ from rfl,au _ _⟩
 case round=>
  obtain⟨j,hj,rfl,HJ,hB⟩:=hrel
  by_cases hlt:j<n
  rotate_left
  ·obtain rfl:j=n:=om
   have hJ:=HJ.out.trans (bh (eu N) j)
   clear HJ
   have hnj:¬(j:Int)<(j:Int):=om
   go_wp2_with fail
   go_ret2
   refine⟨?_,hB⟩
   rw[HS.out]
   simp[rp, *]
  have HF:=af (HJ.out.trans (bf (eu N) hlt))
  have HQ:=af (sk N j)
  clear HJ
  have hNj:=HN.out j hlt
  have i2:(j:Int)<(n:Int):=om
  obtain⟨bb,bo,rfl,bl,hc⟩:=(HRr.out.below hB).elem hlt
  have e0:wr.cell? ⟨bb,bo+j,ag⟩=ai (ay (N j)):=by have h:=hc 0 om;rw[Nat.mul_one,bq]at h;exact h
  generalize hb0:N j=b0 at *
  have HB0:=af hb0
  clear hb0
  go_wp2_with fail
  refine bm (dZ _ _ hNj) ?_
  rintro(_|_) g
  ·exact T96
  go_wp2_with fail
  go_loopw [5] (λt wr=>∃m:Nat,m<=j/\t=M U (m:Int)/\bj (∀k,k<m->ej (N k) b0=false)/\ap w.heap.size w wr) (λt _=>j - (aV t).toNat)
  case atStart=>exact⟨0,aF _,rfl,show∀k,k<0->_ from(λk h=>absurd h om),hB⟩
  case round=>
   clear hB
   obtain⟨m,hm,rfl,HM,hB⟩:=hrel
   by_cases hl2:m<j
   rotate_left
   ·obtain rfl:m=j:=om
    have hA:=bT HM.out
    clear HM
    have hmm:¬(m:Int)<(m:Int):=om
    have HJ2:bj (aB (eu N) n 0=aB (eu N) (n - (m+1)) (m+1)):=by
     have h9:=HQ.out
     rw[hA]at h9
     simp[g]at h9
     unfold bj;rw[HF.out,h9]
    clear HF HQ
    go_wp2_with fail
    go_roundw
    case rel=>exact⟨m+1,by omega,by go_num,HJ2,hB⟩
    case measure=>simp[aV];omega
   obtain⟨cb,co,hq,bl2,hc⟩:=(HRr.out.below hB).elem (show m<n by omega)
   obtain⟨rfl,rfl⟩:bb=cb/\bo=co:=by simpa using hq
   have e1:wr.cell? ⟨bb,bo+m,ag⟩=ai (ay (N m)):=by have h:=hc 0 om;rw[Nat.mul_one,bq]at h;exact h
   obtain⟨cb,co,hq2,-,hc2⟩:=(HRr.out.below hB).elem hlt
   obtain⟨rfl,rfl⟩:bb=cb/\bo=co:=by simpa using hq2
   have e0:wr.cell? ⟨bb,bo+j,ag⟩=ai (ay b0):=by have h:=hc2 0 om;rw[Nat.mul_one,bq,HB0.out]at h;exact h
   clear hc hc2 hq hq2
   have HM2:=af (λh=>dS (p:=λk=>ej (N k) b0) (m:=m) HM.out h)
   have HH:=af (λh=>cd (p:=λk=>ej (N k) b0) hl2 h)
   clear HM
   have i3:(m:Int)<(j:Int):=om
   have i4:(m:Int)<(n:Int):=om
   obtain⟨nn,hnn⟩:∃nn,nn=N m:=⟨_,rfl⟩
   simp only[<-hnn]at HM2 HH e1
   clear hnn
   go_upto_region 9 with fail
   go_quiet (fail)
   have hb:=aM (au wr.heap.size wr) nq
   replace hB:=ak hB hb
   generalize wr.drewN nq=w2 at *
   cases hg:(nn.toList==b0.toList)
   ·have HM:=af (HM2.out hg)
    clear HM2 HH
    go_wp2_with fail
    go_roundw
    case rel=>exact⟨m+1,by omega,by go_num,HM,hB⟩
    case measure=>simp[aV];omega
   have hA:=HH.out hg
   clear HM2 HH
   exact T96
theorem jA (n i:Nat) (N:Nat->ByteArray) (v:aw) (w:aj) (hR:aU w v n 1 (λi _=>ay (N i))) (hn:n<=100) (hi:i<n) (hN:∀i,i<n->(N i).size<=9223372036854775806) (h0:∀k,k<i->eR N k=0):
  aC prog 120 #[v,M U (i:Int)] w λe w'=>e=ar (M U (eR N i))/\ap w.heap.size w w':=by
 obtain⟨a,c,rfl,hac,hx⟩:=id hR
 have HNs:=af (show aC prog 119 #[T a (i+1) c] w _ from(by have h9:=iM (i+1) N _ w (hR.take (show i+1<=n by omega)) om (λk hk=>hN k om);rw[sf h0]at h9;unfold E2 at h9;exact h9))
 clear hR
 skip
 have w1:IntKind.i64.wrap ((i:Int)+1)=((i+1:Nat):Int):=by rw[aD ((i:Int)+1) ⟨by omega,by omega⟩];omega
 have i2:((i+1:Nat):Int)<=(n:Int):=om
 have i3:((i+1:Nat):Int)<=(c:Int):=om
 generalize eR N i=q at *
 by_cases hq:q=0
 rotate_left
 ·rw[if_neg hq]at HNs
  simp only at HNs
  go_enter func120,ntmps120
  go_wp2_with fail
  refine aZ HNs.out ?_
  intro w2 hB
  exact gU
 subst hq
 rw[if_pos rfl]at HNs
 simp only at HNs
 go_enter func120,ntmps120
 go_wp2_with fail
 refine aZ HNs.out ?_
 intro w2 hB
 by_cases hi0:i=0
 ·subst hi0
  exact gU
 have hib:((0:Int) != (i:Int))=true:=by simp;omega
 exact gU
theorem jY (n:Nat) (R:Nat->Int) (many:Int) (v:aw) (w:aj) (hR:aU w v n 1 (bw λi _=>R i)) (hn:n<=1125899906842624) (hm:-1000000000<=many/\many<=1000000000):
  aC prog 195 #[v,M U many] w λe w'=>e=ar (aA (!ia many R n))/\ap w.heap.size w w':=by
 obtain⟨a,c,rfl,hac,hx⟩:=id hR
 have HRr:=af hR
 have hw:=aD (many - 1) ⟨by omega,by omega⟩
 clear hR
 obtain⟨r,HS⟩:=dR (ia many R n)
 rw[<-HS.out]
 have HX:bj (ia many R n=bI (λi=>aI (R i) 0 (many - 1)) n):=show _=_ from rfl
 go_enter func195,ntmps195
 go_wp2_with fail
 go_loopw [5] (λt wr=>∃j:Nat,j<=n/\t=M U (j:Int)/\bj (∀k,k<j->aI (R k) 0 (many - 1)=false)/\ap w.heap.size w wr) (λt _=>n - (aV t).toNat)
 case atStart=>exact⟨0,aF _,rfl,show∀k,k<0->_ from(λk h=>absurd h om),au _ _⟩
 case round=>
  obtain⟨j,hj,rfl,HM,hB⟩:=hrel
  by_cases hlt:j<n
  rotate_left
  ·obtain rfl:j=n:=om
   have hA:=bT HM.out
   clear HM
   have hjj:¬(j:Int)<(j:Int):=om
   go_wp2_with fail
   go_ret
   exact⟨bt (by rw[HS.out,HX.out,hA];rfl),hB⟩
  obtain⟨bb,bo,rfl,bl,hc⟩:=(HRr.out.below hB).elem hlt
  have e0:wr.cell? ⟨bb,bo+j,ag⟩=ai (M U (R j)):=eI hc
  have HN:=af (λh=>dS (p:=λk=>aI (R k) 0 (many - 1)) (m:=j) HM.out h)
  have HH:=af (λh=>cd (p:=λk=>aI (R k) 0 (many - 1)) hlt h)
  clear HM
  have i2:(j:Int)<(n:Int):=om
  go_wp2_with fail
  refine aR (dK _ _ _ _) ?_
  rintro(_|_) g
  rotate_left
  ·have hA:=HH.out g
   clear HN HH
   go_wp2_with fail
   go_ret
   exact⟨bt (by rw[HS.out,HX.out,hA];rfl),hB⟩
  have HM:=af (HN.out g)
  exact wo
theorem qs {R:Nat->Int} {n:Nat} (h:∀k,k+1<n->decide (R (k+1)<=R k)=false):gD R n=false:=bT (λi hi=>by
 cases i with
 |zero=>rfl
 |succ k=>have h2:=h k hi;simp at h2⊢;omega)
theorem rz {R:Nat->Int} {n k:Nat} (hk:k+1<n) (h:decide (R (k+1)<=R k)=true):gD R n=true:=cd (p:=λi=>decide (0<i)&&decide (R i<=R (i - 1))) hk (by simpa using h)
theorem pU (n:Nat) (R:Nat->Int) (v:aw) (w:aj) (hR:aU w v n 1 (bw λi _=>R i)) (hn:n<=1125899906842624):
  aC prog 196 #[v] w λe w'=>e=ar (aA (!gD R n))/\ap w.heap.size w w':=by
 obtain⟨a,c,rfl,hac,hx⟩:=id hR
 have HRr:=af hR
 clear hR
 obtain⟨r,HS⟩:=dR (gD R n)
 rw[<-HS.out]
 have HNo:=af (@qs R n)
 have HHi:=af (λ(k:Nat) (hk:k+1<n) h=>rz (R:=R) hk h)
 go_enter func196,ntmps196
 go_wp2_with fail
 go_loopw [3] (λt wr=>∃j:Nat,t=M U ((j+1:Nat):Int)/\(j=0\/j+1<=n)/\bj (∀k,k<j->decide (R (k+1)<=R k)=false)/\ap w.heap.size w wr) (λt _=>n - (aV t).toNat)
 case atStart=>exact⟨0,rfl,Or.inl rfl,show∀k,k<0->_ from(λk h=>absurd h om),au _ _⟩
 case round=>
  obtain⟨j,rfl,hj,HM,hB⟩:=hrel
  by_cases hlt:j+1<n
  rotate_left
  ·have hA:=HNo.out (λk hk=>HM.out k om)
   clear HM
   have hjj:¬((j+1:Nat):Int)<(n:Int):=om
   go_wp2_with fail
   go_ret
   exact⟨bt (by rw[HS.out,hA];rfl),hB⟩
  obtain⟨bb,bo,rfl,bl,hc⟩:=(HRr.out.below hB).elem hlt
  have e0:wr.cell? ⟨bb,bo+(j+1),ag⟩=ai (M U (R (j+1))):=eI hc
  obtain⟨cb,co,hq,-,hc2⟩:=(HRr.out.below hB).elem (show j<n by omega)
  obtain⟨rfl,rfl⟩:bb=cb/\bo=co:=by simpa using hq
  have e1:wr.cell? ⟨bb,bo+j,ag⟩=ai (M U (R j)):=eI hc2
  have HN:=af (λh=>dS (p:=λk=>decide (R (k+1)<=R k)) (m:=j) HM.out h)
  have HH:=af (λh=>HHi.out j hlt h)
  clear HM
  generalize R (j+1)=y1 at *
  generalize R j=y2 at *
  have k1:(((j+1:Nat):Int) - 1)=(j:Int):=om
  have k2:=aD (((j+1:Nat):Int) - 1) ⟨by omega,by omega⟩
  have i2:((j+1:Nat):Int)<(n:Int):=om
  have i3:(j:Int)<(n:Int):=om
  go_upto_region 4 with fail
  go_quiet (fail)
  have hb:=aM (au wr.heap.size wr) nq
  replace hB:=ak hB hb
  generalize wr.drewN nq=w2 at *
  by_cases hy:y1<=y2
  ·have hA:=HH.out (by simpa using hy)
   clear HN HH
   go_wp2_with fail
   go_ret
   exact⟨bt (by rw[HS.out,hA];rfl),hB⟩
  have HM:=af (HN.out (by simpa using hy))
  clear HN HH
  go_wp2_with fail
  go_roundw
  case rel=>exact⟨j+1,by go_num,by omega,HM,hB⟩
  case measure=>simp[aV];omega
end
section
open Tryz
open Go.RowKit Go.Shelf
attribute [local go_sem] Oper.semAt_some
theorem tW (l m:Int):(aI m 0 20000||aI l 0 m)=(aI l 0 20000||aI m l 20000):=by
 rw[Bool.eq_iff_iff];unfold aI;simp;omega
theorem od (D:fO) (i:Nat) (v:aw) (w:aj) (hV:rf w D) (hE:(eF D.pd).2.2=0) (hi:i<D.tn) (htn:D.tn<=16) (hbn:D.bn<=6) (hAll:aU w v (i+1) 1 (λk _=>ay (D.TN k))) (h0:∀k,k<i->eR D.TN k=0):
  aC prog 121 #[aN D.cells,v,M U (i:Int)] w λe w'=>e=ar (M U (gR D i))/\ap w.heap.size w w':=by
 obtain⟨va,vc,rfl,hvac,hx⟩:=id hAll
 clear hx
 have HNm:=af (λW (h:ap w.heap.size w W)=>jA (i+1) i D.TN _ W (hAll.below h) om om (λk hk=>hV.nt k om) h0)
 clear hAll
 have HWr:=af (λ(a k x y z:Int) W (h:ap w.heap.size w W)=>nC D a k x y z W (hV.below h) hE)
 have HI:=af (λ(k:Nat) (hk:k<4) (m:Int) (hm:-1000000000<=m/\m<=1000000000) W (h:ap w.heap.size w W)=>jY (D.LN i k) (D.LV i k) m _ W ((hV.l i k hi hk).1.below h) (hV.l i k hi hk).2 hm)
 have HM:=af (λ(k:Nat) (hk:k<4) W (h:ap w.heap.size w W)=>pU (D.LN i k) (D.LV i k) _ W ((hV.l i k hi hk).1.below h) (hV.l i k hi hk).2)
 have HA:=af (hV.a i hi)
 unfold fO.V at HI HM
 have HE2:bj (kK D i=if iT D i then 4 else if kg D i then 2 else if aI (D.TL i) 0 20000||aI (D.TM i) (D.TL i) 20000 then 7 else if 8<D.AN i then 3 else mV D i):=show _=_ by unfold kK;rw[tW]
 have HE:bj (gR D i=if eR D.TN i≠0 then eR D.TN i else kK D i):=show _=_ from rfl
 have HCA:bj (mV D i=match aB (eV D i) (D.AN i) 0 with|some (_,e)=>e|none=>0):=show _=_ from rfl
 have HSA:bj (iT D i=(ia i (D.LV i 0) (D.LN i 0)||(ia D.bn (D.LV i 1) (D.LN i 1)||(ia D.bn (D.LV i 2) (D.LN i 2)||ia D.bn (D.LV i 3) (D.LN i 3))))):=show _=_ from rfl
 have HMA:bj (kg D i=(gD (D.LV i 0) (D.LN i 0)||(gD (D.LV i 1) (D.LN i 1)||(gD (D.LV i 2) (D.LN i 2)||gD (D.LV i 3) (D.LN i 3))))):=show _=_ from rfl
 obtain⟨sa,sc,ba,bc,ta,tc,qa,qc,hvs,hvb,hvt,hvp⟩:=hV.forms
 obtain⟨za,zc,da,dc,pa,pc,ka,kc,ga,gc,hz1,hz2,hz3,hz4,hz5⟩:=hV.p.forms
 have HDC:bj (D.cells=#[T za D.pd.zn zc,T da D.pd.dn dc,T pa D.pd.pn pc,T ka D.pd.kn kc,T ga D.pd.qn gc,M U D.pd.panel,M U D.pd.wait,T sa D.sn sc,T ba D.bn bc,T ta D.tn tc,T qa D.pn qc,M U D.wlo,M U D.whi]):=show _=_ by unfold fO.cells;rw[hvs,hvb,hvt,hvp,hz1,hz2,hz3,hz4,hz5]
 have HPC:bj (D.pd.cells=#[T za D.pd.zn zc,T da D.pd.dn dc,T pa D.pd.pn pc,T ka D.pd.kn kc,T ga D.pd.qn gc,M U D.pd.panel,M U D.pd.wait]):=show _=_ by unfold bE.cells;rw[hz1,hz2,hz3,hz4,hz5]
 have HRs:=af (show aU w (T sa D.sn sc) _ _ _ from hvs▸hV.s)
 have HRb:=af (show aU w (T ba D.bn bc) _ _ _ from hvb▸hV.b)
 have HRt:=af (show aU w (T ta D.tn tc) _ _ _ from hvt▸hV.t)
 have HRq:=af (show aU w (T qa D.pn qc) _ _ _ from hvp▸hV.q)
 rw[HDC.out]
 rw[HDC.out]at HWr
 clear hvs hvb hvt hvp hz1 hz2 hz3 hz4 hz5
 obtain⟨W0,xb,HW0,hC,hB⟩:=eB w 59 #[T za D.pd.zn zc,T da D.pd.dn dc,T pa D.pd.pn pc,T ka D.pd.kn kc,T ga D.pd.qn gc,M U D.pd.panel,M U D.pd.wait,T sa D.sn sc,T ba D.bn bc,T ta D.tn tc,T qa D.pn qc,M U D.wlo,M U D.whi]
 obtain⟨r,HS⟩:=dR (gR D i)
 rw[<-HS.out]
 go_enter func121,ntmps121
 go_upto_region 1 with fail
 rw[HW0.out.1,HW0.out.2]
 clear HW0
 have xx:=aX hC
 obtain⟨tb,ts,rfl,tl0,hc⟩:=(HRt.out.below hB).elem hi
 have e0:W0.cell? ⟨tb,ts+i*9,ag⟩=ai (ay (D.TN i)):=hc 0 om
 have e1:W0.cell? ⟨tb,ts+i*9+1,ag⟩=ai (D.V i 0):=hc 1 om
 have e2:W0.cell? ⟨tb,ts+i*9+2,ag⟩=ai (M U (D.TL i)):=hc 2 om
 have e3:W0.cell? ⟨tb,ts+i*9+3,ag⟩=ai (M U (D.TM i)):=hc 3 om
 have e4:W0.cell? ⟨tb,ts+i*9+4,ag⟩=ai (aA (D.TP i)):=hc 4 om
 have e5:W0.cell? ⟨tb,ts+i*9+5,ag⟩=ai (D.V i 1):=hc 5 om
 have e6:W0.cell? ⟨tb,ts+i*9+6,ag⟩=ai (D.V i 2):=hc 6 om
 have e7:W0.cell? ⟨tb,ts+i*9+7,ag⟩=ai (D.V i 3):=hc 7 om
 have e8:W0.cell? ⟨tb,ts+i*9+8,ag⟩=ai (T (D.AA i) (D.AN i) (D.AC i)):=hc 8 om
 unfold fO.V at e1 e5 e6 e7
 clear hc
 generalize hnm:D.TN i=nm at *
 clear hnm
 generalize D.TL i=tl at *
 generalize D.TM i=tm at *
 generalize D.TP i=tp at *
 generalize D.AA i=aa at *
 generalize D.AN i=an at *
 generalize D.AC i=ac at *
 have i2:(i:Int)<(D.tn:Int):=om
 go_upto_region 2 with fail
 obtain⟨w1,hW9,hN9,hb⟩:=bW W0 139 #[ay nm,T (D.LA i 0) (D.LN i 0) (D.LC i 0),M U tl,M U tm,aA tp,T (D.LA i 1) (D.LN i 1) (D.LC i 1),T (D.LA i 2) (D.LN i 2) (D.LC i 2),T (D.LA i 3) (D.LN i 3) (D.LC i 3),T aa an ac]
 rw[hW9.out]
 clear hW9
 obtain⟨hC,hB⟩:=bS hC hB hb
 generalize W0.heap.size=db at *
 have hD:=hN9
 have yy:=bZ hD
 clear hN9 e0 e1 e2 e3 e4 e5 e6 e7 e8 xx
 have xx:=aX hC
 go_wp2_with fail
 refine aZ (HNm.out _ hB) ?_
 intro w2 hb
 obtain⟨hC,hD,hB⟩:=bM hC hD hB hb
 clear HNm
 generalize eR D.TN i=q at *
 clear xx
 have xx:=aX hC
 clear yy
 have yy:=bZ hD
 by_cases hq:q=0
 rotate_left
 ·exact T97
 subst hq
 go_wp2_with fail
 refine cg (HI.out 0 om (i:Int) om _ hB) ?_
 rintro(_|_) w11 g1 hb
 rotate_left
 ·exact T48
 obtain⟨hC,hD,hB⟩:=bM hC hD hB hb
 clear xx
 have xx:=aX hC
 clear yy
 have yy:=bZ hD
 go_wp2_with fail
 refine cg (HI.out 1 om (D.bn:Int) om _ hB) ?_
 rintro(_|_) w12 g2 hb
 rotate_left
 ·exact T48
 obtain⟨hC,hD,hB⟩:=bM hC hD hB hb
 clear xx
 have xx:=aX hC
 clear yy
 have yy:=bZ hD
 go_wp2_with fail
 refine cg (HI.out 2 om (D.bn:Int) om _ hB) ?_
 rintro(_|_) w13 g3 hb
 rotate_left
 ·exact T48
 obtain⟨hC,hD,hB⟩:=bM hC hD hB hb
 clear xx
 have xx:=aX hC
 clear yy
 have yy:=bZ hD
 go_wp2_with fail
 refine cg (HI.out 3 om (D.bn:Int) om _ hB) ?_
 rintro(_|_) w14 g4 hb
 rotate_left
 ·exact T48
 obtain⟨hC,hD,hB⟩:=bM hC hD hB hb
 clear xx
 have xx:=aX hC
 clear yy
 have yy:=bZ hD
 have hs:iT D i=false:=by rw[HSA.out,g1,g2,g3,g4];rfl
 go_wp2_with fail
 refine cg (HM.out 0 om _ hB) ?_
 rintro(_|_) w15 g5 hb
 rotate_left
 ·exact T49
 obtain⟨hC,hD,hB⟩:=bM hC hD hB hb
 clear xx
 have xx:=aX hC
 clear yy
 have yy:=bZ hD
 go_wp2_with fail
 refine cg (HM.out 1 om _ hB) ?_
 rintro(_|_) w16 g6 hb
 rotate_left
 ·exact T49
 obtain⟨hC,hD,hB⟩:=bM hC hD hB hb
 clear xx
 have xx:=aX hC
 clear yy
 have yy:=bZ hD
 go_wp2_with fail
 refine cg (HM.out 2 om _ hB) ?_
 rintro(_|_) w17 g7 hb
 rotate_left
 ·exact T49
 obtain⟨hC,hD,hB⟩:=bM hC hD hB hb
 clear xx
 have xx:=aX hC
 clear yy
 have yy:=bZ hD
 go_wp2_with fail
 refine cg (HM.out 3 om _ hB) ?_
 rintro(_|_) w18 g8 hb
 rotate_left
 ·exact T49
 obtain⟨hC,hD,hB⟩:=bM hC hD hB hb
 clear xx
 have xx:=aX hC
 clear yy
 have yy:=bZ hD
 have hm:kg D i=false:=by rw[HMA.out,g5,g6,g7,g8];rfl
 go_wp2_with fail
 refine aR (dK _ _ _ _) ?_
 rintro(_|_) h8
 rotate_left
 ·exact jh
 go_wp2_with fail
 refine aR (dK _ _ _ _) ?_
 rintro(_|_) h9
 rotate_left
 ·exact jh
 by_cases hl:8<an
 ·exact wG
 have hli:¬(8:Int)<(an:Int):=om
 go_wp2_with fail
 clear xx
 clear yy
 go_loopw [10] (λt wr=>∃j:Nat,j<=an/\t=M U (j:Int)/\bj (aB (eV D i) an 0=aB (eV D i) (an - j) j)/\am wr xb 59 #[T za D.pd.zn zc,T da D.pd.dn dc,T pa D.pd.pn pc,T ka D.pd.kn kc,T ga D.pd.qn gc,M U D.pd.panel,M U D.pd.wait,T sa D.sn sc,T ba D.bn bc,T (ai ⟨tb,ts,ag⟩) D.tn tc,T qa D.pn qc,M U D.wlo,M U D.whi]/\am wr db 139 #[ay nm,T (D.LA i 0) (D.LN i 0) (D.LC i 0),M U tl,M U tm,aA tp,T (D.LA i 1) (D.LN i 1) (D.LC i 1),T (D.LA i 2) (D.LN i 2) (D.LC i 2),T (D.LA i 3) (D.LN i 3) (D.LC i 3),T aa an ac]/\ap w.heap.size w wr) (λt _=>an - (aV t).toNat)
 case atStart=>exact⟨0,aF _,rfl,show _=_ from rfl,hC,hD,hB⟩
 case round=>
  clear hC hD hB
  obtain⟨j,hj,rfl,HJ,hC,hD,hB⟩:=hrel
  by_cases hlt:j<an
  rotate_left
  ·exact T35
  have HF:=af (HJ.out.trans (bf (eV D i) hlt))
  have HQ:bj (eV D i j=if D.AV i j 0≠0 then ai 2 else if dm D.pd (D.AV i j 0) (D.AV i j 1) (D.AV i j 2) (D.AV i j 3) (D.AV i j 4)=0 then ag else ai (dm D.pd (D.AV i j 0) (D.AV i j 1) (D.AV i j 2) (D.AV i j 3) (D.AV i j 4))):=show _=_ from rfl
  clear HJ
  have i3:(j:Int)<(an:Int):=om
  have xx:=aX hC
  have yy:=bZ hD
  obtain⟨ab,ao,rfl,al,hc⟩:=(HA.out.below hB).elem hlt
  have ee:=r5 hc
  simp only[bw,bq]at ee
  obtain⟨e0,e1,e2,e3,e4⟩:=ee
  clear hc
  generalize D.AV i j 0=b0 at *
  generalize D.AV i j 1=b1 at *
  generalize D.AV i j 2=b2 at *
  generalize D.AV i j 3=b3 at *
  generalize D.AV i j 4=b4 at *
  by_cases h0:b0=0
  rotate_left
  ·exact T54
  subst h0
  have hxl:=hC.lt
  have hdl:=hD.lt
  go_upto_region 19 with fail
  have HR:=af λw' (hb:ap wr.heap.size wr w')=>an7 (aX (hC.below hb)) (bZ (hD.below hb)) (kp e0 hb) (kp e1 hb) (kp e2 hb) (kp e3 hb) (kp e4 hb)
  have hBd:ap wr.heap.size wr wr.drew:=(au _ _).drew
  clear xx
  clear yy
  clear e0 e1 e2 e3 e4
  refine bV hBd ?_
  refine K3 ?_
  refine br 5 hBd ?_
  refine cL 6 (λK' hK'=>?_)
  refine aZ (HWr.out 0 b1 b2 b3 b4 _ (ak hB hBd)) ?_
  intro w9 hb
  have hB1:=ak hBd hb
  clear hb
  refine bO hK' hB1 ?_
  clear hK' K'
  refine br 7 hB1 ?_
  refine wpAnyH_done kr ?_ _
  (try simp only[Exit.then])
  (try refine‹∀(a:Act) (w:aj),bi prog _ _ a w->_› _ _ ?_)
  replace hC:=hC.below hB1
  replace hD:=hD.below hB1
  replace hB:=ak hB hB1
  clear HR hBd hB1
  have xx:=aX hC
  exact T10
end
section
open Tryz
open Go.RowKit Go.Shelf
attribute [local go_sem] Oper.semAt_some
theorem uC (l h:Int):(aI h 0 100000||aI l 0 h)=(aI l 0 100000||aI h l 100000):=by
 rw[Bool.eq_iff_iff];unfold aI;simp;omega
theorem tk {D:fO} {i:Nat} (h:fZ D i=ag):eR D.TN i=0:=by
 unfold fZ gR at h
 by_cases h0:eR D.TN i=0
 ·exact h0
 simp[h0]at h
theorem qW {N:Nat->ByteArray} {n:Nat} {i:Int} (h:rp N n=(i,0)):aB (eu N) n 0=ag:=by
 unfold rp at h
 cases hf:aB (eu N) n 0 with
 |none=>rfl
 |some p=>
  obtain⟨a,b⟩:=p
  rw[hf]at h
  cases h
  have h4:=(cJ _ _ hf).2.2
  unfold eu at h4
  split at h4
  ·cases h4
  rename_i h5;simp at h4;exact absurd h4 h5
theorem rY {N:Nat->ByteArray} {n:Nat} {i e:Int} (h:rp N n=(i,e)) (he:e≠0):aB (eu N) n 0=ai (i.toNat,e)/\((i.toNat:Nat):Int)=i:=by
 unfold rp at h
 cases hf:aB (eu N) n 0 with
 |none=>rw[hf]at h;cases h;exact absurd rfl he
 |some p=>obtain⟨a,b⟩:=p;rw[hf]at h;cases h;exact⟨by simp,by simp⟩
theorem mg (D:fO) (w:aj) (hV:rf w D):
  aC prog 40 #[aN D.cells] w (E3 w (qj D)):=by
 obtain⟨i0,hi,hz0,hz1,hz2⟩:=info_parts infoS
 have hlp:=hV.lp
 obtain⟨⟨p1,p2,p3⟩,hpr⟩:∃p,eF D.pd=p:=⟨_,rfl⟩
 have HPd:=af (λW (h:ap w.heap.size w W)=>iz D.pd W (hV.p.below h))
 unfold E3 at HPd
 have hwe:=uC D.wlo D.whi
 have HNs:=af (λ(hs:D.sn<=8) W (h:ap w.heap.size w W)=>iM D.sn D.SN D.vs W (hV.s.below h) om hV.ns)
 unfold E2 at HNs
 obtain⟨⟨s1,s2⟩,hsr⟩:∃p,rp D.SN D.sn=p:=⟨_,rfl⟩
 rw[hsr]at HNs
 simp only at HNs
 have HNb:=af (λ(hs:D.bn<=6) (i:Nat) (hi:i<D.bn) (v:aw) W (hR:aU W v (i+1) 1 (λk _=>ay (D.BN k))) (h0:∀k,k<i->eR D.BN k=0)=>jA (i+1) i D.BN v W hR om om (λk hk=>hV.nb k om) h0)
 have HSt:=af (λ(he:(eF D.pd).2.2=0) (h1:D.tn<=16) (h2:D.bn<=6) (i:Nat) (hi:i<D.tn) (v:aw) W (h:ap w.heap.size w W) (hR:aU W v (i+1) 1 (λk _=>ay (D.TN k))) (h0:∀k,k<i->eR D.TN k=0)=>od D i v W (hV.below h) he hi h1 h2 hR h0)
 obtain⟨sa,sc,ba,bc,ta,tc,qa,qc,hvs,hvb,hvt,hvp⟩:=hV.forms
 obtain⟨za,zc,da,dc,pa,pc,ka,kc,ga,gc,hz1,hz2,hz3,hz4,hz5⟩:=hV.p.forms
 have HDC:bj (D.cells=#[T za D.pd.zn zc,T da D.pd.dn dc,T pa D.pd.pn pc,T ka D.pd.kn kc,T ga D.pd.qn gc,M U D.pd.panel,M U D.pd.wait,T sa D.sn sc,T ba D.bn bc,T ta D.tn tc,T qa D.pn qc,M U D.wlo,M U D.whi]):=show _=_ by unfold fO.cells;rw[hvs,hvb,hvt,hvp,hz1,hz2,hz3,hz4,hz5]
 have HPC:bj (D.pd.cells=#[T za D.pd.zn zc,T da D.pd.dn dc,T pa D.pd.pn pc,T ka D.pd.kn kc,T ga D.pd.qn gc,M U D.pd.panel,M U D.pd.wait]):=show _=_ by unfold bE.cells;rw[hz1,hz2,hz3,hz4,hz5]
 have HRs:=af (show aU w (T sa D.sn sc) _ _ _ from hvs▸hV.s)
 have HRb:=af (show aU w (T ba D.bn bc) _ _ _ from hvb▸hV.b)
 have HRt:=af (show aU w (T ta D.tn tc) _ _ _ from hvt▸hV.t)
 have HRq:=af (show aU w (T qa D.pn qc) _ _ _ from hvp▸hV.q)
 rw[HDC.out]
 rw[HPC.out,hpr]at HPd
 simp only at HPd
 rw[show D.vs=T sa D.sn sc from hvs]at HNs
 rw[HDC.out]at HSt
 clear hvs hvb hvt hvp hz1 hz2 hz3 hz4 hz5
 obtain⟨W0,HW0,hC,hB⟩:=bW w 59 #[T za D.pd.zn zc,T da D.pd.dn dc,T pa D.pd.pn pc,T ka D.pd.kn kc,T ga D.pd.qn gc,M U D.pd.panel,M U D.pd.wait,T sa D.sn sc,T ba D.bn bc,T ta D.tn tc,T qa D.pn qc,M U D.wlo,M U D.whi]
 obtain⟨r,HS⟩:=dR (qj D)
 rw[<-HS.out]
 go_enter func40,ntmps40
 go_upto_region 1 with fail
 rw[HW0.out]
 obtain⟨xb,hxe⟩:=bY w.heap.size
 rw[<-hxe]at hC⊢
 have hxb:w.heap.size<=xb:=bs hxe.symm;clear hxe HW0
 obtain⟨x0,x1,x2,x3,x4,x5,x6,x7,x8,x9,x10,x11,x12⟩:=aX hC
 go_wp2_with fail
 refine aZ (HPd.out _ hB) ?_
 intro w1 hb
 obtain⟨hC,hB⟩:=bS hC hB hb
 obtain⟨x0,x1,x2,x3,x4,x5,x6,x7,x8,x9,x10,x11,x12⟩:=aX hC
 by_cases he:p3=0
 rotate_left
 ·have heb:(p3 != 0)=true:=by simpa using he
  exact m7
 subst he
 by_cases h1:8<D.sn
 ·have h1i:(8:Int)<(D.sn:Int):=om
  exact m7
 have h1i:¬(8:Int)<(D.sn:Int):=om
 by_cases h2:6<D.bn
 ·have h2i:(6:Int)<(D.bn:Int):=om
  exact m7
 have h2i:¬(6:Int)<(D.bn:Int):=om
 go_wp2_with fail
 refine aR (dK _ _ _ _) ?_
 rintro(_|_) g0
 rotate_left
 ·exact m7
 have htn:=aW.1 g0
 go_wp2_with fail
 refine aZ (HNs.out om _ hB) ?_
 intro w2 hb
 obtain⟨hC,hB⟩:=bS hC hB hb
 obtain⟨x0,x1,x2,x3,x4,x5,x6,x7,x8,x9,x10,x11,x12⟩:=aX hC
 by_cases hs2:s2=0
 rotate_left
 ·have hsb:(s2 != 0)=true:=by simpa using hs2
  have hk1:=rY hsr hs2
  obtain⟨hk1,hk2⟩:=hk1
  exact m7
 subst hs2
 have hk1:=qW hsr
 go_wp2_with fail
 go_loopw [9,10] (λl t wr=>∃j:Nat,j<=D.bn/\t=M U (j:Int)/\bj (aB (gP D) D.bn 0=aB (gP D) (D.bn - j) j)/\bj (∀k,k<j->eR D.BN k=0)/\bj (wr.ownsRow (xb+1) 9 1 l j ((List.range j).map λi=>ay (D.BN i)))/\am wr xb 59 #[T za D.pd.zn zc,T da D.pd.dn dc,T pa D.pd.pn pc,T ka D.pd.kn kc,T ga D.pd.qn gc,M U D.pd.panel,M U D.pd.wait,T sa D.sn sc,T ba D.bn bc,T ta D.tn tc,T qa D.pn qc,M U D.wlo,M U D.whi]/\ap w.heap.size w wr) (λ_ t _=>D.bn - (aV t).toNat)
 case atStart=>exact⟨0,aF _,rfl,show _=_ from rfl,show∀k,k<0->_ from(λk h=>absurd h om),aj.ownsRow_nil _ _ _ _,hC,hB⟩
 case round=>
  clear hC hB
  obtain⟨j,hj,rfl,HJ,HNN,HOW,hC,hB⟩:=hrel
  by_cases hlt:j<D.bn
  ·have HF:=af (HJ.out.trans (bf (gP D) hlt))
   clear HJ
   have i2:(j:Int)<(D.bn:Int):=om
   obtain⟨x0,x1,x2,x3,x4,x5,x6,x7,x8,x9,x10,x11,x12⟩:=aX hC
   obtain⟨bb,bo,rfl,bl,hc⟩:=(HRb.out.below hB).elem hlt
   have e0:wr.cell? ⟨bb,bo+j*3,ag⟩=ai (ay (D.BN j)):=hc 0 om
   have HQ:bj (gP D j=if eR D.BN j≠0 then ai (eR D.BN j)else if aI (D.BR j 1) 1 1000000||aI (D.BR j 2) 1 1000 then ai 7 else ag):=show _=_ from rfl
   generalize hb0:D.BN j=b0 at e0
   have HB0:=af hb0
   clear hb0
   go_wp2_with (at_builtin;refine ci _ (by rfl) _ _ _ (by rfl) (xb+1) 9 i0 _ 1 16 underlying52 hi hz0 hz1 hz2 rfl om _ j _ (by rfl) (ck HOW.out _) ⟨wr.heap.size,0,ag⟩ 1 1 [ay b0] (by rfl) (by rfl) (cm (cs:=#[ay b0]) (t:=9) (fr:=(0,0)) (aK wr _)) (by simp[aw.oneCell']) om (by unfold cF;omega) om (by have:=hC.lt;simp;omega) (wr.heap.size+1) (by simp) ?_;intro g cap wn hown1 hgrow hat hltg)
   have hC9:=fk hC hgrow HOW.out om
   have hB9:=eC hB hgrow HOW.out om
   have HOW9:=af (show wn.ownsRow (xb+1) 9 1 _ (j+1) ((List.range (j+1)).map λi=>ay (D.BN i))from(by have h:=hown1;rw[<-HB0.out]at h;exact(fd (F:=λi=>ay (D.BN i)) j)▸h))
   clear hC hB HOW hgrow hat hltg hown1 e0 x0 x1 x2 x3 x4 x5 x6 x7 x8 x9 x10 x11 x12
   have hC:=hC9
   have hB:=hB9
   have HOW:=HOW9
   clear hC9 hB9 HOW9
   obtain⟨x0,x1,x2,x3,x4,x5,x6,x7,x8,x9,x10,x11,x12⟩:=aX hC
   refine aZ (HNb.out om j hlt _ _ (aU.of_own (F:=λi=>ay (D.BN i)) HOW.out) HNN.out) ?_
   intro w9 hb
   have HOW9:=af (cK HOW.out hb)
   clear HOW
   have HOW:=HOW9
   clear HOW9
   obtain⟨hC,hB⟩:=bS hC hB hb
   obtain⟨x0,x1,x2,x3,x4,x5,x6,x7,x8,x9,x10,x11,x12⟩:=aX hC
   obtain⟨cb,co,hcq,cl,hc⟩:=(HRb.out.below hB).elem hlt
   obtain⟨rfl,rfl⟩:bb=cb/\bo=co:=by simpa using hcq
   have e1:w9.cell? ⟨bb,bo+j*3+1,ag⟩=ai (M U (D.BR j 1)):=hc 1 om
   have e2:w9.cell? ⟨bb,bo+j*3+2,ag⟩=ai (M U (D.BR j 2)):=hc 2 om
   clear hc hcq
   generalize hqe:eR D.BN j=q at *
   have HQE:=af hqe
   clear hqe
   by_cases hq:q=0
   rotate_left
   ·have hqb:(q != 0)=true:=by simpa using hq
    have hqc:(q==0)=false:=by simpa using hq
    exact T73
   subst hq
   go_wp2_with fail
   refine aR (dK _ _ _ _) ?_
   rintro(_|_) g1
   rotate_left
   ·exact T73
   go_wp2_with fail
   refine aR (dK _ _ _ _) ?_
   rintro(_|_) g2
   rotate_left
   ·exact T73
   have HJ2:bj (aB (gP D) D.bn 0=aB (gP D) (D.bn - (j+1)) (j+1)):=by
    exact tu
   have HN2:bj (∀k,k<j+1->eR D.BN k=0):=show∀k,_->_ from λk hk=>by
    rcases Nat.lt_or_ge k j with h|h
    ·exact HNN.out k h
    rw[show k=j by omega];exact HQE.out
   clear HF HQ HNN HQE
   exact wy
  have hjn:j=D.bn:=om
  have hk:=HJ.out
  rw[hjn]at hk
  replace hk:=hk.trans (bh (gP D) D.bn)
  clear HJ
  have hnj:¬(j:Int)<(D.bn:Int):=om
  clear hjn
  have hk2:=hk
  clear hk HOW HNN
  obtain⟨x0,x1,x2,x3,x4,x5,x6,x7,x8,x9,x10,x11,x12⟩:=aX hC
  go_wp2_with fail
  go_loopw [9,12] (λl t wr=>∃j:Nat,j<=D.tn/\t=M U (j:Int)/\bj (aB (fZ D) D.tn 0=aB (fZ D) (D.tn - j) j)/\bj (∀k,k<j->eR D.TN k=0)/\bj (wr.ownsRow (xb+1) 9 1 l j ((List.range j).map λi=>ay (D.TN i)))/\am wr xb 59 #[T za D.pd.zn zc,T da D.pd.dn dc,T pa D.pd.pn pc,T ka D.pd.kn kc,T ga D.pd.qn gc,M U D.pd.panel,M U D.pd.wait,T sa D.sn sc,T ba D.bn bc,T ta D.tn tc,T qa D.pn qc,M U D.wlo,M U D.whi]/\ap w.heap.size w wr) (λ_ t _=>D.tn - (aV t).toNat)
  case atStart=>exact⟨0,aF _,rfl,show _=_ from rfl,show∀k,k<0->_ from(λk h=>absurd h om),aj.ownsRow_nil _ _ _ _,hC,hB⟩
  case round=>
   clear hC hB
   obtain⟨j,hj,rfl,HJ,HNN,HOW,hC,hB⟩:=hrel
   by_cases hlt:j<D.tn
   ·have HF:=af (HJ.out.trans (bf (fZ D) hlt))
    clear HJ
    have i2:(j:Int)<(D.tn:Int):=om
    obtain⟨x0,x1,x2,x3,x4,x5,x6,x7,x8,x9,x10,x11,x12⟩:=aX hC
    obtain⟨bb,bo,rfl,bl,hc⟩:=(HRt.out.below hB).elem hlt
    have e0:wr.cell? ⟨bb,bo+j*9,ag⟩=ai (ay (D.TN j)):=hc 0 om
    generalize hb0:D.TN j=b0 at e0
    have HB0:=af hb0
    clear hb0
    go_wp2_with (at_builtin;refine ci _ (by rfl) _ _ _ (by rfl) (xb+1) 9 i0 _ 1 16 underlying52 hi hz0 hz1 hz2 rfl om _ j _ (by rfl) (ck HOW.out _) ⟨wr.heap.size,0,ag⟩ 1 1 [ay b0] (by rfl) (by rfl) (cm (cs:=#[ay b0]) (t:=9) (fr:=(0,0)) (aK wr _)) (by simp[aw.oneCell']) om (by unfold cF;omega) om (by have:=hC.lt;simp;omega) (wr.heap.size+1) (by simp) ?_;intro g cap wn hown1 hgrow hat hltg;have hC9:=fk hC hgrow HOW.out om;clear x0 x1 x2 x3 x4 x5 x6 x7 x8 x9 x10 x11 x12;obtain⟨x0,x1,x2,x3,x4,x5,x6,x7,x8,x9,x10,x11,x12⟩:=aX hC9)
    have hB9:=eC hB hgrow HOW.out om
    have HOW9:=af (show wn.ownsRow (xb+1) 9 1 _ (j+1) ((List.range (j+1)).map λi=>ay (D.TN i))from(by have h:=hown1;rw[<-HB0.out]at h;exact(fd (F:=λi=>ay (D.TN i)) j)▸h))
    clear hC hB HOW hgrow hat hltg hown1 e0
    have hC:=hC9
    have hB:=hB9
    have HOW:=HOW9
    clear hC9 hB9 HOW9
    refine aZ (HSt.out (by rw[hpr]) om om j hlt _ _ hB (aU.of_own (F:=λi=>ay (D.TN i)) HOW.out) HNN.out) ?_
    intro w9 hb
    have HOW9:=af (cK HOW.out hb)
    clear HOW
    have HOW:=HOW9
    clear HOW9
    obtain⟨hC,hB⟩:=bS hC hB hb
    obtain⟨x0,x1,x2,x3,x4,x5,x6,x7,x8,x9,x10,x11,x12⟩:=aX hC
    have HQ:bj (fZ D j=if gR D j=0 then ag else ai (gR D j)):=show _=_ from rfl
    have HOK:=af (@tk D j)
    generalize gR D j=q at *
    by_cases hq:q=0
    rotate_left
    ·have hqb:(q != 0)=true:=by simpa using hq
     have hJ:=HF.out
     rw[HQ.out]at hJ
     simp[hq]at hJ
     clear HF HQ HOW HNN HOK
     exact m7
    subst hq
    have HJ2:bj (aB (fZ D) D.tn 0=aB (fZ D) (D.tn - (j+1)) (j+1)):=by
     exact pZ
    have HN2:bj (∀k,k<j+1->eR D.TN k=0):=show∀k,_->_ from λk hk=>by
     rcases Nat.lt_or_ge k j with h|h
     ·exact HNN.out k h
     rw[show k=j by omega];exact HOK.out (by rw[HQ.out];simp)
    clear HF HQ HNN HOK
    exact wy
   have hjn:j=D.tn:=om
   have hk:=HJ.out
   rw[hjn]at hk
   replace hk:=hk.trans (bh (fZ D) D.tn)
   clear HJ
   have hnj:¬(j:Int)<(D.tn:Int):=om
   clear hjn
   have hk3:=hk
   clear hk HOW HNN
   obtain⟨x0,x1,x2,x3,x4,x5,x6,x7,x8,x9,x10,x11,x12⟩:=aX hC
   go_wp2_with fail
   go_loopw [14] (λt wr=>∃j:Nat,j<=D.pn/\t=M U (j:Int)/\bj (aB (m6 D) D.pn 0=aB (m6 D) (D.pn - j) j)/\am wr xb 59 #[T za D.pd.zn zc,T da D.pd.dn dc,T pa D.pd.pn pc,T ka D.pd.kn kc,T ga D.pd.qn gc,M U D.pd.panel,M U D.pd.wait,T sa D.sn sc,T ba D.bn bc,T ta D.tn tc,T qa D.pn qc,M U D.wlo,M U D.whi]/\ap w.heap.size w wr) (λt _=>D.pn - (aV t).toNat)
   case atStart=>exact⟨0,aF _,rfl,show _=_ from rfl,hC,hB⟩
   case round=>
    clear hC hB
    obtain⟨j,hj,rfl,HJ,hC,hB⟩:=hrel
    by_cases hlt:j<D.pn
    rotate_left
    ·have hjn:j=D.pn:=om
     have hk:=HJ.out
     rw[hjn]at hk
     replace hk:=hk.trans (bh (m6 D) D.pn)
     clear HJ
     have hnj:¬(j:Int)<(D.pn:Int):=om
     clear hjn
     have hk4:=hk
     obtain⟨x0,x1,x2,x3,x4,x5,x6,x7,x8,x9,x10,x11,x12⟩:=aX hC
     go_wp2_with fail
     refine aR (dK _ _ _ _) ?_
     rintro(_|_) g1
     rotate_left
     ·exact tU
     go_wp2_with fail
     refine aR (dK _ _ _ _) ?_
     rintro(_|_) g2
     ·exact tU
     exact tU
    have HF:=af (HJ.out.trans (bf (m6 D) hlt))
    clear HJ
    have i2:(j:Int)<(D.pn:Int):=om
    obtain⟨x0,x1,x2,x3,x4,x5,x6,x7,x8,x9,x10,x11,x12⟩:=aX hC
    have HQ:bj (m6 D j=if aI (D.PV j) 0 ((D.tn:Int) - 1)then ai 4 else if 0<j/\D.PV j<=D.PV (j - 1)then ai 2 else ag):=show _=_ from rfl
    have hw:=aD ((D.tn:Int) - 1) ⟨by omega,by omega⟩
    obtain⟨qb,qo,rfl,ql,hc⟩:=(HRq.out.below hB).elem hlt
    have e0:wr.cell? ⟨qb,qo+j,ag⟩=ai (M U (D.PV j)):=eI hc
    have hxl:=hC.lt
    generalize hv:D.PV j=v at *
    have HV:=af hv
    clear hv
    go_upto_region 30 with fail
    have HR:=af λw' (hb:ap wr.heap.size wr w')=>tN (aX (hC.below hb)) (kp e0 hb)
    have hBd:ap wr.heap.size wr wr.drew:=(au _ _).drew
    refine bV hBd ?_
    refine K2 ?_
    refine cL 9 (λK' hK'=>?_)
    refine aR (dK _ _ _ _) ?_
    rintro(_|_) g1
    rotate_left
    ·refine bO hK' hBd ?_
     clear hK' K'
     refine br 10 hBd ?_
     refine wpAnyH_done kr ?_ _
     (try simp only[Exit.then])
     (try refine‹∀(a:Act) (w:aj),bi prog _ _ a w->_› _ _ ?_)
     replace hC:=hC.drew
     replace hB:=hB.drew
     clear HR hBd
     generalize wr.drew=w9 at *
     obtain⟨x0,x1,x2,x3,x4,x5,x6,x7,x8,x9,x10,x11,x12⟩:=aX hC
     have hJ:=HF.out
     rw[HQ.out]at hJ
     simp[g1]at hJ
     exact wk
    refine bO hK' hBd ?_
    clear hK' K'
    refine br 10 hBd ?_
    refine wpAnyH_done kr ?_ _
    (try simp only[Exit.then])
    (try refine‹∀(a:Act) (w:aj),bi prog _ _ a w->_› _ _ ?_)
    replace hC:=hC.drew
    replace hB:=hB.drew
    clear HR hBd
    generalize wr.drew=w9 at *
    obtain⟨x0,x1,x2,x3,x4,x5,x6,x7,x8,x9,x10,x11,x12⟩:=aX hC
    by_cases hj0:0<j
    rotate_left
    ·obtain rfl:j=0:=om
     have hj0:¬(0:Nat)<0:=om
     have i20:(0:Int)<(D.pn:Int):=om
     clear HV
     have HJ2:bj (aB (m6 D) D.pn 0=aB (m6 D) (D.pn - (0+1)) (0+1)):=by
      have h9:=HQ.out
      simp[g1]at h9
      unfold bj;rw[HF.out,h9]
     clear HF HQ
     go_upto_region 32 with fail
     go_quiet (fail)
     have hb:=aM (au w9.heap.size w9) nq
     obtain⟨hC,hB⟩:=bS hC hB hb
     generalize w9.drewN nq=w8 at *
     obtain⟨x0,x1,x2,x3,x4,x5,x6,x7,x8,x9,x10,x11,x12⟩:=aX hC
     exact qf
    obtain⟨k,rfl⟩:∃k,j=k+1:=⟨j - 1,by omega⟩
    obtain⟨q2,o2,hq2,-,hc2⟩:=(HRq.out.below hB).elem hlt
    obtain⟨rfl,rfl⟩:qb=q2/\qo=o2:=by simpa using hq2
    have e2:w9.cell? ⟨qb,qo+(k+1),ag⟩=ai (M U (D.PV (k+1))):=eI hc2
    rw[HV.out]at e2
    clear hc2 hq2 HV
    obtain⟨q2,o2,hq2,-,hc2⟩:=(HRq.out.below hB).elem (show k<D.pn by omega)
    obtain⟨rfl,rfl⟩:qb=q2/\qo=o2:=by simpa using hq2
    have e3:w9.cell? ⟨qb,qo+k,ag⟩=ai (M U (D.PV k)):=eI hc2
    clear hc2 hq2
    have k1:(((k+1:Nat):Int) - 1)=(k:Int):=om
    have k2:=aD (((k+1:Nat):Int) - 1) ⟨by omega,by omega⟩
    have k3:(0:Int)<((k+1:Nat):Int):=om
    have k4:(k:Int)<(D.pn:Int):=om
    rw[show k+1 - 1=k from rfl]at HQ
    generalize D.PV k=u at *
    go_upto_region 32 with fail
    go_quiet (fail)
    have hb:=aM (au w9.heap.size w9) nq
    obtain⟨hC,hB⟩:=bS hC hB hb
    generalize w9.drewN nq=w8 at *
    obtain⟨x0,x1,x2,x3,x4,x5,x6,x7,x8,x9,x10,x11,x12⟩:=aX hC
    by_cases hu:v<=u
    ·have hJ:=HF.out
     rw[HQ.out]at hJ
     simp[g1,hu]at hJ
     exact wk
    exact T37
end
end Go.Proofs.YtbpnallaifdcpaaGreatDoor
