/- Parts of the proof. -/
import Derived.Test.YtbpnallaifdcpaaGreatDoorZf
set_option linter.unusedVariables false
set_option linter.unusedSimpArgs false
set_option maxRecDepth 100000
set_option maxHeartbeats 4000000
namespace Go.Proofs.YtbpnallaifdcpaaGreatDoor
open Go.Value renaming int→M
open Go.IntKind renaming i64→U
open Go.Value renaming slice→T,pointer→ax,string→ay,bool→aA,agg→aN
open Go.Lib renaming hid→af
open Option renaming none→ag,some→ai
open Go renaming World→aj,Value→aw,Calls→aC,below_drewN→aM,TypeId→aT,wpList_append_lies→ci,maxLen→cF
open Go.RowKit renaming Below→ap,intOf→aV,Hid→bj
open Go.Ending renaming returned→ar
open Go.RowKit.Below renaming refl→au,setCell→aS
open Go.IntWalk renaming i64_in→aD
open Nat renaming zero_le→aF,le_trans→aO,le_refl→aY,add_zero→bq,le_of_eq→bs
open Go.Code renaming wp→bi
open Go.Exit renaming normal→bk
open Go.World renaming ownsRow.alloc→ck,news_of_block→cm
section
open Tryz
open Go.RowKit Go.Shelf
attribute [local go_sem] Oper.semAt_some
theorem bC (n lo hi:Int) (w:aj):
  aC prog 187 #[M U n,M U lo,M U hi] w λe w'=>e=ar (aA (!aI n lo hi))/\w=w':=by
 go_enter func187,ntmps187
 exact iP
theorem eS (n:Int) (w:aj):
  aC prog 272 #[M U n] w λe w'=>e=ar (aA (!aI n (-10000000) 10000000))/\w=w':=by
 go_enter func272,ntmps272
 exact vD
theorem fP (n:Int) (w:aj):
  aC prog 271 #[M U n] w λe w'=>e=ar (aA (!aI n (0) 9))/\w=w':=by
 go_enter func271,ntmps271
 exact vD
theorem dK (n lo hi:Int) (w:aj):
  aC prog 118 #[M U n,M U lo,M U hi] w λe w'=>e=ar (aA (!aI n lo hi))/\w=w':=by
 go_enter func118,ntmps118
 exact iP
theorem infoS:(prog.info? 9).map (λi=>(i.zero,i.size,i.bytes))=ai (ai (ay ⟨#[]⟩),1,16):=by kernel_rfl
theorem aU.of_own {w:aj} {B:Nat} {v:aw} {n:Nat} {e:aT} {F:Nat->aw} (h:w.ownsRow B e 1 v n ((List.range n).map F)):aU w v n 1 (λi _=>F i):=
 (cW.of_own (F:=λi _=>F i) (by simpa[Nat.div_one]using h)).row
theorem fd {F:Nat->aw} (n:Nat):(List.range n).map F++[F n]=(List.range (n+1)).map F:=by rw[List.range_succ,List.map_append];rfl
def ky (lo hi:Int):Bool:=aI lo (-10000000) 10000000||(aI hi (-10000000) 10000000||decide (hi<lo))
def oR (N:Nat->ByteArray) (s:ByteArray) (n:Nat):Int:=if !dq s.data.toList then 6 else if bI (λk=>ej (N k) s) n then 5 else 0
theorem jf (lo hi:Int) (w:aj):
  aC prog 270 #[aN #[M U lo,M U hi]] w λe w'=>e=ar (aA (!ky lo hi))/\ap w.heap.size w w':=by
 obtain⟨r,HS⟩:=dR (!ky lo hi)
 rw[<-HS.out]
 obtain⟨W0,xb,HW0,hC,hB⟩:=eB w 32 #[M U lo,M U hi]
 go_enter func270,ntmps270
 go_upto_region 1 with fail
 rw[HW0.out.1,HW0.out.2]
 clear HW0
 have xx:=bA hC
 go_wp2_with fail
 refine aR (eS _ _) ?_
 rintro(_|_) g0
 rotate_left
 ·exact sR
 go_wp2_with fail
 refine aR (eS _ _) ?_
 rintro(_|_) g1
 rotate_left
 ·exact sR
 by_cases h2:hi<lo
 ·have h3:¬lo<=hi:=om
  exact sR
 have h3:lo<=hi:=om
 exact sR
theorem ft (s:ByteArray) (n:Nat) (N:Nat->ByteArray) (v:aw) (w:aj) (hs:s.size<=9223372036854775806) (hR:aU w v n 1 (λi _=>ay (N i))) (hn:n<=1000000):
  aC prog 191 #[ay s,v] w λe w'=>e=ar (M U (oR N s n))/\ap w.heap.size w w':=by
 obtain⟨a,c,rfl,hac,hx⟩:=id hR
 have HRr:=af hR
 clear hR
 obtain⟨r,HS⟩:=dR (oR N s n)
 rw[<-HS.out]
 go_enter func191,ntmps191
 go_wp2_with fail
 have hB:=au w.heap.size w
 refine bm (dZ _ _ hs) ?_
 rintro(_|_) g
 ·go_wp2_with fail
  go_ret
  exact⟨bJ (by rw[HS.out];unfold oR;simp[g]),hB⟩
 go_wp2_with fail
 go_loopw [5] (λi wr=>∃j:Nat,j<=n/\i=M U j/\bj (∀k,k<j->ej (N k) s=false)/\ap w.heap.size w wr) (λi _=>n - (aV i).toNat)
 case atStart=>exact⟨0,aF _,rfl,show∀k,k<0->_ from(λk h=>absurd h om),hB⟩
 case round=>
  clear hB
  obtain⟨j,hj,rfl,HM,hB⟩:=hrel
  by_cases hlt:j<n
  rotate_left
  ·obtain rfl:j=n:=om
   have hA:=bT HM.out
   clear HM
   go_wp2_with fail
   go_ret
   exact⟨bJ (by rw[HS.out];unfold oR;simp[g,hA]),hB⟩
  have HN:=af (λh=>dS (p:=λk=>ej (N k) s) (m:=j) HM.out h)
  have HH:=af (λh=>cd (p:=λk=>ej (N k) s) hlt h)
  clear HM
  obtain⟨bb,bo,rfl,bl,hc⟩:=(HRr.out.below hB).elem hlt
  have e0:wr.cell? ⟨bb,bo+j,ag⟩=ai (ay (N j)):=by have h:=hc 0 om;rw[Nat.mul_one,bq]at h;exact h
  obtain⟨nn,hnn⟩:∃nn,nn=N j:=⟨_,rfl⟩
  simp only[<-hnn]at HN HH e0
  clear hnn
  have i2:(j:Int)<(n:Int):=om
  cases hg:(nn.toList==s.toList)
  rotate_left
  ·have hA:=HH.out hg
   clear HN HH
   go_wp2_with fail
   go_ret
   exact⟨bJ (by rw[HS.out];unfold oR;simp[g,hA]),hB⟩
  have HM:=af (HN.out hg)
  exact wo
end
section
open Tryz
open Go.RowKit Go.Shelf
attribute [local go_sem] Oper.semAt_some
theorem eP.forms {w:aj} {D:bE} (h:eP w D):∃za zc da dc pa pc ka kc qa qc,D.vz=T za D.zn zc/\D.vd=T da D.dn dc/\D.vp=T pa D.pn pc/\D.vk=T ka D.kn kc/\D.vq=T qa D.qn qc:=by
 obtain⟨za,zc,h1,_⟩:=h.z
 obtain⟨da,dc,h2,_⟩:=h.d
 obtain⟨pa,pc,h3,_⟩:=h.p
 obtain⟨ka,kc,h4,_⟩:=h.k
 obtain⟨qa,qc,h5,_⟩:=h.q
 exact⟨za,zc,da,dc,pa,pc,ka,kc,qa,qc,h1,h2,h3,h4,h5⟩
theorem eP.lit {w:aj} {D:bE} (h:eP w D):∃za zc da dc pa pc ka kc qa qc,bj (D.cells=#[.slice za D.zn zc, .slice da D.dn dc, .slice pa D.pn pc, .slice ka D.kn kc, .slice qa D.qn qc, .int .i64 D.panel, .int .i64 D.wait])/\bj (aU w (.slice za D.zn zc) D.zn 8 (pm D.ZN D.ZR D.ZB))/\bj (aU w (.slice da D.dn dc) D.dn 2 (bw D.DR))/\bj (aU w (.slice pa D.pn pc) D.pn 2 (em D.PN D.PR))/\bj (aU w (.slice ka D.kn kc) D.kn 1 (λi _=> .string (D.KN i)))/\bj (aU w (.slice qa D.qn qc) D.qn 6 (lB D.QN D.QR D.SA D.SN D.SC)):=by
 obtain⟨za,zc,da,dc,pa,pc,ka,kc,qa,qc,h1,h2,h3,h4,h5⟩:=h.forms
 refine⟨za,zc,da,dc,pa,pc,ka,kc,qa,qc,?_,?_,?_,?_,?_,?_⟩
 ·unfold bj bE.cells;rw[h1,h2,h3,h4,h5]
 ·exact h1▸h.z
 ·exact h2▸h.d
 ·exact h3▸h.p
 ·exact h4▸h.k
 ·exact h5▸h.q
theorem q0 (xl xh yl yh g r:Int):ud xl xh yl yh g r=(ky xl xh||(ky yl yh||(aI g 0 9||aI r 1 8))):=by
 unfold ud ky
 simp only[List.any_cons,List.any_nil,Bool.or_false]
 cases aI xl (-10000000) 10000000<;>cases aI xh (-10000000) 10000000<;>cases aI yl (-10000000) 10000000<;>cases aI yh (-10000000) 10000000<;>cases decide (xh<xl)<;>cases decide (yh<yl)<;>rfl
theorem iW (N:Nat->ByteArray) (E:Nat->Int) (i:Nat):dy N E i=if oR N (N i) i=0 then(if E i=0 then ag else ai (E i))else ai (oR N (N i) i):=by
 unfold dy oR
 cases dq (N i).data.toList<;>cases bI (λk=>ej (N k) (N i)) i<;>simp
theorem fk {W W':aj} {b B:Nat} {t e:aT} {cs:Array aw} {v:aw} {n:Nat} {ys:List aw} {o:Obj} (h:am W b t cs) (hg:(W.alloc o).grownBy W' v.ownBlock) (ho:W.ownsRow B e 1 v n ys) (hb:b<B):am W' b t cs:=
 mn (h.below (aP (au _ _) _)) hg (sX ho hb)
theorem eC {w W W':aj} {B:Nat} {e:aT} {v:aw} {n:Nat} {ys:List aw} {o:Obj} (h:ap w.heap.size w W) (hg:(W.alloc o).grownBy W' v.ownBlock) (ho:W.ownsRow B e 1 v n ys) (hb:w.heap.size<=B):ap w.heap.size w W':=
 gO (aP h _) hg (λg hg=>aO hb (lg ho g hg))
theorem nr (D:bE) (w:aj) (hV:eP w D) (hn:D.zn<=8):
  aC prog 188 #[aN D.cells] w (E2 w (eD D.ZN D.zE D.zn)):=by
 have HN:=af hV.nz
 obtain⟨i0,hi,hz0,hz1,hz2⟩:=info_parts infoS
 obtain⟨za,zc,da,dc,pa,pc,ka,kc,qa,qc,HDC,HRz,HRd,HRp,HRk,HRq⟩:=hV.lit
 rw[HDC.out]
 obtain⟨W0,HW0,hC,hB⟩:=bW w 55 #[T za D.zn zc,T da D.dn dc,T pa D.pn pc,T ka D.kn kc,T qa D.qn qc,M U D.panel,M U D.wait]
 obtain⟨r,HS⟩:=dR (eD D.ZN D.zE D.zn)
 rw[<-HS.out]
 go_enter func188,ntmps188
 go_upto_region 1 with fail
 rw[HW0.out]
 obtain⟨xb,hxe⟩:=bY w.heap.size
 rw[<-hxe]at hC⊢
 have hxb:w.heap.size<=xb:=bs hxe.symm;clear hxe HW0
 have xx:=aJ hC
 go_wp2_with fail
 clear xx
 go_loopw [4,5] (λl i wr=>∃j:Nat,j<=D.zn/\i=M U j/\bj (aB (dy D.ZN D.zE) D.zn 0=aB (dy D.ZN D.zE) (D.zn - j) j)/\bj (wr.ownsRow (xb+1) 9 1 l j ((List.range j).map λi=>ay (D.ZN i)))/\am wr xb 55 #[T za D.zn zc,T da D.dn dc,T pa D.pn pc,T ka D.kn kc,T qa D.qn qc,M U D.panel,M U D.wait]/\ap w.heap.size w wr) (λ_ i _=>D.zn - (aV i).toNat)
 case atStart=>exact⟨0,aF _,rfl,show _=_ from rfl,aj.ownsRow_nil _ _ _ _,hC,hB⟩
 case round=>
  clear hC hB
  obtain⟨j,hj,rfl,HJ,HOW,hC,hB⟩:=hrel
  by_cases hlt:j<D.zn
  rotate_left
  ·have hjn:j=D.zn:=om
   have hJ:=HJ.out
   rw[hjn]at hJ
   replace hJ:=hJ.trans (bh (dy D.ZN D.zE) D.zn)
   clear HJ
   have hnj:¬(j:Int)<(D.zn:Int):=om
   clear hjn
   have xx:=aJ hC
   go_wp2_with fail
   exact jc
  have HF:=af (HJ.out.trans (bf (dy D.ZN D.zE) hlt))
  have HQ:=af (iW D.ZN D.zE j)
  clear HJ
  have i2:(j:Int)<(D.zn:Int):=om
  have hNj:=HN.out j hlt
  have xx:=aJ hC
  obtain⟨zb,zo,rfl,zl,hc⟩:=(HRz.out.below hB).elem hlt
  have e0:wr.cell? ⟨zb,zo+j*8,ag⟩=ai (ay (D.ZN j)):=hc 0 om
  have e1:wr.cell? ⟨zb,zo+j*8+1,ag⟩=ai (M U (D.ZR j 1)):=hc 1 om
  have e2:wr.cell? ⟨zb,zo+j*8+2,ag⟩=ai (M U (D.ZR j 2)):=hc 2 om
  have e3:wr.cell? ⟨zb,zo+j*8+3,ag⟩=ai (M U (D.ZR j 3)):=hc 3 om
  have e4:wr.cell? ⟨zb,zo+j*8+4,ag⟩=ai (M U (D.ZR j 4)):=hc 4 om
  have e5:wr.cell? ⟨zb,zo+j*8+5,ag⟩=ai (M U (D.ZR j 5)):=hc 5 om
  have e6:wr.cell? ⟨zb,zo+j*8+6,ag⟩=ai (M U (D.ZR j 6)):=hc 6 om
  have e7:wr.cell? ⟨zb,zo+j*8+7,ag⟩=ai (aA (D.ZB j)):=hc 7 om
  clear hc
  have HE:bj (D.zE j=sM (D.ZR j 1) (D.ZR j 2) (D.ZR j 3) (D.ZR j 4) (D.ZR j 5) (D.ZR j 6)):=show _=_ from rfl
  generalize D.ZR j 1=b1 at *
  generalize D.ZR j 2=b2 at *
  generalize D.ZR j 3=b3 at *
  generalize D.ZR j 4=b4 at *
  generalize D.ZR j 5=b5 at *
  generalize D.ZR j 6=b6 at *
  generalize D.ZB j=b7 at *
  generalize hb0:D.ZN j=b0 at *
  have HB0:=af hb0
  clear hb0
  go_upto_region 6 with fail
  obtain⟨w1,hW9,hN9,hb⟩:=bW wr 240 #[ay b0,M U b1,M U b2,M U b3,M U b4,M U b5,M U b6,aA b7]
  rw[hW9.out]
  clear hW9
  have HOW1:=af (cK HOW.out hb);clear HOW;have HOW:=HOW1;clear HOW1
  obtain⟨hC,hB⟩:=bS hC hB hb
  generalize wr.heap.size=db at *
  have hD:=hN9
  have dd:=ek hD
  clear hN9 e0 e1 e2 e3 e4 e5 e6 e7 xx
  have xx:=aJ hC
  have HRN:=af (aU.of_own (F:=λi=>ay (D.ZN i)) HOW.out)
  go_wp2_with fail
  refine aZ (ft _ j D.ZN _ _ hNj HRN.out om) ?_
  intro w2 hb
  have HOW2:=af (cK HOW.out hb)
  clear HOW HRN
  obtain⟨hC,hD,hB⟩:=bM hC hD hB hb
  generalize oR D.ZN b0 j=q at *
  clear xx
  have xx:=aJ hC
  clear dd
  have dd:=ek hD
  by_cases hq:q=0
  rotate_left
  ·exact T62
  subst hq
  go_wp2_with fail
  refine cg (jf _ _ _) ?_
  rintro(_|_) w3 g1 hb
  rotate_left
  ·exact T47
  have HOW3:=af (cK HOW2.out hb)
  clear HOW2
  obtain⟨hC,hD,hB⟩:=bM hC hD hB hb
  clear xx
  have xx:=aJ hC
  clear dd
  have dd:=ek hD
  go_wp2_with fail
  refine cg (jf _ _ _) ?_
  rintro(_|_) w4 g2 hb
  rotate_left
  ·exact T47
  have HOW4:=af (cK HOW3.out hb)
  clear HOW3
  obtain⟨hC,hD,hB⟩:=bM hC hD hB hb
  clear xx
  have xx:=aJ hC
  clear dd
  have dd:=ek hD
  go_wp2_with fail
  refine aR (fP _ _) ?_
  rintro(_|_) g3
  rotate_left
  ·exact T89
  go_wp2_with fail
  refine aR (bC _ _ _ _) ?_
  rintro(_|_) g4
  rotate_left
  ·exact T89
  have HOW:=HOW4
  clear HOW4
  generalize w4=W at *
  have hz:=HQ.out
  rw[HE.out]at hz
  unfold sM at hz
  rw[q0]at hz
  simp[*]at hz
  have HJ2:bj (aB (dy D.ZN D.zE) D.zn 0=aB (dy D.ZN D.zE) (D.zn - (j+1)) (j+1)):=by
   unfold bj;rw[HF.out,hz]
  clear HF HQ HE hz
  go_wp2_with (at_builtin;refine ci _ (by rfl) _ _ _ (by rfl) (xb+1) 9 i0 _ 1 16 underlying52 hi hz0 hz1 hz2 rfl om _ j _ (by rfl) (ck HOW.out _) ⟨W.heap.size,0,ag⟩ 1 1 [ay b0] (by rfl) (by rfl) (cm (cs:=#[ay b0]) (t:=9) (fr:=(0,0)) (aK W _)) (by simp[aw.oneCell']) om (by unfold cF;omega) om (by have:=hC.lt;simp;omega) (W.heap.size+1) (by simp) ?_;intro g cap wn hown1 hgrow hat hltg)
  go_roundw
  case rel=>exact⟨j+1,by omega,by go_num,HJ2,by have h:=hown1;rw[<-HB0.out]at h;exact(fd (F:=λi=>ay (D.ZN i)) j)▸h,fk hC hgrow HOW.out om,eC hB hgrow HOW.out om⟩
  case measure=>simp[aV];omega
end
section
open Tryz
open Go.RowKit Go.Shelf
attribute [local go_sem] Oper.semAt_some
theorem gQ (D:bE) (n:Int) (w:aj) (hV:eP w D) (hn:D.zn<=8):
  aC prog 193 #[aN D.cells,M U n] w λe w'=>e=ar (aA (!aI n 0 ((D.zn:Int) - 1)))/\ap w.heap.size w w':=by
 have hw:=aD ((D.zn:Int) - 1) ⟨by omega,by omega⟩
 obtain⟨za,zc,da,dc,pa,pc,ka,kc,qa,qc,HDC,HRz,HRd,HRp,HRk,HRq⟩:=hV.lit
 rw[HDC.out]
 obtain⟨W0,xb,HW0,hC,hB⟩:=eB w 55 #[T za D.zn zc,T da D.dn dc,T pa D.pn pc,T ka D.kn kc,T qa D.qn qc,M U D.panel,M U D.wait]
 go_enter func193,ntmps193
 go_upto_region 1 with fail
 rw[HW0.out.1,HW0.out.2]
 clear HW0
 have xx:=aJ hC
 go_wp2_with fail
 refine eH (bC _ _ _ _) ?_
 exact gU
theorem wN (D:bE) (i:Nat):D.dF i=if(decide (D.DR i 0≠-1)&&aI (D.DR i 0) 0 ((D.zn:Int) - 1))||(decide (D.DR i 1≠-1)&&aI (D.DR i 1) 0 ((D.zn:Int) - 1))then ai 4 else if D.DR i 0==D.DR i 1 then ai 2 else ag:=by
 have h:∀n:Int,aI n (-1) ((D.zn:Int) - 1)=(decide (n≠-1)&&aI n 0 ((D.zn:Int) - 1)):=λn=>by
  rw[Bool.eq_iff_iff];unfold aI;simp;omega
 unfold bE.dF;rw[h,h]
def tM (D:bE):Int×Int:=match aB D.dF D.dn 0 with
 |some (i,e)=>(((i:Nat):Int),e)
 |none=>(0,0)
theorem nF (D:bE) (w:aj) (hV:eP w D) (hz:D.zn<=8) (hn:D.dn<=24):
  aC prog 189 #[aN D.cells] w (E2 w (tM D)):=by
 have HZ:=af (λ(n:Int) W (h:ap w.heap.size w W)=>gQ D n W (hV.below h) hz)
 obtain⟨za,zc,da,dc,pa,pc,ka,kc,qa,qc,HDC,HRz,HRd,HRp,HRk,HRq⟩:=hV.lit
 rw[HDC.out]
 rw[HDC.out]at HZ
 obtain⟨W0,xb,HW0,hC,hB⟩:=eB w 55 #[T za D.zn zc,T da D.dn dc,T pa D.pn pc,T ka D.kn kc,T qa D.qn qc,M U D.panel,M U D.wait]
 obtain⟨r,HS⟩:=dR (tM D)
 rw[<-HS.out]
 go_enter func189,ntmps189
 go_upto_region 1 with fail
 rw[HW0.out.1,HW0.out.2]
 clear HW0
 have xx:=aJ hC
 go_wp2_with fail
 clear xx
 go_loopw [4] (λi wr=>∃j:Nat,j<=D.dn/\i=M U j/\bj (aB D.dF D.dn 0=aB D.dF (D.dn - j) j)/\am wr xb 55 #[T za D.zn zc,T da D.dn dc,T pa D.pn pc,T ka D.kn kc,T qa D.qn qc,M U D.panel,M U D.wait]/\ap w.heap.size w wr) (λi _=>D.dn - (aV i).toNat)
 case atStart=>exact⟨0,aF _,rfl,show _=_ from rfl,hC,hB⟩
 case round=>
  clear hC hB
  obtain⟨j,hj,rfl,HJ,hC,hB⟩:=hrel
  by_cases hlt:j<D.dn
  rotate_left
  ·have hjn:j=D.dn:=om
   have hJ:=HJ.out
   rw[hjn]at hJ
   replace hJ:=hJ.trans (bh D.dF D.dn)
   clear HJ
   have hnj:¬(j:Int)<(D.dn:Int):=om
   clear hjn
   have xx:=aJ hC
   go_wp2_with fail
   exact tC
  have HF:=af (HJ.out.trans (bf D.dF hlt))
  have HQ:=af (wN D j)
  clear HJ
  have i2:(j:Int)<(D.dn:Int):=om
  have xx:=aJ hC
  obtain⟨db0,do0,rfl,dl,e0,e1⟩:=(HRd.out.below hB).eI2 hlt
  generalize D.DR j 0=b0 at *
  generalize D.DR j 1=b1 at *
  go_upto_region 5 with fail
  obtain⟨w1,hW9,hN9,hb⟩:=bW wr 242 #[M U b0,M U b1]
  rw[hW9.out]
  clear hW9
  obtain⟨hC,hB⟩:=bS hC hB hb
  generalize wr.heap.size=db at *
  have hD:=hN9
  have dd:=bA hD
  clear hN9 e0 e1 xx
  have xx:=aJ hC
  by_cases h1:b0=-1
  ·subst h1
   by_cases h2:b1=-1
   ·subst h2
    exact ua
   have h2b:(b1 != -1)=true:=by simpa using h2
   go_wp2_with fail
   refine cg (HZ.out b1 _ hB) ?_
   rintro(_|_) w4 g2 hb
   rotate_left
   ·exact T57
   obtain⟨hC,hD,hB⟩:=bM hC hD hB hb
   clear xx
   have xx:=aJ hC
   clear dd
   have dd:=bA hD
   have heb:((-1:Int)==b1)=false:=by simpa using Ne.symm h2
   have hne:¬((-1:Int)=b1):=Ne.symm h2
   exact T43
  have h1b:(b0 != -1)=true:=by simpa using h1
  go_wp2_with fail
  refine cg (HZ.out b0 _ hB) ?_
  rintro(_|_) w3 g1 hb
  rotate_left
  ·exact T57
  obtain⟨hC,hD,hB⟩:=bM hC hD hB hb
  clear xx
  have xx:=aJ hC
  clear dd
  have dd:=bA hD
  by_cases h2:b1=-1
  ·subst h2
   have heb:(b0==(-1:Int))=false:=by simpa using h1
   exact T43
  have h2b:(b1 != -1)=true:=by simpa using h2
  go_wp2_with fail
  refine cg (HZ.out b1 _ hB) ?_
  rintro(_|_) w4 g2 hb
  rotate_left
  ·exact T57
  obtain⟨hC,hD,hB⟩:=bM hC hD hB hb
  clear xx
  have xx:=aJ hC
  clear dd
  have dd:=bA hD
  by_cases he:b0=b1
  ·subst he
   exact ua
  have heb:(b0==b1)=false:=by simpa using he
  exact T43
theorem lr (D:bE) (w:aj) (hV:eP w D) (hn:D.pn<=8):
  aC prog 190 #[aN D.cells] w (E2 w (eD D.PN D.pE D.pn)):=by
 have HN:=af hV.np
 obtain⟨i0,hi,hz0,hz1,hz2⟩:=info_parts infoS
 obtain⟨za,zc,da,dc,pa,pc,ka,kc,qa,qc,HDC,HRz,HRd,HRp,HRk,HRq⟩:=hV.lit
 rw[HDC.out]
 obtain⟨W0,HW0,hC,hB⟩:=bW w 55 #[T za D.zn zc,T da D.dn dc,T pa D.pn pc,T ka D.kn kc,T qa D.qn qc,M U D.panel,M U D.wait]
 obtain⟨r,HS⟩:=dR (eD D.PN D.pE D.pn)
 rw[<-HS.out]
 go_enter func190,ntmps190
 go_upto_region 1 with fail
 rw[HW0.out]
 obtain⟨xb,hxe⟩:=bY w.heap.size
 rw[<-hxe]at hC⊢
 have hxb:w.heap.size<=xb:=bs hxe.symm;clear hxe HW0
 have xx:=aJ hC
 go_wp2_with fail
 go_loopw [4,5] (λl i wr=>∃j:Nat,j<=D.pn/\i=M U j/\bj (aB (dy D.PN D.pE) D.pn 0=aB (dy D.PN D.pE) (D.pn - j) j)/\bj (wr.ownsRow (xb+1) 9 1 l j ((List.range j).map λi=>ay (D.PN i)))/\am wr xb 55 #[T za D.zn zc,T da D.dn dc,T pa D.pn pc,T ka D.kn kc,T qa D.qn qc,M U D.panel,M U D.wait]/\ap w.heap.size w wr) (λ_ i _=>D.pn - (aV i).toNat)
 case atStart=>exact⟨0,aF _,rfl,show _=_ from rfl,aj.ownsRow_nil _ _ _ _,hC,hB⟩
 case round=>
  clear hC hB
  obtain⟨j,hj,rfl,HJ,HOW,hC,hB⟩:=hrel
  by_cases hlt:j<D.pn
  rotate_left
  ·have hjn:j=D.pn:=om
   have hJ:=HJ.out
   rw[hjn]at hJ
   replace hJ:=hJ.trans (bh (dy D.PN D.pE) D.pn)
   clear HJ
   have hnj:¬(j:Int)<(D.pn:Int):=om
   clear hjn
   have xx:=aJ hC
   go_wp2_with fail
   exact jc
  have HF:=af (HJ.out.trans (bf (dy D.PN D.pE) hlt))
  have HQ:=af (iW D.PN D.pE j)
  clear HJ
  have i2:(j:Int)<(D.pn:Int):=om
  have hNj:=HN.out j hlt
  have xx:=aJ hC
  obtain⟨pb,po,rfl,pl,hc⟩:=(HRp.out.below hB).elem hlt
  have e0:wr.cell? ⟨pb,po+j*2,ag⟩=ai (ay (D.PN j)):=hc 0 om
  have e1:wr.cell? ⟨pb,po+j*2+1,ag⟩=ai (M U (D.PR j 1)):=hc 1 om
  have HE:bj (D.pE j=if aI (D.PR j 1) 0 9 then 7 else 0):=show _=_ from rfl
  have HRN:=af (aU.of_own (F:=λi=>ay (D.PN i)) HOW.out)
  generalize hb0:D.PN j=b0 at *
  have HB0:=af hb0
  clear hb0 hc
  go_wp2_with fail
  refine aZ (ft _ j D.PN _ _ hNj HRN.out om) ?_
  intro w2 hb
  have hpl:=hb.cell (p:=⟨pb,po+j*2,ag⟩) pl
  have hpl1:=hb.cell (p:=⟨pb,po+j*2+1,ag⟩) pl
  rw[e0]at hpl
  rw[e1]at hpl1
  have HOW2:=af (cK HOW.out hb)
  obtain⟨hC,hB⟩:=bS hC hB hb
  clear HOW HRN e0 e1
  generalize oR D.PN b0 j=q at *
  have xx:=aJ hC
  by_cases hq:q=0
  rotate_left
  ·exact T62
  subst hq
  go_wp2_with fail
  refine aR (fP _ _) ?_
  rintro(_|_) g1
  rotate_left
  ·have hJ:=HF.out
   rw[HQ.out,HE.out]at hJ
   simp[*]at hJ
   clear HF HQ HE
   go_wp2_with fail
   exact jc
  have hz:=HQ.out
  rw[HE.out]at hz
  simp[*]at hz
  have HJ2:bj (aB (dy D.PN D.pE) D.pn 0=aB (dy D.PN D.pE) (D.pn - (j+1)) (j+1)):=by unfold bj;rw[HF.out,hz]
  clear HF HQ HE hz
  have HOW:=HOW2
  clear HOW2
  go_wp2_with (at_builtin;refine ci _ (by rfl) _ _ _ (by rfl) (xb+1) 9 i0 _ 1 16 underlying52 hi hz0 hz1 hz2 rfl om _ j _ (by rfl) (ck HOW.out _) ⟨w2.heap.size,0,ag⟩ 1 1 [ay b0] (by rfl) (by rfl) (cm (cs:=#[ay b0]) (t:=9) (fr:=(0,0)) (aK w2 _)) (by simp[aw.oneCell']) om (by unfold cF;omega) om (by have:=hC.lt;simp;omega) (w2.heap.size+1) (by simp) ?_;intro g cap wn hown1 hgrow hat hltg)
  go_roundw
  case rel=>exact⟨j+1,by omega,by go_num,HJ2,by have h:=hown1;rw[<-HB0.out]at h;exact(fd (F:=λi=>ay (D.PN i)) j)▸h,fk hC hgrow HOW.out om,eC hB hgrow HOW.out om⟩
  case measure=>simp[aV];omega
end
section
open Tryz
open Go.RowKit Go.Shelf
attribute [local go_sem] Oper.semAt_some
variable {v0 v4 v5 v6 v7 v8 v9 v10 v11 v12 v13 v14 v15 v16 v17 v18 v19 v20 v21 v22 v23 v24 v25 v26 v27 v28 v29 v30 v31 v32 v33 v34 v35 v36 v37 v38 v39 v40 v41 v42 v43 v44 v45 v46:aw}
theorem kO (lo hi n:Int) (w:aj) (h1:iU lo) (h2:iU hi) (h3:iU n):
  aC prog 273 #[aN #[M U lo,M U hi],M U n] w λe w'=>e=ar (M U (fN lo hi n))/\ap w.heap.size w w':=by
 unfold iU at h1 h2 h3
 have q1:=aD (lo - n) ⟨by omega,by omega⟩
 have q2:=aD (n - hi) ⟨by omega,by omega⟩
 obtain⟨r,HS⟩:=dR (fN lo hi n)
 rw[<-HS.out]
 obtain⟨W0,xb,HW0,hC,hB⟩:=eB w 32 #[M U lo,M U hi]
 go_enter func273,ntmps273
 go_upto_region 1 with fail
 rw[HW0.out.1,HW0.out.2]
 clear HW0
 have xx:=bA hC
 go_wp2_with fail
 all_goals(go_ret;exact⟨bJ (by rw[HS.out];unfold fN;omega),hB⟩)
theorem tL {W:aj} {b:Nat} {t:aT} {a0 a1 a2 a3:aw} (h:am W b t #[a0,a1,a2,a3]) (u0 u1 u2 u3:aw):am ((((W.setCell ⟨b,0,ag⟩ u0).setCell ⟨b,1,ag⟩ u1).setCell ⟨b,2,ag⟩ u2).setCell ⟨b,3,ag⟩ u3) b t #[u0,u1,u2,u3]:=by
 have h9:=((((h.set 0 u0).set 1 u1).set 2 u2).set 3 u3)
 simpa using h9
theorem tO {B:Nat} {w W:aj} {b:Nat} (h:ap B w W) (hb:B<=b) (u0 u1 u2 u3:aw):ap B w ((((W.setCell ⟨b,0,ag⟩ u0).setCell ⟨b,1,ag⟩ u1).setCell ⟨b,2,ag⟩ u2).setCell ⟨b,3,ag⟩ u3):=(aS (aS (aS (aS h hb _) hb _) hb _) hb _)
theorem tK {W:aj} {b c:Nat} {t:aT} {cs:Array aw} (h:am W c t cs) (hb:b≠c) (u0 u1 u2 u3:aw):am ((((W.setCell ⟨b,0,ag⟩ u0).setCell ⟨b,1,ag⟩ u1).setCell ⟨b,2,ag⟩ u2).setCell ⟨b,3,ag⟩ u3) c t cs:=((((h.set_other (p:=⟨b,0,ag⟩) hb u0).set_other (p:=⟨b,1,ag⟩) hb u1).set_other (p:=⟨b,2,ag⟩) hb u2).set_other (p:=⟨b,3,ag⟩) hb u3)
theorem dQ {W:aj} {b:Nat} {t:aT} {a0 a1 a2 a3 a4 a5:aw} (h:am W b t #[a0,a1,a2,a3,a4,a5]) (u0 u1 u2 u3 u4 u5:aw):am ((((((W.setCell ⟨b,0,ag⟩ u0).setCell ⟨b,1,ag⟩ u1).setCell ⟨b,2,ag⟩ u2).setCell ⟨b,3,ag⟩ u3).setCell ⟨b,4,ag⟩ u4).setCell ⟨b,5,ag⟩ u5) b t #[u0,u1,u2,u3,u4,u5]:=by
 have h9:=((((((h.set 0 u0).set 1 u1).set 2 u2).set 3 u3).set 4 u4).set 5 u5)
 simpa using h9
theorem dO {B:Nat} {w W:aj} {b:Nat} (h:ap B w W) (hb:B<=b) (u0 u1 u2 u3 u4 u5:aw):ap B w ((((((W.setCell ⟨b,0,ag⟩ u0).setCell ⟨b,1,ag⟩ u1).setCell ⟨b,2,ag⟩ u2).setCell ⟨b,3,ag⟩ u3).setCell ⟨b,4,ag⟩ u4).setCell ⟨b,5,ag⟩ u5):=(aS (aS (aS (aS (aS (aS h hb _) hb _) hb _) hb _) hb _) hb _)
theorem fL {W:aj} {b c:Nat} {t:aT} {cs:Array aw} (h:am W c t cs) (hb:b≠c) (u0 u1 u2 u3 u4 u5:aw):am ((((((W.setCell ⟨b,0,ag⟩ u0).setCell ⟨b,1,ag⟩ u1).setCell ⟨b,2,ag⟩ u2).setCell ⟨b,3,ag⟩ u3).setCell ⟨b,4,ag⟩ u4).setCell ⟨b,5,ag⟩ u5) c t cs:=((((((h.set_other (p:=⟨b,0,ag⟩) hb u0).set_other (p:=⟨b,1,ag⟩) hb u1).set_other (p:=⟨b,2,ag⟩) hb u2).set_other (p:=⟨b,3,ag⟩) hb u3).set_other (p:=⟨b,4,ag⟩) hb u4).set_other (p:=⟨b,5,ag⟩) hb u5)
theorem fz6 {W:aj} {b:Nat} {t:aT} {c:Array aw} (h:am W b t c):W.frozen? ⟨b,0,ag⟩=false/\W.frozen? ⟨b,1,ag⟩=false/\W.frozen? ⟨b,2,ag⟩=false/\W.frozen? ⟨b,3,ag⟩=false/\W.frozen? ⟨b,4,ag⟩=false/\W.frozen? ⟨b,5,ag⟩=false:=⟨h.frozen 0,h.frozen 1,h.frozen 2,h.frozen 3,h.frozen 4,h.frozen 5⟩
theorem fin6 {B:Nat} {w W:aj} {b c:Nat} {t t2:aT} {cs:Array aw} {a0 a1 a2 a3 a4 a5:aw} (hL:am W b t #[a0,a1,a2,a3,a4,a5]) (hB:ap B w W) (hD:am W c t2 cs) (h1:B<=b) (h2:b≠c) (u0 u1 u2 u3 u4 u5:aw):∃W',(((((W.setCell ⟨b,0,ag⟩ u0).setCell ⟨b,1,ag⟩ u1).setCell ⟨b,2,ag⟩ u2).setCell ⟨b,3,ag⟩ u3).setCell ⟨b,4,ag⟩ u4).setCell ⟨b,5,ag⟩ u5=W'/\am W' b t #[u0,u1,u2,u3,u4,u5]/\ap B w W'/\am W' c t2 cs:=
 ⟨_,rfl,dQ hL u0 u1 u2 u3 u4 u5,dO hB h1 u0 u1 u2 u3 u4 u5,fL hD h2 u0 u1 u2 u3 u4 u5⟩
theorem sK {c:Code} (hc:c=et f194 1) {xb zb zo zn zc qb qo qn qc z q:Nat} {vd vp vk:aw} {pn wt a1 a2 a3 a4 q1 q2 q3 q4:Int} {nm:ByteArray} {ka:Option Addr} {kn kc:Nat} {wc:aj} {Q:Exit->Act->aj->Prop} (hC:am wc xb 55 #[T (ai ⟨zb,zo,ag⟩) zn zc,vd,vp,vk,T (ai ⟨qb,qo,ag⟩) qn qc,M U pn,M U wt]) (hzl:zb<wc.heap.size) (hql:qb<wc.heap.size) (i1:(z:Int)<(zn:Int)) (i2:(q:Int)<(qn:Int))
 (h1:wc.cell? ⟨zb,zo+z*8+1,ag⟩=ai (M U a1)) (h2:wc.cell? ⟨zb,zo+z*8+2,ag⟩=ai (M U a2)) (h3:wc.cell? ⟨zb,zo+z*8+3,ag⟩=ai (M U a3)) (h4:wc.cell? ⟨zb,zo+z*8+4,ag⟩=ai (M U a4))
 (g0:wc.cell? ⟨qb,qo+q*6,ag⟩=ai (ay nm)) (g1:wc.cell? ⟨qb,qo+q*6+1,ag⟩=ai (M U q1)) (g2:wc.cell? ⟨qb,qo+q*6+2,ag⟩=ai (M U q2)) (g3:wc.cell? ⟨qb,qo+q*6+3,ag⟩=ai (M U q3)) (g4:wc.cell? ⟨qb,qo+q*6+4,ag⟩=ai (M U q4)) (g5:wc.cell? ⟨qb,qo+q*6+5,ag⟩=ai (T ka kn kc))
 (hK:∀(u11 u12 u13 u14 u15 u16 u17 u18 u19 u20 u21:aw) (ab sb:Nat) (w':aj),ap wc.heap.size wc w'->am w' ab 34 #[M U a1,M U a2,M U a3,M U a4]->am w' sb 246 #[ay nm,M U q1,M U q2,M U q3,M U q4,T ka kn kc]->
  Q bk {tmps:=#[v0,M U z,M U q,ax (ai ⟨xb,0,ag⟩),v4,v5,v6,ax (ai ⟨ab,0,ag⟩),ax (ai ⟨sb,0,ag⟩),v9,v10,u11,u12,u13,u14,u15,u16,u17,u18,u19,u20,u21,v22,v23,v24,v25,v26,v27,v28,v29,v30,v31,v32,v33,v34,v35,v36,v37,v38,v39,v40,v41,v42,v43,v44,v45,v46],defers:=[]} w'):
 bi prog c Q {tmps:=#[v0,M U z,M U q,ax (ai ⟨xb,0,ag⟩),v4,v5,v6,v7,v8,v9,v10,v11,v12,v13,v14,v15,v16,v17,v18,v19,v20,v21,v22,v23,v24,v25,v26,v27,v28,v29,v30,v31,v32,v33,v34,v35,v36,v37,v38,v39,v40,v41,v42,v43,v44,v45,v46],defers:=[]} wc:=by
 subst hc
 conv=>arg 2;whnf
 have HKK:=af hK
 have hxl:=hC.lt
 have HR:=af λw' (hb:ap wc.heap.size wc w')=>vL (kp (hC.cell 0) hb) (kp (hC.cell 4) hb) (kp h1 hb) (kp h2 hb) (kp h3 hb) (kp h4 hb) (kp g0 hb) (kp g1 hb) (kp g2 hb) (kp g3 hb) (kp g4 hb) (kp g5 hb)
 have hBd:ap wc.heap.size wc wc.drew:=(au _ _).drew
 clear hK hC h1 h2 h3 h4 g0 g1 g2 g3 g4 g5
 have hB:=hBd
 refine wp_region_noPanic ?_
 refine bV hBd ?_
 have hsz:wc.heap.size<=wc.drew.heap.size:=aY _
 clear hBd
 generalize wc.drew=W0 at *
 refine K1 ?_
 refine br 7 hB ?_
 refine br 8 hB ?_
 refine br 9 hB ?_
 refine br 10 hB ?_
 refine wpAnyH_ready (rs:=[11,12]) kr (by simp) (AllReadyH.cons rfl (λK' hK'=>?_) (AllReadyH.cons rfl (λK' hK'=>?_) AllReadyH.nil))
 ·go_simp
  have hA:=aK W0 (.cells #[M U 0,M U 0,M U 0,M U 0] 34)
  have hb:=aP (au W0.heap.size W0) (.cells #[M U 0,M U 0,M U 0,M U 0] 34)
  replace hB:=ak hB hb
  have hsz2:=hb.size
  have abl:W0.heap.size<(W0.alloc (.cells #[M U 0,M U 0,M U 0,M U 0] 34)).heap.size:=by simp
  generalize W0.alloc (.cells #[M U 0,M U 0,M U 0,M U 0] 34)=W1 at *
  obtain⟨ab,hab⟩:=bY W0.heap.size
  rw[<-hab]at hA abl⊢
  have abg:wc.heap.size<=ab:=om
  have abz:W0.heap.size<=ab:=bs hab.symm
  have hAa:am W1 ab 34 #[M U 0,M U 0,M U 0,M U 0]:=hA
  have hsz:wc.heap.size<=W1.heap.size:=om
  clear hA hab hb hsz2
  refine bO hK' hB ?_
  clear hK' K'
  refine cL 12 (λK' hK'=>?_)
  have hA:=aK W1 (.cells #[ay ⟨#[]⟩,M U 0,M U 0,M U 0,M U 0,T ag 0 0] 246)
  have hb:=aP (au W1.heap.size W1) (.cells #[ay ⟨#[]⟩,M U 0,M U 0,M U 0,M U 0,T ag 0 0] 246)
  replace hB:=ak hB hb
  have hsz2:=hb.size
  have sbl:W1.heap.size<(W1.alloc (.cells #[ay ⟨#[]⟩,M U 0,M U 0,M U 0,M U 0,T ag 0 0] 246)).heap.size:=by simp
  replace hAa:=hAa.below hb
  generalize W1.alloc (.cells #[ay ⟨#[]⟩,M U 0,M U 0,M U 0,M U 0,T ag 0 0] 246)=W2 at *
  obtain⟨sb,hab⟩:=bY W1.heap.size
  rw[<-hab]at hA sbl⊢
  have sbg:wc.heap.size<=sb:=om
  have sbz:W1.heap.size<=sb:=bs hab.symm
  have hAq:am W2 sb 246 #[ay ⟨#[]⟩,M U 0,M U 0,M U 0,M U 0,T ag 0 0]:=hA
  have hsz:wc.heap.size<=W2.heap.size:=om
  clear hA hab hb hsz2
  refine bO hK' hB ?_
  clear hK' K'
  have hne:ab≠sb:=om
  have kk:=eW hAa
  obtain⟨m1,m2,m3,m4⟩:=wl hAa
  refine cL 13 (λK' hK'=>?_)
  have hA2:=tL hAa (M U a1) (M U a2) (M U a3) (M U a4)
  have hQ2:=tK hAq hne (M U a1) (M U a2) (M U a3) (M U a4)
  replace hB:=tO hB abg (M U a1) (M U a2) (M U a3) (M U a4)
  generalize((((W2.setCell ⟨ab,0,ag⟩ (M U a1)).setCell ⟨ab,1,ag⟩ (M U a2)).setCell ⟨ab,2,ag⟩ (M U a3)).setCell ⟨ab,3,ag⟩ (M U a4))=W3 at *
  refine hK'.out _ _ hB (λ_=>?_)
  clear hK' K' hAa hAq
  refine jN ?_
  have kk:=aH hQ2
  have m0:=hQ2.frozen 0
  have m1:=hQ2.frozen 1
  have m2:=hQ2.frozen 2
  have m3:=hQ2.frozen 3
  have m4:=hQ2.frozen 4
  have m5:=hQ2.frozen 5
  refine cL 14 (λK' hK'=>?_)
  have hA3:=fL hA2 (Ne.symm hne) (ay nm) (M U q1) (M U q2) (M U q3) (M U q4) (T ka kn kc)
  have hQ3:=dQ hQ2 (ay nm) (M U q1) (M U q2) (M U q3) (M U q4) (T ka kn kc)
  replace hB:=dO hB sbg (ay nm) (M U q1) (M U q2) (M U q3) (M U q4) (T ka kn kc)
  generalize((((((W3.setCell ⟨sb,0,ag⟩ (ay nm)).setCell ⟨sb,1,ag⟩ (M U q1)).setCell ⟨sb,2,ag⟩ (M U q2)).setCell ⟨sb,3,ag⟩ (M U q3)).setCell ⟨sb,4,ag⟩ (M U q4)).setCell ⟨sb,5,ag⟩ (T ka kn kc))=W4 at *
  refine hK'.out _ _ hB (λ_=>?_)
  clear hK' K' hA2 hQ2
  refine jN ?_
  refine wpAnyH_done kr (NoPanic.normal ?_) _
  exact HKK.out _ _ _ _ _ _ _ _ _ _ _ _ _ _ hB hA3 hQ3
 ·go_simp
  have hA:=aK W0 (.cells #[ay ⟨#[]⟩,M U 0,M U 0,M U 0,M U 0,T ag 0 0] 246)
  have hb:=aP (au W0.heap.size W0) (.cells #[ay ⟨#[]⟩,M U 0,M U 0,M U 0,M U 0,T ag 0 0] 246)
  replace hB:=ak hB hb
  have hsz2:=hb.size
  have sbl:W0.heap.size<(W0.alloc (.cells #[ay ⟨#[]⟩,M U 0,M U 0,M U 0,M U 0,T ag 0 0] 246)).heap.size:=by simp
  generalize W0.alloc (.cells #[ay ⟨#[]⟩,M U 0,M U 0,M U 0,M U 0,T ag 0 0] 246)=W1 at *
  obtain⟨sb,hab⟩:=bY W0.heap.size
  rw[<-hab]at hA sbl⊢
  have sbg:wc.heap.size<=sb:=om
  have sbz:W0.heap.size<=sb:=bs hab.symm
  have hAq:am W1 sb 246 #[ay ⟨#[]⟩,M U 0,M U 0,M U 0,M U 0,T ag 0 0]:=hA
  have hsz:wc.heap.size<=W1.heap.size:=om
  clear hA hab hb hsz2
  refine bO hK' hB ?_
  clear hK' K'
  refine cL 11 (λK' hK'=>?_)
  have hA:=aK W1 (.cells #[M U 0,M U 0,M U 0,M U 0] 34)
  have hb:=aP (au W1.heap.size W1) (.cells #[M U 0,M U 0,M U 0,M U 0] 34)
  replace hB:=ak hB hb
  have hsz2:=hb.size
  have abl:W1.heap.size<(W1.alloc (.cells #[M U 0,M U 0,M U 0,M U 0] 34)).heap.size:=by simp
  replace hAq:=hAq.below hb
  generalize W1.alloc (.cells #[M U 0,M U 0,M U 0,M U 0] 34)=W2 at *
  obtain⟨ab,hab⟩:=bY W1.heap.size
  rw[<-hab]at hA abl⊢
  have abg:wc.heap.size<=ab:=om
  have abz:W1.heap.size<=ab:=bs hab.symm
  have hAa:am W2 ab 34 #[M U 0,M U 0,M U 0,M U 0]:=hA
  have hsz:wc.heap.size<=W2.heap.size:=om
  clear hA hab hb hsz2
  refine bO hK' hB ?_
  clear hK' K'
  have hne:ab≠sb:=om
  have kk:=eW hAa
  obtain⟨m1,m2,m3,m4⟩:=wl hAa
  refine cL 13 (λK' hK'=>?_)
  have hA2:=tL hAa (M U a1) (M U a2) (M U a3) (M U a4)
  have hQ2:=tK hAq hne (M U a1) (M U a2) (M U a3) (M U a4)
  replace hB:=tO hB abg (M U a1) (M U a2) (M U a3) (M U a4)
  generalize((((W2.setCell ⟨ab,0,ag⟩ (M U a1)).setCell ⟨ab,1,ag⟩ (M U a2)).setCell ⟨ab,2,ag⟩ (M U a3)).setCell ⟨ab,3,ag⟩ (M U a4))=W3 at *
  refine hK'.out _ _ hB (λ_=>?_)
  clear hK' K' hAa hAq
  refine jN ?_
  have kk:=aH hQ2
  have m0:=hQ2.frozen 0
  have m1:=hQ2.frozen 1
  have m2:=hQ2.frozen 2
  have m3:=hQ2.frozen 3
  have m4:=hQ2.frozen 4
  have m5:=hQ2.frozen 5
  refine cL 14 (λK' hK'=>?_)
  have hA3:=fL hA2 (Ne.symm hne) (ay nm) (M U q1) (M U q2) (M U q3) (M U q4) (T ka kn kc)
  have hQ3:=dQ hQ2 (ay nm) (M U q1) (M U q2) (M U q3) (M U q4) (T ka kn kc)
  replace hB:=dO hB sbg (ay nm) (M U q1) (M U q2) (M U q3) (M U q4) (T ka kn kc)
  generalize((((((W3.setCell ⟨sb,0,ag⟩ (ay nm)).setCell ⟨sb,1,ag⟩ (M U q1)).setCell ⟨sb,2,ag⟩ (M U q2)).setCell ⟨sb,3,ag⟩ (M U q3)).setCell ⟨sb,4,ag⟩ (M U q4)).setCell ⟨sb,5,ag⟩ (T ka kn kc))=W4 at *
  refine hK'.out _ _ hB (λ_=>?_)
  clear hK' K' hA2 hQ2
  refine jN ?_
  refine wpAnyH_done kr (NoPanic.normal ?_) _
  exact HKK.out _ _ _ _ _ _ _ _ _ _ _ _ _ _ hB hA3 hQ3
theorem jt (D:bE) (z q:Nat) (w:aj) (hV:eP w D) (hN:sV D) (hz:z<D.zn) (hq:q<D.qn):
  aC prog 194 #[aN D.cells,M U (z:Int),M U (q:Int)] w λe w'=>e=ar (aA (D.near z q))/\ap w.heap.size w w':=by
 obtain⟨n1,n2,n3,n4⟩:=hN.za z hz
 obtain⟨m1,m2,m3⟩:=hN.qa q hq
 have f1:=iX n1 n2 m1
 have f2:=iX n3 n4 m2
 have s1:=pp f1.1 f1.2
 have s2:=pp f2.1 f2.2
 have s3:=rA m3.1 m3.2
 have HNR:bj (D.near z q=lQ (D.ZR z 1) (D.ZR z 2) (D.ZR z 3) (D.ZR z 4) (D.QR q 1) (D.QR q 2) (D.QR q 3)):=show _=_ from rfl
 obtain⟨za,zc,da,dc,pa,pc,ka,kc,qa,qc,HDC,HRz,HRd,HRp,HRk,HRq⟩:=hV.lit
 rw[HDC.out]
 obtain⟨W0,xb,HW0,hC,hB⟩:=eB w 55 #[T za D.zn zc,T da D.dn dc,T pa D.pn pc,T ka D.kn kc,T qa D.qn qc,M U D.panel,M U D.wait]
 obtain⟨r,HS⟩:=dR (D.near z q)
 rw[<-HS.out]
 go_enter func194,ntmps194
 go_upto_region 1 with fail
 rw[HW0.out.1,HW0.out.2]
 clear HW0
 obtain⟨x0,x1,x2,x3,x4,x5,x6⟩:=aJ hC
 obtain⟨zb,zo,rfl,zl,hc⟩:=(HRz.out.below hB).elem hz
 have h1:W0.cell? ⟨zb,zo+z*8+1,ag⟩=ai (M U (D.ZR z 1)):=hc 1 om
 have h2:W0.cell? ⟨zb,zo+z*8+2,ag⟩=ai (M U (D.ZR z 2)):=hc 2 om
 have h3:W0.cell? ⟨zb,zo+z*8+3,ag⟩=ai (M U (D.ZR z 3)):=hc 3 om
 have h4:W0.cell? ⟨zb,zo+z*8+4,ag⟩=ai (M U (D.ZR z 4)):=hc 4 om
 obtain⟨qb,qo,rfl,ql,hc⟩:=(HRq.out.below hB).elem hq
 have g0:W0.cell? ⟨qb,qo+q*6,ag⟩=ai (ay (D.QN q)):=hc 0 om
 have g1:W0.cell? ⟨qb,qo+q*6+1,ag⟩=ai (M U (D.QR q 1)):=hc 1 om
 have g2:W0.cell? ⟨qb,qo+q*6+2,ag⟩=ai (M U (D.QR q 2)):=hc 2 om
 have g3:W0.cell? ⟨qb,qo+q*6+3,ag⟩=ai (M U (D.QR q 3)):=hc 3 om
 have g4:W0.cell? ⟨qb,qo+q*6+4,ag⟩=ai (M U (D.QR q 4)):=hc 4 om
 have g5:W0.cell? ⟨qb,qo+q*6+5,ag⟩=ai (T (D.SA q) (D.SN q) (D.SC q)):=hc 5 om
 generalize D.ZR z 1=a1 at *
 generalize D.ZR z 2=a2 at *
 generalize D.ZR z 3=a3 at *
 generalize D.ZR z 4=a4 at *
 generalize D.QR q 1=q1 at *
 generalize D.QR q 2=q2 at *
 generalize D.QR q 3=q3 at *
 refine sK kr hC zl ql om om h1 h2 h3 h4 g0 g1 g2 g3 g4 g5 ?_
 intro _ _ _ _ _ _ _ _ _ _ _ ab sb w2 hb hA hS
 obtain⟨hC,hB⟩:=bS hC hB hb
 obtain⟨k1,k2,k3,k4⟩:=eW hA
 obtain⟨l0,l1,l2,l3,l4,l5⟩:=aH hS
 (try simp only[Exit.then])
 (try refine‹∀(a:Act) (w:aj),bi prog _ _ a w->_› _ _ ?_)
 go_upto_region 2 with fail
 have hal:=hA.lt
 have hsl:=hS.lt
 have HR:bj (∀w':aj,ap w2.heap.size w2 w'->w'.cell? ⟨ab,0,ag⟩=ai (M U a1)/\w'.cell? ⟨ab,1,ag⟩=ai (M U a2)/\w'.cell? ⟨ab,2,ag⟩=ai (M U a3)/\w'.cell? ⟨ab,3,ag⟩=ai (M U a4)/\w'.cell? ⟨sb,1,ag⟩=ai (M U q1)/\w'.cell? ⟨sb,2,ag⟩=ai (M U q2)/\w'.cell? ⟨sb,3,ag⟩=ai (M U q3)):=show∀w',_->_ from λw' hb=>⟨(hb.cell (p:=⟨ab,0,ag⟩) hal).trans k1,(hb.cell (p:=⟨ab,1,ag⟩) hal).trans k2,(hb.cell (p:=⟨ab,2,ag⟩) hal).trans k3,(hb.cell (p:=⟨ab,3,ag⟩) hal).trans k4,(hb.cell (p:=⟨sb,1,ag⟩) hsl).trans l1,(hb.cell (p:=⟨sb,2,ag⟩) hsl).trans l2,(hb.cell (p:=⟨sb,3,ag⟩) hsl).trans l3⟩
 have hBd:ap w2.heap.size w2 w2.drew:=(au _ _).drew
 refine bV hBd ?_
 refine K3 ?_
 refine br 6 hBd ?_
 refine br 7 hBd ?_
 refine br 8 hBd ?_
 refine br 9 hBd ?_
 refine br 10 hBd ?_
 refine cL 5 (λK' hK'=>?_)
 refine aZ (kO a1 a2 q1 _ n1 n2 m1) ?_
 intro w3 hb
 have hB1:=ak hBd hb
 refine bO hK' hB1 ?_
 clear hK' K'
 refine cL 11 (λK' hK'=>?_)
 refine aZ (kO a3 a4 q2 _ n3 n4 m2) ?_
 intro w4 hb
 have hB2:=ak hB1 hb
 refine bO hK' hB2 ?_
 clear hK' K'
 refine br 12 hB2 ?_
 refine br 13 hB2 ?_
 refine wpAnyH_done kr ?_ _
 (try simp only[Exit.then])
 (try refine‹∀(a:Act) (w:aj),bi prog _ _ a w->_› _ _ ?_)
 have l2:=(HR.out _ hB2).2.2.2.2.2.2
 unfold lQ at HNR
 generalize fN a1 a2 q1=fx at *
 generalize fN a3 a4 q2=fy at *
 have t1:=aD (fx*fx) ⟨by omega,by omega⟩
 have t2:=aD (fy*fy) ⟨by omega,by omega⟩
 have t3:=aD (fx*fx+fy*fy) ⟨by omega,by omega⟩
 have t4:=aD (q3*q3) ⟨by omega,by omega⟩
 go_wp2_with fail
 go_ret
 exact⟨bt (by rw[HS.out,HNR.out]),ak hB hB2⟩
end
section
open Tryz
open Go.RowKit Go.Shelf
attribute [local go_sem] Oper.semAt_some
theorem qR (N:Nat->ByteArray) (E:Nat->Int) (i:Nat):(dy N E i).getD 0=if oR N (N i) i=0 then E i else oR N (N i) i:=by
 rw[iW]
 by_cases h:oR N (N i) i=0
 rotate_left
 ·rw[if_neg h,if_neg h];rfl
 rw[if_pos h,if_pos h]
 by_cases h2:E i=0
 ·rw[if_pos h2,h2];rfl
 rw[if_neg h2];rfl
theorem mt (D:bE) (i:Nat) (w:aj) (hV:eP w D) (hi2:i<D.qn) (hqn:D.qn<=6) (hkn:D.kn<=8):
  aC prog 192 #[aN D.cells,M U (i:Int)] w λe w'=>e=ar (M U ((dy D.QN D.sE i).getD 0))/\ap w.heap.size w w':=by
 have hNi:=hV.nq i hi2
 have hls:=hV.ls i hi2
 have HQ:=af (qR D.QN D.sE i)
 have HE:bj (D.sE i=sg (D.QR i 1) (D.QR i 2) (D.QR i 3) (D.QR i 4) (D.SN i) (D.QK i) D.kn):=show _=_ from rfl
 have HRs:=af (hV.s i hi2)
 have hkw:=aD ((D.kn:Int) - 1) ⟨by omega,by omega⟩
 obtain⟨i0,hi,hz0,hz1,hz2⟩:=info_parts infoS
 obtain⟨za,zc,da,dc,pa,pc,ka,kc,qa,qc,HDC,HRz,HRd,HRp,HRk,HRq⟩:=hV.lit
 rw[HDC.out]
 obtain⟨W0,HW0,hC,hB⟩:=bW w 55 #[T za D.zn zc,T da D.dn dc,T pa D.pn pc,T ka D.kn kc,T qa D.qn qc,M U D.panel,M U D.wait]
 obtain⟨r,HS⟩:=dR ((dy D.QN D.sE i).getD 0)
 rw[<-HS.out]
 go_enter func192,ntmps192
 go_upto_region 1 with fail
 rw[HW0.out]
 obtain⟨xb,hxe⟩:=bY w.heap.size
 rw[<-hxe]at hC⊢
 have hxb:w.heap.size<=xb:=bs hxe.symm;clear hxe HW0
 have xx:=aJ hC
 go_wp2_with fail
 clear xx
 go_loopw [5,6] (λl t wr=>∃j:Nat,j<=i/\t=M U j/\bj (wr.ownsRow (xb+1) 9 1 l j ((List.range j).map λk=>ay (D.QN k)))/\am wr xb 55 #[T za D.zn zc,T da D.dn dc,T pa D.pn pc,T ka D.kn kc,T qa D.qn qc,M U D.panel,M U D.wait]/\ap w.heap.size w wr) (λ_ t _=>i - (aV t).toNat)
 case atStart=>exact⟨0,aF _,rfl,aj.ownsRow_nil _ _ _ _,hC,hB⟩
 case round=>
  clear hC hB
  obtain⟨j,hj,rfl,HOW,hC,hB⟩:=hrel
  have xx:=aJ hC
  by_cases hlt:j<i
  ·obtain⟨qb,qo,rfl,ql,hc⟩:=(HRq.out.below hB).elem (show j<D.qn by omega)
   have e0:wr.cell? ⟨qb,qo+j*6,ag⟩=ai (ay (D.QN j)):=hc 0 om
   clear hc
   generalize hb0:D.QN j=b0 at *
   have HB0:=af hb0
   clear hb0
   have i2:(j:Int)<(i:Int):=om
   have i3:(j:Int)<(D.qn:Int):=om
   go_wp2_with (at_builtin;refine ci _ (by rfl) _ _ _ (by rfl) (xb+1) 9 i0 _ 1 16 underlying52 hi hz0 hz1 hz2 rfl om _ j _ (by rfl) (ck HOW.out _) ⟨wr.heap.size,0,ag⟩ 1 1 [ay b0] (by rfl) (by rfl) (cm (cs:=#[ay b0]) (t:=9) (fr:=(0,0)) (aK wr _)) (by simp[aw.oneCell']) om (by unfold cF;omega) om (by have:=hC.lt;simp;omega) (wr.heap.size+1) (by simp) ?_;intro g cap wn hown1 hgrow hat hltg)
   go_roundw
   case rel=>exact⟨j+1,by omega,by go_num,by have h:=hown1;rw[<-HB0.out]at h;exact(fd (F:=λk=>ay (D.QN k)) j)▸h,fk hC hgrow HOW.out om,eC hB hgrow HOW.out om⟩
   case measure=>simp[aV];omega
  obtain rfl:j=i:=om
  have hjj:¬(j:Int)<(j:Int):=om
  have i3:(j:Int)<(D.qn:Int):=om
  obtain⟨qb,qo,rfl,ql,hc⟩:=(HRq.out.below hB).elem hi2
  have e0:wr.cell? ⟨qb,qo+j*6,ag⟩=ai (ay (D.QN j)):=hc 0 om
  have e1:wr.cell? ⟨qb,qo+j*6+1,ag⟩=ai (M U (D.QR j 1)):=hc 1 om
  have e2:wr.cell? ⟨qb,qo+j*6+2,ag⟩=ai (M U (D.QR j 2)):=hc 2 om
  have e3:wr.cell? ⟨qb,qo+j*6+3,ag⟩=ai (M U (D.QR j 3)):=hc 3 om
  have e4:wr.cell? ⟨qb,qo+j*6+4,ag⟩=ai (M U (D.QR j 4)):=hc 4 om
  have e5:wr.cell? ⟨qb,qo+j*6+5,ag⟩=ai (T (D.SA j) (D.SN j) (D.SC j)):=hc 5 om
  clear hc
  have HRN:=af (aU.of_own (F:=λk=>ay (D.QN k)) HOW.out)
  generalize hb0:D.QN j=b0 at *
  clear hb0
  generalize D.QR j 1=b1 at *
  generalize D.QR j 2=b2 at *
  generalize D.QR j 3=b3 at *
  generalize D.QR j 4=b4 at *
  generalize D.SA j=ka2 at *
  generalize D.SN j=kn2 at *
  generalize D.SC j=kc2 at *
  go_upto_region 7 with fail
  obtain⟨w1,hW9,hN9,hb⟩:=bW wr 246 #[ay b0,M U b1,M U b2,M U b3,M U b4,T ka2 kn2 kc2]
  rw[hW9.out]
  clear hW9
  have HRN1:=af (HRN.out.below hb);clear HRN HOW
  obtain⟨hC,hB⟩:=bS hC hB hb
  generalize wr.heap.size=db at *
  have hD:=hN9
  have dd:=aH hD
  clear hN9 e0 e1 e2 e3 e4 e5 xx
  have xx:=aJ hC
  go_wp2_with fail
  refine aZ (ft _ j D.QN _ _ hNi HRN1.out om) ?_
  intro w2 hb
  obtain⟨hC,hD,hB⟩:=bM hC hD hB hb
  clear HRN1
  generalize oR D.QN b0 j=q at *
  clear xx
  have xx:=aJ hC
  clear dd
  have dd:=aH hD
  by_cases hq:q=0
  rotate_left
  ·have hqn2:(q != 0)=true:=by simpa using hq
   exact ms
  subst hq
  go_wp2_with fail
  refine aR (eS _ _) ?_
  rintro(_|_) g1
  rotate_left
  ·exact ms
  go_wp2_with fail
  refine aR (eS _ _) ?_
  rintro(_|_) g2
  rotate_left
  ·exact ms
  go_wp2_with fail
  refine aR (bC _ _ _ _) ?_
  rintro(_|_) g3
  rotate_left
  ·exact ms
  go_wp2_with fail
  refine aR (fP _ _) ?_
  rintro(_|_) g4
  rotate_left
  ·exact ms
  by_cases hk0:kn2=0
  ·subst hk0
   exact ms
  have hk0i:¬(kn2:Int)=0:=om
  have hk0b:((kn2:Int)==0)=false:=by simpa using hk0i
  have hkp:¬kn2=0:=hk0
  go_wp2_with fail
  clear xx
  clear dd
  go_loopw [9] (λt wr=>∃m:Nat,m<=kn2/\t=M U (m:Int)/\bj (∀k,k<m->aI (D.QK j k) 0 ((D.kn:Int) - 1)=false)/\am wr xb 55 #[T za D.zn zc,T da D.dn dc,T pa D.pn pc,T ka D.kn kc,T (ai ⟨qb,qo,ag⟩) D.qn qc,M U D.panel,M U D.wait]/\am wr db 246 #[ay b0,M U b1,M U b2,M U b3,M U b4,T ka2 kn2 kc2]/\ap w.heap.size w wr) (λt _=>kn2 - (aV t).toNat)
  case atStart=>exact⟨0,aF _,rfl,show∀k,k<0->_ from(λk h=>absurd h om),hC,hD,hB⟩
  case round=>
   clear hC hD hB
   obtain⟨m,hm,rfl,HM,hC,hD,hB⟩:=hrel
   have xx:=aJ hC
   have dd:=aH hD
   by_cases hl2:m<kn2
   ·obtain⟨kb,ko,rfl,kl,hc⟩:=(HRs.out.below hB).elem hl2
    have f1:wr.cell? ⟨kb,ko+m,ag⟩=ai (M U (D.QK j m)):=eI hc
    clear hc
    have HN3:=af (λh=>dS (p:=λk=>aI (D.QK j k) 0 ((D.kn:Int) - 1)) (m:=m) HM.out h)
    have HH3:=af (λh=>cd (p:=λk=>aI (D.QK j k) 0 ((D.kn:Int) - 1)) (n:=kn2) (m:=m) om h)
    clear HM
    have k4:(m:Int)<(kn2:Int):=om
    generalize D.QK j m=y1 at *
    have hxl:=hC.lt
    have hdl:=hD.lt
    go_upto_region 17 with fail
    have HR:=af λw' (hb:ap wr.heap.size wr w')=>uE (aJ (hC.below hb)) (aH (hD.below hb)) (kp f1 hb)
    have hBd:ap wr.heap.size wr wr.drew:=(au _ _).drew
    clear f1
    refine bV hBd ?_
    refine K2 ?_
    refine cL 9 (λK' hK'=>?_)
    refine aR (bC _ _ _ _) ?_
    rintro(_|_) g9
    rotate_left
    ·refine bO hK' hBd ?_
     clear hK' K'
     refine br 10 hBd ?_
     refine wpAnyH_done kr ?_ _
     (try simp only[Exit.then])
     (try refine‹∀(a:Act) (w:aj),bi prog _ _ a w->_› _ _ ?_)
     replace hC:=hC.drew
     replace hD:=hD.drew
     replace hB:=hB.drew
     clear xx
     clear dd
     clear HR hBd
     generalize wr.drew=w9 at *
     have xx:=aJ hC
     have dd:=aH hD
     have hA:=HH3.out g9
     exact vR
    refine bO hK' hBd ?_
    clear hK' K'
    refine br 10 hBd ?_
    refine wpAnyH_done kr ?_ _
    (try simp only[Exit.then])
    (try refine‹∀(a:Act) (w:aj),bi prog _ _ a w->_› _ _ ?_)
    replace hC:=hC.drew
    replace hD:=hD.drew
    replace hB:=hB.drew
    clear xx
    clear dd
    clear HR hBd
    generalize wr.drew=w9 at *
    have xx:=aJ hC
    have dd:=aH hD
    have HM:=af (HN3.out g9)
    exact T94
   obtain rfl:kn2=m:=om
   have hA:=bT HM.out
   clear HM
   have k5:¬((kn2:Nat):Int)<((kn2:Nat):Int):=om
   go_wp2_with fail
   clear xx
   clear dd
   go_loopw [10] (λt wr=>∃m:Nat,m+1<=kn2/\t=M U ((m+1:Nat):Int)/\bj (∀k,k<m->decide (D.QK j (k+1)<=D.QK j k)=false)/\am wr xb 55 #[T za D.zn zc,T da D.dn dc,T pa D.pn pc,T ka D.kn kc,T (ai ⟨qb,qo,ag⟩) D.qn qc,M U D.panel,M U D.wait]/\am wr db 246 #[ay b0,M U b1,M U b2,M U b3,M U b4,T ka2 kn2 kc2]/\ap w.heap.size w wr) (λt _=>kn2 - (aV t).toNat)
   case atStart=>exact⟨0,by omega,rfl,show∀k,k<0->_ from(λk h=>absurd h om),hC,hD,hB⟩
   case round=>
    clear hC hD hB
    obtain⟨m,hm,rfl,HM,hC,hD,hB⟩:=hrel
    have xx:=aJ hC
    have dd:=aH hD
    by_cases hl3:m+1<kn2
    rotate_left
    ·obtain rfl:kn2=m+1:=om
     have hA2:=bT HM.out
     clear HM
     have k5:¬((m+1:Nat):Int)<((m+1:Nat):Int):=om
     exact ms
    obtain⟨kb,ko,rfl,kl,hc⟩:=(HRs.out.below hB).elem hl3
    obtain⟨kb2,ko2,hq2,-,hc2⟩:=(HRs.out.below hB).elem (show m<kn2 by omega)
    obtain⟨rfl,rfl⟩:kb=kb2/\ko=ko2:=by simpa using hq2
    have f1:wr.cell? ⟨kb,ko+(m+1),ag⟩=ai (M U (D.QK j (m+1))):=eI hc
    have f2:wr.cell? ⟨kb,ko+m,ag⟩=ai (M U (D.QK j m)):=eI hc2
    clear hc hc2 hq2
    have HN3:=af (λh=>dS (p:=λk=>decide (D.QK j (k+1)<=D.QK j k)) (m:=m) HM.out h)
    have HH3:=af (λh=>cd (p:=λk=>decide (D.QK j (k+1)<=D.QK j k)) (n:=kn2 - 1) (m:=m) om h)
    clear HM
    have k1:(((m+1:Nat):Int) - 1)=(m:Int):=om
    have k2:=aD (((m+1:Nat):Int) - 1) ⟨by omega,by omega⟩
    have k3:((m+1:Nat):Int)<(kn2:Int):=om
    have k4:(m:Int)<(kn2:Int):=om
    generalize D.QK j (m+1)=y1 at *
    generalize D.QK j m=y2 at *
    go_upto_region 22 with fail
    go_quiet (fail)
    have hb:=aM (au wr.heap.size wr) nq
    obtain⟨hC,hD,hB⟩:=bM hC hD hB hb
    generalize wr.drewN nq=w9 at *
    clear xx
    have xx:=aJ hC
    clear dd
    have dd:=aH hD
    clear f1 f2
    by_cases hy:y1<=y2
    ·have hA2:=HH3.out (by simpa using hy)
     exact vR
    have HM:=af (HN3.out (by simpa using hy))
    exact T94
end
section
open Tryz
open Go.RowKit Go.Shelf
attribute [local go_sem] Oper.semAt_some
theorem sZ (D:bE):D.long=(aI (D.zn:Int) 1 8||(decide (24<(D.dn:Int))||(decide (8<(D.pn:Int))||(decide (8<(D.kn:Int))||decide (6<(D.qn:Int)))))):=by
 unfold bE.long aI
 rw[Bool.eq_iff_iff]
 simp
 omega
theorem pP (D:bE) (z:Nat):(!(D.nears (z:Int)).isEmpty)=bI (λq=>D.near z q) D.qn:=by
 unfold bE.nears bE.nearsB bI
 rw[if_neg om,Int.toNat_natCast,Bool.eq_iff_iff,List.any_eq_true]
 simp
theorem th {N:Nat->ByteArray} {E:Nat->Int} {i:Nat}:∀e,dy N E i=ai e->e≠0:=λe h=>by
 unfold dy at h
 split at h
 ·cases h;decide
 ·split at h
  ·cases h;decide
  ·split at h
   ·cases h
   ·rename_i h3;cases h;exact h3
theorem rV {D:bE} {i e:Int} (h:tM D=(i,e)) (he:e≠0):aB D.dF D.dn 0=ai (i.toNat,e)/\((i.toNat:Nat):Int)=i:=by
 unfold tM at h
 cases hf:aB D.dF D.dn 0 with
 |none=>rw[hf]at h;cases h;exact absurd rfl he
 |some p=>obtain⟨a,b⟩:=p;rw[hf]at h;cases h;exact⟨by simp,by simp⟩
theorem mH {D:bE} {i:Int} (h:tM D=(i,0)):aB D.dF D.dn 0=ag:=by
 unfold tM at h
 cases hf:aB D.dF D.dn 0 with
 |none=>rfl
 |some p=>
  obtain⟨a,b⟩:=p
  rw[hf]at h
  cases h
  have h4:=(cJ _ _ hf).2.2
  unfold bE.dF at h4
  split at h4
  ·cases h4
  split at h4<;>cases h4
theorem iz (D:bE) (w:aj) (hV:eP w D):
  aC prog 117 #[aN D.cells] w (E3 w (eF D)):=by
 have HL:=af (@dJ D)
 have hle:=sZ D
 have hkl:=hV.nk
 obtain⟨⟨i1,e1⟩,hr1⟩:∃p,eD D.ZN D.zE D.zn=p:=⟨_,rfl⟩
 obtain⟨⟨i2,e2⟩,hr2⟩:∃p,tM D=p:=⟨_,rfl⟩
 obtain⟨⟨i3,e3⟩,hr3⟩:∃p,eD D.PN D.pE D.pn=p:=⟨_,rfl⟩
 obtain⟨za,zc,da,dc,pa,pc,ka,kc,qa,qc,hvz,hvd,hvp,hvk,hvq⟩:=hV.forms
 have HDC:bj (D.cells=#[T za D.zn zc,T da D.dn dc,T pa D.pn pc,T ka D.kn kc,T qa D.qn qc,M U D.panel,M U D.wait]):=show _=_ by unfold bE.cells;rw[hvz,hvd,hvp,hvk,hvq]
 have HRk:=af (show _ from(by have h:=hV.k;rw[hvk]at h;exact h))
 have HRq:=af (show _ from(by have h:=hV.q;rw[hvq]at h;exact h))
 rw[HDC.out]
 have HZ:=af (λ(hl:D.long=false) W (h:ap w.heap.size w W)=>show aC prog _ _ W _ from(by have h9:=nr D W (hV.below h) (by have:=dJ hl;omega);unfold E2 at h9;rw[hr1,HDC.out]at h9;exact h9))
 have HDo:=af (λ(hl:D.long=false) W (h:ap w.heap.size w W)=>show aC prog _ _ W _ from(by have h9:=nF D W (hV.below h) (by have:=dJ hl;omega) (by have:=dJ hl;omega);unfold E2 at h9;rw[hr2,HDC.out]at h9;exact h9))
 have HPe:=af (λ(hl:D.long=false) W (h:ap w.heap.size w W)=>show aC prog _ _ W _ from(by have h9:=lr D W (hV.below h) (by have:=dJ hl;omega);unfold E2 at h9;rw[hr3,HDC.out]at h9;exact h9))
 have HSq:=af (λ(hl:D.long=false) (j:Nat) (hj:j<D.qn) W (h:ap w.heap.size w W)=>show aC prog _ _ W _ from(by have h9:=mt D j W (hV.below h) hj (by have:=dJ hl;omega) (by have:=dJ hl;omega);rw[HDC.out]at h9;exact h9))
 have HZo:=af (λ(hl:D.long=false) W (h:ap w.heap.size w W)=>show aC prog _ _ W _ from(by have h9:=gQ D D.panel W (hV.below h) (by have:=dJ hl;omega);rw[HDC.out]at h9;exact h9))
 have HNe:=af (λ(hN:sV D) (pz:Nat) (hp:D.panel=(pz:Int)) (hz:pz<D.zn) (j:Nat) (hj:j<D.qn) W (h:ap w.heap.size w W)=>show aC prog 194 #[_,M U D.panel,M U (j:Int)] W _ from(by have h9:=jt D pz j W (hV.below h) hN hz hj;rw[HDC.out,<-hp]at h9;exact h9))
 clear hvz hvd hvp hvk hvq
 obtain⟨W0,xb,HW0,hC,hB⟩:=eB w 55 #[T za D.zn zc,T da D.dn dc,T pa D.pn pc,T ka D.kn kc,T qa D.qn qc,M U D.panel,M U D.wait]
 obtain⟨r,HS⟩:=dR (eF D)
 rw[<-HS.out]
 go_enter func117,ntmps117
 go_upto_region 1 with fail
 rw[HW0.out.1,HW0.out.2]
 clear HW0
 obtain⟨x0,x1,x2,x3,x4,x5,x6⟩:=aJ hC
 go_wp2_with fail
 refine aR (bC _ _ _ _) ?_
 rintro(_|_) g0
 rotate_left
 ·exact qN
 by_cases hdn:24<(D.dn:Int)
 ·exact qN
 by_cases hpn:8<(D.pn:Int)
 ·exact qN
 by_cases hkn:8<(D.kn:Int)
 ·exact qN
 by_cases hqn:6<(D.qn:Int)
 ·exact qN
 have hL:D.long=false:=by rw[hle];simp[*]
 clear hle
 have hlk:=HL.out hL
 go_wp2_with fail
 refine aZ (HZ.out hL _ hB) ?_
 intro w1 hb
 try replace hC:=hC.below hb
 try replace hL:=hL.below hb
 replace hB:=ak hB hb
 obtain⟨x0,x1,x2,x3,x4,x5,x6⟩:=aJ hC
 by_cases he1:e1=0
 rotate_left
 ·have heb1:(e1 != 0)=true:=by simpa using he1
  exact pK
 subst he1
 go_wp2_with fail
 refine aZ (HDo.out hL _ hB) ?_
 intro w2 hb
 try replace hC:=hC.below hb
 try replace hL:=hL.below hb
 replace hB:=ak hB hb
 obtain⟨x0,x1,x2,x3,x4,x5,x6⟩:=aJ hC
 by_cases he2:e2=0
 rotate_left
 ·have heb2:(e2 != 0)=true:=by simpa using he2
  have hd2:aB D.dF D.dn 0=ai (i2.toNat,e2)/\((i2.toNat:Nat):Int)=i2:=rV hr2 he2
  have hd3:=hd2.1
  have hd4:=hd2.2
  clear hd2
  exact pK
 subst he2
 go_wp2_with fail
 refine aZ (HPe.out hL _ hB) ?_
 intro w3 hb
 try replace hC:=hC.below hb
 try replace hL:=hL.below hb
 replace hB:=ak hB hb
 obtain⟨x0,x1,x2,x3,x4,x5,x6⟩:=aJ hC
 by_cases he3:e3=0
 rotate_left
 ·have heb3:(e3 != 0)=true:=by simpa using he3
  have hdn:=mH hr2
  exact pK
 subst he3
 have hdn:=mH hr2
 go_wp2_with fail
 go_loopw [7] (λi wr=>∃j:Nat,j<=D.kn/\i=M U j/\bj (aB (dy D.KN (λ_=>0)) D.kn 0=aB (dy D.KN (λ_=>0)) (D.kn - j) j)/\am wr xb 55 #[T za D.zn zc,T da D.dn dc,T pa D.pn pc,T ka D.kn kc,T qa D.qn qc,M U D.panel,M U D.wait]/\ap w.heap.size w wr) (λi _=>D.kn - (aV i).toNat)
 case atStart=>exact⟨0,aF _,rfl,show _=_ from rfl,hC,hB⟩
 case round=>
  clear hC hB
  obtain⟨j,hj,rfl,HJ,hC,hB⟩:=hrel
  by_cases hlt:j<D.kn
  ·have HF:=af (HJ.out.trans (bf (dy D.KN (λ_=>0)) hlt))
   have HQ:=af (iW D.KN (λ_=>0) j)
   clear HJ
   have i2:(j:Int)<(D.kn:Int):=om
   obtain⟨x0,x1,x2,x3,x4,x5,x6⟩:=aJ hC
   have hNj:=hkl j hlt
   have hkc:D.kn<=kc:=by obtain⟨_,_,he,hk9,_⟩:=id HRk.out;cases he;exact hk9
   have hjc:(j:Int)<=(kc:Int):=om
   have HT:=af ((HRk.out.below hB).take (Nat.le_of_lt hlt))
   obtain⟨kb,ko,rfl,kl,hc⟩:=(HRk.out.below hB).elem hlt
   have f1:wr.cell? ⟨kb,ko+j,ag⟩=ai (ay (D.KN j)):=by have h:=hc 0 om;rw[Nat.mul_one,bq]at h;exact h
   generalize D.KN j=b0 at *
   have hxl:=hC.lt
   go_upto_region 15 with fail
   have HR:bj (∀w':aj,ap wr.heap.size wr w'->w'.cell? ⟨xb,3,ag⟩=ai (T (ai ⟨kb,ko,ag⟩) D.kn kc)/\w'.cell? ⟨kb,ko+j,ag⟩=ai (ay b0)):=show∀w',_->_ from λw' hb=>⟨(hb.cell (p:=⟨xb,3,ag⟩) hxl).trans x3,(hb.cell (p:=⟨kb,ko+j,ag⟩) kl).trans f1⟩
   have hBd:ap wr.heap.size wr wr.drew:=(au _ _).drew
   refine bV hBd ?_
   refine K2 ?_
   refine cL 9 (λK' hK'=>?_)
   refine aZ (ft b0 j D.KN _ _ hNj (HT.out.below hBd) om) ?_
   intro w9 hb
   have hB1:=ak hBd hb
   refine bO hK' hB1 ?_
   clear hK' K'
   refine br 10 hB1 ?_
   refine wpAnyH_done kr ?_ _
   (try simp only[Exit.then])
   (try refine‹∀(a:Act) (w:aj),bi prog _ _ a w->_› _ _ ?_)
   replace hC:=hC.below hB1
   replace hB:=ak hB hB1
   obtain⟨x0,x1,x2,x3,x4,x5,x6⟩:=aJ hC
   generalize oR D.KN b0 j=q at *
   clear HR hBd hB1 HT
   by_cases hq:q=0
   rotate_left
   ·have hqb:(q != 0)=true:=by simpa using hq
    have hJ:=HF.out
    rw[HQ.out]at hJ
    simp[hq]at hJ
    clear HF HQ
    have hr4:eD D.KN (λ_=>0) D.kn=((j:Int),q):=by unfold eD;rw[hJ]
    exact pK
   subst hq
   have HJ2:bj (aB (dy D.KN (λ_=>0)) D.kn 0=aB (dy D.KN (λ_=>0)) (D.kn - (j+1)) (j+1)):=by
    exact pZ
   exact qG
  have hjn:j=D.kn:=om
  have hJ:=HJ.out
  rw[hjn]at hJ
  replace hJ:=hJ.trans (bh (dy D.KN (λ_=>0)) D.kn)
  clear HJ
  have hr4:eD D.KN (λ_=>0) D.kn=(0,0):=by unfold eD;rw[hJ]
  clear hJ
  have hnj:¬(j:Int)<(D.kn:Int):=om
  clear hjn
  obtain⟨x0,x1,x2,x3,x4,x5,x6⟩:=aJ hC
  go_wp2_with fail
  go_loopw [9] (λi wr=>∃j:Nat,j<=D.qn/\i=M U j/\bj (aB (dy D.QN D.sE) D.qn 0=aB (dy D.QN D.sE) (D.qn - j) j)/\am wr xb 55 #[T za D.zn zc,T da D.dn dc,T pa D.pn pc,T ka D.kn kc,T qa D.qn qc,M U D.panel,M U D.wait]/\ap w.heap.size w wr) (λi _=>D.qn - (aV i).toNat)
  case atStart=>exact⟨0,aF _,rfl,show _=_ from rfl,hC,hB⟩
  case round=>
   clear hC hB
   obtain⟨j,hj,rfl,HJ,hC,hB⟩:=hrel
   by_cases hlt:j<D.qn
   ·have HF:=af (HJ.out.trans (bf (dy D.QN D.sE) hlt))
    have hz:=th (N:=D.QN) (E:=D.sE) (i:=j)
    clear HJ
    have i2:(j:Int)<(D.qn:Int):=om
    obtain⟨x0,x1,x2,x3,x4,x5,x6⟩:=aJ hC
    go_wp2_with fail
    refine aZ (HSq.out hL j hlt _ hB) ?_
    intro w9 hb
    try replace hC:=hC.below hb
    try replace hL:=hL.below hb
    replace hB:=ak hB hb
    generalize dy D.QN D.sE j=q at HF hz⊢
    obtain⟨x0,x1,x2,x3,x4,x5,x6⟩:=aJ hC
    rcases q with _|e
    ·have HJ2:bj (aB (dy D.QN D.sE) D.qn 0=aB (dy D.QN D.sE) (D.qn - (j+1)) (j+1)):=show _=_ from HF.out
     exact tQ
    have hne:(e != 0)=true:=by have h:=hz e rfl;simpa using h
    have hJ:=HF.out
    clear HF hz
    simp only at hJ
    have hr5:eD D.QN D.sE D.qn=((j:Int),e):=by unfold eD;rw[hJ]
    exact pK
   have hjn2:j=D.qn:=om
   have hJ:=HJ.out
   rw[hjn2]at hJ
   replace hJ:=hJ.trans (bh (dy D.QN D.sE) D.qn)
   clear HJ
   have hr5:eD D.QN D.sE D.qn=(0,0):=by unfold eD;rw[hJ]
   clear hJ
   have hnj2:¬(j:Int)<(D.qn:Int):=om
   clear hjn2
   obtain⟨x0,x1,x2,x3,x4,x5,x6⟩:=aJ hC
   go_wp2_with fail
   refine cg (HZo.out hL _ hB) ?_
   rintro(_|_) w9 gz hb
   rotate_left
   ·try replace hC:=hC.below hb
    try replace hL:=hL.below hb
    replace hB:=ak hB hb
    obtain⟨x0,x1,x2,x3,x4,x5,x6⟩:=aJ hC
    go_wp2_with fail
    go_ret3
    refine⟨?_,hB⟩
    rw[HS.out]
    simp[eF,fB, *]
   try replace hC:=hC.below hb
   try replace hL:=hL.below hb
   replace hB:=ak hB hb
   obtain⟨x0,x1,x2,x3,x4,x5,x6⟩:=aJ hC
   have hpz:=aW.1 gz
   obtain⟨pz,hp⟩:∃m:Nat,D.panel=(m:Int):=⟨D.panel.toNat,by omega⟩
   have hzz:pz<D.zn:=om
   have hN:sV D:=by
    have hz1:=gT (show(eD D.ZN D.zE D.zn).2=0 by rw[hr1])
    have hz2:=gT (show(eD D.QN D.sE D.qn).2=0 by rw[hr5])
    exact nQ hL (λi hi=>(hz1 i hi).2.2) (λi hi=>(hz2 i hi).2.2)
   have HN2:=af hN
   have HNA:=af (pP D pz)
   rw[<-hp]at HNA
   have HP:=af hp
   clear hN hp
   go_wp2_with fail
   go_loopw [11] (λi wr=>∃j:Nat,j<=D.qn/\i=M U j/\bj (∀k,k<j->D.near pz k=false)/\am wr xb 55 #[T za D.zn zc,T da D.dn dc,T pa D.pn pc,T ka D.kn kc,T qa D.qn qc,M U D.panel,M U D.wait]/\ap w.heap.size w wr) (λi _=>D.qn - (aV i).toNat)
   case atStart=>exact⟨0,aF _,rfl,show∀k,k<0->_ from(λk h=>absurd h om),hC,hB⟩
   case round=>
    clear hC hB
    obtain⟨j,hj,rfl,HM,hC,hB⟩:=hrel
    by_cases hlt:j<D.qn
    rotate_left
    ·have hA:=bT HM.out
     have hjn3:j=D.qn:=om
     rw[hjn3]at hA
     have hNA:=HNA.out.trans hA
     clear HM hA
     have hnj3:¬(j:Int)<(D.qn:Int):=om
     clear hjn3
     obtain⟨x0,x1,x2,x3,x4,x5,x6⟩:=aJ hC
     go_wp2_with fail
     refine aR (bC _ _ _ _) ?_
     rintro(_|_) gw
     ·exact vE
     exact vE
    have HN3:=af (λh=>dS (p:=λk=>D.near pz k) (m:=j) HM.out h)
    have HH3:=af (λh=>cd (p:=λk=>D.near pz k) hlt h)
    clear HM
    have i2:(j:Int)<(D.qn:Int):=om
    obtain⟨x0,x1,x2,x3,x4,x5,x6⟩:=aJ hC
    go_wp2_with fail
    refine bH (HNe.out HN2.out pz HP.out hzz j hlt _ hB) ?_
    rintro(_|_) w9 gn hb
    ·try replace hC:=hC.below hb
     try replace hL:=hL.below hb
     replace hB:=ak hB hb
     obtain⟨x0,x1,x2,x3,x4,x5,x6⟩:=aJ hC
     have HM:=af (HN3.out gn)
     clear HN3 HH3
     go_wp2_with fail
     go_roundw
     case rel=>exact⟨j+1,by omega,by go_num,HM,hC,hB⟩
     case measure=>simp[aV];omega
    try replace hC:=hC.below hb
    try replace hL:=hL.below hb
    replace hB:=ak hB hb
    obtain⟨x0,x1,x2,x3,x4,x5,x6⟩:=aJ hC
    have hA:=HH3.out gn
    have hNA:=HNA.out.trans hA
    clear HN3 HH3
    go_wp2_with fail
    go_ret3
    refine⟨?_,hB⟩
    rw[HS.out]
    simp[eF,fB,hL,hr1,hr3,hr4,hr5,hdn,gz,hNA]
end
section
open Tryz
open Go.RowKit Go.Shelf
attribute [local go_sem] Oper.semAt_some
def ExB (w:aj) (c:Bool->Prop) (e:Ending) (w1:aj):Prop:=∃b,e=ar (aA b)/\c b/\ap w.heap.size w w1
theorem ld {P:Program} {f:FuncId} {a:Array aw} {w w0:aj} {c:Bool->Prop} {Q:Ending->aj->Prop} (h:aC P f a w (ExB w0 c)) (hK:∀(b:Bool) (w1:aj),c b->ap w0.heap.size w0 w1->Q (ar (aA b)) w1):aC P f a w Q:=
 h.mono λe w1 ⟨b,he,hc,hb⟩=>by subst he;exact hK b w1 hc hb
theorem gC.forms {w:aj} {S:bL} (h:gC w S):∃a1 c1 a2 c2 a3 c3,S.zv=T a1 S.zn c1/\S.hv=T a2 S.hn c2/\S.qv=T a3 S.sn c3:=by
 obtain⟨a1,c1,h1,_⟩:=h.z
 obtain⟨a2,c2,h2,_⟩:=h.h
 obtain⟨a3,c3,h3,_⟩:=h.q
 exact⟨a1,c1,a2,c2,a3,c3,h1,h2,h3⟩
theorem ju (S:bL) (z:Int) (w:aj) (hS:gC w S) (hn:S.zn<=8):
  aC prog 513 #[aN S.cells,M U z] w λe w'=>e=ar (M U (S.crowd z:Nat))/\ap w.heap.size w w':=by
 have HCR:bj (S.crowd z=fR (λi=>S.Z i==z) S.zn):=show _=_ from rfl
 obtain⟨a1,c1,a2,c2,a3,c3,hw1,hw2,hw3⟩:=hS.forms
 have HSC:bj (S.cells=#[M U S.now,T a1 S.zn c1,T a2 S.hn c2,T a3 S.sn c3,M U S.siren,aA S.storm]):=show _=_ by unfold bL.cells;rw[hw1,hw2,hw3]
 have HRZ:=af (show _ from(by have h:=hS.z;rw[hw1]at h;exact h))
 rw[HSC.out]
 clear hw1 hw2 hw3
 obtain⟨r,HS⟩:∃r:Nat,bj (r=S.crowd z):=⟨_,show _=_ from rfl⟩
 rw[<-HS.out]
 obtain⟨W0,xb,HW0,hC,hB⟩:=eB w 75 #[M U S.now,T a1 S.zn c1,T a2 S.hn c2,T a3 S.sn c3,M U S.siren,aA S.storm]
 go_enter func513,ntmps513
 go_upto_region 1 with fail
 rw[HW0.out.1,HW0.out.2]
 clear HW0
 have xx:=aH hC
 go_wp2_with fail
 go_loopw [5,6] (λn t wr=>∃j:Nat,j<=S.zn/\t=M U (j:Int)/\n=M U ((fR (λi=>S.Z i==z) j:Nat):Int)/\am wr xb 75 #[M U S.now,T a1 S.zn c1,T a2 S.hn c2,T a3 S.sn c3,M U S.siren,aA S.storm]/\ap w.heap.size w wr) (λ_ t _=>S.zn - (aV t).toNat)
 case atStart=>exact⟨0,aF _,rfl,rfl,hC,hB⟩
 case round=>
  clear hC hB
  obtain⟨j,hj,rfl,rfl,hC,hB⟩:=hrel
  have xx:=aH hC
  by_cases hlt:j<S.zn
  rotate_left
  ·have hnj:¬(j:Int)<(S.zn:Int):=om
   have HJ:bj (j=S.zn):=show _=_ by omega
   go_wp2_with fail
   go_ret
   exact⟨bJ (by rw[HS.out,HCR.out,HJ.out]),hB⟩
  obtain⟨bb,bo,rfl,bl,hc⟩:=(HRZ.out.below hB).elem hlt
  have e0:wr.cell? ⟨bb,bo+j,ag⟩=ai (M U (S.Z j)):=eI hc
  have hs:=im (λi=>S.Z i==z) j
  have hle:=kQ (λi=>S.Z i==z) j
  generalize S.Z j=v at *
  generalize fR (λi=>S.Z i==z) j=cn at *
  have HCN:=af hs
  clear hs
  have i2:(j:Int)<(S.zn:Int):=om
  have hwn:=aD ((cn:Int)+1) ⟨by omega,by omega⟩
  cases hv:(v==z)
  ·exact T92
  exact T92
theorem lO (D:bE) (S:bL) (person:Int) (q:Nat) (w:aj) (hV:eP w D) (hS:gC w S) (hG:cA D) (hH:D.kn<=S.hn) (hq:q<D.qn):
  aC prog 574 #[aN D.cells,aN S.cells,M U person,M U (q:Int)] w (ExB w λ_=>True):=by
 have hsn:=hG.sn hq
 have HKK:bj (∀j,j<D.SN q->0<=D.QK q j/\D.QK q j<S.hn):=show∀j,_->_ from λj hj=>by have h9:=hG.key hq hj;omega
 have HRk:=af (hV.s q hq)
 have i1:(q:Int)<(D.qn:Int):=om
 obtain⟨za,zc,da,dc,pa,pc,ka,kc,qa,qc,hvz,hvd,hvp,hvk,hvq⟩:=hV.forms
 have HDC:bj (D.cells=#[T za D.zn zc,T da D.dn dc,T pa D.pn pc,T ka D.kn kc,T qa D.qn qc,M U D.panel,M U D.wait]):=show _=_ by unfold bE.cells;rw[hvz,hvd,hvp,hvk,hvq]
 obtain⟨a1,c1,a2,c2,a3,c3,hw1,hw2,hw3⟩:=hS.forms
 have HSC:bj (S.cells=#[M U S.now,T a1 S.zn c1,T a2 S.hn c2,T a3 S.sn c3,M U S.siren,aA S.storm]):=show _=_ by unfold bL.cells;rw[hw1,hw2,hw3]
 have HRq:=af (show _ from(by have h:=hV.q;rw[hvq]at h;exact h))
 have HRH:=af (show _ from(by have h:=hS.h;rw[hw2]at h;exact h))
 rw[HDC.out,HSC.out]
 clear hG
 clear hvz hvd hvp hvk hvq hw1 hw2 hw3
 obtain⟨W0,xb,HW0,hC,hC2,hB⟩:=pf w 55 #[T za D.zn zc,T da D.dn dc,T pa D.pn pc,T ka D.kn kc,T qa D.qn qc,M U D.panel,M U D.wait] 75 #[M U S.now,T a1 S.zn c1,T a2 S.hn c2,T a3 S.sn c3,M U S.siren,aA S.storm]
 go_enter func574,ntmps574
 go_upto_region 1 with fail
 rw[HW0.out.1,HW0.out.2]
 obtain⟨yb,hye⟩:=bY (xb+1)
 rw[<-hye]at hC2⊢
 clear hye
 clear HW0
 have xx:=aJ hC
 have yy:=aH hC2
 obtain⟨qb,qo,rfl,ql,hc⟩:=(HRq.out.below hB).elem hq
 have e5:W0.cell? ⟨qb,qo+q*6+5,ag⟩=ai (T (D.SA q) (D.SN q) (D.SC q)):=hc 5 om
 clear hc
 generalize D.SA q=sa at *
 generalize D.SC q=ssc at *
 generalize D.SN q=sn at *
 go_wp2_with fail
 clear xx yy e5
 go_loopw [10] (λt wr=>∃j:Nat,j<=sn/\t=M U (j:Int)/\am wr yb 75 #[M U S.now,T a1 S.zn c1,T a2 S.hn c2,T a3 S.sn c3,M U S.siren,aA S.storm]/\ap w.heap.size w wr) (λt _=>sn - (aV t).toNat)
 case atStart=>exact⟨0,aF _,rfl,hC2,hB⟩
 case round=>
  clear hC hC2 hB
  obtain⟨j,hj,rfl,hC2,hB⟩:=hrel
  have yy:=aH hC2
  by_cases hlt:j<sn
  rotate_left
  ·have hnj:¬(j:Int)<(sn:Int):=om
   go_wp2_with fail
   go_ret
   exact⟨_,rfl,trivial,hB⟩
  obtain⟨hk1,hk2⟩:=HKK.out j hlt
  obtain⟨kb,ko,rfl,kl,hc⟩:=(HRk.out.below hB).elem hlt
  have e0:wr.cell? ⟨kb,ko+j,ag⟩=ai (M U (D.QK q j)):=eI hc
  clear hc
  obtain⟨ki,hki⟩:∃m:Nat,D.QK q j=(m:Int):=⟨(D.QK q j).toNat,by omega⟩
  rw[hki]at hk1 hk2 e0
  clear hki
  obtain⟨hb,ho,rfl,hl,hc⟩:=(HRH.out.below hB).elem (show ki<S.hn by omega)
  have e1:wr.cell? ⟨hb,ho+ki,ag⟩=ai (M U (S.H ki)):=eI hc
  clear hc
  generalize S.H ki=v at *
  have i2:(j:Int)<(sn:Int):=om
  have i3:(ki:Int)<(S.hn:Int):=om
  go_upto_region 5 with fail
  go_quiet (fail)
  have hb:=aM (au wr.heap.size wr) nq
  try replace hC:=hC.below hb
  try replace hC2:=hC2.below hb
  replace hB:=ak hB hb
  clear hb
  generalize wr.drewN nq=w9 at *
  clear e0 e1 yy
  cases hv:(v==person)
  rotate_left
  ·go_wp2_with fail
   go_ret
   exact⟨_,rfl,trivial,hB⟩
  go_wp2_with fail
  go_roundw
  case rel=>exact⟨j+1,by omega,by go_num,hC2,hB⟩
  case measure=>simp[aV];omega
theorem iK (D:bE) (S:bL) (person zone:Int) (w:aj) (hV:eP w D) (hS:gC w S) (hG:cA D) (hH:D.kn<=S.hn) (hQ:D.qn<=S.sn) (hz:zone<D.zn):
  aC prog 514 #[aN D.cells,aN S.cells,M U person,M U zone] w (ExB w λb=>zone<0->b=true):=by
 have hqn:=hG.qn
 have HHo:=af (λ(q:Nat) (hq:q<D.qn) W (h:ap w.heap.size w W)=>lO D S person q W (hV.below h) (hS.below h) hG hH hq)
 have HNe:=af (λ(z q:Nat) (hz:z<D.zn) (hq:q<D.qn) W (h:ap w.heap.size w W)=>jt D z q W (hV.below h) hG.near hz hq)
 obtain⟨za,zc,da,dc,pa,pc,ka,kc,qa,qc,HDC,HRz,HRd,HRp,HRk,HRq⟩:=hV.lit
 obtain⟨a1,c1,a2,c2,a3,c3,hw1,hw2,hw3⟩:=hS.forms
 have HSC:bj (S.cells=#[M U S.now,T a1 S.zn c1,T a2 S.hn c2,T a3 S.sn c3,M U S.siren,aA S.storm]):=show _=_ by unfold bL.cells;rw[hw1,hw2,hw3]
 have HRQ:=af (show _ from(by have h:=hS.q;rw[hw3]at h;exact h))
 rw[HDC.out,HSC.out]
 rw[HDC.out,HSC.out]at HHo
 rw[HDC.out]at HNe
 clear hG
 clear hw1 hw2 hw3
 obtain⟨W0,xb,HW0,hC,hC2,hB⟩:=pf w 55 #[T za D.zn zc,T da D.dn dc,T pa D.pn pc,T ka D.kn kc,T qa D.qn qc,M U D.panel,M U D.wait] 75 #[M U S.now,T a1 S.zn c1,T a2 S.hn c2,T a3 S.sn c3,M U S.siren,aA S.storm]
 go_enter func514,ntmps514
 go_upto_region 1 with fail
 rw[HW0.out.1,HW0.out.2]
 obtain⟨yb,hye⟩:=bY (xb+1)
 rw[<-hye]at hC2⊢
 clear hye
 clear HW0
 have xx:=aJ hC
 have yy:=aH hC2
 go_wp2_with fail
 go_loopw [9] (λt wr=>∃j:Nat,j<=D.qn/\t=M U (j:Int)/\am wr xb 55 #[T za D.zn zc,T da D.dn dc,T pa D.pn pc,T ka D.kn kc,T qa D.qn qc,M U D.panel,M U D.wait]/\am wr yb 75 #[M U S.now,T a1 S.zn c1,T a2 S.hn c2,T a3 S.sn c3,M U S.siren,aA S.storm]/\ap w.heap.size w wr) (λt _=>D.qn - (aV t).toNat)
 case atStart=>exact⟨0,aF _,rfl,hC,hC2,hB⟩
 case round=>
  clear hC hC2 hB
  obtain⟨j,hj,rfl,hC,hC2,hB⟩:=hrel
  have xx:=aJ hC
  have yy:=aH hC2
  by_cases hlt:j<D.qn
  rotate_left
  ·have hnj:¬(j:Int)<(D.qn:Int):=om
   exact wK
  by_cases hz0:zone<0
  ·have i2:(j:Int)<(D.qn:Int):=om
   have hz1:¬(0:Int)<=zone:=om
   have hz2:decide ((0:Int)<=zone)=false:=by simpa using hz1
   exact wK
  obtain⟨zi,hzi⟩:∃m:Nat,zone=(m:Int):=⟨zone.toNat,by omega⟩
  subst hzi
  have i0:(0:Int)<=(zi:Int):=om
  have i2:(j:Int)<(D.qn:Int):=om
  have i3:(j:Int)<(S.sn:Int):=om
  obtain⟨bb,bo,rfl,bl,hc⟩:=(HRQ.out.below hB).elem (show j<S.sn by omega)
  have e0:wr.cell? ⟨bb,bo+j,ag⟩=ai (M U (S.Q j)):=eI hc
  generalize S.Q j=v at *
  cases hv:(v != 2)
  ·exact sY
  go_wp2_with fail
  refine bH (HNe.out zi j om hlt _ hB) ?_
  rintro(_|_) w2 g hb
  ·exact T55
  obtain⟨hC,hC2,hB⟩:=bM hC hC2 hB hb
  have xx:=aJ hC
  have yy:=aH hC2
  go_wp2_with fail
  refine ld (HHo.out j hlt _ hB) ?_
  rintro(_|_) w3 - hb
  ·obtain⟨hC,hC2,hB⟩:=bM hC hC2 hB hb
   have xx:=aJ hC
   have yy:=aH hC2
   go_wp2_with fail
   go_ret
   exact⟨false,rfl,λh=>absurd h om,hB⟩
  exact T55
end
end Go.Proofs.YtbpnallaifdcpaaGreatDoor
