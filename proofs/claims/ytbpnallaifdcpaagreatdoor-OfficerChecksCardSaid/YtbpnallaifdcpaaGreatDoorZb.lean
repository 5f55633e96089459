/- Parts of the proof. -/
import Derived.Test.YtbpnallaifdcpaaGreatDoorZa
set_option linter.unusedVariables false
set_option linter.unusedSimpArgs false
set_option maxRecDepth 100000
set_option maxHeartbeats 4000000
namespace Go.Proofs.YtbpnallaifdcpaaGreatDoor
open Go.Value renaming int→M
open Go.IntKind renaming i64→U
open Go.Value renaming slice→T,pointer→ax,string→ay,bool→aA,agg→aN
open Go.Lib renaming hid→af
open Option renaming none→ag,some→ai
open Go renaming World→aj,Value→aw,Calls→aC,below_drewN→aM,bodyPost_ret→bG
open Go.RowKit renaming Below→ap,intOf→aV,Hid→bj
open Go.Ending renaming returned→ar
open Go.RowKit.Below renaming refl→au,setCell→aS
open Go.IntWalk renaming i64_in→aD
open Nat renaming zero_le→aF,le_trans→aO,le_refl→aY,add_zero→bq
open Go.World renaming block_lt_of_cell?→aG,size_alloc→bg
section
open Tryz
open Go.RowKit
def cj (R:Nat->Nat->Int):Nat->Nat->Int->Option (Nat×Int)
 |0,_,_=>ag
 |m+1,i,f=>
  if R i 0≠f then ai (i,2)
  else if aI (R i 1) (f+1) 100000000||(aI (R i 2) (-10000000) 10000000||aI (R i 3) (R i 2) 10000000)then ai (i,7)
  else cj R m (i+1) (R i 1)
def cP (lo hi:Int):Bool:=aI lo (-500000000) 500000000||aI hi lo 500000000
def cX (S:Nat->Nat->Int):Nat->Nat->Option Nat
 |0,_=>ag
 |m+1,i=>if cP (S i 0) (S i 1)||(cP (S i 2) (S i 3)||aI (S i 4) 0 2000)then ai i else cX S m (i+1)
structure jV where
 rn:Nat
 R:Nat->Nat->Int
 sn:Nat
 S:Nat->Nat->Int
 tx:Int
 ty:Int
 xl:Int
 xh:Int
 yl:Int
 yh:Int
 gain:Int
 turn:Int
 freeze:Int
def ep (t:jV):Bool:=cP t.tx t.tx||(cP t.ty t.ty||(cP t.xl t.xh||(cP t.yl t.yh||(aI t.gain 0 1000000000||(aI t.turn 0 6000||aI t.freeze 0 6000)))))
def ot (t:jV):Int×Int×Int:=
 if aI t.rn 1 20||aI t.sn 1 40 then(1,0,3)
 else match cj t.R t.rn 0 0 with
  |some (i,e)=>(2,i,e)
  |none=>match cX t.S t.sn 0 with
   |some i=>(3,i,7)
   |none=>if ep t then(4,0,7)else(0,0,0)
theorem qT {t:jV} (h:(aI t.rn 1 20||aI t.sn 1 40)=true):ot t=(1,0,3):=by unfold ot;rw[if_pos h]
theorem ru {t:jV} {i:Nat} {e:Int} (h:(aI t.rn 1 20||aI t.sn 1 40)=false) (h2:cj t.R t.rn 0 0=ai (i,e)):ot t=(2,((i:Nat):Int),e):=by unfold ot;rw[if_neg (by rw[h];simp),h2]
theorem tA {t:jV} {i:Nat} (h:(aI t.rn 1 20||aI t.sn 1 40)=false) (h2:cj t.R t.rn 0 0=ag) (h3:cX t.S t.sn 0=ai i):ot t=(3,((i:Nat):Int),7):=by unfold ot;rw[if_neg (by rw[h];simp),h2,h3]
theorem sT {t:jV} (h:(aI t.rn 1 20||aI t.sn 1 40)=false) (h2:cj t.R t.rn 0 0=ag) (h3:cX t.S t.sn 0=ag):ot t=if ep t then(4,0,7)else(0,0,0):=by unfold ot;rw[if_neg (by rw[h];simp),h2,h3]
theorem cZ (n lo hi:Int) (w:aj):
  aC prog 74 #[M U n,M U lo,M U hi] w λe w'=>e=ar (aA (aI n lo hi))/\w=w':=by
 go_enter func74,ntmps74
 exact uF
theorem eA (lo hi:Int) (w:aj):
  aC prog 75 #[aN #[M U lo,M U hi]] w λe w'=>e=ar (aA (cP lo hi))/\ap w.heap.size w w':=by
 go_enter func75,ntmps75
 go_wp2_with fail
 refine(cZ _ _ _ _).mono ?_
 rintro e w' ⟨rfl,rfl⟩
 cases h:aI lo (-500000000) 500000000 with
 |true=>
  exact T39
 |false=>
  go_wp2_with fail
  refine(cZ _ _ _ _).mono ?_
  rintro e w' ⟨rfl,rfl⟩
  exact T39
theorem oE (t:jV) (rv sv:aw) (w:aj) (hR:aU w rv t.rn 4 (bw t.R)) (hS:aU w sv t.sn 5 (bw t.S)):
  aC prog 21 #[aN #[rv,sv,M U t.tx,M U t.ty,M U t.xl,M U t.xh,M U t.yl,M U t.yh,M U t.gain,M U t.turn,M U t.freeze]] w (E3 w (ot t)):=by
 obtain⟨ra,rc,rfl,hrc,hx⟩:=id hR
 obtain⟨sa,sc,rfl,hsc,hx2⟩:=id hS
 clear hx hx2
 obtain⟨W0,hW0⟩:∃W0,w.alloc (.cells #[T ra t.rn rc,T sa t.sn sc,M U t.tx,M U t.ty,M U t.xl,M U t.xh,M U t.yl,M U t.yh,M U t.gain,M U t.turn,M U t.freeze] 36)=W0:=⟨_,rfl⟩
 have hC0:am W0 w.heap.size 36 #[T ra t.rn rc,T sa t.sn sc,M U t.tx,M U t.ty,M U t.xl,M U t.xh,M U t.yl,M U t.yh,M U t.gain,M U t.turn,M U t.freeze]:=by rw[<-hW0];exact aK _ _
 have hB0:ap w.heap.size w W0:=by rw[<-hW0];exact aP (au _ _) _
 have HW0:=af hW0
 have HR:=af hR
 have HS:=af hS
 clear hW0 hR hS
 have H1:=af (qT (t:=t))
 have H2:=af (λi e=>ru (t:=t) (i:=i) (e:=e))
 have H3:=af (λi=>tA (t:=t) (i:=i))
 have H4:=af (sT (t:=t))
 obtain⟨rn,R,sn,S,tx,ty,xl,xh,yl,yh,gain,turn,freeze⟩:=t
 simp only at *
 go_enter func21,ntmps21
 go_upto_region 1 with fail
 rw[HW0.out]
 obtain⟨xb,hxe⟩:=bY w.heap.size
 rw[<-hxe]at hC0⊢
 clear hxe HW0
 have xx:=cD hC0
 go_wp2_with fail
 refine(cZ _ _ _ _).mono ?_
 rintro e w' ⟨rfl,rfl⟩
 cases h1:aI (rn:Nat) 1 20 with
 |true=>
  have HE:=af (H1.out (by rw[h1];rfl))
  exact ux
 |false=>
  go_wp2_with fail
  refine(cZ _ _ _ _).mono ?_
  rintro e w' ⟨rfl,rfl⟩
  cases h2:aI (sn:Nat) 1 40 with
  |true=>
   have HE:=af (H1.out (by rw[h1,h2];rfl))
   exact ux
  |false=>
   have HL:bj ((aI (rn:Nat) 1 20||aI (sn:Nat) 1 40)=false):=by unfold bj;rw[h1,h2];rfl
   have hrn:=aW.1 h1
   have hsn:=aW.1 h2
   clear h1 h2 H1
   go_wp2_with fail
   clear xx
   go_loopw [5,25] (λf i wr=>∃(j:Nat) (fv:Int),j<=rn/\i=M U j/\f=M U fv/\0<=fv/\fv<=100000000/\bj (cj R rn 0 0=cj R (rn - j) j fv)/\am wr xb 36 #[T ra rn rc,T sa sn sc,M U tx,M U ty,M U xl,M U xh,M U yl,M U yh,M U gain,M U turn,M U freeze]/\ap w.heap.size w wr) (λ_ i _=>rn - (aV i).toNat)
   case atStart=>exact⟨0,0,aF _,rfl,rfl,by omega,by omega,show _=_ from rfl,hC0,hB0⟩
   case round=>
    obtain⟨j,fv,hj,rfl,rfl,hf0,hf1,HJ,hCj,hBj⟩:=hrel
    clear hC0 hB0
    by_cases hlt:j<rn
    ·obtain⟨b,off,rfl,hb,hc⟩:=(HR.out.below hBj).elem hlt
     have e0:=hc 0 om
     have e1:=hc 1 om
     have e2:=hc 2 om
     have e3:=hc 3 om
     unfold bw at e0 e1 e2 e3
     rw[bq]at e0
     have HN:bj (cj R (rn - j) j fv=if R j 0≠fv then ai (j,2)else if aI (R j 1) (fv+1) 100000000||(aI (R j 2) (-10000000) 10000000||aI (R j 3) (R j 2) 10000000)then ai (j,7)else cj R (rn - (j+1)) (j+1) (R j 1)):=by
      unfold bj;rw[show rn - j=(rn - (j+1))+1 by omega];rfl
     generalize R j 0=b0 at *
     generalize R j 1=b1 at *
     generalize R j 2=b2 at *
     generalize R j 3=b3 at *
     have i2:(j:Int)<(rn:Int):=om
     clear hc
     go_upto_region 7 with fail
     obtain⟨w1,hW9,hD,hba⟩:=bW wr 131 #[M U b0,M U b1,M U b2,M U b3]
     rw[hW9.out]
     clear hW9
     have hC1:=hCj.below hba
     have hB1:=ak hBj hba
     generalize wr.heap.size=db at *
     obtain⟨d0,d1,d2,d3⟩:=eW (show am w1 db 131 #[M U b0,M U b1,M U b2,M U b3]from hD)
     clear hCj hBj hba hD e0 e1 e2 e3
     by_cases g0:b0=fv
     rotate_left
     ·have g0b:(b0 != fv)=true:=by simp[g0]
      have HE:=af (H2.out j 2 HL.out (by rw[HJ.out,HN.out,if_pos g0]))
      exact jm
     have g0b:(b0 != fv)=false:=by simp[g0]
     have q1:=aD (fv+1) ⟨by omega,by omega⟩
     go_wp2_with fail
     refine(cZ _ _ _ _).mono ?_
     rintro e w' ⟨rfl,rfl⟩
     cases g1:aI b1 (fv+1) 100000000 with
     |true=>
      have HE:=af (H2.out j 7 HL.out (by rw[HJ.out,HN.out,if_neg (by simp[g0]),g1];rfl))
      exact jm
     |false=>
      go_wp2_with fail
      refine(cZ _ _ _ _).mono ?_
      rintro e w' ⟨rfl,rfl⟩
      cases g2:aI b2 (-10000000) 10000000 with
      |true=>
       have HE:=af (H2.out j 7 HL.out (by rw[HJ.out,HN.out,if_neg (by simp[g0]),g1,g2];rfl))
       exact jm
      |false=>
       go_wp2_with fail
       refine(cZ _ _ _ _).mono ?_
       rintro e w' ⟨rfl,rfl⟩
       cases g3:aI b3 b2 10000000 with
       |true=>
        have HE:=af (H2.out j 7 HL.out (by rw[HJ.out,HN.out,if_neg (by simp[g0]),g1,g2,g3];rfl))
        exact jm
       |false=>
        have HJ2:bj (cj R rn 0 0=cj R (rn - (j+1)) (j+1) b1):=by
         unfold bj;rw[HJ.out,HN.out,if_neg (by simp[g0]),g1,g2,g3];rfl
        have gb:=aW.1 g1
        clear g0 g1 g2 g3
        go_wp2_with fail
        go_roundw
        case rel=>exact⟨j+1,b1,by omega,by go_num,rfl,by omega,by omega,HJ2,hC1,hB1⟩
        case measure=>simp[aV];omega
    obtain rfl:j=rn:=om
    have HBN:bj (cj R j 0 0=ag):=by unfold bj;rw[HJ.out,Nat.sub_self];rfl
    clear HJ
    have xx:=cD hCj
    go_wp2_with fail
    clear xx
    go_loopw [64] (λi wr=>∃m:Nat,m<=sn/\i=M U m/\bj (cX S sn 0=cX S (sn - m) m)/\am wr xb 36 #[T ra j rc,T sa sn sc,M U tx,M U ty,M U xl,M U xh,M U yl,M U yh,M U gain,M U turn,M U freeze]/\ap w.heap.size w wr) (λi _=>sn - (aV i).toNat)
    case atStart=>exact⟨0,aF _,rfl,show _=_ from rfl,hCj,hBj⟩
    case round=>
     obtain⟨m,hm,rfl,HM,hCm,hBm⟩:=hrel
     clear hCj hBj
     by_cases hlt2:m<sn
     ·obtain⟨b,off,rfl,hb,hc⟩:=(HS.out.below hBm).elem hlt2
      have e0:=hc 0 om
      have e1:=hc 1 om
      have e2:=hc 2 om
      have e3:=hc 3 om
      have e4:=hc 4 om
      unfold bw at e0 e1 e2 e3 e4
      rw[bq]at e0
      have HN:bj (cX S (sn - m) m=if cP (S m 0) (S m 1)||(cP (S m 2) (S m 3)||aI (S m 4) 0 2000)then ai m else cX S (sn - (m+1)) (m+1)):=by
       unfold bj;rw[show sn - m=(sn - (m+1))+1 by omega];rfl
      generalize S m 0=b0 at *
      generalize S m 1=b1 at *
      generalize S m 2=b2 at *
      generalize S m 3=b3 at *
      generalize S m 4=b4 at *
      have i2:(m:Int)<(sn:Int):=om
      clear hc
      go_upto_region 16 with fail
      obtain⟨w1,hW9,hD,hba⟩:=bW wr 133 #[M U b0,M U b1,M U b2,M U b3,M U b4]
      rw[hW9.out]
      clear hW9
      have hC1:=hCm.below hba
      have hB1:=ak hBm hba
      generalize wr.heap.size=db at *
      have hD1:=hD
      obtain⟨d0,d1,d2,d3,d4⟩:=aL hD1
      clear hCm hBm hba hD e0 e1 e2 e3 e4
      go_wp2_with fail
      refine(eA _ _ _).mono ?_
      rintro e w2 ⟨rfl,hb2⟩
      have hC2:=hC1.below hb2
      have hB2:=ak hB1 hb2
      have hD2:=hD1.below hb2
      clear hC1 hB1 hD1 hb2 d0 d1 d2 d3 d4
      obtain⟨d0,d1,d2,d3,d4⟩:=aL hD2
      cases g1:cP b0 b1 with
      |true=>
       have HE:=af (H3.out m HL.out HBN.out (by rw[HM.out,HN.out,g1];rfl))
       go_wp2_with fail
       go_ret3
       exact⟨by rw[HE.out]<;>rfl,hB2⟩
      |false=>
       go_wp2_with fail
       refine(eA _ _ _).mono ?_
       rintro e w3 ⟨rfl,hb3⟩
       have hC3:=hC2.below hb3
       have hB3:=ak hB2 hb3
       have hD3:=hD2.below hb3
       clear hC2 hB2 hD2 hb3 d0 d1 d2 d3 d4
       obtain⟨d0,d1,d2,d3,d4⟩:=aL hD3
       cases g2:cP b2 b3 with
       |true=>
        have HE:=af (H3.out m HL.out HBN.out (by rw[HM.out,HN.out,g1,g2];rfl))
        go_wp2_with fail
        go_ret3
        exact⟨by rw[HE.out]<;>rfl,hB3⟩
       |false=>
        go_wp2_with fail
        refine(cZ _ _ _ _).mono ?_
        rintro e w' ⟨rfl,rfl⟩
        cases g3:aI b4 0 2000 with
        |true=>
         have HE:=af (H3.out m HL.out HBN.out (by rw[HM.out,HN.out,g1,g2,g3];rfl))
         go_wp2_with fail
         go_ret3
         exact⟨by rw[HE.out]<;>rfl,hB3⟩
        |false=>
         have HM2:bj (cX S sn 0=cX S (sn - (m+1)) (m+1)):=by
          unfold bj;rw[HM.out,HN.out,g1,g2,g3];rfl
         clear g1 g2 g3
         go_wp2_with fail
         go_roundw
         case rel=>exact⟨m+1,by omega,by go_num,HM2,hC3,hB3⟩
         case measure=>simp[aV];omega
     obtain rfl:m=sn:=om
     have HSN:bj (cX S m 0=ag):=by unfold bj;rw[HM.out,Nat.sub_self];rfl
     have HLA:=af (H4.out HL.out HBN.out HSN.out)
     clear HM
     have xx:=cD hCm
     go_upto_region 19 with fail
     go_quiet (fail)
     rename_i nq
     have hCm2:am (wr.drewN nq) xb 36 _:=hCm
     have hBm2:ap w.heap.size w (wr.drewN nq):=aM hBm _
     generalize wr.drewN nq=wq at *
     clear xx
     have xx:=cD hCm2
     go_wp2_with fail
     refine(eA _ _ _).mono ?_
     rintro e wq1 ⟨rfl,hbq⟩
     have hCq1:=hCm2.below hbq
     have hBq1:=ak hBm2 hbq
     clear hbq hCm2 hBm2
     clear xx
     have xx:=cD hCq1
     cases g1:cP tx tx with
     |true=>
      have HE:=af (HLA.out.trans (if_pos (by unfold ep;simp only;rw[g1];rfl)))
      go_wp2_with fail
      go_ret3
      exact⟨by rw[HE.out]<;>rfl,hBq1⟩
     |false=>
      go_wp2_with fail
      refine(eA _ _ _).mono ?_
      rintro e wq2 ⟨rfl,hbq⟩
      have hCq2:=hCq1.below hbq
      have hBq2:=ak hBq1 hbq
      clear hbq hCq1 hBq1
      clear xx
      have xx:=cD hCq2
      cases g2:cP ty ty with
      |true=>
       have HE:=af (HLA.out.trans (if_pos (by unfold ep;simp only;rw[g1,g2];rfl)))
       go_wp2_with fail
       go_ret3
       exact⟨by rw[HE.out]<;>rfl,hBq2⟩
      |false=>
       go_wp2_with fail
       refine(eA _ _ _).mono ?_
       rintro e wq3 ⟨rfl,hbq⟩
       have hCq3:=hCq2.below hbq
       have hBq3:=ak hBq2 hbq
       clear hbq hCq2 hBq2
       clear xx
       have xx:=cD hCq3
       cases g3:cP xl xh with
       |true=>
        have HE:=af (HLA.out.trans (if_pos (by unfold ep;simp only;rw[g1,g2,g3];rfl)))
        go_wp2_with fail
        go_ret3
        exact⟨by rw[HE.out]<;>rfl,hBq3⟩
       |false=>
        go_wp2_with fail
        refine(eA _ _ _).mono ?_
        rintro e wq4 ⟨rfl,hbq⟩
        have hCq4:=hCq3.below hbq
        have hBq4:=ak hBq3 hbq
        clear hbq hCq3 hBq3
        clear xx
        have xx:=cD hCq4
        cases g4:cP yl yh with
        |true=>
         have HE:=af (HLA.out.trans (if_pos (by unfold ep;simp only;rw[g1,g2,g3,g4];rfl)))
         exact qP
        |false=>
         go_wp2_with fail
         refine(cZ _ _ _ _).mono ?_
         rintro e w' ⟨rfl,rfl⟩
         cases g5:aI gain 0 1000000000 with
         |true=>
          have HE:=af (HLA.out.trans (if_pos (by unfold ep;simp only;rw[g1,g2,g3,g4,g5];rfl)))
          exact qP
         |false=>
          go_wp2_with fail
          refine(cZ _ _ _ _).mono ?_
          rintro e w' ⟨rfl,rfl⟩
          cases g6:aI turn 0 6000 with
          |true=>
           have HE:=af (HLA.out.trans (if_pos (by unfold ep;simp only;rw[g1,g2,g3,g4,g5,g6];rfl)))
           exact qP
          |false=>
           go_wp2_with fail
           refine(cZ _ _ _ _).mono ?_
           rintro e w' ⟨rfl,rfl⟩
           cases g7:aI freeze 0 6000 with
           |true=>
            have HE:=af (HLA.out.trans (if_pos (by unfold ep;simp only;rw[g1,g2,g3,g4,g5,g6,g7];rfl)))
            exact qP
           |false=>
            have HE:=af (HLA.out.trans (if_neg (by unfold ep;simp only;rw[g1,g2,g3,g4,g5,g6,g7];simp)))
            exact qP
end
section
open Tryz
open Go.RowKit
def cM (lo hi a b:Int):Bool:=decide (lo<a)||(decide (b<hi)||decide (hi<lo))
def fD (ml mh dl dh:Int):Bool:=cM ml mh 1 100000||cM dl dh 0 1000
def iw (x y z:Int):Int:=
 if aI x (-10000) 10000||(aI y (-10000) 10000||aI z 1 10000)then 7 else if aI (x*x+y*y+z*z) 99800100 100200100 then 2 else 0
theorem cU (n lo hi:Int) (w:aj):
  aC prog 76 #[M U n,M U lo,M U hi] w λe w'=>e=ar (aA (aI n lo hi))/\w=w':=by
 go_enter func76,ntmps76
 exact uF
theorem eK (lo hi a b:Int) (w:aj):
  aC prog 77 #[aN #[M U lo,M U hi],M U a,M U b] w λe w'=>e=ar (aA (cM lo hi a b))/\ap w.heap.size w w':=by
 by_cases h1:lo<a
 ·exact T32
 by_cases h2:b<hi
 ·exact T32
 by_cases h3:hi<lo
 ·exact T32
 exact T32
theorem kD (ml mh dl dh:Int) (w:aj):
  aC prog 78 #[aN #[M U ml,M U mh],aN #[M U dl,M U dh]] w λe w'=>e=ar (aA (fD ml mh dl dh))/\ap w.heap.size w w':=by
 obtain⟨W0,HW0,hA0,hD0,hB0⟩:=o6 w 32 #[M U ml,M U mh] 32 #[M U dl,M U dh]
 go_enter func78,ntmps78
 go_upto_region 1 with fail
 rw[HW0.out]
 have xx:=bA hA0
 go_wp2_with fail
 refine(eK _ _ _ _ _).mono ?_
 rintro e w1 ⟨rfl,hb1⟩
 have hB1:=ak hB0 hb1
 have hD1:=hD0.below hb1
 cases g1:cM ml mh 1 100000 with
 |true=>
  go_wp2_with fail
  go_ret
  exact⟨bt (by unfold fD;rw[g1];rfl),hB1⟩
 |false=>
  have yy:=bA hD1
  go_wp2_with fail
  refine(eK _ _ _ _ _).mono ?_
  rintro e w2 ⟨rfl,hb2⟩
  go_wp2_with fail
  go_ret
  exact⟨bt (by unfold fD;rw[g1];rfl),ak hB1 hb2⟩
theorem qD (lo hi z:Int) (zb:Nat) (w:aj) (hz:w.cell? ⟨zb,0,ag⟩=ai (M U z)) (h0:0<=z) (h1:z<=9223372036854775807):
  aC prog 149 #[aN #[M U lo,M U hi],ax (ai ⟨zb,0,ag⟩)] w λe w'=>e=ar (aA (cM lo hi (-z) z))/\ap w.heap.size w w':=by
 have hlt:zb<w.heap.size:=aG w _ hz
 obtain⟨W0,hW0⟩:∃W0,w.alloc (.cells #[M U lo,M U hi] 172)=W0:=⟨_,rfl⟩
 have hC0:am W0 w.heap.size 172 #[M U lo,M U hi]:=by rw[<-hW0];exact aK _ _
 have hB0:ap w.heap.size w W0:=by rw[<-hW0];exact aP (au _ _) _
 have hz0:W0.cell? ⟨zb,0,ag⟩=ai (M U z):=(hB0.cell (p:=⟨zb,0,ag⟩) hlt).trans hz
 have HW0:=af hW0
 have hw:=aD (-z) ⟨by omega,by omega⟩
 clear hW0 hz
 go_enter func149,ntmps149
 go_upto_region 1 with fail
 rw[HW0.out]
 have xx:=bA hC0
 go_wp2_with fail
 refine(eK _ _ _ _ _).mono ?_
 exact vZ
theorem nN (n:Nat) (R:Nat->Nat->Int) (p:Nat->Bool) (v:aw) (cz:aw) (w:aj) (hRr:aU w v n 2 (bw R)) (hn:n<=1125899906842624) (hF:∀(i:Nat) (W:aj),i<n->ap w.heap.size w W->aC prog 149 #[aN #[M U (R i 0),M U (R i 1)],cz] W λe w'=>e=ar (aA (p i))/\ap W.heap.size W w'):
  aC prog 256 #[v, .func (.func 149) #[] #[cz]] w λe w'=>e=ar (M U (cH p n 0))/\ap w.heap.size w w':=by
 obtain⟨ra,rc,rfl,hrc,hx⟩:=id hRr
 have HRr:=af hRr
 have HF:=af hF
 clear hRr hF
 go_enter func256,ntmps256
 go_wp2_with fail
 go_loopw [8] (λi wr=>∃j:Nat,j<=n/\i=M U j/\ap w.heap.size w wr/\bj (cH p n 0=cH p (n - j) j)) (λi _=>n - (aV i).toNat)
 case atStart=>exact⟨0,aF _,rfl,au _ _,rfl⟩
 case round=>
  obtain⟨j,hj,rfl,hB,HI⟩:=hrel
  by_cases hlt:j<n
  rotate_left
  ·exact mv
  have HC:=af (λW (h:ap w.heap.size w W)=>HF.out j W hlt h)
  have HS:=af (dj p hlt)
  obtain⟨b,off,rfl,hb,hc⟩:=(HRr.out.below hB).elem hlt
  have e0:wr.cell? ⟨b,off+j*2,ag⟩=ai (M U (R j 0)):=hc 0 om
  have e1:wr.cell? ⟨b,off+j*2+1,ag⟩=ai (M U (R j 1)):=hc 1 om
  exact T14
theorem j7 (n:Nat) (R:Nat->Nat->Int) (p:Nat->Bool) (v:aw) (cz:aw) (w:aj) (hRr:aU w v n 2 (bw R)) (hn:n<=1125899906842624) (hF:∀(i:Nat) (W:aj),i<n->ap w.heap.size w W->aC prog 149 #[aN #[M U (R i 0),M U (R i 1)],cz] W λe w'=>e=ar (aA (p i))/\ap W.heap.size W w'):
  aC prog 148 #[v, .func (.func 149) #[] #[cz]] w λe w'=>e=ar (aA (bI p n))/\ap w.heap.size w w':=by
 have HI:=af (nN n R p v cz w hRr hn hF)
 have hk:=dp p n
 have HK:=af hk
 obtain⟨ra,rc,rfl,hrc,hx⟩:=id hRr
 clear hk hRr hF hx
 go_enter func148,ntmps148
 exact T53
end
section
open Tryz
open Go.RowKit
def kw (L:Nat->Nat->Int) (i:Nat):Option Int:=
 if aI (L i 0) (-1000) 1000||(aI (L i 1) (-1000) 1000||(aI (L i 2) (-4000000000000) 4000000000000||aI (L i 3) (-4000000000000) 4000000000000))then ai 7
 else if((L i 0==0)&&(L i 1==0))||decide (L i 3<L i 2)then ai 2 else ag
def fA (glo ghi wt bl:Int):Bool:=aI ghi 1 200||(aI glo 1 ghi||(aI wt 0 100||aI bl 0 300))
def rk (n:Nat) (L:Nat->Nat->Int) (glo ghi wt bl:Int):Int×Int×Int:=
 if aI n 1 8 then(1,0,3)else match aB (kw L) n 0 with
  |some (i,e)=>(1,((i:Nat):Int),e)
  |none=>if fA glo ghi wt bl then(2,0,7)else(0,0,0)
section
variable {n:Nat} {L:Nat->Nat->Int} {glo ghi wt bl:Int}
theorem qU (h:aI n 1 8=true):rk n L glo ghi wt bl=(1,0,3):=by unfold rk;rw[if_pos h]
theorem se (h:aI n 1 8=false) {i:Nat} {e:Int} (h2:aB (kw L) n 0=ai (i,e)):rk n L glo ghi wt bl=(1,((i:Nat):Int),e):=by unfold rk;rw[if_neg (by rw[h];simp),h2]
theorem rj (h:aI n 1 8=false) (h2:aB (kw L) n 0=ag):rk n L glo ghi wt bl=if fA glo ghi wt bl then(2,0,7)else(0,0,0):=by unfold rk;rw[if_neg (by rw[h];simp),h2]
end
theorem dL (n lo hi:Int) (w:aj):
  aC prog 101 #[M U n,M U lo,M U hi] w λe w'=>e=ar (aA (aI n lo hi))/\w=w':=by
 go_enter func101,ntmps101
 exact uF
theorem oB (n:Nat) (L:Nat->Nat->Int) (glo ghi wt bl:Int) (lv:aw) (w:aj) (hRl:aU w lv n 4 (bw L)):
  aC prog 32 #[aN #[lv,M U glo,M U ghi,M U wt,M U bl]] w (E3 w (rk n L glo ghi wt bl)):=by
 obtain⟨la,lc,rfl,hlc,hx⟩:=id hRl
 clear hx
 obtain⟨W0,hW0⟩:∃W0,w.alloc (.cells #[T la n lc,M U glo,M U ghi,M U wt,M U bl] 66)=W0:=⟨_,rfl⟩
 have hC0:am W0 w.heap.size 66 #[T la n lc,M U glo,M U ghi,M U wt,M U bl]:=by rw[<-hW0];exact aK _ _
 have hB0:ap w.heap.size w W0:=by rw[<-hW0];exact aP (au _ _) _
 have HW0:=af hW0
 have HRl:=af hRl
 clear hW0 hRl
 have H1:=af (qU (n:=n) (L:=L) (glo:=glo) (ghi:=ghi) (wt:=wt) (bl:=bl))
 have H2:=af (λh i e=>se (n:=n) (L:=L) (glo:=glo) (ghi:=ghi) (wt:=wt) (bl:=bl) h (i:=i) (e:=e))
 have H3:=af (rj (n:=n) (L:=L) (glo:=glo) (ghi:=ghi) (wt:=wt) (bl:=bl))
 go_enter func32,ntmps32
 go_upto_region 1 with fail
 rw[HW0.out]
 obtain⟨xb,hxe⟩:=bY w.heap.size
 rw[<-hxe]at hC0⊢
 clear hxe HW0
 have xx:=aL hC0
 go_wp2_with fail
 refine(dL _ _ _ _).mono ?_
 rintro e w' ⟨rfl,rfl⟩
 cases g1:aI (n:Nat) 1 8 with
 |true=>
  have HE:=af (H1.out g1)
  exact ux
 |false=>
  have HL:=af g1
  have hn:=aW.1 g1
  go_wp2_with fail
  clear xx
  go_loopw [14] (λi wr=>∃j:Nat,j<=n/\i=M U j/\bj (aB (kw L) n 0=aB (kw L) (n - j) j)/\am wr xb 66 #[T la n lc,M U glo,M U ghi,M U wt,M U bl]/\ap w.heap.size w wr) (λi _=>n - (aV i).toNat)
  case atStart=>exact⟨0,aF _,rfl,show _=_ from rfl,hC0,hB0⟩
  case round=>
   obtain⟨j,hj,rfl,HJ,hCj,hBj⟩:=hrel
   clear hC0 hB0 g1
   by_cases hlt:j<n
   rotate_left
   ·obtain rfl:j=n:=om
    have HBN:bj (aB (kw L) j 0=ag):=by unfold bj;rw[HJ.out,bh]
    have HLA:=af (H3.out HL.out HBN.out)
    clear HJ
    have xx:=aL hCj
    go_wp2_with fail
    refine(dL _ _ _ _).mono ?_
    rintro e w' ⟨rfl,rfl⟩
    cases g2:aI ghi 1 200 with
    |true=>
     have HE:=af (HLA.out.trans (if_pos (by unfold fA;rw[g2];rfl)))
     exact re
    |false=>
     go_wp2_with fail
     refine(dL _ _ _ _).mono ?_
     rintro e w' ⟨rfl,rfl⟩
     cases g3:aI glo 1 ghi with
     |true=>
      have HE:=af (HLA.out.trans (if_pos (by unfold fA;rw[g2,g3];rfl)))
      exact re
     |false=>
      go_wp2_with fail
      refine(dL _ _ _ _).mono ?_
      rintro e w' ⟨rfl,rfl⟩
      cases g4:aI wt 0 100 with
      |true=>
       have HE:=af (HLA.out.trans (if_pos (by unfold fA;rw[g2,g3,g4];rfl)))
       exact re
      |false=>
       go_wp2_with fail
       refine(dL _ _ _ _).mono ?_
       rintro e w' ⟨rfl,rfl⟩
       cases g5:aI bl 0 300 with
       |true=>
        have HE:=af (HLA.out.trans (if_pos (by unfold fA;rw[g2,g3,g4,g5];rfl)))
        exact re
       |false=>
        have HE:=af (HLA.out.trans (if_neg (by unfold fA;rw[g2,g3,g4,g5];simp)))
        exact re
   obtain⟨b,off,rfl,hb,hc⟩:=(HRl.out.below hBj).elem hlt
   have e0:=hc 0 om
   have e1:=hc 1 om
   have e2:=hc 2 om
   have e3:=hc 3 om
   unfold bw at e0 e1 e2 e3
   rw[bq]at e0
   have HF:bj (kw L j=if aI (L j 0) (-1000) 1000||(aI (L j 1) (-1000) 1000||(aI (L j 2) (-4000000000000) 4000000000000||aI (L j 3) (-4000000000000) 4000000000000))then ai 7 else if((L j 0==0)&&(L j 1==0))||decide (L j 3<L j 2)then ai 2 else ag):=show _=_ from rfl
   generalize L j 0=b0 at *
   generalize L j 1=b1 at *
   generalize L j 2=b2 at *
   generalize L j 3=b3 at *
   have i2:(j:Int)<(n:Int):=om
   have hl1:n<=8:=om
   clear hc
   go_upto_region 6 with fail
   obtain⟨w1,hW9,hD,hba⟩:=bW wr 216 #[M U b0,M U b1,M U b2,M U b3]
   rw[hW9.out]
   clear hW9
   have hC1:=hCj.below hba
   have hB1:=ak hBj hba
   generalize wr.heap.size=db at *
   have hD1:=hD
   have dd:=eW hD1
   clear hCj hBj hba hD e0 e1 e2 e3
   go_wp2_with fail
   refine(dL _ _ _ _).mono ?_
   rintro e w' ⟨rfl,rfl⟩
   cases g2:aI b0 (-1000) 1000 with
   |true=>
    have HE:=af (H2.out HL.out j 7 (by rw[HJ.out,dw hlt (e:=7) (by rw[HF.out,g2];rfl)]))
    exact jm
   |false=>
    go_wp2_with fail
    refine(dL _ _ _ _).mono ?_
    rintro e w' ⟨rfl,rfl⟩
    cases g3:aI b1 (-1000) 1000 with
    |true=>
     have HE:=af (H2.out HL.out j 7 (by rw[HJ.out,dw hlt (e:=7) (by rw[HF.out,g2,g3];rfl)]))
     exact jm
    |false=>
     go_wp2_with fail
     refine(dL _ _ _ _).mono ?_
     rintro e w' ⟨rfl,rfl⟩
     cases g4:aI b2 (-4000000000000) 4000000000000 with
     |true=>
      have HE:=af (H2.out HL.out j 7 (by rw[HJ.out,dw hlt (e:=7) (by rw[HF.out,g2,g3,g4];rfl)]))
      exact jm
     |false=>
      go_wp2_with fail
      refine(dL _ _ _ _).mono ?_
      rintro e w' ⟨rfl,rfl⟩
      cases g5:aI b3 (-4000000000000) 4000000000000 with
      |true=>
       have HE:=af (H2.out HL.out j 7 (by rw[HJ.out,dw hlt (e:=7) (by rw[HF.out,g2,g3,g4,g5];rfl)]))
       exact jm
      |false=>
       have HF2:bj (kw L j=if((b0==0)&&(b1==0))||decide (b3<b2)then ai 2 else ag):=by unfold bj;rw[HF.out,g2,g3,g4,g5];rfl
       clear HF g2 g3 g4 g5
       by_cases k0:b0=0
       rotate_left
       ·have k0b:(b0==0)=false:=by simp[k0]
        by_cases k2:b3<b2
        ·have HE:=af (H2.out HL.out j 2 (by rw[HJ.out,dw hlt (e:=2) (by rw[HF2.out,k0b,decide_eq_true k2];rfl)]))
         clear k0
         exact jm
        have HJ2:bj (aB (kw L) n 0=aB (kw L) (n - (j+1)) (j+1)):=by
         unfold bj;rw[HJ.out,gu hlt (by rw[HF2.out,k0b,decide_eq_false k2];rfl)]
        exact vf
       have k0b:(b0==0)=true:=by simp[k0]
       by_cases k1:b1=0
       ·have k1b:(b1==0)=true:=by simp[k1]
        have HE:=af (H2.out HL.out j 2 (by rw[HJ.out,dw hlt (e:=2) (by rw[HF2.out,k0b,k1b];rfl)]))
        clear k0 k1
        exact jm
       have k1b:(b1==0)=false:=by simp[k1]
       by_cases k2:b3<b2
       ·have HE:=af (H2.out HL.out j 2 (by rw[HJ.out,dw hlt (e:=2) (by rw[HF2.out,k0b,k1b,decide_eq_true k2];rfl)]))
        clear k0
        exact jm
       have HJ2:bj (aB (kw L) n 0=aB (kw L) (n - (j+1)) (j+1)):=by
        unfold bj;rw[HJ.out,gu hlt (by rw[HF2.out,k0b,k1b,decide_eq_false k2];rfl)]
       exact vf
end
section
open Tryz
open Go.RowKit
def fW (a0 a1 a2 a3 a4 a5 z:Int):Bool:=cM a0 a1 (-z) z||(cM a2 a3 (-z) z||cM a4 a5 (-z) z)
def uN (a0 a1 a2 a3 a4 a5:Int) (i j:Nat):Int:=match i,j with
 |0,0=>a0
 |0,_=>a1
 |1,0=>a2
 |1,_=>a3
 |_,0=>a4
 |_,_=>a5
theorem oV (a0 a1 a2 a3 a4 a5 z:Int):bI (λi=>cM (uN a0 a1 a2 a3 a4 a5 i 0) (uN a0 a1 a2 a3 a4 a5 i 1) (-z) z) 3=fW a0 a1 a2 a3 a4 a5 z:=by
 unfold bI fW
 have:List.range 3=[0,1,2]:=by decide
 rw[this]
 simp[uN]
theorem jd (a0 a1 a2 a3 a4 a5:Int) (w:aj):
  aC prog 79 #[aN #[M U a0,M U a1,M U a2,M U a3,M U a4,M U a5]] w λe w'=>e=ar (aN #[M U a0,M U a1,M U a2,M U a3,M U a4,M U a5])/\ap w.heap.size w w':=by
 go_enter func79,ntmps79
 go_wp2_with fail
 (try simp only[Exit.inBlock,Exit.then])
 show bodyPost _ _ _ _ _ _
 refine bG (P:=prog) (fn:=f79) (v:=aN #[M U a0,M U a1,M U a2,M U a3,M U a4,M U a5]) ?_ rfl ?_
 ·simp[results,results79,go_sem]
 exact⟨rfl,(by repeat(first|exact au _ _|assumption|refine aP ?_ _|refine ak ?_ (by assumption)|refine ap.drew ?_|refine aM ?_ _|refine aS ?_ (by simp<;>omega) _))⟩
theorem mi (a0 a1 a2 a3 a4 a5 z:Int) (w:aj) (h0:0<=z) (h1:z<=9223372036854775807):
  aC prog 80 #[aN #[M U a0,M U a1,M U a2,M U a3,M U a4,M U a5],M U z] w λe w'=>e=ar (aA (fW a0 a1 a2 a3 a4 a5 z))/\ap w.heap.size w w':=by
 have hmf:∀(fn:Fn) (first cap:Array aw) (w:aj),(Instr.makeFunc fn first cap).run prog w= .ok (.func fn first cap) w:=λ_ _ _ _=>rfl
 obtain⟨W0,hW0⟩:∃W0,(w.alloc (.cells #[M U a0,M U a1,M U a2,M U a3,M U a4,M U a5] 182)).alloc (.cells #[M U z] 3)=W0:=⟨_,rfl⟩
 have hA0:am W0 w.heap.size 182 #[M U a0,M U a1,M U a2,M U a3,M U a4,M U a5]:=by
  rw[<-hW0];exact am.below (aK w _) (aP (au _ _) _)
 have hD0:am W0 (w.heap.size+1) 3 #[M U z]:=by
  rw[<-hW0]
  have h:=aK (w.alloc (.cells #[M U a0,M U a1,M U a2,M U a3,M U a4,M U a5] 182)) (.cells #[M U z] 3)
  rw[bg]at h
  exact h
 have hB0:ap w.heap.size w W0:=by rw[<-hW0];exact aP (aP (au _ _) _) _
 have HW0:=af hW0
 have hRr:aU W0 (T (ai ⟨w.heap.size,0,ag⟩) 3 3) 3 2 (bw (uN a0 a1 a2 a3 a4 a5)):=⟨_,3,rfl,aY _, .inr ⟨_,0,rfl,hA0.lt,λi j hi hj=>by
  rw[hA0.cell]
  match i,j,hi,hj with
  |0,0,_,_=>rfl
  |0,1,_,_=>rfl
  |1,0,_,_=>rfl
  |1,1,_,_=>rfl
  |2,0,_,_=>rfl
  |2,1,_,_=>rfl⟩⟩
 have hz0:W0.cell? ⟨w.heap.size+1,0,ag⟩=ai (M U z):=hD0.cell 0
 have HC:=af (j7 3 (uN a0 a1 a2 a3 a4 a5) (λi=>cM (uN a0 a1 a2 a3 a4 a5 i 0) (uN a0 a1 a2 a3 a4 a5 i 1) (-z) z) _ (ax (ai ⟨w.heap.size+1,0,ag⟩)) W0 hRr om
  (λi W hi hb=>qD _ _ z _ W ((hb.cell (p:=⟨w.heap.size+1,0,ag⟩) hD0.lt).trans hz0) h0 h1))
 rw[oV]at HC
 clear hW0 hRr
 go_enter func80,ntmps80
 go_upto_region 1 with fail
 rw[HW0.out]
 go_wp2_with fail
 refine HC.out.mono ?_
 exact vZ
theorem kC {x:Int} (h1:-10000<=x) (h2:x<=10000):0<=x*x/\x*x<=100000000:=by
 rcases Int.lt_or_le x 0 with h|h
 rotate_left
 ·have k1:=Int.mul_nonneg h h
  have k2:=Int.mul_le_mul h2 h2 h om
  omega
 have e:(-x)*(-x)=x*x:=Int.neg_mul_neg x x
 have k1:=Int.mul_nonneg (show 0<=-x by omega) (show 0<=-x by omega)
 have k2:=Int.mul_le_mul (show -x<=10000 by omega) (show -x<=10000 by omega) om om
 omega
theorem sS (x y z:Int) (w:aj):
  aC prog 22 #[aN #[M U x,M U y,M U z]] w λe w'=>e=ar (M U (iw x y z))/\ap w.heap.size w w':=by
 obtain⟨W0,xb,HW0,hC0,hB0⟩:=eB w 97 #[M U x,M U y,M U z]
 have HE0:bj (iw x y z=if aI x (-10000) 10000||(aI y (-10000) 10000||aI z 1 10000)then 7 else if aI (x*x+y*y+z*z) 99800100 100200100 then 2 else 0):=show _=_ from rfl
 generalize iw x y z=r at *
 go_enter func22,ntmps22
 go_upto_region 1 with fail
 rw[HW0.out.1,HW0.out.2]
 clear HW0
 have xx:=dT hC0
 go_wp2_with fail
 refine(cU _ _ _ _).mono ?_
 rintro e w' ⟨rfl,rfl⟩
 cases g1:aI x (-10000) 10000 with
 |true=>
  have HE:bj (r=7):=by unfold bj;rw[HE0.out,g1];rfl
  exact ry
 |false=>
  go_wp2_with fail
  refine(cU _ _ _ _).mono ?_
  rintro e w' ⟨rfl,rfl⟩
  cases g2:aI y (-10000) 10000 with
  |true=>
   have HE:bj (r=7):=by unfold bj;rw[HE0.out,g1,g2];rfl
   exact ry
  |false=>
   go_wp2_with fail
   refine(cU _ _ _ _).mono ?_
   rintro e w' ⟨rfl,rfl⟩
   cases g3:aI z 1 10000 with
   |true=>
    have HE:bj (r=7):=by unfold bj;rw[HE0.out,g1,g2,g3];rfl
    exact ry
   |false=>
    have HE1:bj (r=if aI (x*x+y*y+z*z) 99800100 100200100 then 2 else 0):=by unfold bj;rw[HE0.out,g1,g2,g3];rfl
    have hx:=aW.1 g1
    have hy:=aW.1 g2
    have hz:=aW.1 g3
    have sx:=kC hx.1 hx.2
    have sy:=kC hy.1 hy.2
    have sz:=kC (x:=z) om om
    have q1:=aD (x*x) ⟨by omega,by omega⟩
    have q2:=aD (y*y) ⟨by omega,by omega⟩
    have q3:=aD (z*z) ⟨by omega,by omega⟩
    have q4:=aD (x*x+y*y) ⟨by omega,by omega⟩
    have q5:=aD (x*x+y*y+z*z) ⟨by omega,by omega⟩
    go_wp2_with fail
    refine(cU _ _ _ _).mono ?_
    rintro e w' ⟨rfl,rfl⟩
    cases g4:aI (x*x+y*y+z*z) 99800100 100200100 with
    |true=>
     have HE:bj (r=2):=by unfold bj;rw[HE1.out,g4];rfl
     exact ry
    |false=>
     have HE:bj (r=0):=by unfold bj;rw[HE1.out,g4];rfl
     exact ry
end
section
open Tryz
open Go.RowKit
def iL (n:Int):Bool:=aI n (-500000000) 500000000
theorem qK (lo hi:Int):cP lo hi=(iL lo||(iL hi||decide (hi<lo))):=by
 unfold cP iL aI;rw[Bool.eq_iff_iff];simp;omega
theorem kG (n:Int):cP n n=iL n:=by
 unfold cP iL aI;rw[Bool.eq_iff_iff];simp
def rO (R:Nat->Nat->Int) (j:Nat):Int:=if j=0 then 0 else R (j - 1) 1
theorem k8 (R:Nat->Nat->Int) {n j:Nat} (h:j<n):cj R (n - j) j (rO R j)=
  if R j 0≠rO R j then ai (j,2)
  else if decide (R j 1<=R j 0)||(decide (100000000<R j 1)||(aI (R j 2) (-10000000) 10000000||(aI (R j 3) (-10000000) 10000000||decide (R j 3<R j 2))))then ai (j,7)
  else cj R (n - (j+1)) (j+1) (rO R (j+1)):=by
 rw[show n - j=(n - (j+1))+1 by omega]
 simp only[cj]
 have e:rO R (j+1)=R j 1:=rfl
 rw[e]
 by_cases h0:R j 0≠rO R j
 ·rw[if_pos h0,if_pos h0]
 rw[if_neg h0,if_neg h0]
 have h1:R j 0=rO R j:=Decidable.not_not.1 h0
 rw[<-h1]
 congr 1
 unfold aI
 simp
 omega
theorem mU (S:Nat->Nat->Int) {n j:Nat} (h:j<n):cX S (n - j) j=
  if(cP (S j 0) (S j 1)||cP (S j 2) (S j 3))||aI (S j 4) 0 2000 then ai j else cX S (n - (j+1)) (j+1):=by
 rw[show n - j=(n - (j+1))+1 by omega,Bool.or_assoc];rfl
theorem qC (t:jV):ep t=(iL t.tx||(iL t.ty||((cP t.xl t.xh||cP t.yl t.yh)||(aI t.gain 0 1000000000||(aI t.turn 0 6000||aI t.freeze 0 6000))))):=by
 unfold ep;rw[kG,kG,Bool.or_assoc]
theorem cO (n lo hi:Int) (w:aj):
  aC prog 105 #[M U n,M U lo,M U hi] w λe w'=>e=ar (aA (!aI n lo hi))/\w=w':=by
 go_enter func105,ntmps105
 exact iP
theorem dA (n:Int) (w:aj):
  aC prog 107 #[M U n] w λe w'=>e=ar (aA (!iL n))/\w=w':=by
 go_enter func107,ntmps107
 go_wp2_with fail
 refine eH (cO _ _ _ _) ?_
 exact ly
theorem ja (xl xh yl yh:Int) (w:aj):
  aC prog 106 #[aN #[M U xl,M U xh,M U yl,M U yh]] w λe w'=>e=ar (aA (!(cP xl xh||cP yl yh)))/\ap w.heap.size w w':=by
 by_cases k0:xh<xl
 ·have k0d:decide (xh<xl)=true:=decide_eq_true k0
  exact T5
 have k0d:decide (xh<xl)=false:=decide_eq_false k0
 by_cases k1:yh<yl
 ·have k1d:decide (yh<yl)=true:=decide_eq_true k1
  exact T5
 have k1d:decide (yh<yl)=false:=decide_eq_false k1
 exact T5
theorem nj (rn:Nat) (R:Nat->Nat->Int) (sn:Nat) (S:Nat->Nat->Int) (tx ty xl xh yl yh gain turn freeze:Int) (rv sv:aw) (w:aj) (hRr:aU w rv rn 4 (bw R)) (hRs:aU w sv sn 5 (bw S)):
  aC prog 34 #[aN #[rv,sv,M U tx,M U ty,M U xl,M U xh,M U yl,M U yh,M U gain,M U turn,M U freeze]] w (E3 w (ot ⟨rn,R,sn,S,tx,ty,xl,xh,yl,yh,gain,turn,freeze⟩)):=by
 obtain⟨ra,rc,rfl,hrc,hx⟩:=id hRr
 clear hx
 have HRr:=af hRr
 clear hRr
 obtain⟨sa,sc,rfl,hsc,hx⟩:=id hRs
 clear hx
 have HRs:=af hRs
 clear hRs
 obtain⟨W0,xb,HW0,hC,hB⟩:=eB w 36 #[T ra rn rc,T sa sn sc,M U tx,M U ty,M U xl,M U xh,M U yl,M U yh,M U gain,M U turn,M U freeze]
 obtain⟨r,HS⟩:=dR (ot ⟨rn,R,sn,S,tx,ty,xl,xh,yl,yh,gain,turn,freeze⟩)
 rw[<-HS.out]
 go_enter func34,ntmps34
 go_upto_region 1 with fail
 rw[HW0.out.1,HW0.out.2]
 clear HW0
 obtain⟨x0,x1,x2,x3,x4,x5,x6,x7,x8,x9,x10⟩:=cD hC
 go_wp2_with fail
 refine aR (cO _ _ _ _) ?_
 rintro(_|_) g0
 rotate_left
 ·go_wp2_with fail
  exact gG
 go_wp2_with fail
 refine aR (cO _ _ _ _) ?_
 rintro(_|_) g1
 rotate_left
 ·go_wp2_with fail
  exact gG
 have hn:=aW.1 g0
 have hn2:=aW.1 g1
 go_wp2_with fail
 clear x0 x1 x2 x3 x4 x5 x6 x7 x8 x9 x10
 go_loopw [5] (λi wr=>∃j:Nat,j<=rn/\i=M U j/\bj (cj R rn 0 0=cj R (rn - j) j (rO R j))/\am wr xb 36 #[T ra rn rc,T sa sn sc,M U tx,M U ty,M U xl,M U xh,M U yl,M U yh,M U gain,M U turn,M U freeze]/\ap w.heap.size w wr) (λi _=>rn - (aV i).toNat)
 case atStart=>exact⟨0,aF _,rfl,show _=_ from rfl,hC,hB⟩
 case round=>
  clear hC hB
  obtain⟨j,hj,rfl,HJ,hC,hB⟩:=hrel
  by_cases hlt:j<rn
  rotate_left
  ·obtain rfl:rn=j:=om
   have hE1:cj R rn 0 0=ag:=by rw[HJ.out,Nat.sub_self];rfl
   clear HJ
   obtain⟨x0,x1,x2,x3,x4,x5,x6,x7,x8,x9,x10⟩:=cD hC
   go_wp2_with fail
   clear x0 x1 x2 x3 x4 x5 x6 x7 x8 x9 x10
   go_loopw [8] (λi wr=>∃j:Nat,j<=sn/\i=M U j/\bj (cX S sn 0=cX S (sn - j) j)/\am wr xb 36 #[T ra rn rc,T sa sn sc,M U tx,M U ty,M U xl,M U xh,M U yl,M U yh,M U gain,M U turn,M U freeze]/\ap w.heap.size w wr) (λi _=>sn - (aV i).toNat)
   case atStart=>exact⟨0,aF _,rfl,show _=_ from rfl,hC,hB⟩
   case round=>
    clear hC hB
    obtain⟨j,hj,rfl,HJ,hC,hB⟩:=hrel
    by_cases hlt:j<sn
    rotate_left
    ·obtain rfl:sn=j:=om
     have hE2:cX S sn 0=ag:=by rw[HJ.out,Nat.sub_self];rfl
     clear HJ
     obtain⟨x0,x1,x2,x3,x4,x5,x6,x7,x8,x9,x10⟩:=cD hC
     go_wp2_with fail
     refine aR (dA _ _) ?_
     rintro(_|_) g3
     rotate_left
     ·go_wp2_with fail
      exact gG
     go_wp2_with fail
     refine aR (dA _ _) ?_
     rintro(_|_) g4
     rotate_left
     ·go_wp2_with fail
      exact gG
     go_wp2_with fail
     refine cg (ja _ _ _ _ _) ?_
     rintro(_|_) w1 g5 hb<;>obtain⟨hC,hB⟩:=bS hC hB hb
     rotate_left
     ·go_wp2_with fail
      exact gG
     clear x0 x1 x2 x3 x4 x5 x6 x7 x8 x9 x10
     obtain⟨x0,x1,x2,x3,x4,x5,x6,x7,x8,x9,x10⟩:=cD hC
     go_wp2_with fail
     refine aR (cO _ _ _ _) ?_
     rintro(_|_) g6
     rotate_left
     ·go_wp2_with fail
      exact gG
     go_wp2_with fail
     refine aR (cO _ _ _ _) ?_
     rintro(_|_) g7
     rotate_left
     ·go_wp2_with fail
      exact gG
     go_wp2_with fail
     refine aR (cO _ _ _ _) ?_
     rintro(_|_) g8
     ·go_wp2_with fail
      exact gG
     go_wp2_with fail
     exact gG
    have HF:=af (HJ.out.trans (mU S hlt))
    clear HJ
    obtain⟨bb,bo,rfl,bl,hc⟩:=(HRs.out.below hB).elem hlt
    have e0:wr.cell? ⟨bb,bo+j*5,ag⟩=ai (M U (S j 0)):=hc 0 om
    have e1:wr.cell? ⟨bb,bo+j*5+1,ag⟩=ai (M U (S j 1)):=hc 1 om
    have e2:wr.cell? ⟨bb,bo+j*5+2,ag⟩=ai (M U (S j 2)):=hc 2 om
    have e3:wr.cell? ⟨bb,bo+j*5+3,ag⟩=ai (M U (S j 3)):=hc 3 om
    have e4:wr.cell? ⟨bb,bo+j*5+4,ag⟩=ai (M U (S j 4)):=hc 4 om
    clear hc
    generalize S j 0=b0 at *
    generalize S j 1=b1 at *
    generalize S j 2=b2 at *
    generalize S j 3=b3 at *
    have i2:(j:Int)<(sn:Int):=om
    obtain⟨x0,x1,x2,x3,x4,x5,x6,x7,x8,x9,x10⟩:=cD hC
    go_wp2_with fail
    refine cg (ja _ _ _ _ _) ?_
    rintro(_|_) w1 g0 hb
    rotate_left
    ·obtain⟨hC,hB⟩:=bS hC hB hb
     exact gY
    have f4:=(hb.cell (p:=⟨bb,bo+j*5+4,ag⟩) bl).trans e4
    obtain⟨hC,hB⟩:=bS hC hB hb
    clear x0 x1 x2 x3 x4 x5 x6 x7 x8 x9 x10
    obtain⟨x0,x1,x2,x3,x4,x5,x6,x7,x8,x9,x10⟩:=cD hC
    go_wp2_with fail
    refine aR (cO _ _ _ _) ?_
    rintro(_|_) g1
    rotate_left
    ·exact gY
    have HJ2:bj (cX S sn 0=cX S (sn - (j+1)) (j+1)):=by
     have hJ:=HF.out
     simp only[*]at hJ
     exact hJ
    clear HF
    exact qV
  have HF:=af (HJ.out.trans (k8 R hlt))
  clear HJ
  have i2:(j:Int)<(rn:Int):=om
  rcases j with _|k
  ·rw[show rO R 0=0 from rfl]at HF
   obtain⟨bb,bo,rfl,bl,hc⟩:=(HRr.out.below hB).elem hlt
   have e0:wr.cell? ⟨bb,bo+0*4,ag⟩=ai (M U (R 0 0)):=hc 0 om
   have e1:wr.cell? ⟨bb,bo+0*4+1,ag⟩=ai (M U (R 0 1)):=hc 1 om
   have e2:wr.cell? ⟨bb,bo+0*4+2,ag⟩=ai (M U (R 0 2)):=hc 2 om
   have e3:wr.cell? ⟨bb,bo+0*4+3,ag⟩=ai (M U (R 0 3)):=hc 3 om
   clear hc
   generalize R 0 0=b0 at *
   generalize R 0 1=b1 at *
   generalize R 0 2=b2 at *
   generalize R 0 3=b3 at *
   rw[Nat.zero_mul,bq]at e0 e1 e2 e3
   obtain⟨x0,x1,x2,x3,x4,x5,x6,x7,x8,x9,x10⟩:=cD hC
   go_upto_region 7 with fail
   have hD:=aK wr (.cells #[M U b0,M U b1,M U b2,M U b3] 131)
   have hba:=aP (au wr.heap.size wr) (.cells #[M U b0,M U b1,M U b2,M U b3] 131)
   replace hC:=hC.below hba
   replace hB:=ak hB hba
   generalize wr.alloc (.cells #[M U b0,M U b1,M U b2,M U b3] 131)=w1 at *
   generalize wr.heap.size=db at *
   have hD:am w1 db 131 #[M U b0,M U b1,M U b2,M U b3]:=hD
   obtain⟨d0,d1,d2,d3⟩:=eW hD
   clear hba e0 e1 e2 e3
   clear x0 x1 x2 x3 x4 x5 x6 x7 x8 x9 x10
   obtain⟨x0,x1,x2,x3,x4,x5,x6,x7,x8,x9,x10⟩:=cD hC
   by_cases kf:b0=0
   rotate_left
   ·have kfb:(b0 != 0)=true:=by simp[kf]
    exact gY
   subst kf
   by_cases kd:b1<=0
   ·have k1d:decide (b1<=0)=true:=decide_eq_true kd
    exact gY
   have k1d:decide (b1<=0)=false:=decide_eq_false kd
   by_cases kd:100000000<b1
   ·exact wL
   have k2d:decide (100000000<b1)=false:=decide_eq_false kd
   by_cases kd:b3<b2
   ·exact T17
   have k3d:decide (b3<b2)=false:=decide_eq_false kd
   go_wp2_with fail
   refine aR (cO _ _ _ _) ?_
   rintro(_|_) g0
   rotate_left
   ·exact gY
   go_wp2_with fail
   refine aR (cO _ _ _ _) ?_
   rintro(_|_) g1
   rotate_left
   ·exact gY
   have HJ2:bj (cj R rn 0 0=cj R (rn - (0+1)) (0+1) (rO R (0+1))):=by
    have hJ:=HF.out
    simp only[*]at hJ
    unfold bj
    simpa using hJ
   clear HF
   exact qf
  rw[show rO R (k+1)=R k 1 from rfl]at HF
  obtain⟨bb,bo,rfl,bl,hc⟩:=(HRr.out.below hB).elem hlt
  have e0:wr.cell? ⟨bb,bo+(k+1)*4,ag⟩=ai (M U (R (k+1) 0)):=hc 0 om
  have e1:wr.cell? ⟨bb,bo+(k+1)*4+1,ag⟩=ai (M U (R (k+1) 1)):=hc 1 om
  have e2:wr.cell? ⟨bb,bo+(k+1)*4+2,ag⟩=ai (M U (R (k+1) 2)):=hc 2 om
  have e3:wr.cell? ⟨bb,bo+(k+1)*4+3,ag⟩=ai (M U (R (k+1) 3)):=hc 3 om
  obtain⟨b2,o2,hq,-,hc2⟩:=(HRr.out.below hB).elem (show k<rn by omega)
  have f1:wr.cell? ⟨b2,o2+k*4+1,ag⟩=ai (M U (R k 1)):=hc2 1 om
  obtain⟨rfl,rfl⟩:bb=b2/\bo=o2:=by simpa using hq
  clear hc hc2 hq
  generalize R (k+1) 0=b0 at *
  generalize R (k+1) 1=b1 at *
  generalize R (k+1) 2=b2 at *
  generalize R (k+1) 3=b3 at *
  generalize R k 1=p1 at *
  obtain⟨x0,x1,x2,x3,x4,x5,x6,x7,x8,x9,x10⟩:=cD hC
  go_upto_region 7 with fail
  have hf:=(aP (au wr.heap.size wr) (.cells #[M U b0,M U b1,M U b2,M U b3] 131)).cell (p:=⟨bb,bo+k*4+1,ag⟩) bl
  rw[f1]at hf
  have hD:=aK wr (.cells #[M U b0,M U b1,M U b2,M U b3] 131)
  have hba:=aP (au wr.heap.size wr) (.cells #[M U b0,M U b1,M U b2,M U b3] 131)
  replace hC:=hC.below hba
  replace hB:=ak hB hba
  generalize wr.alloc (.cells #[M U b0,M U b1,M U b2,M U b3] 131)=w1 at *
  generalize wr.heap.size=db at *
  have hD:am w1 db 131 #[M U b0,M U b1,M U b2,M U b3]:=hD
  obtain⟨d0,d1,d2,d3⟩:=eW hD
  clear hba e0 e1 e2 e3
  clear f1
  clear x0 x1 x2 x3 x4 x5 x6 x7 x8 x9 x10
  obtain⟨x0,x1,x2,x3,x4,x5,x6,x7,x8,x9,x10⟩:=cD hC
  have q1:=aD ((k:Int)+1 - 1) ⟨by omega,by omega⟩
  have q2:=aD (k:Int) ⟨by omega,by omega⟩
  have q3:(k:Int)<(rn:Int):=om
  have q4:((k:Int)+1==0)=false:=by simp;omega
  by_cases kf:b0=p1
  rotate_left
  ·have kfb:(b0 != p1)=true:=by simp[kf]
   exact gY
  subst kf
  by_cases kd:b1<=b0
  ·have k1d:decide (b1<=b0)=true:=decide_eq_true kd
   exact gY
  have k1d:decide (b1<=b0)=false:=decide_eq_false kd
  by_cases kd:100000000<b1
  ·exact wL
  have k2d:decide (100000000<b1)=false:=decide_eq_false kd
  by_cases kd:b3<b2
  ·exact T17
  have k3d:decide (b3<b2)=false:=decide_eq_false kd
  go_wp2_with fail
  refine aR (cO _ _ _ _) ?_
  rintro(_|_) g0
  rotate_left
  ·exact gY
  go_wp2_with fail
  refine aR (cO _ _ _ _) ?_
  rintro(_|_) g1
  rotate_left
  ·exact gY
  have HJ2:bj (cj R rn 0 0=cj R (rn - (k+1+1)) (k+1+1) (rO R (k+1+1))):=by
   have hJ:=HF.out
   simp only[*]at hJ
   unfold bj
   simpa using hJ
  clear HF
  exact rN
end
section
open Tryz
open Go.RowKit
theorem pI (glo ghi wt bd:Int):fA glo ghi wt bd=(aI glo 1 200||(aI ghi glo 200||(aI wt 0 100||aI bd 0 300))):=by
 unfold fA aI;rw[Bool.eq_iff_iff];simp;omega
theorem dI (n lo hi:Int) (w:aj):
  aC prog 126 #[M U n,M U lo,M U hi] w λe w'=>e=ar (aA (!aI n lo hi))/\w=w':=by
 go_enter func126,ntmps126
 exact iP
theorem mP (n:Nat) (L:Nat->Nat->Int) (glo ghi wt bd:Int) (lv:aw) (w:aj) (hRl:aU w lv n 4 (bw L)):
  aC prog 42 #[aN #[lv,M U glo,M U ghi,M U wt,M U bd]] w (E3 w (rk n L glo ghi wt bd)):=by
 obtain⟨la,lc,rfl,hlc,hx⟩:=id hRl
 clear hx
 have HRl:=af hRl
 clear hRl
 obtain⟨W0,xb,HW0,hC,hB⟩:=eB w 66 #[T la n lc,M U glo,M U ghi,M U wt,M U bd]
 obtain⟨r,HS⟩:=dR (rk n L glo ghi wt bd)
 rw[<-HS.out]
 go_enter func42,ntmps42
 go_upto_region 1 with fail
 rw[HW0.out.1,HW0.out.2]
 clear HW0
 have xx:=aL hC
 go_wp2_with fail
 refine aR (dI _ _ _ _) ?_
 rintro(_|_) g0
 rotate_left
 ·go_wp2_with fail
  exact jz
 have hn:=aW.1 g0
 go_wp2_with fail
 clear xx
 go_loopw [5] (λi wr=>∃j:Nat,j<=n/\i=M U j/\bj (aB (kw L) n 0=aB (kw L) (n - j) j)/\am wr xb 66 #[T la n lc,M U glo,M U ghi,M U wt,M U bd]/\ap w.heap.size w wr) (λi _=>n - (aV i).toNat)
 case atStart=>exact⟨0,aF _,rfl,show _=_ from rfl,hC,hB⟩
 case round=>
  clear hC hB
  obtain⟨j,hj,rfl,HJ,hC,hB⟩:=hrel
  by_cases hlt:j<n
  rotate_left
  ·obtain rfl:n=j:=om
   have HE:=af (HJ.out.trans (bh (kw L) n))
   have hE:=HE.out
   clear HJ HE
   have xx:=aL hC
   go_wp2_with fail
   refine aR (dI _ _ _ _) ?_
   rintro(_|_) g1
   rotate_left
   ·go_wp2_with fail
    exact jz
   go_wp2_with fail
   refine aR (dI _ _ _ _) ?_
   rintro(_|_) g2
   rotate_left
   ·go_wp2_with fail
    exact jz
   go_wp2_with fail
   refine aR (dI _ _ _ _) ?_
   rintro(_|_) g3
   rotate_left
   ·go_wp2_with fail
    exact jz
   go_wp2_with fail
   refine aR (dI _ _ _ _) ?_
   rintro(_|_) g4
   ·go_wp2_with fail
    exact jz
   go_wp2_with fail
   exact jz
  have HF:=af (HJ.out.trans (bf (kw L) hlt))
  obtain⟨q,hq⟩:∃q,q=kw L j:=⟨_,rfl⟩
  rw[<-hq]at HF
  unfold kw at hq
  have HQ:=af hq
  clear hq HJ
  obtain⟨bb,bo,rfl,bl,hc⟩:=(HRl.out.below hB).elem hlt
  have ee:=r4 hc
  simp only[bw,bq]at ee
  clear hc
  generalize L j 0=b0 at *
  generalize L j 1=b1 at *
  generalize L j 2=b2 at *
  generalize L j 3=b3 at *
  have i2:(j:Int)<(n:Int):=om
  have xx:=aL hC
  go_upto_region 7 with fail
  obtain⟨w1,hW9,hD,hba⟩:=bW wr 216 #[M U b0,M U b1,M U b2,M U b3]
  rw[hW9.out]
  clear hW9
  replace hC:=hC.below hba
  replace hB:=ak hB hba
  generalize wr.heap.size=db at *
  have dd:=eW hD
  clear hba ee
  go_wp2_with fail
  refine aR (dI _ _ _ _) ?_
  rintro(_|_) g0
  rotate_left
  ·exact pY
  go_wp2_with fail
  refine aR (dI _ _ _ _) ?_
  rintro(_|_) g1
  rotate_left
  ·exact pY
  go_wp2_with fail
  refine aR (dI _ _ _ _) ?_
  rintro(_|_) g2
  rotate_left
  ·exact pY
  go_wp2_with fail
  refine aR (dI _ _ _ _) ?_
  rintro(_|_) g3
  rotate_left
  ·exact pY
  by_cases k0:b0=0
  rotate_left
  ·have k0b:(b0==0)=false:=by simp[k0]
   exact T16
  subst k0
  by_cases k1:b1=0
  ·subst k1
   exact pY
  have k1b:(b1==0)=false:=by simp[k1]
  exact T16
end
section
open Tryz
open Go.RowKit
def pA (A:Nat->Nat->Int) (i:Nat):Bool:=if i=0 then A 0 0 != 0 else decide (A i 0<=A (i - 1) 0)
def el (A:Nat->Nat->Int) (i:Nat):Option Int:=
 if pA A i then ai 2 else if decide (2000000000<A i 0)||aI (A i 1) 0 1000 then ai 7 else ag
def jl (H:Nat->Nat->Int) (i:Nat):Option Int:=
 if aI (H i 0) 1 3000||(cM (H i 1) (H i 2) 0 2000000||(fD (H i 3) (H i 4) (H i 5) (H i 6)||fW (H i 7) (H i 8) (H i 9) (H i 10) (H i 11) (H i 12) 2000))then ai 7 else ag
def jQ (N:Nat->ByteArray) (R:Nat->Nat->Int) (i:Nat):Option Int:=
 if !dq (N i).data.toList then ai 6 else if bI (λk=>ej (N k) (N i)) i then ai 5
 else if aI (R i 1) 1 3000||(fD (R i 2) (R i 3) (R i 4) (R i 5)||(fW (R i 6) (R i 7) (R i 8) (R i 9) (R i 10) (R i 11) 1000000||aI (R i 12) 0 2000000000))then ai 7 else ag
def sW (nm:ByteArray) (glo ghi:Int) (na:Nat) (A:Nat->Nat->Int) (np:Nat) (H:Nat->Nat->Int) (nc:Nat) (N:Nat->ByteArray) (R:Nat->Nat->Int):Int×Int×Int:=
 if !dq nm.data.toList then(1,0,6)else if cM glo ghi 0 200 then(1,0,7)else if 20<na then(2,0,3)else match aB (el A) na 0 with
  |some (i,e)=>(2,((i:Nat):Int),e)
  |none=>if aI np 1 12 then(3,0,3)else match aB (jl H) np 0 with
   |some (i,e)=>(3,((i:Nat):Int),e)
   |none=>if 6<nc then(4,0,3)else match aB (jQ N R) nc 0 with
    |some (i,e)=>(4,((i:Nat):Int),e)
    |none=>(0,0,0)
theorem aU.take {w:aj} {a:Option Addr} {n c k j:Nat} {F:Nat->Nat->aw} (h:aU w (T a n c) n k F) (hj:j<=n):aU w (T a j c) j k F:=by
 obtain⟨a2,c2,he,hc,h⟩:=h
 simp only[aw.slice.injEq]at he
 obtain⟨rfl,-,rfl⟩:=he
 refine⟨a,c,rfl,aO hj hc,?_⟩
 rcases h with h|⟨b,off,rfl,h1,h2⟩
 ·exact .inl om
 exact .inr ⟨b,off,rfl,h1,λi l hi hl=>h2 i l om hl⟩
theorem nM (y0:ByteArray) (y1:Int) (y2:Int) (y3:Int) (y4:Int) (y5:Int) (y6:Int) (y7:Int) (y8:Int) (y9:Int) (y10:Int) (y11:Int) (y12:Int) (db:Nat) (nm:ByteArray) (w:aj) (hd:w.cell? ⟨db,0,ag⟩=ai (ay nm)):
  aC prog 82 #[aN #[ay y0,M U y1,M U y2,M U y3,M U y4,M U y5,M U y6,M U y7,M U y8,M U y9,M U y10,M U y11,M U y12],ax (ai ⟨db,0,ag⟩)] w λe w'=>e=ar (aA (ej y0 nm))/\ap w.heap.size w w':=by
 have hlt:db<w.heap.size:=aG w _ hd
 obtain⟨W0,xb,HW0,hC,hB⟩:=eB w 185 #[ay y0,M U y1,M U y2,M U y3,M U y4,M U y5,M U y6,M U y7,M U y8,M U y9,M U y10,M U y11,M U y12]
 have hd:W0.cell? ⟨db,0,ag⟩=ai (ay nm):=(hB.cell (p:=⟨db,0,ag⟩) hlt).trans hd
 clear hlt
 go_enter func82,ntmps82
 go_upto_region 1 with fail
 rw[HW0.out.1,HW0.out.2]
 clear HW0
 have xx:=aX hC
 exact gU
theorem mp (n:Nat) (N:Nat->ByteArray) (R:Nat->Nat->Int) (p:Nat->Bool) (v:aw) (cz:aw) (w:aj) (hRr:aU w v n 13 (em N R)) (hn:n<=1125899906842624) (hF:∀(i:Nat) (W:aj),i<n->ap w.heap.size w W->aC prog 82 #[aN #[ay (N i),M U (R i 1),M U (R i 2),M U (R i 3),M U (R i 4),M U (R i 5),M U (R i 6),M U (R i 7),M U (R i 8),M U (R i 9),M U (R i 10),M U (R i 11),M U (R i 12)],cz] W λe w'=>e=ar (aA (p i))/\ap W.heap.size W w'):
  aC prog 150 #[v, .func (.func 82) #[] #[cz]] w λe w'=>e=ar (M U (cH p n 0))/\ap w.heap.size w w':=by
 obtain⟨ra,rc,rfl,hrc,hx⟩:=id hRr
 have HRr:=af hRr
 have HF:=af hF
 clear hRr hF
 go_enter func150,ntmps150
 go_wp2_with fail
 go_loopw [8] (λi wr=>∃j:Nat,j<=n/\i=M U j/\ap w.heap.size w wr/\bj (cH p n 0=cH p (n - j) j)) (λi _=>n - (aV i).toNat)
 case atStart=>exact⟨0,aF _,rfl,au _ _,rfl⟩
 case round=>
  obtain⟨j,hj,rfl,hB,HI⟩:=hrel
  by_cases hlt:j<n
  rotate_left
  ·exact mv
  have HC:=af (λW (h:ap w.heap.size w W)=>HF.out j W hlt h)
  have HS:=af (dj p hlt)
  obtain⟨b,off,rfl,hb,hc⟩:=(HRr.out.below hB).elem hlt
  have e0:wr.cell? ⟨b,off+j*13,ag⟩=ai (ay (N j)):=hc 0 om
  have e1:wr.cell? ⟨b,off+j*13+1,ag⟩=ai (M U (R j 1)):=hc 1 om
  have e2:wr.cell? ⟨b,off+j*13+2,ag⟩=ai (M U (R j 2)):=hc 2 om
  have e3:wr.cell? ⟨b,off+j*13+3,ag⟩=ai (M U (R j 3)):=hc 3 om
  have e4:wr.cell? ⟨b,off+j*13+4,ag⟩=ai (M U (R j 4)):=hc 4 om
  have e5:wr.cell? ⟨b,off+j*13+5,ag⟩=ai (M U (R j 5)):=hc 5 om
  have e6:wr.cell? ⟨b,off+j*13+6,ag⟩=ai (M U (R j 6)):=hc 6 om
  have e7:wr.cell? ⟨b,off+j*13+7,ag⟩=ai (M U (R j 7)):=hc 7 om
  have e8:wr.cell? ⟨b,off+j*13+8,ag⟩=ai (M U (R j 8)):=hc 8 om
  have e9:wr.cell? ⟨b,off+j*13+9,ag⟩=ai (M U (R j 9)):=hc 9 om
  have e10:wr.cell? ⟨b,off+j*13+10,ag⟩=ai (M U (R j 10)):=hc 10 om
  have e11:wr.cell? ⟨b,off+j*13+11,ag⟩=ai (M U (R j 11)):=hc 11 om
  have e12:wr.cell? ⟨b,off+j*13+12,ag⟩=ai (M U (R j 12)):=hc 12 om
  exact T14
theorem jx (n:Nat) (N:Nat->ByteArray) (R:Nat->Nat->Int) (p:Nat->Bool) (v:aw) (cz:aw) (w:aj) (hRr:aU w v n 13 (em N R)) (hn:n<=1125899906842624) (hF:∀(i:Nat) (W:aj),i<n->ap w.heap.size w W->aC prog 82 #[aN #[ay (N i),M U (R i 1),M U (R i 2),M U (R i 3),M U (R i 4),M U (R i 5),M U (R i 6),M U (R i 7),M U (R i 8),M U (R i 9),M U (R i 10),M U (R i 11),M U (R i 12)],cz] W λe w'=>e=ar (aA (p i))/\ap W.heap.size W w'):
  aC prog 81 #[v, .func (.func 82) #[] #[cz]] w λe w'=>e=ar (aA (bI p n))/\ap w.heap.size w w':=by
 have HI:=af (mp n N R p v cz w hRr hn hF)
 have hk:=dp p n
 have HK:=af hk
 obtain⟨ra,rc,rfl,hrc,hx⟩:=id hRr
 clear hk hRr hF hx
 go_enter func81,ntmps81
 exact T53
theorem nA (nm:ByteArray) (glo ghi:Int) (na:Nat) (A:Nat->Nat->Int) (np:Nat) (H:Nat->Nat->Int) (nc:Nat) (N:Nat->ByteArray) (R:Nat->Nat->Int) (av pv cv:aw) (w:aj)
  (hnm:nm.size<=9223372036854775806) (hRa:aU w av na 2 (bw A)) (hRp:aU w pv np 13 (bw H)) (hRc:aU w cv nc 13 (em N R)) (hN:∀i,i<nc->(N i).size<=9223372036854775806):
  aC prog 23 #[aN #[ay nm,M U glo,M U ghi,av,pv,cv]] w (E3 w (sW nm glo ghi na A np H nc N R)):=by
 obtain⟨aa,ac,rfl,hac,hx⟩:=id hRa
 clear hx
 have HRa:=af hRa
 clear hRa
 obtain⟨pa,pc,rfl,hpc,hx⟩:=id hRp
 clear hx
 have HRp:=af hRp
 clear hRp
 obtain⟨ca,cc,rfl,hcc,hx⟩:=id hRc
 clear hx
 have HRc:=af hRc
 clear hRc
 obtain⟨W0,xb,HW0,hC,hB⟩:=eB w 42 #[ay nm,M U glo,M U ghi,T aa na ac,T pa np pc,T ca nc cc]
 obtain⟨r,HS⟩:=dR (sW nm glo ghi na A np H nc N R)
 rw[<-HS.out]
 have HN:=af hN
 clear hN
 go_enter func23,ntmps23
 go_upto_region 1 with fail
 rw[HW0.out.1,HW0.out.2]
 clear HW0
 obtain⟨x0,x1,x2,x3,x4,x5⟩:=aH hC
 go_wp2_with fail
 refine bH (cS _ _ hnm) ?_
 rintro(_|_) w1 g hb<;>obtain⟨hC,hB⟩:=bS hC hB hb
 ·go_wp2_with fail
  exact gg
 clear x0 x1 x2 x3 x4 x5
 obtain⟨x0,x1,x2,x3,x4,x5⟩:=aH hC
 go_wp2_with fail
 refine bH (eK _ _ _ _ _) ?_
 rintro(_|_) w1 g hb<;>obtain⟨hC,hB⟩:=bS hC hB hb
 rotate_left
 ·go_wp2_with fail
  exact gg
 clear x0 x1 x2 x3 x4 x5
 obtain⟨x0,x1,x2,x3,x4,x5⟩:=aH hC
 by_cases k1:20<na
 ·go_wp2_with fail
  exact gg
 go_wp2_with fail
 clear x0 x1 x2 x3 x4 x5
 go_loopw [28] (λi wr=>∃j:Nat,j<=na/\i=M U j/\bj (aB (el A) na 0=aB (el A) (na - j) j)/\am wr xb 42 #[ay nm,M U glo,M U ghi,T aa na ac,T pa np pc,T ca nc cc]/\ap w.heap.size w wr) (λi _=>na - (aV i).toNat)
 case atStart=>exact⟨0,aF _,rfl,show _=_ from rfl,hC,hB⟩
 case round=>
  clear hC hB
  obtain⟨j,hj,rfl,HJ,hC,hB⟩:=hrel
  by_cases hlt:j<na
  ·have HF:bj (aB (el A) na 0=match (if pA A j then ai 2 else if decide (2000000000<A j 0)||aI (A j 1) 0 1000 then ai 7 else ag)with|some e=>ai (j,e)|none=>aB (el A) (na - (j+1)) (j+1)):=show _=_ from HJ.out.trans (bf _ hlt)
   clear HJ
   have i2:(j:Int)<(na:Int):=om
   rcases j with _|k
   ·have hG:pA A 0=(A 0 0 != 0):=rfl
    obtain⟨bb,bo,rfl,bl,hc⟩:=(HRa.out.below hB).elem hlt
    have e0:wr.cell? ⟨bb,bo+0*2,ag⟩=ai (M U (A 0 0)):=hc 0 om
    have e1:wr.cell? ⟨bb,bo+0*2+1,ag⟩=ai (M U (A 0 1)):=hc 1 om
    clear hc
    generalize A 0 0=b0 at *
    generalize A 0 1=b1 at *
    rw[Nat.zero_mul,bq]at e0 e1
    go_upto_region 10 with fail
    have hD:=aK wr (.cells #[M U b0,M U b1] 175)
    have hba:=aP (au wr.heap.size wr) (.cells #[M U b0,M U b1] 175)
    replace hC:=hC.below hba
    replace hB:=ak hB hba
    generalize wr.alloc (.cells #[M U b0,M U b1] 175)=w1 at *
    generalize wr.heap.size=db at *
    have hD:am w1 db 175 #[M U b0,M U b1]:=hD
    obtain⟨d0,d1⟩:=bA hD
    clear hba e0 e1
    by_cases k1:b0=0
    rotate_left
    ·have k1b:(b0 != 0)=true:=by simp[k1]
     exact T41
    have k1b:(b0 != 0)=false:=by simp[k1]
    rw[k1b]at hG
    go_quiet (fail)
    have hb:=aM (au w1.heap.size w1) nq
    obtain⟨hC,hD,hB⟩:=bM hC hD hB hb
    generalize w1.drewN nq=w2 at *
    clear d0 d1
    obtain⟨d0,d1⟩:=bA hD
    by_cases k2:2000000000<b0
    ·exfalso;omega
    go_wp2_with fail
    refine bm (cU _ _ _ _) ?_
    rintro(_|_) g
    rotate_left
    ·have hJ:=HF.out
     simp[*]at hJ
     clear HF
     go_wp2_with fail
     exact gg
    have HJ2:bj (aB (el A) na 0=aB (el A) (na - (0+1)) (0+1)):=by unfold bj;rw[HF.out,hG,decide_eq_false (show¬2000000000<b0 by omega),g];rfl
    clear HF g hG
    exact qf
   have hG:pA A (k+1)=decide (A (k+1) 0<=A k 0):=rfl
   obtain⟨bb,bo,rfl,bl,hc⟩:=(HRa.out.below hB).elem hlt
   have e0:wr.cell? ⟨bb,bo+(k+1)*2,ag⟩=ai (M U (A (k+1) 0)):=hc 0 om
   have e1:wr.cell? ⟨bb,bo+(k+1)*2+1,ag⟩=ai (M U (A (k+1) 1)):=hc 1 om
   obtain⟨b2,o2,hq,-,hc2⟩:=(HRa.out.below hB).elem (show k<na by omega)
   have f0:wr.cell? ⟨b2,o2+k*2,ag⟩=ai (M U (A k 0)):=hc2 0 om
   obtain⟨rfl,rfl⟩:bb=b2/\bo=o2:=by simpa using hq
   clear hc hc2 hq
   generalize A (k+1) 0=b0 at *
   generalize A (k+1) 1=b1 at *
   generalize A k 0=p0 at *
   go_upto_region 10 with fail
   have hf:=(aP (au wr.heap.size wr) (.cells #[M U b0,M U b1] 175)).cell (p:=⟨bb,bo+k*2,ag⟩) bl
   rw[f0]at hf
   have hD:=aK wr (.cells #[M U b0,M U b1] 175)
   have hba:=aP (au wr.heap.size wr) (.cells #[M U b0,M U b1] 175)
   replace hC:=hC.below hba
   replace hB:=ak hB hba
   generalize wr.alloc (.cells #[M U b0,M U b1] 175)=w1 at *
   generalize wr.heap.size=db at *
   have hD:am w1 db 175 #[M U b0,M U b1]:=hD
   obtain⟨d0,d1⟩:=bA hD
   clear hba e0 e1
   clear f0
   obtain⟨x0,x1,x2,x3,x4,x5⟩:=aH hC
   have q1:=aD ((k:Int)+1 - 1) ⟨by omega,by omega⟩
   have q2:=aD (k:Int) ⟨by omega,by omega⟩
   have q3:(k:Int)<(na:Int):=om
   have q4:((k:Int)+1==0)=false:=by simp;omega
   by_cases k1:b0<=p0
   ·have k1b:decide (b0<=p0)=true:=decide_eq_true k1
    exact T41
   have k1b:decide (b0<=p0)=false:=decide_eq_false k1
   rw[k1b]at hG
   go_quiet (fail)
   have hb:=aM (au w1.heap.size w1) nq
   obtain⟨hC,hD,hB⟩:=bM hC hD hB hb
   generalize w1.drewN nq=w2 at *
   clear d0 d1
   obtain⟨d0,d1⟩:=bA hD
   by_cases k2:2000000000<b0
   ·have hJ:=HF.out
    simp[*]at hJ
    clear HF k1
    go_wp2_with fail
    exact gg
   go_wp2_with fail
   refine bm (cU _ _ _ _) ?_
   rintro(_|_) g
   rotate_left
   ·have hJ:=HF.out
    simp[*]at hJ
    clear HF
    go_wp2_with fail
    exact gg
   have HJ2:bj (aB (el A) na 0=aB (el A) (na - (k+1+1)) (k+1+1)):=by unfold bj;rw[HF.out,hG,decide_eq_false (show¬2000000000<b0 by omega),g];rfl
   clear HF g hG
   exact rN
  obtain rfl:na=j:=om
  have HE:=af (HJ.out.trans (bh (el A) na))
  have hE:=HE.out
  clear HJ HE
  obtain⟨x0,x1,x2,x3,x4,x5⟩:=aH hC
  go_wp2_with fail
  refine bm (cU _ _ _ _) ?_
  rintro(_|_) g
  rotate_left
  ·go_wp2_with fail
   exact gg
  have hn:=aW.1 g
  go_wp2_with fail
  clear x0 x1 x2 x3 x4 x5
  go_loopw [76] (λi wr=>∃j:Nat,j<=np/\i=M U j/\bj (aB (jl H) np 0=aB (jl H) (np - j) j)/\am wr xb 42 #[ay nm,M U glo,M U ghi,T aa na ac,T pa np pc,T ca nc cc]/\ap w.heap.size w wr) (λi _=>np - (aV i).toNat)
  case atStart=>exact⟨0,aF _,rfl,show _=_ from rfl,hC,hB⟩
  case round=>
   clear hC hB
   obtain⟨j,hj,rfl,HJ,hC,hB⟩:=hrel
   by_cases hlt:j<np
   ·have HF:=af (HJ.out.trans (bf (jl H) hlt))
    obtain⟨q,hq⟩:∃q,q=jl H j:=⟨_,rfl⟩
    rw[<-hq]at HF
    unfold jl at hq
    have HQ:=af hq
    clear hq HJ
    obtain⟨bb,bo,rfl,bl,hc⟩:=(HRp.out.below hB).elem hlt
    have e0:wr.cell? ⟨bb,bo+j*13,ag⟩=ai (M U (H j 0)):=hc 0 om
    have e1:wr.cell? ⟨bb,bo+j*13+1,ag⟩=ai (M U (H j 1)):=hc 1 om
    have e2:wr.cell? ⟨bb,bo+j*13+2,ag⟩=ai (M U (H j 2)):=hc 2 om
    have e3:wr.cell? ⟨bb,bo+j*13+3,ag⟩=ai (M U (H j 3)):=hc 3 om
    have e4:wr.cell? ⟨bb,bo+j*13+4,ag⟩=ai (M U (H j 4)):=hc 4 om
    have e5:wr.cell? ⟨bb,bo+j*13+5,ag⟩=ai (M U (H j 5)):=hc 5 om
    have e6:wr.cell? ⟨bb,bo+j*13+6,ag⟩=ai (M U (H j 6)):=hc 6 om
    have e7:wr.cell? ⟨bb,bo+j*13+7,ag⟩=ai (M U (H j 7)):=hc 7 om
    have e8:wr.cell? ⟨bb,bo+j*13+8,ag⟩=ai (M U (H j 8)):=hc 8 om
    have e9:wr.cell? ⟨bb,bo+j*13+9,ag⟩=ai (M U (H j 9)):=hc 9 om
    have e10:wr.cell? ⟨bb,bo+j*13+10,ag⟩=ai (M U (H j 10)):=hc 10 om
    have e11:wr.cell? ⟨bb,bo+j*13+11,ag⟩=ai (M U (H j 11)):=hc 11 om
    have e12:wr.cell? ⟨bb,bo+j*13+12,ag⟩=ai (M U (H j 12)):=hc 12 om
    clear hc
    generalize H j 0=b0 at *
    generalize H j 1=b1 at *
    generalize H j 2=b2 at *
    generalize H j 3=b3 at *
    generalize H j 4=b4 at *
    generalize H j 5=b5 at *
    generalize H j 6=b6 at *
    generalize H j 7=b7 at *
    generalize H j 8=b8 at *
    generalize H j 9=b9 at *
    generalize H j 10=b10 at *
    generalize H j 11=b11 at *
    generalize H j 12=b12 at *
    have i2:(j:Int)<(np:Int):=om
    go_upto_region 20 with fail
    have hD:=aK wr (.cells #[M U b0,M U b1,M U b2,M U b3,M U b4,M U b5,M U b6,M U b7,M U b8,M U b9,M U b10,M U b11,M U b12] 179)
    have hba:=aP (au wr.heap.size wr) (.cells #[M U b0,M U b1,M U b2,M U b3,M U b4,M U b5,M U b6,M U b7,M U b8,M U b9,M U b10,M U b11,M U b12] 179)
    replace hC:=hC.below hba
    replace hB:=ak hB hba
    generalize wr.alloc (.cells #[M U b0,M U b1,M U b2,M U b3,M U b4,M U b5,M U b6,M U b7,M U b8,M U b9,M U b10,M U b11,M U b12] 179)=w1 at *
    generalize wr.heap.size=db at *
    have hD:am w1 db 179 #[M U b0,M U b1,M U b2,M U b3,M U b4,M U b5,M U b6,M U b7,M U b8,M U b9,M U b10,M U b11,M U b12]:=hD
    obtain⟨d0,d1,d2,d3,d4,d5,d6,d7,d8,d9,d10,d11,d12⟩:=aX hD
    clear hba e0 e1 e2 e3 e4 e5 e6 e7 e8 e9 e10 e11 e12
    go_wp2_with fail
    refine bm (cU _ _ _ _) ?_
    rintro(_|_) g
    rotate_left
    ·exact jX
    go_wp2_with fail
    refine bH (eK _ _ _ _ _) ?_
    rintro(_|_) w1 g hb<;>obtain⟨hC,hD,hB⟩:=bM hC hD hB hb
    rotate_left
    ·exact jX
    clear d0 d1 d2 d3 d4 d5 d6 d7 d8 d9 d10 d11 d12
    obtain⟨d0,d1,d2,d3,d4,d5,d6,d7,d8,d9,d10,d11,d12⟩:=aX hD
    go_wp2_with fail
    refine bH (kD _ _ _ _ _) ?_
    rintro(_|_) w1 g hb<;>obtain⟨hC,hD,hB⟩:=bM hC hD hB hb
    rotate_left
    ·exact jX
    clear d0 d1 d2 d3 d4 d5 d6 d7 d8 d9 d10 d11 d12
    obtain⟨d0,d1,d2,d3,d4,d5,d6,d7,d8,d9,d10,d11,d12⟩:=aX hD
    go_wp2_with fail
    refine aZ (jd _ _ _ _ _ _ _) ?_
    intro w1 hb
    obtain⟨hC,hD,hB⟩:=bM hC hD hB hb
    clear d0 d1 d2 d3 d4 d5 d6 d7 d8 d9 d10 d11 d12
    obtain⟨d0,d1,d2,d3,d4,d5,d6,d7,d8,d9,d10,d11,d12⟩:=aX hD
    go_wp2_with fail
    refine bH (mi _ _ _ _ _ _ _ _ om om) ?_
    rintro(_|_) w1 g hb<;>obtain⟨hC,hD,hB⟩:=bM hC hD hB hb
    rotate_left
    ·exact jX
    clear d0 d1 d2 d3 d4 d5 d6 d7 d8 d9 d10 d11 d12
    obtain⟨d0,d1,d2,d3,d4,d5,d6,d7,d8,d9,d10,d11,d12⟩:=aX hD
    have HJ2:bj (aB (jl H) np 0=aB (jl H) (np - (j+1)) (j+1)):=by
     exact gM
    exact qG
   obtain rfl:np=j:=om
   have HE:=af (HJ.out.trans (bh (jl H) np))
   have hE:=HE.out
   clear HJ HE
   obtain⟨x0,x1,x2,x3,x4,x5⟩:=aH hC
   by_cases k2:6<nc
   ·go_wp2_with fail
    exact gg
   go_wp2_with fail
   clear x0 x1 x2 x3 x4 x5
   go_loopw [111] (λi wr=>∃j:Nat,j<=nc/\i=M U j/\bj (aB (jQ N R) nc 0=aB (jQ N R) (nc - j) j)/\am wr xb 42 #[ay nm,M U glo,M U ghi,T aa na ac,T pa np pc,T ca nc cc]/\ap w.heap.size w wr) (λi _=>nc - (aV i).toNat)
   case atStart=>exact⟨0,aF _,rfl,show _=_ from rfl,hC,hB⟩
   case round=>
    clear hC hB
    obtain⟨j,hj,rfl,HJ,hC,hB⟩:=hrel
    by_cases hlt:j<nc
    rotate_left
    ·obtain rfl:nc=j:=om
     have HE:=af (HJ.out.trans (bh (jQ N R) nc))
     have hE:=HE.out
     clear HJ HE
     go_wp2_with fail
     exact gg
    have HF:=af (HJ.out.trans (bf (jQ N R) hlt))
    obtain⟨q,hq⟩:∃q,q=jQ N R j:=⟨_,rfl⟩
    rw[<-hq]at HF
    unfold jQ at hq
    have HQ:=af hq
    clear hq HJ
    have hNj:=HN.out j hlt
    obtain⟨bb,bo,rfl,bl,e0,e1,e2,e3,e4,e5,e6,e7,e8,e9,e10,e11,e12⟩:=(HRc.out.below hB).eS13 hlt
    generalize N j=b0 at *
    generalize R j 1=b1 at *
    generalize R j 2=b2 at *
    generalize R j 3=b3 at *
    generalize R j 4=b4 at *
    generalize R j 5=b5 at *
    generalize R j 6=b6 at *
    generalize R j 7=b7 at *
    generalize R j 8=b8 at *
    generalize R j 9=b9 at *
    generalize R j 10=b10 at *
    generalize R j 11=b11 at *
    generalize R j 12=b12 at *
    have i2:(j:Int)<(nc:Int):=om
    go_upto_region 28 with fail
    have hD:=aK wr (.cells #[ay b0,M U b1,M U b2,M U b3,M U b4,M U b5,M U b6,M U b7,M U b8,M U b9,M U b10,M U b11,M U b12] 185)
    have hba:=aP (au wr.heap.size wr) (.cells #[ay b0,M U b1,M U b2,M U b3,M U b4,M U b5,M U b6,M U b7,M U b8,M U b9,M U b10,M U b11,M U b12] 185)
    replace hC:=hC.below hba
    replace hB:=ak hB hba
    generalize wr.alloc (.cells #[ay b0,M U b1,M U b2,M U b3,M U b4,M U b5,M U b6,M U b7,M U b8,M U b9,M U b10,M U b11,M U b12] 185)=w1 at *
    generalize wr.heap.size=db at *
    have hD:am w1 db 185 #[ay b0,M U b1,M U b2,M U b3,M U b4,M U b5,M U b6,M U b7,M U b8,M U b9,M U b10,M U b11,M U b12]:=hD
    obtain⟨d0,d1,d2,d3,d4,d5,d6,d7,d8,d9,d10,d11,d12⟩:=aX hD
    clear hba e0 e1 e2 e3 e4 e5 e6 e7 e8 e9 e10 e11 e12
    go_wp2_with fail
    refine bH (cS _ _ hNj) ?_
    rintro(_|_) w1 g hb<;>obtain⟨hC,hD,hB⟩:=bM hC hD hB hb
    ·exact jX
    clear d0 d1 d2 d3 d4 d5 d6 d7 d8 d9 d10 d11 d12
    obtain⟨d0,d1,d2,d3,d4,d5,d6,d7,d8,d9,d10,d11,d12⟩:=aX hD
    obtain⟨x0,x1,x2,x3,x4,x5⟩:=aH hC
    go_wp2_with fail
    refine bH (jx j N R (λk=>ej (N k) b0) _ _ _ ((HRc.out.below hB).take hj) om (λi W hi hb=>nM _ _ _ _ _ _ _ _ _ _ _ _ _ _ _ _ ((hb.cell (p:=⟨db,0,ag⟩) hD.lt).trans d0))) ?_
    rintro(_|_) w1 g hb<;>obtain⟨hC,hD,hB⟩:=bM hC hD hB hb
    rotate_left
    ·exact jX
    clear d0 d1 d2 d3 d4 d5 d6 d7 d8 d9 d10 d11 d12
    obtain⟨d0,d1,d2,d3,d4,d5,d6,d7,d8,d9,d10,d11,d12⟩:=aX hD
    go_wp2_with fail
    refine bm (cU _ _ _ _) ?_
    rintro(_|_) g
    rotate_left
    ·exact jX
    go_wp2_with fail
    refine bH (kD _ _ _ _ _) ?_
    rintro(_|_) w1 g hb<;>obtain⟨hC,hD,hB⟩:=bM hC hD hB hb
    rotate_left
    ·exact jX
    clear d0 d1 d2 d3 d4 d5 d6 d7 d8 d9 d10 d11 d12
    obtain⟨d0,d1,d2,d3,d4,d5,d6,d7,d8,d9,d10,d11,d12⟩:=aX hD
    go_wp2_with fail
    refine aZ (jd _ _ _ _ _ _ _) ?_
    intro w1 hb
    obtain⟨hC,hD,hB⟩:=bM hC hD hB hb
    clear d0 d1 d2 d3 d4 d5 d6 d7 d8 d9 d10 d11 d12
    obtain⟨d0,d1,d2,d3,d4,d5,d6,d7,d8,d9,d10,d11,d12⟩:=aX hD
    go_wp2_with fail
    refine bH (mi _ _ _ _ _ _ _ _ om om) ?_
    rintro(_|_) w1 g hb<;>obtain⟨hC,hD,hB⟩:=bM hC hD hB hb
    rotate_left
    ·exact jX
    clear d0 d1 d2 d3 d4 d5 d6 d7 d8 d9 d10 d11 d12
    obtain⟨d0,d1,d2,d3,d4,d5,d6,d7,d8,d9,d10,d11,d12⟩:=aX hD
    go_wp2_with fail
    refine bm (cU _ _ _ _) ?_
    rintro(_|_) g
    rotate_left
    ·exact jX
    have HJ2:bj (aB (jQ N R) nc 0=aB (jQ N R) (nc - (j+1)) (j+1)):=by
     exact gM
    exact qG
end
section
open Tryz
open Go.RowKit
theorem dP (n lo hi:Int) (w:aj):
  aC prog 108 #[M U n,M U lo,M U hi] w λe w'=>e=ar (aA (!aI n lo hi))/\w=w':=by
 go_enter func108,ntmps108
 exact iP
theorem dx (lo hi a b:Int) (w:aj):
  aC prog 109 #[aN #[M U lo,M U hi],M U a,M U b] w λe w'=>e=ar (aA (!cM lo hi a b))/\ap w.heap.size w w':=by
 by_cases h1:lo<a<;>by_cases h2:b<hi<;>by_cases h3:hi<lo<;>
 ·go_enter func109,ntmps109
  go_wp2_with fail
  go_ret
  exact⟨bt (by unfold cM;rw[Bool.eq_iff_iff];simp;omega),(by repeat(first|exact au _ _|assumption|refine aP ?_ _|refine ak ?_ (by assumption)|refine ap.drew ?_|refine aM ?_ _|refine aS ?_ (by simp<;>omega) _))⟩
theorem lT (ml mh dl dh:Int) (w:aj):
  aC prog 182 #[aN #[M U ml,M U mh],aN #[M U dl,M U dh]] w λe w'=>e=ar (aA (!fD ml mh dl dh))/\ap w.heap.size w w':=by
 obtain⟨W0,xb,HW0,hC,hC2,hB⟩:=pf w 32 #[M U ml,M U mh] 32 #[M U dl,M U dh]
 go_enter func182,ntmps182
 go_upto_region 1 with fail
 rw[HW0.out.1,HW0.out.2]
 obtain⟨yb,hye⟩:=bY (xb+1)
 rw[<-hye]at hC2⊢
 clear hye
 clear HW0
 have xx:=bA hC
 have yy:=bA hC2
 go_wp2_with fail
 refine bH (dx _ _ _ _ _) ?_
 rintro(_|_) w1 g hb<;>obtain⟨hC,hC2,hB⟩:=bM hC hC2 hB hb
 ·go_wp2_with fail
  go_ret
  exact⟨bt (by simp at g;simp[fD, *]),hB⟩
 have yy:=bA hC2
 go_wp2_with fail
 refine aZ (dx _ _ _ _ _) ?_
 intro w1 hb
 obtain⟨hC,hC2,hB⟩:=bM hC hC2 hB hb
 go_wp2_with fail
 go_ret
 exact⟨bt (by simp at g;simp[fD, *]),hB⟩
theorem kA (a0 a1 a2 a3 a4 a5 z:Int) (w:aj) (h0:0<=z) (h1:z<=9223372036854775807):
  aC prog 183 #[aN #[M U a0,M U a1,M U a2,M U a3,M U a4,M U a5],M U z] w λe w'=>e=ar (aA (!fW a0 a1 a2 a3 a4 a5 z))/\ap w.heap.size w w':=by
 have hw:=aD (-z) ⟨by omega,by omega⟩
 obtain⟨W0,xb,HW0,hC,hB⟩:=eB w 177 #[M U a0,M U a1,M U a2,M U a3,M U a4,M U a5]
 go_enter func183,ntmps183
 go_upto_region 1 with fail
 rw[HW0.out.1,HW0.out.2]
 clear HW0
 have xx:=aH hC
 go_wp2_with fail
 refine bH (dx _ _ _ _ _) ?_
 rintro(_|_) w1 g hb<;>obtain⟨hC,hB⟩:=bS hC hB hb
 ·exact uJ
 have xx:=aH hC
 go_wp2_with fail
 refine bH (dx _ _ _ _ _) ?_
 rintro(_|_) w1 g2 hb<;>obtain⟨hC,hB⟩:=bS hC hB hb
 ·exact uJ
 have xx:=aH hC
 go_wp2_with fail
 refine aZ (dx _ _ _ _ _) ?_
 intro w1 hb
 obtain⟨hC,hB⟩:=bS hC hB hb
 exact uJ
theorem ss (nm:ByteArray) (glo ghi:Int) (na:Nat) (A:Nat->Nat->Int) (av pv cv:aw) (w:aj) (hRa:aU w av na 2 (bw A)) (j:Nat) (hlt:j<na) (hna:na<=1125899906842624):
  aC prog 110 #[aN #[ay nm,M U glo,M U ghi,av,pv,cv],M U j] w λe w'=>e=ar (M U ((el A j).getD 0))/\ap w.heap.size w w':=by
 have i2:(j:Int)<(na:Int):=om
 obtain⟨aa,ac,rfl,hac,hx⟩:=id hRa
 have HRa:=af hRa
 clear hRa
 obtain⟨W0,xb,HW0,hC,hB⟩:=eB w 42 #[ay nm,M U glo,M U ghi,T aa na ac,pv,cv]
 obtain⟨q,hq⟩:∃q,q=el A j:=⟨_,rfl⟩
 rw[<-hq]
 unfold el at hq
 have HQ:=af hq
 clear hq
 go_enter func110,ntmps110
 go_upto_region 1 with fail
 rw[HW0.out.1,HW0.out.2]
 clear HW0
 obtain⟨x0,x1,x2,x3,x4,x5⟩:=aH hC
 rcases j with _|k
 ·have hG:pA A 0=(A 0 0 != 0):=rfl
  obtain⟨bb,bo,rfl,bl,hc⟩:=(HRa.out.below hB).elem hlt
  have e0:W0.cell? ⟨bb,bo+0*2,ag⟩=ai (M U (A 0 0)):=hc 0 om
  have e1:W0.cell? ⟨bb,bo+0*2+1,ag⟩=ai (M U (A 0 1)):=hc 1 om
  generalize A 0 0=b0 at *
  generalize A 0 1=b1 at *
  rw[Nat.zero_mul,bq]at e0 e1
  go_upto_region 2 with fail
  have hD:=aK W0 (.cells #[M U b0,M U b1] 175)
  have hba:=aP (au W0.heap.size W0) (.cells #[M U b0,M U b1] 175)
  replace hC:=hC.below hba
  replace hB:=ak hB hba
  generalize W0.alloc (.cells #[M U b0,M U b1] 175)=w1 at *
  generalize W0.heap.size=db at *
  have hD:am w1 db 175 #[M U b0,M U b1]:=hD
  obtain⟨d0,d1⟩:=bA hD
  by_cases k1:b0=0
  rotate_left
  ·have k1b:(b0 != 0)=true:=by simp[k1]
   exact T38
  have k1b:(b0 != 0)=false:=by simp[k1]
  rw[k1b]at hG
  go_quiet (fail)
  have hb:=aM (au w1.heap.size w1) nq
  obtain⟨hC,hD,hB⟩:=bM hC hD hB hb
  generalize w1.drewN nq=w2 at *
  obtain⟨d0,d1⟩:=bA hD
  by_cases k2:2000000000<b0
  ·exfalso;omega
  exact T34
 have hG:pA A (k+1)=decide (A (k+1) 0<=A k 0):=rfl
 obtain⟨bb,bo,rfl,bl,e0,e1⟩:=(HRa.out.below hB).eI2 hlt
 obtain⟨b2,o2,hq,-,hc2⟩:=(HRa.out.below hB).elem (show k<na by omega)
 have f0:W0.cell? ⟨b2,o2+k*2,ag⟩=ai (M U (A k 0)):=hc2 0 om
 obtain⟨rfl,rfl⟩:bb=b2/\bo=o2:=by simpa using hq
 clear hc2 hq
 generalize A (k+1) 0=b0 at *
 generalize A (k+1) 1=b1 at *
 generalize A k 0=p0 at *
 go_upto_region 2 with fail
 have hf:=(aP (au W0.heap.size W0) (.cells #[M U b0,M U b1] 175)).cell (p:=⟨bb,bo+k*2,ag⟩) bl
 rw[f0]at hf
 have hD:=aK W0 (.cells #[M U b0,M U b1] 175)
 have hba:=aP (au W0.heap.size W0) (.cells #[M U b0,M U b1] 175)
 replace hC:=hC.below hba
 replace hB:=ak hB hba
 generalize W0.alloc (.cells #[M U b0,M U b1] 175)=w1 at *
 generalize W0.heap.size=db at *
 have hD:am w1 db 175 #[M U b0,M U b1]:=hD
 obtain⟨d0,d1⟩:=bA hD
 obtain⟨x0,x1,x2,x3,x4,x5⟩:=aH hC
 have q1:=aD ((k:Int)+1 - 1) ⟨by omega,by omega⟩
 have q2:=aD (k:Int) ⟨by omega,by omega⟩
 have q3:(k:Int)<(na:Int):=om
 have q4:((k:Int)+1==0)=false:=by simp;omega
 by_cases k1:b0<=p0
 ·have k1b:decide (b0<=p0)=true:=decide_eq_true k1
  exact T38
 have k1b:decide (b0<=p0)=false:=decide_eq_false k1
 rw[k1b]at hG
 go_quiet (fail)
 have hb:=aM (au w1.heap.size w1) nq
 obtain⟨hC,hD,hB⟩:=bM hC hD hB hb
 generalize w1.drewN nq=w2 at *
 obtain⟨d0,d1⟩:=bA hD
 by_cases k2:2000000000<b0
 ·exact di
 exact T34
def vx (h0 h1 h2 h3 h4 h5 h6 h7 h8 h9 h10 h11 h12:Int):Int:=if aI h0 1 3000||(cM h1 h2 0 2000000||(fD h3 h4 h5 h6||fW h7 h8 h9 h10 h11 h12 2000))then 7 else 0
theorem pD (h0 h1 h2 h3 h4 h5 h6 h7 h8 h9 h10 h11 h12:Int) (w:aj):
  aC prog 111 #[aN #[M U h0,M U h1,M U h2,M U h3,M U h4,M U h5,M U h6,M U h7,M U h8,M U h9,M U h10,M U h11,M U h12]] w λe w'=>e=ar (M U (vx h0 h1 h2 h3 h4 h5 h6 h7 h8 h9 h10 h11 h12))/\ap w.heap.size w w':=by
 obtain⟨W0,xb,HW0,hC,hB⟩:=eB w 179 #[M U h0,M U h1,M U h2,M U h3,M U h4,M U h5,M U h6,M U h7,M U h8,M U h9,M U h10,M U h11,M U h12]
 obtain⟨r,HS⟩:=dR (vx h0 h1 h2 h3 h4 h5 h6 h7 h8 h9 h10 h11 h12)
 rw[<-HS.out]
 go_enter func111,ntmps111
 go_upto_region 1 with fail
 rw[HW0.out.1,HW0.out.2]
 clear HW0
 have xx:=aX hC
 go_wp2_with fail
 refine bm (dP _ _ _ _) ?_
 rintro(_|_) g
 ·exact rI
 go_wp2_with fail
 refine bH (dx _ _ _ _ _) ?_
 rintro(_|_) w1 g hb<;>obtain⟨hC,hB⟩:=bS hC hB hb
 ·exact rI
 have xx:=aX hC
 go_wp2_with fail
 refine bH (lT _ _ _ _ _) ?_
 rintro(_|_) w1 g hb<;>obtain⟨hC,hB⟩:=bS hC hB hb
 ·exact rI
 have xx:=aX hC
 go_wp2_with fail
 refine bH (kA _ _ _ _ _ _ _ _ om om) ?_
 rintro(_|_) w1 g hb<;>obtain⟨hC,hB⟩:=bS hC hB hb
 ·exact rI
 have xx:=aX hC
 exact rI
theorem pG (nm:ByteArray) (glo ghi:Int) (nc:Nat) (N:Nat->ByteArray) (R:Nat->Nat->Int) (av pv cv:aw) (w:aj) (hRc:aU w cv nc 13 (em N R)) (hN:∀i,i<nc->(N i).size<=9223372036854775806) (j:Nat) (hlt:j<nc) (hnc:nc<=1125899906842624):
  aC prog 112 #[aN #[ay nm,M U glo,M U ghi,av,pv,cv],M U j] w λe w'=>e=ar (M U ((jQ N R j).getD 0))/\ap w.heap.size w w':=by
 have i2:(j:Int)<(nc:Int):=om
 have hNj:=hN j hlt
 have hj6:=hnc
 obtain⟨ca,cc,rfl,hcc,hx⟩:=id hRc
 clear hx
 have HRc:=af hRc
 clear hRc
 obtain⟨W0,xb,HW0,hC,hB⟩:=eB w 42 #[ay nm,M U glo,M U ghi,av,pv,T ca nc cc]
 obtain⟨q,hq⟩:∃q,q=jQ N R j:=⟨_,rfl⟩
 rw[<-hq]
 unfold jQ at hq
 have HQ:=af hq
 clear hq
 go_enter func112,ntmps112
 go_upto_region 1 with fail
 rw[HW0.out.1,HW0.out.2]
 clear HW0
 have xx:=aH hC
 obtain⟨bb,bo,rfl,bl,hc⟩:=(HRc.out.below hB).elem hlt
 have e0:W0.cell? ⟨bb,bo+j*13,ag⟩=ai (ay (N j)):=hc 0 om
 have e1:W0.cell? ⟨bb,bo+j*13+1,ag⟩=ai (M U (R j 1)):=hc 1 om
 have e2:W0.cell? ⟨bb,bo+j*13+2,ag⟩=ai (M U (R j 2)):=hc 2 om
 have e3:W0.cell? ⟨bb,bo+j*13+3,ag⟩=ai (M U (R j 3)):=hc 3 om
 have e4:W0.cell? ⟨bb,bo+j*13+4,ag⟩=ai (M U (R j 4)):=hc 4 om
 have e5:W0.cell? ⟨bb,bo+j*13+5,ag⟩=ai (M U (R j 5)):=hc 5 om
 have e6:W0.cell? ⟨bb,bo+j*13+6,ag⟩=ai (M U (R j 6)):=hc 6 om
 have e7:W0.cell? ⟨bb,bo+j*13+7,ag⟩=ai (M U (R j 7)):=hc 7 om
 have e8:W0.cell? ⟨bb,bo+j*13+8,ag⟩=ai (M U (R j 8)):=hc 8 om
 have e9:W0.cell? ⟨bb,bo+j*13+9,ag⟩=ai (M U (R j 9)):=hc 9 om
 have e10:W0.cell? ⟨bb,bo+j*13+10,ag⟩=ai (M U (R j 10)):=hc 10 om
 have e11:W0.cell? ⟨bb,bo+j*13+11,ag⟩=ai (M U (R j 11)):=hc 11 om
 have e12:W0.cell? ⟨bb,bo+j*13+12,ag⟩=ai (M U (R j 12)):=hc 12 om
 clear hc
 generalize N j=b0 at *
 generalize R j 1=b1 at *
 generalize R j 2=b2 at *
 generalize R j 3=b3 at *
 generalize R j 4=b4 at *
 generalize R j 5=b5 at *
 generalize R j 6=b6 at *
 generalize R j 7=b7 at *
 generalize R j 8=b8 at *
 generalize R j 9=b9 at *
 generalize R j 10=b10 at *
 generalize R j 11=b11 at *
 generalize R j 12=b12 at *
 go_upto_region 2 with fail
 obtain⟨w1,hW9,hD,hba⟩:=bW W0 185 #[ay b0,M U b1,M U b2,M U b3,M U b4,M U b5,M U b6,M U b7,M U b8,M U b9,M U b10,M U b11,M U b12]
 rw[hW9.out]
 clear hW9
 replace hC:=hC.below hba
 replace hB:=ak hB hba
 generalize W0.heap.size=db at *
 have dd:=aX hD
 clear hba e0 e1 e2 e3 e4 e5 e6 e7 e8 e9 e10 e11 e12
 go_wp2_with fail
 refine bm (dZ _ _ hNj) ?_
 rintro(_|_) gn
 ·exact qm
 clear dd
 have dd:=aX hD
 go_wp2_with fail
 clear xx
 clear dd
 go_loopw [6] (λi wr=>∃m:Nat,m<=j/\i=M U m/\bj (∀k,k<m->ej (N k) b0=false)/\am wr xb 42 #[ay nm,M U glo,M U ghi,av,pv,T (ai ⟨bb,bo,ag⟩) nc cc]/\am wr db 185 #[ay b0,M U b1,M U b2,M U b3,M U b4,M U b5,M U b6,M U b7,M U b8,M U b9,M U b10,M U b11,M U b12]/\ap w.heap.size w wr) (λi _=>j - (aV i).toNat)
 case atStart=>exact⟨0,aF _,rfl,show∀k,k<0->_ from(λk h=>absurd h om),hC,hD,hB⟩
 case round=>
  clear hC hD hB
  obtain⟨m,hm,rfl,HM,hC,hD,hB⟩:=hrel
  by_cases hl2:m<j
  rotate_left
  ·obtain rfl:j=m:=om
   have hA:=bT HM.out
   clear HM
   have dd:=aX hD
   go_wp2_with fail
   refine bm (dP _ _ _ _) ?_
   rintro(_|_) g
   ·exact qm
   go_wp2_with fail
   refine bH (lT _ _ _ _ _) ?_
   rintro(_|_) w1 g hb<;>obtain⟨hC,hD,hB⟩:=bM hC hD hB hb
   ·exact qm
   clear dd
   have dd:=aX hD
   go_wp2_with fail
   refine bH (kA _ _ _ _ _ _ _ _ om om) ?_
   rintro(_|_) w1 g hb<;>obtain⟨hC,hD,hB⟩:=bM hC hD hB hb
   ·exact qm
   clear dd
   have dd:=aX hD
   go_wp2_with fail
   refine bm (dP _ _ _ _) ?_
   rintro(_|_) g
   ·exact qm
   exact qm
  obtain⟨vb,vo,hq,-,hc⟩:=(HRc.out.below hB).elem (show m<nc by omega)
  obtain⟨rfl,rfl⟩:bb=vb/\bo=vo:=by simpa using hq
  have e0:wr.cell? ⟨bb,bo+m*13,ag⟩=ai (ay (N m)):=hc 0 om
  have HM2:=af (λh=>dS HM.out h)
  have HH:=af (λh=>cd (p:=λk=>ej (N k) b0) hl2 h)
  clear hc hq HM
  have i3:(m:Int)<(j:Int):=om
  have i4:(m:Int)<(nc:Int):=om
  have dd:=aX hD
  have xx:=aH hC
  obtain⟨nn,hnn⟩:∃nn,nn=N m:=⟨_,rfl⟩
  simp only[<-hnn]at HM2 HH e0
  clear hnn
  go_upto_region 7 with fail
  go_quiet (fail)
  have hb:=aM (au wr.heap.size wr) nq
  obtain⟨hC,hD,hB⟩:=bM hC hD hB hb
  generalize wr.drewN nq=w2 at *
  clear e0
  cases hg:(nn.toList==b0.toList)
  rotate_left
  ·have hA:=HH.out hg
   clear HM2 HH
   exact di
  have hM:=HM2.out hg
  have HM:=af hM
  clear HM2 HH hM
  go_wp2_with fail
  go_roundw
  case rel=>exact⟨m+1,by omega,by go_num,HM,hC,hD,hB⟩
  case measure=>simp[aV];omega
end
section
open Tryz
open Go.RowKit
theorem tw {A:Nat->Nat->Int} {i:Nat}:∀e,el A i=ai e->e≠0:=by
 rintro _ h rfl;revert h;unfold el;split<;>(try split)<;>simp
theorem uD {H:Nat->Nat->Int} {i:Nat}:∀e,jl H i=ai e->e≠0:=by
 rintro _ h rfl;revert h;unfold jl;split<;>simp
theorem ub {N:Nat->ByteArray} {R:Nat->Nat->Int} {i:Nat}:∀e,jQ N R i=ai e->e≠0:=by
 rintro _ h rfl;revert h;unfold jQ;split<;>(try split)<;>(try split)<;>simp
theorem t6 (H:Nat->Nat->Int) (j:Nat):vx (H j 0) (H j 1) (H j 2) (H j 3) (H j 4) (H j 5) (H j 6) (H j 7) (H j 8) (H j 9) (H j 10) (H j 11) (H j 12)=(jl H j).getD 0:=by
 unfold vx jl;split<;>rfl
theorem mq (nm:ByteArray) (glo ghi:Int) (na:Nat) (A:Nat->Nat->Int) (np:Nat) (H:Nat->Nat->Int) (nc:Nat) (N:Nat->ByteArray) (R:Nat->Nat->Int) (av pv cv:aw) (w:aj)
  (hnm:nm.size<=9223372036854775806) (hRa:aU w av na 2 (bw A)) (hRp:aU w pv np 13 (bw H)) (hRc:aU w cv nc 13 (em N R)) (hN:∀i,i<nc->(N i).size<=9223372036854775806):
  aC prog 36 #[aN #[ay nm,M U glo,M U ghi,av,pv,cv]] w (E3 w (sW nm glo ghi na A np H nc N R)):=by
 obtain⟨aa,ac,rfl,hac,hx⟩:=id hRa
 have HRa:=af hRa
 clear hRa
 obtain⟨pa,pc,rfl,hpc,hx⟩:=id hRp
 have HRp:=af hRp
 clear hRp
 obtain⟨ca,cc,rfl,hcc,hx⟩:=id hRc
 have HRc:=af hRc
 clear hRc
 obtain⟨W0,xb,HW0,hC,hB⟩:=eB w 42 #[ay nm,M U glo,M U ghi,T aa na ac,T pa np pc,T ca nc cc]
 obtain⟨r,HS⟩:=dR (sW nm glo ghi na A np H nc N R)
 rw[<-HS.out]
 have HN:=af hN
 clear hN
 go_enter func36,ntmps36
 go_upto_region 1 with fail
 rw[HW0.out.1,HW0.out.2]
 clear HW0
 obtain⟨x0,x1,x2,x3,x4,x5⟩:=aH hC
 go_wp2_with fail
 refine bm (dZ _ _ hnm) ?_
 rintro(_|_) g0
 ·go_wp2_with fail
  exact gW
 go_wp2_with fail
 refine bH (dx _ _ _ _ _) ?_
 rintro(_|_) w1 g1 hb<;>obtain⟨hC,hB⟩:=bS hC hB hb
 ·simp at g1
  go_wp2_with fail
  exact gW
 simp at g1
 obtain⟨x0,x1,x2,x3,x4,x5⟩:=aH hC
 by_cases k1:20<na
 ·go_wp2_with fail
  exact gW
 go_wp2_with fail
 go_loopw [5] (λi wr=>∃j:Nat,j<=na/\i=M U j/\bj (aB (el A) na 0=aB (el A) (na - j) j)/\am wr xb 42 #[ay nm,M U glo,M U ghi,T aa na ac,T pa np pc,T ca nc cc]/\ap w.heap.size w wr) (λi _=>na - (aV i).toNat)
 case atStart=>exact⟨0,aF _,rfl,show _=_ from rfl,hC,hB⟩
 case round=>
  clear hC hB
  obtain⟨j,hj,rfl,HJ,hC,hB⟩:=hrel
  by_cases hlt:j<na
  ·have HF:=af (HJ.out.trans (bf (el A) hlt))
   have hz:=tw (A:=A) (i:=j)
   clear HJ
   have i2:(j:Int)<(na:Int):=om
   obtain⟨x0,x1,x2,x3,x4,x5⟩:=aH hC
   go_wp2_with fail
   refine aZ (ss _ _ _ na A _ _ _ _ (HRa.out.below hB) j hlt om) ?_
   intro w1 hb
   obtain⟨hC,hB⟩:=bS hC hB hb
   generalize el A j=q at HF hz⊢
   rcases q with _|e
   rotate_left
   ·exact T86
   have HJ2:bj (aB (el A) na 0=aB (el A) (na - (j+1)) (j+1)):=show _=_ from HF.out
   exact tQ
  obtain rfl:na=j:=om
  have HE:=af (HJ.out.trans (bh (el A) na))
  have hE:=HE.out
  clear HJ HE
  obtain⟨x0,x1,x2,x3,x4,x5⟩:=aH hC
  go_wp2_with fail
  refine bm (dP _ _ _ _) ?_
  rintro(_|_) g
  ·simp at g
   go_wp2_with fail
   exact gW
  simp at g
  have hn:=aW.1 g
  go_wp2_with fail
  go_loopw [7] (λi wr=>∃j:Nat,j<=np/\i=M U j/\bj (aB (jl H) np 0=aB (jl H) (np - j) j)/\am wr xb 42 #[ay nm,M U glo,M U ghi,T aa na ac,T pa np pc,T ca nc cc]/\ap w.heap.size w wr) (λi _=>np - (aV i).toNat)
  case atStart=>exact⟨0,aF _,rfl,show _=_ from rfl,hC,hB⟩
  case round=>
   clear hC hB
   obtain⟨j,hj,rfl,HJ,hC,hB⟩:=hrel
   by_cases hlt:j<np
   rotate_left
   ·obtain rfl:np=j:=om
    have HE:=af (HJ.out.trans (bh (jl H) np))
    have hE:=HE.out
    clear HJ HE
    obtain⟨x0,x1,x2,x3,x4,x5⟩:=aH hC
    by_cases k2:6<nc
    ·go_wp2_with fail
     exact gW
    go_wp2_with fail
    go_loopw [9] (λi wr=>∃j:Nat,j<=nc/\i=M U j/\bj (aB (jQ N R) nc 0=aB (jQ N R) (nc - j) j)/\am wr xb 42 #[ay nm,M U glo,M U ghi,T aa na ac,T pa np pc,T ca nc cc]/\ap w.heap.size w wr) (λi _=>nc - (aV i).toNat)
    case atStart=>exact⟨0,aF _,rfl,show _=_ from rfl,hC,hB⟩
    case round=>
     clear hC hB
     obtain⟨j,hj,rfl,HJ,hC,hB⟩:=hrel
     by_cases hlt:j<nc
     rotate_left
     ·obtain rfl:nc=j:=om
      have HE:=af (HJ.out.trans (bh (jQ N R) nc))
      have hE:=HE.out
      clear HJ HE
      obtain⟨x0,x1,x2,x3,x4,x5⟩:=aH hC
      go_wp2_with fail
      exact gW
     have HF:=af (HJ.out.trans (bf (jQ N R) hlt))
     have hz:=ub (N:=N) (R:=R) (i:=j)
     clear HJ
     have i2:(j:Int)<(nc:Int):=om
     obtain⟨x0,x1,x2,x3,x4,x5⟩:=aH hC
     go_wp2_with fail
     refine aZ (pG _ _ _ nc N R _ _ _ _ (HRc.out.below hB) HN.out j hlt om) ?_
     intro w1 hb
     obtain⟨hC,hB⟩:=bS hC hB hb
     generalize jQ N R j=q at HF hz⊢
     rcases q with _|e
     rotate_left
     ·exact T86
     have HJ2:bj (aB (jQ N R) nc 0=aB (jQ N R) (nc - (j+1)) (j+1)):=show _=_ from HF.out
     exact tQ
   have HF:=af (HJ.out.trans (bf (jl H) hlt))
   have hz:=uD (H:=H) (i:=j)
   clear HJ
   have i2:(j:Int)<(np:Int):=om
   obtain⟨x0,x1,x2,x3,x4,x5⟩:=aH hC
   obtain⟨bb,bo,rfl,bl,hc⟩:=(HRp.out.below hB).elem hlt
   have e0:wr.cell? ⟨bb,bo+j*13,ag⟩=ai (M U (H j 0)):=hc 0 om
   have e1:wr.cell? ⟨bb,bo+j*13+1,ag⟩=ai (M U (H j 1)):=hc 1 om
   have e2:wr.cell? ⟨bb,bo+j*13+2,ag⟩=ai (M U (H j 2)):=hc 2 om
   have e3:wr.cell? ⟨bb,bo+j*13+3,ag⟩=ai (M U (H j 3)):=hc 3 om
   have e4:wr.cell? ⟨bb,bo+j*13+4,ag⟩=ai (M U (H j 4)):=hc 4 om
   have e5:wr.cell? ⟨bb,bo+j*13+5,ag⟩=ai (M U (H j 5)):=hc 5 om
   have e6:wr.cell? ⟨bb,bo+j*13+6,ag⟩=ai (M U (H j 6)):=hc 6 om
   have e7:wr.cell? ⟨bb,bo+j*13+7,ag⟩=ai (M U (H j 7)):=hc 7 om
   have e8:wr.cell? ⟨bb,bo+j*13+8,ag⟩=ai (M U (H j 8)):=hc 8 om
   have e9:wr.cell? ⟨bb,bo+j*13+9,ag⟩=ai (M U (H j 9)):=hc 9 om
   have e10:wr.cell? ⟨bb,bo+j*13+10,ag⟩=ai (M U (H j 10)):=hc 10 om
   have e11:wr.cell? ⟨bb,bo+j*13+11,ag⟩=ai (M U (H j 11)):=hc 11 om
   have e12:wr.cell? ⟨bb,bo+j*13+12,ag⟩=ai (M U (H j 12)):=hc 12 om
   go_wp2_with fail
   refine aZ (pD _ _ _ _ _ _ _ _ _ _ _ _ _ _) ?_
   intro w1 hb
   obtain⟨hC,hB⟩:=bS hC hB hb
   rw[t6]
   generalize jl H j=q at HF hz⊢
   rcases q with _|e
   rotate_left
   ·exact T86
   have HJ2:bj (aB (jl H) np 0=aB (jl H) (np - (j+1)) (j+1)):=show _=_ from HF.out
   exact tQ
theorem qB (x y z:Int) (w:aj):
  aC prog 35 #[aN #[M U x,M U y,M U z]] w λe w'=>e=ar (M U (iw x y z))/\ap w.heap.size w w':=by
 obtain⟨W0,xb,HW0,hC,hB⟩:=eB w 97 #[M U x,M U y,M U z]
 obtain⟨r,HS⟩:=dR (iw x y z)
 rw[<-HS.out]
 go_enter func35,ntmps35
 go_upto_region 1 with fail
 rw[HW0.out.1,HW0.out.2]
 clear HW0
 have xx:=dT hC
 go_wp2_with fail
 refine bm (dP _ _ _ _) ?_
 rintro(_|_) g
 ·exact qI
 go_wp2_with fail
 refine bm (dP _ _ _ _) ?_
 rintro(_|_) h
 ·exact qI
 go_wp2_with fail
 refine bm (dP _ _ _ _) ?_
 rintro(_|_) k
 ·exact qI
 have hx:=aW.1 (by simpa using g)
 have hy:=aW.1 (by simpa using h)
 have hz:=aW.1 (by simpa using k)
 have sx:=kC hx.1 hx.2
 have sy:=kC hy.1 hy.2
 have sz:=kC (x:=z) om om
 have q1:=aD (x*x) ⟨by omega,by omega⟩
 have q2:=aD (y*y) ⟨by omega,by omega⟩
 have q3:=aD (z*z) ⟨by omega,by omega⟩
 have q4:=aD (x*x+y*y) ⟨by omega,by omega⟩
 have q5:=aD (x*x+y*y+z*z) ⟨by omega,by omega⟩
 go_wp2_with fail
 refine bm (dP _ _ _ _) ?_
 rintro(_|_) l
 ·exact qI
 exact qI
end
end Go.Proofs.YtbpnallaifdcpaaGreatDoor
