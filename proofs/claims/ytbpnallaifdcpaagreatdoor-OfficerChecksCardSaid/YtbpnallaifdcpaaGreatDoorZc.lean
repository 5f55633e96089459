/- Parts of the proof. -/
import Derived.Test.YtbpnallaifdcpaaGreatDoorZb
set_option linter.unusedVariables false
set_option linter.unusedSimpArgs false
set_option maxRecDepth 100000
set_option maxHeartbeats 4000000
namespace Go.Proofs.YtbpnallaifdcpaaGreatDoor
open Go.Value renaming int→M
open Go.IntKind renaming i64→U
open Go.Value renaming slice→T,pointer→ax,string→ay,bool→aA,agg→aN
open Go.Lib renaming hid→af
open Option renaming none→ag,some→ai
open Go renaming World→aj,Value→aw,Calls→aC,below_drewN→aM,TypeId→aT,maxLen→cF
open Go.RowKit renaming Below→ap,intOf→aV,Hid→bj
open Go.Ending renaming returned→ar
open Go.RowKit.Below renaming refl→au
open Go.IntWalk renaming i64_in→aD
open Nat renaming zero_le→aF,le_refl→aY,add_zero→bq
open Go.World renaming block_lt_of_cell?→aG,size_alloc→bg
section
open Tryz
open Go.RowKit
theorem iJ (F:FuncId) (eg:∀(args:Array aw) (w:aj),(callFunc F args).run prog w= .ok (.enter F args) w) (n:Nat) (R:Nat->Nat->Int) (p:Nat->Bool) (v:aw) (w:aj) (hRr:aU w v n 1 (bw R)) (hn:n<=1125899906842624) (hF:∀(i:Nat) (W:aj),i<n->ap w.heap.size w W->aC prog F #[M U (R i 0)] W λe w'=>e=ar (aA (p i))/\ap W.heap.size W w'):
  aC prog 85 #[v, .func (.func F) #[] #[]] w λe w'=>e=ar (M U (cH p n 0))/\ap w.heap.size w w':=by
 exact T1
theorem eO (F:FuncId) (eg:∀(args:Array aw) (w:aj),(callFunc F args).run prog w= .ok (.enter F args) w) (n:Nat) (R:Nat->Nat->Int) (p:Nat->Bool) (v:aw) (w:aj) (hRr:aU w v n 1 (bw R)) (hn:n<=1125899906842624) (hF:∀(i:Nat) (W:aj),i<n->ap w.heap.size w W->aC prog F #[M U (R i 0)] W λe w'=>e=ar (aA (p i))/\ap W.heap.size W w'):
  aC prog 59 #[v, .func (.func F) #[] #[]] w λe w'=>e=ar (aA (bI p n))/\ap w.heap.size w w':=by
 have HI:=af (iJ F eg n R p v w hRr hn hF)
 exact T29
theorem mQ (F:FuncId) (eg:∀(args:Array aw) (w:aj),(callFunc F args).run prog w= .ok (.enter F args) w) (n:Nat) (R:Nat->Nat->Int) (p:Nat->Bool) (v:aw) (cz:aw) (w:aj) (hRr:aU w v n 1 (bw R)) (hn:n<=1125899906842624) (hF:∀(i:Nat) (W:aj),i<n->ap w.heap.size w W->aC prog F #[M U (R i 0),cz] W λe w'=>e=ar (aA (p i))/\ap W.heap.size W w'):
  aC prog 85 #[v, .func (.func F) #[] #[cz]] w λe w'=>e=ar (M U (cH p n 0))/\ap w.heap.size w w':=by
 exact T1
theorem eJ (F:FuncId) (eg:∀(args:Array aw) (w:aj),(callFunc F args).run prog w= .ok (.enter F args) w) (n:Nat) (R:Nat->Nat->Int) (p:Nat->Bool) (v:aw) (cz:aw) (w:aj) (hRr:aU w v n 1 (bw R)) (hn:n<=1125899906842624) (hF:∀(i:Nat) (W:aj),i<n->ap w.heap.size w W->aC prog F #[M U (R i 0),cz] W λe w'=>e=ar (aA (p i))/\ap W.heap.size W w'):
  aC prog 59 #[v, .func (.func F) #[] #[cz]] w λe w'=>e=ar (aA (bI p n))/\ap w.heap.size w w':=by
 have HI:=af (mQ F eg n R p v cz w hRr hn hF)
 exact T29
theorem sG (w:aj) (t:aT) (l:List Int):aU (w.alloc (.cells ⟨l.map (M U)⟩ t)) (T (ai ⟨w.heap.size,0,ag⟩) l.length l.length) l.length 1 (bw λi _=>l.getD i 0):=by
 refine⟨_,_,rfl,aY _,?_⟩
 rcases Nat.eq_zero_or_pos l.length with h|h
 ·exact .inl h
 refine .inr ⟨_,_,rfl,by rw[bg];omega,λi j hi hj=>?_⟩
 obtain rfl:j=0:=om
 have h0:=aK w (.cells ⟨l.map (M U)⟩ t)
 have h1:am (w.alloc (.cells ⟨l.map (M U)⟩ t)) w.heap.size t ⟨l.map (M U)⟩:=h0
 rw[h1.cell]
 unfold bw
 simp[List.getElem?_map,List.getElem?_eq_getElem hi]
theorem gA (f:Int->Bool) (l:List Int):bI (λi=>f (l.getD i 0)) l.length=l.any f:=by
 unfold bI
 rw[Bool.eq_iff_iff,List.any_eq_true,List.any_eq_true]
 constructor
 ·rintro⟨i,hi,h⟩
  have hi':=List.mem_range.1 hi
  rw[List.getD_eq_getElem?_getD,List.getElem?_eq_getElem hi',Option.getD_some]at h
  exact⟨_,List.getElem_mem hi',h⟩
 rintro⟨x,hx,h⟩
 obtain⟨i,hi,rfl⟩:=List.getElem_of_mem hx
 exact⟨i,List.mem_range.2 hi,by rw[List.getD_eq_getElem?_getD,List.getElem?_eq_getElem hi,Option.getD_some];exact h⟩
theorem mW {w w':aj} {o:Obj} (h:ap (w.alloc o).heap.size (w.alloc o) w'):ap w.heap.size w w':=ak (aP (au _ _) o) h
theorem dD (n lo hi:Int) (w:aj):
  aC prog 97 #[M U n,M U lo,M U hi] w λe w'=>e=ar (aA (aI n lo hi))/\w=w':=by
 go_enter func97,ntmps97
 exact iP
theorem oP (n:Int) (w:aj):
  aC prog 176 #[M U n] w λe w'=>e=ar (aA (aI n 0 100000))/\ap w.heap.size w w':=by
 go_enter func176,ntmps176
 exact vg
theorem qE (n:Nat) (R:Nat->Nat->Int) (v:aw) (w:aj) (hR:aU w v n 1 (bw R)) (hn:n<=1125899906842624):
  aC prog 96 #[v] w λe w'=>e=ar (aA (bI (λi=>aI (R i 0) 0 100000) n))/\ap w.heap.size w w':=by
 have HC:=af (eO 176 (λ_ _=>by kernel_rfl) n R (λi=>aI (R i 0) 0 100000) v w hR hn (λi W _ _=>oP _ W))
 obtain⟨ra,rc,rfl,hrc,hx⟩:=hR
 go_enter func96,ntmps96
 exact rE
theorem qt (l:List Int) (w:aj) (t:aT) (hn:l.length<=1125899906842624):
  aC prog 96 #[T (ai ⟨w.heap.size,0,ag⟩) l.length l.length] (w.alloc (.cells ⟨l.map (M U)⟩ t)) λe w'=>e=ar (aA (l.any λn=>aI n 0 100000))/\ap w.heap.size w w':=by
 have h:=qE _ _ _ _ (sG w t l) hn
 rw[gA (λn=>aI n 0 100000)]at h
 exact sA
theorem mT (n z:Int) (zb:Nat) (w:aj) (hz:w.cell? ⟨zb,0,ag⟩=ai (M U z)) (h0:0<=z) (h1:z<=9223372036854775807):
  aC prog 178 #[M U n,ax (ai ⟨zb,0,ag⟩)] w λe w'=>e=ar (aA (aI n (-z) z))/\ap w.heap.size w w':=by
 have hw:=aD (-z) ⟨by omega,by omega⟩
 go_enter func178,ntmps178
 exact vg
theorem lu {W:aj} {b:Nat} {t:aT} {a0:aw} (h:am W b t #[a0]):W.cell? ⟨b,0,ag⟩=ai a0:=h.cell 0
theorem o8 (z:Int) (n:Nat) (R:Nat->Nat->Int) (v:aw) (w:aj) (hR:aU w v n 1 (bw R)) (hn:n<=1125899906842624) (h0:0<=z) (h1:z<=9223372036854775807):
  aC prog 100 #[M U z,v] w λe w'=>e=ar (aA (bI (λi=>aI (R i 0) (-z) z) n))/\ap w.heap.size w w':=by
 obtain⟨ra,rc,rfl,hrc,hx⟩:=id hR
 obtain⟨W0,HW0,hC,hB⟩:=bW w 3 #[M U z]
 have hzc:=hC.cell 0
 have hR2:=hR.below hB
 have HC:=af (eJ 178 (λ_ _=>by kernel_rfl) n R (λi=>aI (R i 0) (-z) z) _ (ax (ai ⟨w.heap.size,0,ag⟩)) W0 hR2 hn (λi W _ hb=>mT _ z _ W ((hb.cell (p:=⟨w.heap.size,0,ag⟩) hC.lt).trans hzc) h0 h1))
 clear hzc hR2 hR
 go_enter func100,ntmps100
 go_upto_region 1 with fail
 rw[HW0.out]
 obtain⟨xb,hxe⟩:=bY w.heap.size
 rw[<-hxe]at hC HC⊢
 clear hxe HW0
 have x0:=lu hC
 go_wp2_with fail
 refine aZ HC.out ?_
 exact tV
theorem jB (z:Int) (l:List Int) (w:aj) (t:aT) (hn:l.length<=1125899906842624) (h0:0<=z) (h1:z<=9223372036854775807):
  aC prog 100 #[M U z,T (ai ⟨w.heap.size,0,ag⟩) l.length l.length] (w.alloc (.cells ⟨l.map (M U)⟩ t)) λe w'=>e=ar (aA (l.any λn=>aI n (-z) z))/\ap w.heap.size w w':=by
 have h:=o8 z _ _ _ _ (sG w t l) hn h0 h1
 rw[gA (λn=>aI n (-z) z)]at h
 exact sA
end
section
open Tryz
open Go.RowKit
def jv (N:Nat->ByteArray) (S:Nat->Nat->Int) (i:Nat):Option Int:=
 if !dq (N i).data.toList then ai 6 else if bI (λk=>ej (N k) (N i)) i then ai 5
 else if aI (S i 1) 1 3 then ai 2
 else if aI (S i 2) 0 5000||(aI (S i 3) 0 6000||(aI (S i 4) 1 60000||(aI (S i 5) 0 99999999||(aI (S i 6) 0 99999999||decide (S i 6<S i 5)))))then ai 7 else ag
def dE (p:Nat->Bool):Nat->Option Nat
 |0=>ag
 |m+1=>if p m then ai m else dE p m
def jE (Q:Nat->Nat->Int) (i k:Nat):Bool:=(Q k 0==Q i 0)&&((Q k 1==Q i 1)&&(Q k 2==Q i 2))
def lF (Q:Nat->Nat->Int) (i:Nat):Bool:=match dE (λk=>Q k 0==Q i 0) i with
 |some k=>decide (Q i 1<Q k 1)||decide (Q i 2<Q k 2)
 |none=>false
def i8 (ns:Nat) (S Q:Nat->Nat->Int) (i:Nat):Option Int:=
 if aI (Q i 0) 0 ((ns:Int) - 1)then ai 4
 else if aI (Q i 1) 0 100000||(aI (Q i 2) (S (Q i 0).toNat 5) (S (Q i 0).toNat 6)||(aI (Q i 3) (-20000) 20000||aI (Q i 4) (-20000) 20000))then ai 7
 else if bI (jE Q i) i then ai 5
 else if(S (Q i 0).toNat 1==2)&&lF Q i then ai 2 else ag
def vQ (C:Nat->Nat->Int) (i:Nat):Bool:=if i=0 then false else decide (C i 0<=C (i - 1) 0)
def lC (C:Nat->Nat->Int) (i:Nat):Option Int:=if aI (C i 0) 1 100000000 then ai 7 else if vQ C i then ai 2 else ag
def ue (ns:Nat) (N:Nat->ByteArray) (S:Nat->Nat->Int) (nq:Nat) (Q:Nat->Nat->Int) (nc:Nat) (C:Nat->Nat->Int) (age shear:Int):Int×Int×Int:=
 if decide (6<ns)||(decide (60<nq)||aI nc 1 20)then(1,0,3)
 else match aB (jv N S) ns 0 with
  |some (i,e)=>(2,((i:Nat):Int),e)
  |none=>match aB (i8 ns S Q) nq 0 with
   |some (i,e)=>(3,((i:Nat):Int),e)
   |none=>match aB (lC C) nc 0 with
    |some (i,e)=>(4,((i:Nat):Int),e)
    |none=>if aI age 0 1000||aI shear 0 1000 then(5,0,7)else(0,0,0)
theorem uw {N:Nat->ByteArray} {S:Nat->Nat->Int} {i:Nat}:∀e,jv N S i=ai e->e≠0:=by
 rintro _ h rfl;revert h;unfold jv;split<;>(try split)<;>(try split)<;>(try split)<;>simp
theorem rL {ns:Nat} {S Q:Nat->Nat->Int} {i:Nat}:∀e,i8 ns S Q i=ai e->e≠0:=by
 rintro _ h rfl;revert h;unfold i8;split<;>(try split)<;>(try split)<;>(try split)<;>simp
theorem cR (n lo hi:Int) (w:aj):
  aC prog 102 #[M U n,M U lo,M U hi] w λe w'=>e=ar (aA (!aI n lo hi))/\w=w':=by
 go_enter func102,ntmps102
 exact iP
theorem gX (n:Int) (w:aj):
  aC prog 179 #[M U n] w λe w'=>e=ar (aA (!aI n 0 99999999))/\w=w':=by
 go_enter func179,ntmps179
 exact uG
theorem oO (n:Int) (w:aj):
  aC prog 180 #[M U n] w λe w'=>e=ar (aA (!aI n 0 100000))/\w=w':=by
 go_enter func180,ntmps180
 exact uG
theorem i9 (n:Int) (w:aj):
  aC prog 181 #[M U n] w λe w'=>e=ar (aA (!aI n (-20000) 20000))/\w=w':=by
 go_enter func181,ntmps181
 exact uG
theorem lJ (age shear:Int) (ns:Nat) (N:Nat->ByteArray) (S:Nat->Nat->Int) (sv qv cv:aw) (w:aj) (hRs:aU w sv ns 7 (em N S)) (hN:∀i,i<ns->(N i).size<=9223372036854775806) (j:Nat) (hlt:j<ns) (hns:ns<=1125899906842624):
  aC prog 103 #[aN #[sv,qv,cv,M U age,M U shear],M U j] w λe w'=>e=ar (M U ((jv N S j).getD 0))/\ap w.heap.size w w':=by
 have i2:(j:Int)<(ns:Int):=om
 have hNj:=hN j hlt
 obtain⟨sa,sc,rfl,hsc,hx⟩:=id hRs
 clear hx
 have HRs:=af hRs
 clear hRs
 obtain⟨W0,xb,HW0,hC,hB⟩:=eB w 26 #[T sa ns sc,qv,cv,M U age,M U shear]
 obtain⟨q,hq⟩:∃q,q=jv N S j:=⟨_,rfl⟩
 rw[<-hq]
 unfold jv at hq
 have HQ:=af hq
 clear hq
 go_enter func103,ntmps103
 go_upto_region 1 with fail
 rw[HW0.out.1,HW0.out.2]
 clear HW0
 have xx:=aL hC
 obtain⟨bb,bo,rfl,bl,hc⟩:=(HRs.out.below hB).elem hlt
 have e0:W0.cell? ⟨bb,bo+j*7,ag⟩=ai (ay (N j)):=hc 0 om
 have e1:W0.cell? ⟨bb,bo+j*7+1,ag⟩=ai (M U (S j 1)):=hc 1 om
 have e2:W0.cell? ⟨bb,bo+j*7+2,ag⟩=ai (M U (S j 2)):=hc 2 om
 have e3:W0.cell? ⟨bb,bo+j*7+3,ag⟩=ai (M U (S j 3)):=hc 3 om
 have e4:W0.cell? ⟨bb,bo+j*7+4,ag⟩=ai (M U (S j 4)):=hc 4 om
 have e5:W0.cell? ⟨bb,bo+j*7+5,ag⟩=ai (M U (S j 5)):=hc 5 om
 have e6:W0.cell? ⟨bb,bo+j*7+6,ag⟩=ai (M U (S j 6)):=hc 6 om
 clear hc
 generalize N j=b0 at *
 generalize S j 1=b1 at *
 generalize S j 2=b2 at *
 generalize S j 3=b3 at *
 generalize S j 4=b4 at *
 generalize S j 5=b5 at *
 generalize S j 6=b6 at *
 go_upto_region 2 with fail
 obtain⟨w1,hW9,hD,hba⟩:=bW W0 129 #[ay b0,M U b1,M U b2,M U b3,M U b4,M U b5,M U b6]
 rw[hW9.out]
 clear hW9
 (try replace hM:=cG.below hM hba)
 try replace hC:=hC.below hba
 replace hB:=ak hB hba
 generalize W0.heap.size=db at *
 have dd:=aJ hD
 clear hba e0 e1 e2 e3 e4 e5 e6
 go_wp2_with fail
 refine bm (dZ _ _ hNj) ?_
 rintro(_|_) gn
 ·exact di
 clear dd
 have dd:=aJ hD
 have xx:=aL hC
 go_wp2_with fail
 clear xx
 clear dd
 go_loopw [6] (λi wr=>∃m:Nat,m<=j/\i=M U m/\bj (∀k,k<m->ej (N k) b0=false)/\am wr xb 26 #[T (ai ⟨bb,bo,ag⟩) ns sc,qv,cv,M U age,M U shear]/\am wr db 129 #[ay b0,M U b1,M U b2,M U b3,M U b4,M U b5,M U b6]/\ap w.heap.size w wr) (λi _=>j - (aV i).toNat)
 case atStart=>exact⟨0,aF _,rfl,show∀k,k<0->_ from(λk h=>absurd h om),hC,hD,hB⟩
 case round=>
  clear hC hD hB
  obtain⟨m,hm,rfl,HM,hC,hD,hB⟩:=hrel
  by_cases hl2:m<j
  ·obtain⟨vb,vo,hq,-,hc⟩:=(HRs.out.below hB).elem (show m<ns by omega)
   obtain⟨rfl,rfl⟩:bb=vb/\bo=vo:=by simpa using hq
   have e0:wr.cell? ⟨bb,bo+m*7,ag⟩=ai (ay (N m)):=hc 0 om
   have HM2:=af (λh=>dS HM.out h)
   have HH:=af (λh=>cd (p:=λk=>ej (N k) b0) hl2 h)
   clear hc hq HM
   have i3:(m:Int)<(j:Int):=om
   have i4:(m:Int)<(ns:Int):=om
   have dd:=aJ hD
   exact T8
  obtain rfl:j=m:=om
  have hA:=bT HM.out
  clear HM
  have dd:=aJ hD
  go_wp2_with fail
  refine aR (cR _ _ _ _) ?_
  rintro(_|_) g0
  rotate_left
  ·exact di
  by_cases kd:b6<b5
  ·have k0:decide (b6<b5)=true:=decide_eq_true kd
   exact T6
  have k0:decide (b6<b5)=false:=decide_eq_false kd
  exact T6
end
section
open Tryz
open Go.RowKit
def gE (p:Nat->Bool) (m:Nat):Int:=match dE p m with
 |some k=>(k:Int)
 |none=>-1
theorem pJ {p:Nat->Bool} {m:Nat} (h:p m=true):gE p (m+1)=(m:Int):=by unfold gE;simp only[dE];rw[h];rfl
theorem nP {p:Nat->Bool} {m:Nat} (h:p m=false):gE p (m+1)=gE p m:=by unfold gE;simp only[dE];rw[h];rfl
theorem lU {p:Nat->Bool}:∀{m k:Nat},dE p m=ai k->k<m
 |0,_,h=>by cases h
 |m+1,k,h=>by
  simp only[dE]at h
  split at h
  ·cases h;omega
  ·have:=lU h;omega
theorem ji (age shear:Int) (ns:Nat) (N:Nat->ByteArray) (S:Nat->Nat->Int) (nq:Nat) (Q:Nat->Nat->Int) (sv qv cv:aw) (w:aj) (hRs:aU w sv ns 7 (em N S)) (hRq:aU w qv nq 5 (bw Q)) (j:Nat) (hlt:j<nq) (hns:ns<=1125899906842624) (hnq:nq<=1125899906842624):
  aC prog 104 #[aN #[sv,qv,cv,M U age,M U shear],M U j] w λe w'=>e=ar (M U ((i8 ns S Q j).getD 0))/\ap w.heap.size w w':=by
 have i2:(j:Int)<(nq:Int):=om
 have q1:=aD ((ns:Int) - 1) ⟨by omega,by omega⟩
 obtain⟨sa,sc,rfl,hsc,hx⟩:=id hRs
 clear hx
 have HRs:=af hRs
 clear hRs
 obtain⟨qa,qc,rfl,hqc,hx⟩:=id hRq
 clear hx
 have HRq:=af hRq
 clear hRq
 obtain⟨W0,xb,HW0,hC,hB⟩:=eB w 26 #[T sa ns sc,T qa nq qc,cv,M U age,M U shear]
 obtain⟨q,hq⟩:∃q,q=i8 ns S Q j:=⟨_,rfl⟩
 rw[<-hq]
 unfold i8 lF at hq
 rw[show jE Q j=λk=>(Q k 0==Q j 0)&&((Q k 1==Q j 1)&&(Q k 2==Q j 2))from rfl]at hq
 have HQ:=af hq
 clear hq
 go_enter func104,ntmps104
 go_upto_region 1 with fail
 rw[HW0.out.1,HW0.out.2]
 clear HW0
 have xx:=aL hC
 obtain⟨bb,bo,rfl,bl,hc⟩:=(HRq.out.below hB).elem hlt
 have ee:=r5 hc
 simp only[bw,bq]at ee
 obtain⟨e0,e1,e2,e3,e4⟩:=ee
 clear hc
 generalize Q j 0=b0 at *
 generalize Q j 1=b1 at *
 generalize Q j 2=b2 at *
 generalize Q j 3=b3 at *
 generalize Q j 4=b4 at *
 go_upto_region 2 with fail
 obtain⟨w1,hW9,hD,hba⟩:=bW W0 169 #[M U b0,M U b1,M U b2,M U b3,M U b4]
 rw[hW9.out]
 clear hW9
 (try replace hM:=cG.below hM hba)
 try replace hC:=hC.below hba
 replace hB:=ak hB hba
 generalize W0.heap.size=db at *
 have dd:=aL hD
 clear hba e0 e1 e2 e3 e4
 clear xx
 have xx:=aL hC
 go_wp2_with fail
 refine aR (cR _ _ _ _) ?_
 rintro(_|_) g0
 rotate_left
 ·exact di
 have hn0:=aW.1 g0
 have hlt2:b0.toNat<ns:=om
 have hb0:b0<(ns:Int):=om
 have hb1:(0:Int)<=b0:=hn0.1
 obtain⟨sb,so,rfl,sl,hc⟩:=(HRs.out.below hB).elem hlt2
 have f0:w1.cell? ⟨sb,so+b0.toNat*7,ag⟩=ai (ay (N b0.toNat)):=hc 0 om
 have f1:w1.cell? ⟨sb,so+b0.toNat*7+1,ag⟩=ai (M U (S b0.toNat 1)):=hc 1 om
 have f2:w1.cell? ⟨sb,so+b0.toNat*7+2,ag⟩=ai (M U (S b0.toNat 2)):=hc 2 om
 have f3:w1.cell? ⟨sb,so+b0.toNat*7+3,ag⟩=ai (M U (S b0.toNat 3)):=hc 3 om
 have f4:w1.cell? ⟨sb,so+b0.toNat*7+4,ag⟩=ai (M U (S b0.toNat 4)):=hc 4 om
 have f5:w1.cell? ⟨sb,so+b0.toNat*7+5,ag⟩=ai (M U (S b0.toNat 5)):=hc 5 om
 have f6:w1.cell? ⟨sb,so+b0.toNat*7+6,ag⟩=ai (M U (S b0.toNat 6)):=hc 6 om
 clear hc
 generalize N b0.toNat=s0 at *
 generalize S b0.toNat 1=s1 at *
 generalize S b0.toNat 2=s2 at *
 generalize S b0.toNat 3=s3 at *
 generalize S b0.toNat 4=s4 at *
 generalize S b0.toNat 5=s5 at *
 generalize S b0.toNat 6=s6 at *
 clear xx
 have xx:=aL hC
 go_upto_region 5 with fail
 obtain⟨w2,hW9,hN9,hb⟩:=bW w1 129 #[ay s0,M U s1,M U s2,M U s3,M U s4,M U s5,M U s6]
 rw[hW9.out]
 clear hW9
 try replace hC:=hC.below hb
 try replace hD:=hD.below hb
 try replace hM:=hM.below hb
 replace hB:=ak hB hb
 clear hb
 generalize w1.heap.size=kb at *
 have hC2:=hN9
 have cc:=aJ hC2
 clear hN9 f0 f1 f2 f3 f4 f5 f6
 clear xx
 have xx:=aL hC
 clear dd
 have dd:=aL hD
 go_wp2_with fail
 refine aR (oO _ _) ?_
 rintro(_|_) g1
 rotate_left
 ·exact di
 go_wp2_with fail
 refine aR (cR _ _ _ _) ?_
 rintro(_|_) g2
 rotate_left
 ·exact di
 go_wp2_with fail
 refine aR (i9 _ _) ?_
 rintro(_|_) g3
 rotate_left
 ·exact di
 go_wp2_with fail
 refine aR (i9 _ _) ?_
 rintro(_|_) g4
 rotate_left
 ·exact di
 go_wp2_with fail
 clear xx
 clear dd
 clear cc
 go_loopw [7,8] (λl i wr=>∃(m:Nat) (lv:Int),m<=j/\i=M U m/\l=M U lv/\bj (∀k,k<m->((Q k 0==b0)&&((Q k 1==b1)&&(Q k 2==b2)))=false)/\bj (lv=gE (λk=>Q k 0==b0) m)/\am wr xb 26 #[T (ai ⟨sb,so,ag⟩) ns sc,T (ai ⟨bb,bo,ag⟩) nq qc,cv,M U age,M U shear]/\am wr kb 129 #[ay s0,M U s1,M U s2,M U s3,M U s4,M U s5,M U s6]/\am wr db 169 #[M U b0,M U b1,M U b2,M U b3,M U b4]/\ap w.heap.size w wr) (λ_ i _=>j - (aV i).toNat)
 case atStart=>exact⟨0,-1,aF _,rfl,rfl,show∀k,k<0->_ from(λk h=>absurd h om),show _=_ from rfl,hC,hC2,hD,hB⟩
 case round=>
  clear hC hC2 hD hB
  obtain⟨m,lv,hm,rfl,rfl,HM,HL,hC,hC2,hD,hB⟩:=hrel
  by_cases hl2:m<j
  ·obtain⟨vb,vo,hq,-,hc⟩:=(HRq.out.below hB).elem (show m<nq by omega)
   obtain⟨rfl,rfl⟩:bb=vb/\bo=vo:=by simpa using hq
   have ee:=r5 hc
   simp only[bw,bq]at ee
   obtain⟨e0,e1,e2,e3,e4⟩:=ee
   have HM2:=af (λh=>dS (p:=λk=>(Q k 0==b0)&&((Q k 1==b1)&&(Q k 2==b2))) HM.out h)
   have HH:=af (λh=>cd (p:=λk=>(Q k 0==b0)&&((Q k 1==b1)&&(Q k 2==b2))) hl2 h)
   have HL1:=af (λh=>pJ (p:=λk=>Q k 0==b0) (m:=m) h)
   have HL2:=af (λh=>HL.out.trans (nP (p:=λk=>Q k 0==b0) (m:=m) h).symm)
   clear hc hq HM HL
   have i3:(m:Int)<(j:Int):=om
   have i4:(m:Int)<(nq:Int):=om
   have xx:=aL hC
   have dd:=aL hD
   have cc:=aJ hC2
   obtain⟨p0,hp⟩:∃p,p=Q m 0:=⟨_,rfl⟩
   simp only[<-hp]at HM2 HH HL1 HL2 e0
   clear hp
   obtain⟨p1,hp⟩:∃p,p=Q m 1:=⟨_,rfl⟩
   simp only[<-hp]at HM2 HH HL1 HL2 e1
   clear hp
   obtain⟨p2,hp⟩:∃p,p=Q m 2:=⟨_,rfl⟩
   simp only[<-hp]at HM2 HH HL1 HL2 e2
   clear hp
   obtain⟨p3,hp⟩:∃p,p=Q m 3:=⟨_,rfl⟩
   simp only[<-hp]at HM2 HH HL1 HL2 e3
   clear hp
   obtain⟨p4,hp⟩:∃p,p=Q m 4:=⟨_,rfl⟩
   simp only[<-hp]at HM2 HH HL1 HL2 e4
   clear hp
   go_upto_region 12 with fail
   obtain⟨w3,hW9,hN9,hb⟩:=bW wr 169 #[M U p0,M U p1,M U p2,M U p3,M U p4]
   rw[hW9.out]
   clear hW9
   try replace hC:=hC.below hb
   try replace hC2:=hC2.below hb
   try replace hD:=hD.below hb
   try replace hM:=hM.below hb
   replace hB:=ak hB hb
   clear hb
   generalize wr.heap.size=yb at *
   have hC3:=hN9
   have yy:=aL hC3
   clear hN9 e0 e1 e2 e3 e4
   clear xx
   clear dd
   clear cc
   have xx:=aL hC
   have dd:=aL hD
   have cc:=aJ hC2
   cases h0:(p0==b0)
   ·have hM1:=HM2.out (by rw[h0];rfl)
    have HM:=af hM1
    have HL:=af (HL2.out h0)
    clear HM2 HH HL1 HL2 hM1
    go_wp2_with fail
    go_roundw
    case rel=>exact⟨m+1,lv,by omega,by go_num,rfl,HM,HL,hC,hC2,hD,hB⟩
    case measure=>simp[aV];omega
   cases h1:(p1==b1)
   ·have hM1:=HM2.out (by rw[h0,h1];rfl)
    exact T52
   cases h2:(p2==b2)
   rotate_left
   ·have hA:=HH.out (by rw[h0,h1,h2];rfl)
    clear HM2 HH HL1 HL2
    exact di
   have hM1:=HM2.out (by rw[h0,h1,h2];rfl)
   exact T52
  obtain rfl:j=m:=om
  have hA:=bT HM.out
  clear HM
  have xx:=aL hC
  have dd:=aL hD
  have cc:=aJ hC2
  cases hl:dE (λk=>Q k 0==b0) j with
  |none=>
   rw[show gE (λk=>Q k 0==b0) j=-1 from by unfold gE;rw[hl]]at HL
   obtain rfl:=HL.out
   clear HL
   have HQ2:bj (q=ag):=by unfold bj;rw[HQ.out,hl];simp[*]
   cases hk2:(s1==2)
   ·exact uU
   exact uU
  |some k=>
   have hkl:=lU hl
   rw[show gE (λk=>Q k 0==b0) j=(k:Int)from by unfold gE;rw[hl]]at HL
   obtain rfl:=HL.out
   clear HL
   obtain⟨vb,vo,hq,-,hc⟩:=(HRq.out.below hB).elem (show k<nq by omega)
   obtain⟨rfl,rfl⟩:bb=vb/\bo=vo:=by simpa using hq
   have e1:wr.cell? ⟨bb,bo+k*5+1,ag⟩=ai (M U (Q k 1)):=hc 1 om
   have e2:wr.cell? ⟨bb,bo+k*5+2,ag⟩=ai (M U (Q k 2)):=hc 2 om
   clear hc hq
   have i3:(k:Int)<(nq:Int):=om
   have HQ2:bj (q=if(s1==2)&&(decide (b1<Q k 1)||decide (b2<Q k 2))then ai 2 else ag):=by
    unfold bj;rw[HQ.out,hl];simp[*]
   clear HQ
   generalize Q k 1=p1 at *
   generalize Q k 2=p2 at *
   cases hk2:(s1==2)
   ·exact uU
   by_cases l1:b1<p1
   ·have l1d:decide (b1<p1)=true:=decide_eq_true l1
    exact uU
   have l1d:decide (b1<p1)=false:=decide_eq_false l1
   by_cases l2:b2<p2
   ·have l2d:decide (b2<p2)=true:=decide_eq_true l2
    exact uU
   have l2d:decide (b2<p2)=false:=decide_eq_false l2
   exact uU
end
section
open Tryz
open Go.RowKit
theorem mz (ns:Nat) (N:Nat->ByteArray) (S:Nat->Nat->Int) (nd:Nat) (Q:Nat->Nat->Int) (nc:Nat) (C:Nat->Nat->Int) (age shear:Int) (sv qv cv:aw) (w:aj) (hRs:aU w sv ns 7 (em N S)) (hRq:aU w qv nd 5 (bw Q)) (hRc:aU w cv nc 1 (bw C)) (hN:∀i,i<ns->(N i).size<=9223372036854775806):
  aC prog 33 #[aN #[sv,qv,cv,M U age,M U shear]] w (E3 w (ue ns N S nd Q nc C age shear)):=by
 obtain⟨sa,sc,rfl,hsc,hx⟩:=id hRs
 have HRs:=af hRs
 clear hRs
 obtain⟨qa,qc,rfl,hqc,hx⟩:=id hRq
 have HRq:=af hRq
 clear hRq
 obtain⟨ca,cc,rfl,hcc,hx⟩:=id hRc
 have HRc:=af hRc
 clear hRc
 obtain⟨W0,xb,HW0,hC,hB⟩:=eB w 26 #[T sa ns sc,T qa nd qc,T ca nc cc,M U age,M U shear]
 obtain⟨r,HS⟩:=dR (ue ns N S nd Q nc C age shear)
 rw[<-HS.out]
 have HN:=af hN
 clear hN
 go_enter func33,ntmps33
 go_upto_region 1 with fail
 rw[HW0.out.1,HW0.out.2]
 clear HW0
 have xx:=aL hC
 by_cases k1:6<ns
 ·go_wp2_with fail
  exact iN
 by_cases k2:60<nd
 ·go_wp2_with fail
  exact iN
 go_wp2_with fail
 refine aR (cR _ _ _ _) ?_
 rintro(_|_) g0
 rotate_left
 ·go_wp2_with fail
  exact iN
 have hn:=aW.1 g0
 go_wp2_with fail
 go_loopw [5] (λi wr=>∃j:Nat,j<=ns/\i=M U j/\bj (aB (jv N S) ns 0=aB (jv N S) (ns - j) j)/\am wr xb 26 #[T sa ns sc,T qa nd qc,T ca nc cc,M U age,M U shear]/\ap w.heap.size w wr) (λi _=>ns - (aV i).toNat)
 case atStart=>exact⟨0,aF _,rfl,show _=_ from rfl,hC,hB⟩
 case round=>
  clear hC hB
  obtain⟨j,hj,rfl,HJ,hC,hB⟩:=hrel
  by_cases hlt:j<ns
  ·have HF:=af (HJ.out.trans (bf (jv N S) hlt))
   have hz:=uw (N:=N) (S:=S) (i:=j)
   clear HJ
   have i2:(j:Int)<(ns:Int):=om
   have xx:=aL hC
   go_wp2_with fail
   refine aZ (lJ _ _ ns N S _ _ _ _ (HRs.out.below hB) HN.out j hlt om) ?_
   intro w1 hb
   obtain⟨hC,hB⟩:=bS hC hB hb
   generalize jv N S j=q at HF hz⊢
   rcases q with _|e
   rotate_left
   ·exact T88
   have HJ2:bj (aB (jv N S) ns 0=aB (jv N S) (ns - (j+1)) (j+1)):=show _=_ from HF.out
   exact tQ
  obtain rfl:ns=j:=om
  have HE:=af (HJ.out.trans (bh (jv N S) ns))
  have hE:=HE.out
  clear HJ HE
  have xx:=aL hC
  go_wp2_with fail
  go_loopw [7] (λi wr=>∃j:Nat,j<=nd/\i=M U j/\bj (aB (i8 ns S Q) nd 0=aB (i8 ns S Q) (nd - j) j)/\am wr xb 26 #[T sa ns sc,T qa nd qc,T ca nc cc,M U age,M U shear]/\ap w.heap.size w wr) (λi _=>nd - (aV i).toNat)
  case atStart=>exact⟨0,aF _,rfl,show _=_ from rfl,hC,hB⟩
  case round=>
   clear hC hB
   obtain⟨j,hj,rfl,HJ,hC,hB⟩:=hrel
   by_cases hlt:j<nd
   ·have HF:=af (HJ.out.trans (bf (i8 ns S Q) hlt))
    have hz:=rL (ns:=ns) (S:=S) (Q:=Q) (i:=j)
    clear HJ
    have i2:(j:Int)<(nd:Int):=om
    have xx:=aL hC
    go_wp2_with fail
    refine aZ (ji _ _ ns N S nd Q _ _ _ _ (HRs.out.below hB) (HRq.out.below hB) j hlt om om) ?_
    intro w1 hb
    obtain⟨hC,hB⟩:=bS hC hB hb
    generalize i8 ns S Q j=q at HF hz⊢
    rcases q with _|e
    rotate_left
    ·exact T88
    have HJ2:bj (aB (i8 ns S Q) nd 0=aB (i8 ns S Q) (nd - (j+1)) (j+1)):=show _=_ from HF.out
    exact tQ
   obtain rfl:nd=j:=om
   have HE:=af (HJ.out.trans (bh (i8 ns S Q) nd))
   have hE:=HE.out
   clear HJ HE
   have xx:=aL hC
   go_wp2_with fail
   go_loopw [9] (λi wr=>∃j:Nat,j<=nc/\i=M U j/\bj (aB (lC C) nc 0=aB (lC C) (nc - j) j)/\am wr xb 26 #[T sa ns sc,T qa nd qc,T ca nc cc,M U age,M U shear]/\ap w.heap.size w wr) (λi _=>nc - (aV i).toNat)
   case atStart=>exact⟨0,aF _,rfl,show _=_ from rfl,hC,hB⟩
   case round=>
    clear hC hB
    obtain⟨j,hj,rfl,HJ,hC,hB⟩:=hrel
    by_cases hlt:j<nc
    rotate_left
    ·obtain rfl:nc=j:=om
     have HE:=af (HJ.out.trans (bh (lC C) nc))
     have hE:=HE.out
     clear HJ HE
     have xx:=aL hC
     go_wp2_with fail
     refine aR (cR _ _ _ _) ?_
     rintro(_|_) g0
     rotate_left
     ·go_wp2_with fail
      exact iN
     go_wp2_with fail
     refine aR (cR _ _ _ _) ?_
     rintro(_|_) g1
     ·go_wp2_with fail
      exact iN
     go_wp2_with fail
     exact iN
    have HF:=af (HJ.out.trans (bf (lC C) hlt))
    obtain⟨q,hq⟩:∃q,q=lC C j:=⟨_,rfl⟩
    rw[<-hq]at HF
    unfold lC at hq
    have HQ:=af hq
    clear hq HJ
    have i2:(j:Int)<(nc:Int):=om
    rcases j with _|k
    ·have hG:vQ C 0=false:=rfl
     obtain⟨bb,bo,rfl,bl,hc⟩:=(HRc.out.below hB).elem hlt
     have e0:wr.cell? ⟨bb,bo,ag⟩=ai (M U (C 0 0)):=by have h:=hc 0 om;unfold bw at h;simpa using h
     generalize C 0 0=b0 at *
     have xx:=aL hC
     go_wp2_with fail
     refine aR (cR _ _ _ _) ?_
     rintro(_|_) g0
     rotate_left
     ·exact um
     go_upto_region 20 with fail
     go_quiet (fail)
     have hb:=aM (au wr.heap.size wr) nq
     obtain⟨hC,hB⟩:=bS hC hB hb
     generalize wr.drewN nq=w2 at *
     have HJ2:bj (aB (lC C) nc 0=aB (lC C) (nc - (0+1)) (0+1)):=by
      exact gM
     clear HF HQ hG
     exact qf
    have hG:vQ C (k+1)=decide (C (k+1) 0<=C k 0):=rfl
    obtain⟨bb,bo,rfl,bl,hc⟩:=(HRc.out.below hB).elem hlt
    have e0:wr.cell? ⟨bb,bo+(k+1),ag⟩=ai (M U (C (k+1) 0)):=eI hc
    obtain⟨vb,vo,hq,-,hc2⟩:=(HRc.out.below hB).elem (show k<nc by omega)
    obtain⟨rfl,rfl⟩:bb=vb/\bo=vo:=by simpa using hq
    have f0:wr.cell? ⟨bb,bo+k,ag⟩=ai (M U (C k 0)):=eI hc2
    generalize C (k+1) 0=b0 at *
    generalize C k 0=p0 at *
    have q1:=aD ((k:Int)+1 - 1) ⟨by omega,by omega⟩
    have q2:=aD (k:Int) ⟨by omega,by omega⟩
    have q3:(k:Int)<(nc:Int):=om
    have q4:(0:Int)<(k:Int)+1:=om
    have xx:=aL hC
    go_wp2_with fail
    refine aR (cR _ _ _ _) ?_
    rintro(_|_) g0
    rotate_left
    ·exact um
    by_cases kd:b0<=p0
    ·have kb:decide (b0<=p0)=true:=decide_eq_true kd
     rw[kb]at hG
     go_upto_region 20 with fail
     go_quiet (fail)
     have hb:=aM (au wr.heap.size wr) nq
     obtain⟨hC,hB⟩:=bS hC hB hb
     generalize wr.drewN nq=w2 at *
     exact um
    have kb:decide (b0<=p0)=false:=decide_eq_false kd
    rw[kb]at hG
    go_upto_region 20 with fail
    go_quiet (fail)
    have hb:=aM (au wr.heap.size wr) nq
    obtain⟨hC,hB⟩:=bS hC hB hb
    generalize wr.drewN nq=w2 at *
    have HJ2:bj (aB (lC C) nc 0=aB (lC C) (nc - (k+1+1)) (k+1+1)):=by
     exact gM
    clear HF HQ hG
    exact rN
end
section
open Tryz
open Go.RowKit
def jT (N:Nat->ByteArray) (R:Nat->Nat->Int) (i:Nat):Option Int:=
 if !dq (N i).data.toList then ai 6 else if bI (λk=>ej (N k) (N i)) i then ai 5
 else if([R i 1,R i 2].any λn=>aI n (-100000000) 100000000)||(aI (R i 3) 0 10000000||(aI (R i 4) 0 10000||aI (R i 5) 0 600))then ai 7 else ag
def j8 (nt:Nat) (from_:Int) (Q:Nat->Nat->Int) (i:Nat):Option Int:=
 if aI (Q i 0) 0 ((nt:Int) - 1)then ai 4
 else if aI (Q i 1) from_ 100000||([Q i 2,Q i 3,Q i 4].any λn=>aI n (-2000000000) 2000000000)then ai 7
 else if bI (λk=>(Q k 0==Q i 0)&&(Q k 1==Q i 1)) i then ai 5 else ag
def uR (from_ speed accel:Int) (nt:Nat) (N:Nat->ByteArray) (R:Nat->Nat->Int) (np:Nat) (Q:Nat->Nat->Int):Int×Int×Int:=
 if decide (5<nt)||decide (60<np)then(1,0,3)else if aI from_ 0 100000||(aI speed 1 1000000||aI accel 1 1000000)then(1,0,7)
 else match aB (jT N R) nt 0 with
  |some (i,e)=>(2,((i:Nat):Int),e)
  |none=>match aB (j8 nt from_ Q) np 0 with
   |some (i,e)=>(3,((i:Nat):Int),e)
   |none=>(0,0,0)
theorem kV (y0:ByteArray) (y1:Int) (y2:Int) (y3:Int) (y4:Int) (y5:Int) (db:Nat) (nm:ByteArray) (w:aj) (hd:w.cell? ⟨db,0,ag⟩=ai (ay nm)):
  aC prog 99 #[aN #[ay y0,M U y1,M U y2,M U y3,M U y4,M U y5],ax (ai ⟨db,0,ag⟩)] w λe w'=>e=ar (aA (ej y0 nm))/\ap w.heap.size w w':=by
 have hlt:db<w.heap.size:=aG w _ hd
 obtain⟨W0,HW0,hC,hB⟩:=bW w 206 #[ay y0,M U y1,M U y2,M U y3,M U y4,M U y5]
 have hd:W0.cell? ⟨db,0,ag⟩=ai (ay nm):=(hB.cell (p:=⟨db,0,ag⟩) hlt).trans hd
 clear hlt
 go_enter func99,ntmps99
 exact T63
theorem j5 (n:Nat) (N:Nat->ByteArray) (R:Nat->Nat->Int) (p:Nat->Bool) (v:aw) (cz:aw) (w:aj) (hRr:aU w v n 6 (em N R)) (hn:n<=1125899906842624) (hF:∀(i:Nat) (W:aj),i<n->ap w.heap.size w W->aC prog 99 #[aN #[ay (N i),M U (R i 1),M U (R i 2),M U (R i 3),M U (R i 4),M U (R i 5)],cz] W λe w'=>e=ar (aA (p i))/\ap W.heap.size W w'):
  aC prog 177 #[v, .func (.func 99) #[] #[cz]] w λe w'=>e=ar (M U (cH p n 0))/\ap w.heap.size w w':=by
 obtain⟨ra,rc,rfl,hrc,hx⟩:=id hRr
 have HRr:=af hRr
 have HF:=af hF
 clear hRr hF
 go_enter func177,ntmps177
 go_wp2_with fail
 go_loopw [8] (λi wr=>∃j:Nat,j<=n/\i=M U j/\ap w.heap.size w wr/\bj (cH p n 0=cH p (n - j) j)) (λi _=>n - (aV i).toNat)
 case atStart=>exact⟨0,aF _,rfl,au _ _,rfl⟩
 case round=>
  obtain⟨j,hj,rfl,hB,HI⟩:=hrel
  by_cases hlt:j<n
  rotate_left
  ·exact mv
  have HC:=af (λW (h:ap w.heap.size w W)=>HF.out j W hlt h)
  have HS:=af (dj p hlt)
  obtain⟨b,off,rfl,hb,hc⟩:=(HRr.out.below hB).elem hlt
  have e0:wr.cell? ⟨b,off+j*6,ag⟩=ai (ay (N j)):=hc 0 om
  have e1:wr.cell? ⟨b,off+j*6+1,ag⟩=ai (M U (R j 1)):=hc 1 om
  have e2:wr.cell? ⟨b,off+j*6+2,ag⟩=ai (M U (R j 2)):=hc 2 om
  have e3:wr.cell? ⟨b,off+j*6+3,ag⟩=ai (M U (R j 3)):=hc 3 om
  have e4:wr.cell? ⟨b,off+j*6+4,ag⟩=ai (M U (R j 4)):=hc 4 om
  have e5:wr.cell? ⟨b,off+j*6+5,ag⟩=ai (M U (R j 5)):=hc 5 om
  exact T14
theorem iu (n:Nat) (N:Nat->ByteArray) (R:Nat->Nat->Int) (p:Nat->Bool) (v:aw) (cz:aw) (w:aj) (hRr:aU w v n 6 (em N R)) (hn:n<=1125899906842624) (hF:∀(i:Nat) (W:aj),i<n->ap w.heap.size w W->aC prog 99 #[aN #[ay (N i),M U (R i 1),M U (R i 2),M U (R i 3),M U (R i 4),M U (R i 5)],cz] W λe w'=>e=ar (aA (p i))/\ap W.heap.size W w'):
  aC prog 98 #[v, .func (.func 99) #[] #[cz]] w λe w'=>e=ar (aA (bI p n))/\ap w.heap.size w w':=by
 have HI:=af (j5 n N R p v cz w hRr hn hF)
 have hk:=dp p n
 have HK:=af hk
 obtain⟨ra,rc,rfl,hrc,hx⟩:=id hRr
 clear hk hRr hF hx
 go_enter func98,ntmps98
 exact T53
theorem lX (from_ speed accel:Int) (nt:Nat) (N:Nat->ByteArray) (R:Nat->Nat->Int) (np:Nat) (Q:Nat->Nat->Int) (tv pv:aw) (w:aj)
  (hRt:aU w tv nt 6 (em N R)) (hRp:aU w pv np 5 (bw Q)) (hN:∀i,i<nt->(N i).size<=9223372036854775806):
  aC prog 31 #[aN #[M U from_,M U speed,M U accel,tv,pv]] w (E3 w (uR from_ speed accel nt N R np Q)):=by
 obtain⟨ta,tc,rfl,htc,hx⟩:=id hRt
 clear hx
 have HRt:=af hRt
 clear hRt
 obtain⟨pa,pc,rfl,hpc,hx⟩:=id hRp
 clear hx
 have HRp:=af hRp
 clear hRp
 obtain⟨W0,xb,HW0,hC,hB⟩:=eB w 63 #[M U from_,M U speed,M U accel,T ta nt tc,T pa np pc]
 obtain⟨r,HS⟩:=dR (uR from_ speed accel nt N R np Q)
 rw[<-HS.out]
 have HN:=af hN
 clear hN
 go_enter func31,ntmps31
 go_upto_region 1 with fail
 rw[HW0.out.1,HW0.out.2]
 clear HW0
 have xx:=aL hC
 by_cases k1:5<nt
 ·go_wp2_with fail
  exact eU
 by_cases k2:60<np
 ·go_wp2_with fail
  exact eU
 go_wp2_with fail
 refine bH (qt [from_] _ 3 (by simp)) ?_
 rintro(_|_) w1 g hb<;>((try replace hC:=hC.below hb);replace hB:=ak hB hb;clear hb)
 rotate_left
 ·simp only[List.any_cons,List.any_nil,Bool.or_false]at g
  go_wp2_with fail
  exact eU
 clear xx
 have xx:=aL hC
 simp only[List.any_cons,List.any_nil,Bool.or_false]at g
 have hfr:=aW.1 g
 go_wp2_with fail
 refine bm (dD _ _ _ _) ?_
 rintro(_|_) g1
 rotate_left
 ·go_wp2_with fail
  exact eU
 go_wp2_with fail
 refine bm (dD _ _ _ _) ?_
 rintro(_|_) g2
 rotate_left
 ·go_wp2_with fail
  exact eU
 go_wp2_with fail
 clear xx
 go_loopw [40] (λi wr=>∃j:Nat,j<=nt/\i=M U j/\bj (aB (jT N R) nt 0=aB (jT N R) (nt - j) j)/\am wr xb 63 #[M U from_,M U speed,M U accel,T ta nt tc,T pa np pc]/\ap w.heap.size w wr) (λi _=>nt - (aV i).toNat)
 case atStart=>exact⟨0,aF _,rfl,show _=_ from rfl,hC,hB⟩
 case round=>
  clear hC hB
  obtain⟨j,hj,rfl,HJ,hC,hB⟩:=hrel
  by_cases hlt:j<nt
  ·have HF:=af (HJ.out.trans (bf (jT N R) hlt))
   obtain⟨q,hq⟩:∃q,q=jT N R j:=⟨_,rfl⟩
   rw[<-hq]at HF
   unfold jT at hq
   have HQ:=af hq
   clear hq HJ
   have hNj:=HN.out j hlt
   obtain⟨bb,bo,rfl,bl,hc⟩:=(HRt.out.below hB).elem hlt
   have e0:wr.cell? ⟨bb,bo+j*6,ag⟩=ai (ay (N j)):=hc 0 om
   have e1:wr.cell? ⟨bb,bo+j*6+1,ag⟩=ai (M U (R j 1)):=hc 1 om
   have e2:wr.cell? ⟨bb,bo+j*6+2,ag⟩=ai (M U (R j 2)):=hc 2 om
   have e3:wr.cell? ⟨bb,bo+j*6+3,ag⟩=ai (M U (R j 3)):=hc 3 om
   have e4:wr.cell? ⟨bb,bo+j*6+4,ag⟩=ai (M U (R j 4)):=hc 4 om
   have e5:wr.cell? ⟨bb,bo+j*6+5,ag⟩=ai (M U (R j 5)):=hc 5 om
   clear hc
   generalize N j=b0 at *
   generalize R j 1=b1 at *
   generalize R j 2=b2 at *
   generalize R j 3=b3 at *
   generalize R j 4=b4 at *
   generalize R j 5=b5 at *
   have i2:(j:Int)<(nt:Int):=om
   go_upto_region 8 with fail
   obtain⟨w1,hW9,hD,hba⟩:=bW wr 206 #[ay b0,M U b1,M U b2,M U b3,M U b4,M U b5]
   rw[hW9.out]
   clear hW9
   (try replace hM:=cG.below hM hba)
   replace hC:=hC.below hba
   replace hB:=ak hB hba
   generalize wr.heap.size=db at *
   obtain⟨d0,d1,d2,d3,d4,d5⟩:=aH hD
   clear hba e0 e1 e2 e3 e4 e5
   go_wp2_with fail
   refine bH (cS _ _ hNj) ?_
   rintro(_|_) w1 g hb<;>((try replace hC:=hC.below hb);(try replace hD:=hD.below hb);(try replace hM:=hM.below hb);replace hB:=ak hB hb;clear hb)
   ·exact j9
   clear d0 d1 d2 d3 d4 d5
   obtain⟨d0,d1,d2,d3,d4,d5⟩:=aH hD
   have xx:=aL hC
   go_wp2_with fail
   refine bH (iu j N R (λk=>ej (N k) b0) _ _ _ ((HRt.out.below hB).take hj) om (λi W hi hb=>kV _ _ _ _ _ _ _ _ _ ((hb.cell (p:=⟨db,0,ag⟩) hD.lt).trans d0))) ?_
   rintro(_|_) w1 g hb<;>((try replace hC:=hC.below hb);(try replace hD:=hD.below hb);(try replace hM:=hM.below hb);replace hB:=ak hB hb;clear hb)
   rotate_left
   ·exact j9
   clear d0 d1 d2 d3 d4 d5
   obtain⟨d0,d1,d2,d3,d4,d5⟩:=aH hD
   go_wp2_with fail
   refine bH (jB 100000000 [b1,b2] _ 3 (by simp) om om) ?_
   rintro(_|_) w1 g hb<;>((try replace hC:=hC.below hb);(try replace hD:=hD.below hb);(try replace hM:=hM.below hb);replace hB:=ak hB hb;clear hb)
   rotate_left
   ·exact j9
   clear d0 d1 d2 d3 d4 d5
   obtain⟨d0,d1,d2,d3,d4,d5⟩:=aH hD
   go_wp2_with fail
   refine bm (dD _ _ _ _) ?_
   rintro(_|_) g1
   rotate_left
   ·exact j9
   go_wp2_with fail
   refine bm (dD _ _ _ _) ?_
   rintro(_|_) g2
   rotate_left
   ·exact j9
   go_wp2_with fail
   refine bm (dD _ _ _ _) ?_
   rintro(_|_) g3
   rotate_left
   ·exact j9
   have HJ2:bj (aB (jT N R) nt 0=aB (jT N R) (nt - (j+1)) (j+1)):=by
    exact gM
   exact qG
  obtain rfl:nt=j:=om
  have HE:=af (HJ.out.trans (bh (jT N R) nt))
  have hE:=HE.out
  clear HJ HE
  obtain⟨K,hK⟩:∃K:Nat->aw,K=λi=>aN #[M U (Q i 0),M U (Q i 1)]:=⟨_,rfl⟩
  have HKi:bj (∀i,K i=aN #[M U (Q i 0),M U (Q i 1)]):=show∀i,_ from λi=>by rw[hK]
  clear hK
  have hmm:=@run_makeMap prog
  have xx:=aL hC
  go_upto_region 16 with fail
  clear hmm
  clear xx
  have hM:=cG.made prog 214 wr K
  have hmb:=hB.size
  have hxm:=hC.lt
  have hb:=aP (au wr.heap.size wr) (.map #[] 0)
  try replace hC:=hC.below hb
  replace hB:=ak hB hb
  clear hb
  generalize wr.alloc (.map #[] 0)=W1 at *
  generalize wr.heap.size=mb at *
  have xx:=aL hC
  go_wp2_with fail
  clear xx
  go_loopw [87] (λi wr=>∃j:Nat,j<=np/\i=M U j/\bj (aB (j8 nt from_ Q) np 0=aB (j8 nt from_ Q) (np - j) j)/\cG prog 214 wr mb j K/\am wr xb 63 #[M U from_,M U speed,M U accel,T ta nt tc,T pa np pc]/\ap w.heap.size w wr) (λi _=>np - (aV i).toNat)
  case atStart=>exact⟨0,aF _,rfl,show _=_ from rfl,hM,hC,hB⟩
  case round=>
   clear hM hC hB
   obtain⟨j,hj,rfl,HJ,hM,hC,hB⟩:=hrel
   by_cases hlt:j<np
   rotate_left
   ·obtain rfl:np=j:=om
    have HE:=af (HJ.out.trans (bh (j8 nt from_ Q) np))
    have hE2:=HE.out
    clear HJ HE
    go_wp2_with fail
    exact eU
   have HF:=af (HJ.out.trans (bf (j8 nt from_ Q) hlt))
   obtain⟨q,hq⟩:∃q,q=j8 nt from_ Q j:=⟨_,rfl⟩
   rw[<-hq]at HF
   unfold j8 at hq
   have HQ:=af hq
   clear hq HJ
   obtain⟨bb,bo,rfl,bl,hc⟩:=(HRp.out.below hB).elem hlt
   have ee:=r5 hc
   simp only[bw,bq]at ee
   obtain⟨e0,e1,e2,e3,e4⟩:=ee
   clear hc
   have hKj:K j=aN #[M U (Q j 0),M U (Q j 1)]:=HKi.out j
   generalize Q j 0=b0 at *
   generalize Q j 1=b1 at *
   generalize Q j 2=b2 at *
   generalize Q j 3=b3 at *
   generalize Q j 4=b4 at *
   have i2:(j:Int)<(np:Int):=om
   go_upto_region 19 with fail
   obtain⟨w1,hW9,hD,hba⟩:=bW wr 212 #[M U b0,M U b1,M U b2,M U b3,M U b4]
   rw[hW9.out]
   clear hW9
   (try replace hM:=cG.below hM hba)
   replace hC:=hC.below hba
   replace hB:=ak hB hba
   generalize wr.heap.size=db at *
   obtain⟨d0,d1,d2,d3,d4⟩:=aL hD
   clear hba e0 e1 e2 e3 e4
   go_upto_region 20 with fail
   obtain⟨w2,hW9,h2,hb⟩:=bW w1 214 #[M U b0,M U b1]
   rw[hW9.out]
   clear hW9
   try replace hC:=hC.below hb
   try replace hD:=hD.below hb
   try replace hM:=hM.below hb
   replace hB:=ak hB hb
   clear hb
   generalize w1.heap.size=kb at *
   have hC2:=h2
   clear h2
   clear d0 d1 d2 d3 d4
   obtain⟨d0,d1,d2,d3,d4⟩:=aL hD
   have xx:=aL hC
   have q1:=aD ((nt:Int) - 1) ⟨by omega,by omega⟩
   go_wp2_with fail
   refine bm (dD _ _ _ _) ?_
   rintro(_|_) g0
   rotate_left
   ·exact j9
   go_wp2_with fail
   refine bm (dD _ _ _ _) ?_
   rintro(_|_) g1
   rotate_left
   ·exact j9
   go_wp2_with fail
   refine bH (jB 2000000000 [b2,b3,b4] _ 3 (by simp) om om) ?_
   rintro(_|_) w1 g2 hb<;>((try replace hC:=hC.below hb);(try replace hC2:=hC2.below hb);(try replace hD:=hD.below hb);(try replace hM:=hM.below hb);replace hB:=ak hB hb;clear hb)
   rotate_left
   ·exact j9
   clear d0 d1 d2 d3 d4
   obtain⟨d0,d1,d2,d3,d4⟩:=aL hD
   have hn0:=aW.1 g0
   have hn1:=aW.1 g1
   obtain⟨l,hl⟩:=te (a:=b0) (b:=b1) (WalkArith.wf_i64 om) (WalkArith.wf_i64 om)
   have hlook:=hM.look jK underlying210 underlying4 (jw _) hl (λk=>(Q k 0==b0)&&(Q k 1==b1)) (λi _=>by rw[HKi.out i];simp)
   clear hn0 hn1
   have cc:=bA hC2
   cases ha:bI (λk=>(Q k 0==b0)&&(Q k 1==b1)) j with
   |true=>
    rw[ha]at hlook
    exact j9
   |false=>
    rw[ha]at hlook
    obtain⟨w3,hput,hM3,hgr⟩:=hM.put jK underlying210 underlying4 (by unfold cF;omega) hl hKj
    replace hC:=dg hC hgr (λg e=>by cases e;omega)
    replace hB:=hB.grown hgr hB.size (λj e=>by cases e;exact hmb)
    have HJ2:bj (aB (j8 nt from_ Q) np 0=aB (j8 nt from_ Q) (np - (j+1)) (j+1)):=by
     exact gM
    clear HF HQ ha hl
    exact vG
end
section
open Tryz
open Go.RowKit
theorem dt (n lo hi:Int) (w:aj):
  aC prog 123 #[M U n,M U lo,M U hi] w λe w'=>e=ar (aA (!aI n lo hi))/\w=w':=by
 go_enter func123,ntmps123
 exact iP
theorem oM (n:Int) (w:aj):
  aC prog 122 #[M U n] w λe w'=>e=ar (aA (!aI n 0 100000))/\w=w':=by
 go_enter func122,ntmps122
 exact vJ
theorem gi (n:Int) (w:aj):
  aC prog 198 #[M U n] w λe w'=>e=ar (aA (!aI n (-2000000000) 2000000000))/\w=w':=by
 go_enter func198,ntmps198
 exact vJ
theorem jU (from_ speed accel:Int) (nt:Nat) (N:Nat->ByteArray) (R:Nat->Nat->Int) (tv pv:aw) (w:aj) (hRt:aU w tv nt 6 (em N R)) (hN:∀i,i<nt->(N i).size<=9223372036854775806) (j:Nat) (hlt:j<nt) (hnt:nt<=1125899906842624):
  aC prog 124 #[aN #[M U from_,M U speed,M U accel,tv,pv],M U j] w λe w'=>e=ar (M U ((jT N R j).getD 0))/\ap w.heap.size w w':=by
 have i2:(j:Int)<(nt:Int):=om
 have hNj:=hN j hlt
 obtain⟨ta,tc,rfl,htc,hx⟩:=id hRt
 clear hx
 have HRt:=af hRt
 clear hRt
 obtain⟨W0,xb,HW0,hC,hB⟩:=eB w 63 #[M U from_,M U speed,M U accel,T ta nt tc,pv]
 obtain⟨q,hq⟩:∃q,q=jT N R j:=⟨_,rfl⟩
 rw[<-hq]
 unfold jT at hq
 have HQ:=af hq
 clear hq
 go_enter func124,ntmps124
 go_upto_region 1 with fail
 rw[HW0.out.1,HW0.out.2]
 clear HW0
 have xx:=aL hC
 obtain⟨bb,bo,rfl,bl,hc⟩:=(HRt.out.below hB).elem hlt
 have e0:W0.cell? ⟨bb,bo+j*6,ag⟩=ai (ay (N j)):=hc 0 om
 have e1:W0.cell? ⟨bb,bo+j*6+1,ag⟩=ai (M U (R j 1)):=hc 1 om
 have e2:W0.cell? ⟨bb,bo+j*6+2,ag⟩=ai (M U (R j 2)):=hc 2 om
 have e3:W0.cell? ⟨bb,bo+j*6+3,ag⟩=ai (M U (R j 3)):=hc 3 om
 have e4:W0.cell? ⟨bb,bo+j*6+4,ag⟩=ai (M U (R j 4)):=hc 4 om
 have e5:W0.cell? ⟨bb,bo+j*6+5,ag⟩=ai (M U (R j 5)):=hc 5 om
 clear hc
 generalize N j=b0 at *
 generalize R j 1=b1 at *
 generalize R j 2=b2 at *
 generalize R j 3=b3 at *
 generalize R j 4=b4 at *
 generalize R j 5=b5 at *
 go_upto_region 2 with fail
 obtain⟨w1,hW9,hD,hba⟩:=bW W0 206 #[ay b0,M U b1,M U b2,M U b3,M U b4,M U b5]
 rw[hW9.out]
 clear hW9
 (try replace hM:=cG.below hM hba)
 try replace hC:=hC.below hba
 replace hB:=ak hB hba
 generalize W0.heap.size=db at *
 have dd:=aH hD
 clear hba e0 e1 e2 e3 e4 e5
 go_wp2_with fail
 refine bm (dZ _ _ hNj) ?_
 rintro(_|_) gn
 ·exact di
 clear dd
 have dd:=aH hD
 have xx:=aL hC
 go_wp2_with fail
 clear xx
 clear dd
 go_loopw [6] (λi wr=>∃m:Nat,m<=j/\i=M U m/\bj (∀k,k<m->ej (N k) b0=false)/\am wr xb 63 #[M U from_,M U speed,M U accel,T (ai ⟨bb,bo,ag⟩) nt tc,pv]/\am wr db 206 #[ay b0,M U b1,M U b2,M U b3,M U b4,M U b5]/\ap w.heap.size w wr) (λi _=>j - (aV i).toNat)
 case atStart=>exact⟨0,aF _,rfl,show∀k,k<0->_ from(λk h=>absurd h om),hC,hD,hB⟩
 case round=>
  clear hC hD hB
  obtain⟨m,hm,rfl,HM,hC,hD,hB⟩:=hrel
  by_cases hl2:m<j
  rotate_left
  ·obtain rfl:j=m:=om
   have hA:=bT HM.out
   clear HM
   have dd:=aH hD
   go_wp2_with fail
   refine aR (dt _ _ _ _) ?_
   rintro(_|_) g0
   rotate_left
   ·exact di
   go_wp2_with fail
   refine aR (dt _ _ _ _) ?_
   rintro(_|_) g1
   rotate_left
   ·exact di
   go_wp2_with fail
   refine aR (dt _ _ _ _) ?_
   rintro(_|_) g2
   rotate_left
   ·exact di
   go_wp2_with fail
   refine aR (dt _ _ _ _) ?_
   rintro(_|_) g3
   rotate_left
   ·exact di
   go_wp2_with fail
   refine aR (dt _ _ _ _) ?_
   rintro(_|_) g4
   ·exact di
   exact di
  obtain⟨vb,vo,hq,-,hc⟩:=(HRt.out.below hB).elem (show m<nt by omega)
  obtain⟨rfl,rfl⟩:bb=vb/\bo=vo:=by simpa using hq
  have e0:wr.cell? ⟨bb,bo+m*6,ag⟩=ai (ay (N m)):=hc 0 om
  have HM2:=af (λh=>dS HM.out h)
  have HH:=af (λh=>cd (p:=λk=>ej (N k) b0) hl2 h)
  clear hc hq HM
  have i3:(m:Int)<(j:Int):=om
  have i4:(m:Int)<(nt:Int):=om
  have dd:=aH hD
  exact T8
theorem oU (from_ speed accel:Int) (nt np:Nat) (Q:Nat->Nat->Int) (ta:Option Addr) (tc:Nat) (pv:aw) (w:aj) (hRp:aU w pv np 5 (bw Q)) (j:Nat) (hlt:j<np) (hnt:nt<=1125899906842624) (hnp:np<=1125899906842624):
  aC prog 125 #[aN #[M U from_,M U speed,M U accel,T ta nt tc,pv],M U j] w λe w'=>e=ar (M U ((j8 nt from_ Q j).getD 0))/\ap w.heap.size w w':=by
 have i2:(j:Int)<(np:Int):=om
 have q1:=aD ((nt:Int) - 1) ⟨by omega,by omega⟩
 obtain⟨pa,pc,rfl,hpc,hx⟩:=id hRp
 clear hx
 have HRp:=af hRp
 clear hRp
 obtain⟨W0,xb,HW0,hC,hB⟩:=eB w 63 #[M U from_,M U speed,M U accel,T ta nt tc,T pa np pc]
 obtain⟨q,hq⟩:∃q,q=j8 nt from_ Q j:=⟨_,rfl⟩
 rw[<-hq]
 unfold j8 at hq
 have HQ:=af hq
 clear hq
 go_enter func125,ntmps125
 go_upto_region 1 with fail
 rw[HW0.out.1,HW0.out.2]
 clear HW0
 have xx:=aL hC
 obtain⟨bb,bo,rfl,bl,hc⟩:=(HRp.out.below hB).elem hlt
 have ee:=r5 hc
 simp only[bw,bq]at ee
 obtain⟨e0,e1,e2,e3,e4⟩:=ee
 clear hc
 generalize Q j 0=b0 at *
 generalize Q j 1=b1 at *
 generalize Q j 2=b2 at *
 generalize Q j 3=b3 at *
 generalize Q j 4=b4 at *
 go_upto_region 2 with fail
 obtain⟨w1,hW9,hD,hba⟩:=bW W0 212 #[M U b0,M U b1,M U b2,M U b3,M U b4]
 rw[hW9.out]
 clear hW9
 (try replace hM:=cG.below hM hba)
 try replace hC:=hC.below hba
 replace hB:=ak hB hba
 generalize W0.heap.size=db at *
 have dd:=aL hD
 clear hba e0 e1 e2 e3 e4
 clear xx
 have xx:=aL hC
 go_wp2_with fail
 refine aR (dt _ _ _ _) ?_
 rintro(_|_) g0
 rotate_left
 ·exact di
 go_wp2_with fail
 refine aR (dt _ _ _ _) ?_
 rintro(_|_) g1
 rotate_left
 ·exact di
 go_wp2_with fail
 refine aR (gi _ _) ?_
 rintro(_|_) g2
 rotate_left
 ·exact di
 go_wp2_with fail
 refine aR (gi _ _) ?_
 rintro(_|_) g3
 rotate_left
 ·exact di
 go_wp2_with fail
 refine aR (gi _ _) ?_
 rintro(_|_) g4
 rotate_left
 ·exact di
 go_wp2_with fail
 clear xx
 clear dd
 go_loopw [6] (λi wr=>∃m:Nat,m<=j/\i=M U m/\bj (∀k,k<m->((Q k 0==b0)&&(Q k 1==b1))=false)/\am wr xb 63 #[M U from_,M U speed,M U accel,T ta nt tc,T (ai ⟨bb,bo,ag⟩) np pc]/\am wr db 212 #[M U b0,M U b1,M U b2,M U b3,M U b4]/\ap w.heap.size w wr) (λi _=>j - (aV i).toNat)
 case atStart=>exact⟨0,aF _,rfl,show∀k,k<0->_ from(λk h=>absurd h om),hC,hD,hB⟩
 case round=>
  clear hC hD hB
  obtain⟨m,hm,rfl,HM,hC,hD,hB⟩:=hrel
  by_cases hl2:m<j
  rotate_left
  ·obtain rfl:j=m:=om
   have hA:=bT HM.out
   clear HM
   exact di
  obtain⟨vb,vo,hq,-,hc⟩:=(HRp.out.below hB).elem (show m<np by omega)
  obtain⟨rfl,rfl⟩:bb=vb/\bo=vo:=by simpa using hq
  have e0:wr.cell? ⟨bb,bo+m*5,ag⟩=ai (M U (Q m 0)):=hc 0 om
  have e1:wr.cell? ⟨bb,bo+m*5+1,ag⟩=ai (M U (Q m 1)):=hc 1 om
  have HM2:=af (λh=>dS (p:=λk=>(Q k 0==b0)&&(Q k 1==b1)) HM.out h)
  have HH:=af (λh=>cd (p:=λk=>(Q k 0==b0)&&(Q k 1==b1)) hl2 h)
  clear hc hq HM
  have i3:(m:Int)<(j:Int):=om
  have i4:(m:Int)<(np:Int):=om
  have dd:=aL hD
  have xx:=aL hC
  obtain⟨p0,hp0⟩:∃p0,p0=Q m 0:=⟨_,rfl⟩
  obtain⟨p1,hp1⟩:∃p1,p1=Q m 1:=⟨_,rfl⟩
  simp only[<-hp0,<-hp1]at HM2 HH e0 e1
  clear hp0 hp1
  go_upto_region 9 with fail
  cases h0:(p0==b0)
  ·go_quiet (fail)
   have hb:=aM (au wr.heap.size wr) nq
   try replace hC:=hC.below hb
   try replace hD:=hD.below hb
   try replace hM:=hM.below hb
   replace hB:=ak hB hb
   clear hb
   generalize wr.drewN nq=w2 at *
   clear e0 e1
   have hM1:=HM2.out (by rw[h0];rfl)
   exact T68
  cases h1:(p1==b1)
  rotate_left
  ·go_quiet (fail)
   have hb:=aM (au wr.heap.size wr) nq
   try replace hC:=hC.below hb
   try replace hD:=hD.below hb
   try replace hM:=hM.below hb
   replace hB:=ak hB hb
   clear hb
   generalize wr.drewN nq=w2 at *
   clear e0 e1
   have hA:=HH.out (by rw[h0,h1];rfl)
   clear HM2 HH h0 h1
   exact di
  go_quiet (fail)
  have hb:=aM (au wr.heap.size wr) nq
  try replace hC:=hC.below hb
  try replace hD:=hD.below hb
  try replace hM:=hM.below hb
  replace hB:=ak hB hb
  clear hb
  generalize wr.drewN nq=w2 at *
  clear e0 e1
  have hM1:=HM2.out (by rw[h0,h1];rfl)
  exact T68
theorem uL {N:Nat->ByteArray} {R:Nat->Nat->Int} {i:Nat}:∀e,jT N R i=ai e->e≠0:=by
 rintro _ h rfl;revert h;unfold jT;split<;>(try split)<;>(try split)<;>simp
theorem t7 {nt:Nat} {f:Int} {Q:Nat->Nat->Int} {i:Nat}:∀e,j8 nt f Q i=ai e->e≠0:=by
 rintro _ h rfl;revert h;unfold j8;split<;>(try split)<;>(try split)<;>simp
theorem lY (from_ speed accel:Int) (nt:Nat) (N:Nat->ByteArray) (R:Nat->Nat->Int) (np:Nat) (Q:Nat->Nat->Int) (tv pv:aw) (w:aj)
  (hRt:aU w tv nt 6 (em N R)) (hRp:aU w pv np 5 (bw Q)) (hN:∀i,i<nt->(N i).size<=9223372036854775806):
  aC prog 41 #[aN #[M U from_,M U speed,M U accel,tv,pv]] w (E3 w (uR from_ speed accel nt N R np Q)):=by
 obtain⟨ta,tc,rfl,htc,hx⟩:=id hRt
 have HRt:=af hRt
 clear hRt
 obtain⟨pa,pc,rfl,hpc,hx⟩:=id hRp
 have HRp:=af hRp
 clear hRp
 obtain⟨W0,xb,HW0,hC,hB⟩:=eB w 63 #[M U from_,M U speed,M U accel,T ta nt tc,T pa np pc]
 obtain⟨r,HS⟩:=dR (uR from_ speed accel nt N R np Q)
 rw[<-HS.out]
 have HN:=af hN
 clear hN
 go_enter func41,ntmps41
 go_upto_region 1 with fail
 rw[HW0.out.1,HW0.out.2]
 clear HW0
 have xx:=aL hC
 by_cases k1:5<nt
 ·go_wp2_with fail
  exact eU
 by_cases k2:60<np
 ·go_wp2_with fail
  exact eU
 go_wp2_with fail
 refine aR (oM _ _) ?_
 rintro(_|_) g0
 rotate_left
 ·go_wp2_with fail
  exact eU
 go_wp2_with fail
 refine aR (dt _ _ _ _) ?_
 rintro(_|_) g1
 rotate_left
 ·go_wp2_with fail
  exact eU
 go_wp2_with fail
 refine aR (dt _ _ _ _) ?_
 rintro(_|_) g2
 rotate_left
 ·go_wp2_with fail
  exact eU
 go_wp2_with fail
 go_loopw [5] (λi wr=>∃j:Nat,j<=nt/\i=M U j/\bj (aB (jT N R) nt 0=aB (jT N R) (nt - j) j)/\am wr xb 63 #[M U from_,M U speed,M U accel,T ta nt tc,T pa np pc]/\ap w.heap.size w wr) (λi _=>nt - (aV i).toNat)
 case atStart=>exact⟨0,aF _,rfl,show _=_ from rfl,hC,hB⟩
 case round=>
  clear hC hB
  obtain⟨j,hj,rfl,HJ,hC,hB⟩:=hrel
  by_cases hlt:j<nt
  ·have HF:=af (HJ.out.trans (bf (jT N R) hlt))
   have hz:=uL (N:=N) (R:=R) (i:=j)
   clear HJ
   have i2:(j:Int)<(nt:Int):=om
   have xx:=aL hC
   go_wp2_with fail
   refine aZ (jU _ _ _ nt N R _ _ _ (HRt.out.below hB) HN.out j hlt om) ?_
   intro w1 hb
   obtain⟨hC,hB⟩:=bS hC hB hb
   generalize jT N R j=q at HF hz⊢
   rcases q with _|e
   rotate_left
   ·exact T87
   have HJ2:bj (aB (jT N R) nt 0=aB (jT N R) (nt - (j+1)) (j+1)):=show _=_ from HF.out
   exact tQ
  obtain rfl:nt=j:=om
  have HE:=af (HJ.out.trans (bh (jT N R) nt))
  have hE:=HE.out
  clear HJ HE
  have xx:=aL hC
  go_wp2_with fail
  go_loopw [7] (λi wr=>∃j:Nat,j<=np/\i=M U j/\bj (aB (j8 nt from_ Q) np 0=aB (j8 nt from_ Q) (np - j) j)/\am wr xb 63 #[M U from_,M U speed,M U accel,T ta nt tc,T pa np pc]/\ap w.heap.size w wr) (λi _=>np - (aV i).toNat)
  case atStart=>exact⟨0,aF _,rfl,show _=_ from rfl,hC,hB⟩
  case round=>
   clear hC hB
   obtain⟨j,hj,rfl,HJ,hC,hB⟩:=hrel
   by_cases hlt:j<np
   rotate_left
   ·obtain rfl:np=j:=om
    have HE:=af (HJ.out.trans (bh (j8 nt from_ Q) np))
    have hE:=HE.out
    clear HJ HE
    have xx:=aL hC
    go_wp2_with fail
    exact eU
   have HF:=af (HJ.out.trans (bf (j8 nt from_ Q) hlt))
   have hz:=t7 (nt:=nt) (f:=from_) (Q:=Q) (i:=j)
   clear HJ
   have i2:(j:Int)<(np:Int):=om
   have xx:=aL hC
   go_wp2_with fail
   refine aZ (oU _ _ _ nt np Q _ _ _ _ (HRp.out.below hB) j hlt om om) ?_
   intro w1 hb
   obtain⟨hC,hB⟩:=bS hC hB hb
   generalize j8 nt from_ Q j=q at HF hz⊢
   rcases q with _|e
   rotate_left
   ·exact T87
   have HJ2:bj (aB (j8 nt from_ Q) np 0=aB (j8 nt from_ Q) (np - (j+1)) (j+1)):=show _=_ from HF.out
   exact tQ
end
end Go.Proofs.YtbpnallaifdcpaaGreatDoor
