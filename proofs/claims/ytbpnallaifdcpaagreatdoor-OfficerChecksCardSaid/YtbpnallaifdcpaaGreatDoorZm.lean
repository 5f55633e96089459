/- Parts of the proof. -/
import Derived.Test.YtbpnallaifdcpaaGreatDoorZj
import Derived.Test.YtbpnallaifdcpaaGreatDoorZk
set_option linter.unusedVariables false
set_option linter.unusedSimpArgs false
set_option maxRecDepth 100000
set_option maxHeartbeats 4000000
namespace Go.Proofs.YtbpnallaifdcpaaGreatDoor
open Go.Value renaming int→M
open Go.IntKind renaming i64→U
open Go.Value renaming slice→T,pointer→ax,string→ay,bool→aA,agg→aN
open Go.Lib renaming hid→af
open Option renaming none→ag,some→ai
open Go renaming World→aj,Value→aw,Calls→aC,below_drewN→aM
open Go.RowKit renaming Below→ap,intOf→aV,Hid→bj
open Go.Ending renaming returned→ar
open Go.RowKit.Below renaming refl→au
open Go.IntWalk renaming i64_in→aD
open Nat renaming zero_le→aF,lt_of_lt_of_le→aQ,le_refl→aY,add_zero→bq
open Go.World renaming block_lt_of_cell?→aG,size_alloc→bg
open Go.Code renaming wp→bi
section
open Tryz
open Go.RowKit Go.Shelf
attribute [local go_sem] Oper.semAt_some
theorem cV (n lo hi:Int) (w:aj):
  aC prog 90 #[M U n,M U lo,M U hi] w λe w'=>e=ar (aA (aI n lo hi))/\w=w':=by
 go_enter func90,ntmps90
 exact iP
theorem mw (f:FuncId) (eg:∀(args:Array aw) (w:aj),(callFunc f args).run prog w= .ok (.enter f args) w) (cs:Array aw) (n:Nat) (F:Nat->Nat->aw) (p:Nat->Bool) (v:aw) (w:aj) (hRr:aU w v n 1 F) (hn:n<=1125899906842624) (hF:∀(i:Nat) (W:aj),i<n->ap w.heap.size w W->aC prog f (#[F i 0]++cs) W λe w'=>e=ar (aA (p i))/\ap W.heap.size W w'):
  aC prog 356 #[v, .func (.func f) #[] cs] w λe w'=>e=ar (M U (cH p n 0))/\ap w.heap.size w w':=by
 obtain⟨ra,rc,rfl,hrc,hx⟩:=id hRr
 have HRr:=af hRr
 have HF:=af hF
 clear hRr hF
 go_enter func356,ntmps356
 exact T3
theorem fS (f:FuncId) (eg:∀(args:Array aw) (w:aj),(callFunc f args).run prog w= .ok (.enter f args) w) (cs:Array aw) (n:Nat) (F:Nat->Nat->aw) (p:Nat->Bool) (v:aw) (w:aj) (hRr:aU w v n 1 F) (hn:n<=1125899906842624) (hF:∀(i:Nat) (W:aj),i<n->ap w.heap.size w W->aC prog f (#[F i 0]++cs) W λe w'=>e=ar (aA (p i))/\ap W.heap.size W w'):
  aC prog 264 #[v, .func (.func f) #[] cs] w λe w'=>e=ar (aA (bI p n))/\ap w.heap.size w w':=by
 have HI:=af (mw f eg cs n F p v w hRr hn hF)
 have HK:=af (dp p n)
 obtain⟨ra,rc,rfl,hrc,hx⟩:=id hRr
 clear hRr hF hx
 go_enter func264,ntmps264
 exact vn
def ia (many:Int) (R:Nat->Int) (n:Nat):Bool:=bI (λi=>aI (R i) 0 (many - 1)) n
def gD (R:Nat->Int) (n:Nat):Bool:=bI (λi=>decide (0<i)&&decide (R i<=R (i - 1))) n
theorem iS (many n:Int) (b:Nat) (w:aj) (hm:-1000000000<=many/\many<=1000000000) (h:w.cell? ⟨b,0,ag⟩=ai (M U many)):
  aC prog 266 #[M U n,ax (ai ⟨b,0,ag⟩)] w λe w'=>e=ar (aA (aI n 0 (many - 1)))/\ap w.heap.size w w':=by
 have hw:=aD (many - 1) ⟨by omega,by omega⟩
 go_enter func266,ntmps266
 go_wp2_with fail
 refine eH (cV _ _ _ _) ?_
 exact mE
theorem jM (many:Int) (b n:Nat) (R:Nat->Int) (v:aw) (w:aj) (hm:-1000000000<=many/\many<=1000000000) (h:w.cell? ⟨b,0,ag⟩=ai (M U many)) (hR:aU w v n 1 (bw λi _=>R i)) (hn:n<=1125899906842624):
  aC prog 265 #[v,ax (ai ⟨b,0,ag⟩)] w λe w'=>e=ar (aA (ia many R n))/\ap w.heap.size w w':=by
 have hl:=aG w _ h
 have HC:=af (eJ 266 (λ_ _=>by kernel_rfl) n (λi _=>R i) (λi=>aI (R i) 0 (many - 1)) v (ax (ai ⟨b,0,ag⟩)) w hR hn (λi W _ hb=>iS many _ b W hm ((hb.cell (p:=⟨b,0,ag⟩) hl).trans h)))
 obtain⟨a,c,rfl,hac,hx⟩:=hR
 go_enter func265,ntmps265
 exact rE
structure kx (w:aj) (v:aw) (m:Nat) (F:Nat->Nat->aw) (L:Nat->Nat) (R:Nat->Nat->Int):Prop where
 r:aU w v m 1 F
 s:∀j,j<m->aU w (F j 0) (L j) 1 (bw λi _=>R j i)/\L j<=1125899906842624
theorem kx.below {w w':aj} {v:aw} {m:Nat} {F:Nat->Nat->aw} {L:Nat->Nat} {R:Nat->Nat->Int} (h:kx w v m F L R) (hb:ap w.heap.size w w'):kx w' v m F L R:=⟨h.r.below hb,λj hj=>⟨(h.s j hj).1.below hb,(h.s j hj).2⟩⟩
theorem gF (many:Int) (m:Nat) (F:Nat->Nat->aw) (L:Nat->Nat) (R:Nat->Nat->Int) (v:aw) (w:aj) (hm:-1000000000<=many/\many<=1000000000) (hR:kx w v m F L R) (hn:m<=1125899906842624):
  aC prog 173 #[M U many,v] w λe w'=>e=ar (aA (bI (λj=>ia many (R j) (L j)) m))/\ap w.heap.size w w':=by
 obtain⟨W0,hW0⟩:∃W0,w.alloc (.cells #[M U many] 3)=W0:=⟨_,rfl⟩
 have hC:am W0 w.heap.size 3 #[M U many]:=by rw[<-hW0];exact aK _ _
 have hB:ap w.heap.size w W0:=by rw[<-hW0];exact aP (au _ _) _
 have hR2:=hR.below hB
 have hl:=hC.lt
 have HC:=af (fS 265 (λ_ _=>by kernel_rfl) #[ax (ai ⟨w.heap.size,0,ag⟩)] m F (λj=>ia many (R j) (L j)) v W0 hR2.r hn (λj W hj hb=>jM many w.heap.size (L j) (R j) _ W hm ((hb.cell (p:=⟨w.heap.size,0,ag⟩) hl).trans (hC.cell 0)) ((hR2.s j hj).1.below hb) (hR2.s j hj).2))
 obtain⟨a,c,rfl,hac,hx⟩:=hR2.r
 have HW0:=af hW0
 clear hx hW0 hR hR2 hC hl
 go_enter func173,ntmps173
 go_upto_region 1 with fail
 rw[HW0.out]
 go_wp2_with fail
 refine aZ HC.out ?_
 intro w1 hb
 go_wp2_with fail
 go_ret
 exact⟨rfl,ak hB hb⟩
theorem lI (n:Nat) (R:Nat->Int) (v:aw) (w:aj) (hR:aU w v n 1 (bw λi _=>R i)) (hn:n<=1125899906842624):
  aC prog 267 #[v] w λe w'=>e=ar (aA (gD R n))/\ap w.heap.size w w':=by
 obtain⟨a,c,rfl,hac,hx⟩:=id hR
 have HRr:=af hR
 obtain⟨r,HS⟩:=dR (gD R n)
 rw[<-HS.out]
 clear hR
 go_enter func267,ntmps267
 go_wp2_with fail
 go_loopw [6] (λi wr=>∃j:Nat,j<=n/\i=M U j/\bj (∀i,i<j->(decide (0<i)&&decide (R i<=R (i - 1)))=false)/\ap w.heap.size w wr) (λi _=>n - (aV i).toNat)
 case atStart=>exact⟨0,aF _,rfl,show∀i,i<0->_ from(λk h=>absurd h om),au _ _⟩
 case round=>
  obtain⟨j,hj,rfl,HJ,hB⟩:=hrel
  by_cases hlt:j<n
  rotate_left
  ·obtain rfl:j=n:=om
   have hA:=bT HJ.out
   clear HJ
   go_wp2_with fail
   go_ret
   exact⟨bt (by rw[HS.out];exact hA.symm),hB⟩
  have HN:=af (λh=>dS (p:=λi=>decide (0<i)&&decide (R i<=R (i - 1))) (m:=j) HJ.out h)
  have HH:=af (λh=>cd (p:=λi=>decide (0<i)&&decide (R i<=R (i - 1))) hlt h)
  clear HJ
  obtain⟨bb,bo,rfl,bl,hc⟩:=(HRr.out.below hB).elem hlt
  have e0:wr.cell? ⟨bb,bo+j,ag⟩=ai (M U (R j)):=eI hc
  have i2:(j:Int)<(n:Int):=om
  by_cases h0:0<j
  rotate_left
  ·obtain rfl:j=0:=om
   have HN2:=af (HN.out rfl)
   clear HN HH hc
   go_upto_region 4 with fail
   go_quiet (fail)
   have hb:=aM (au wr.heap.size wr) nq
   replace hB:=ak hB hb
   generalize wr.drewN nq=w2 at *
   go_wp2_with fail
   go_roundw
   case rel=>exact⟨0+1,by omega,by go_num,HN2,hB⟩
   case measure=>simp[aV];omega
  obtain⟨k,rfl⟩:∃k,j=k+1:=⟨j - 1,by omega⟩
  obtain⟨b2,o2,hq,-,hc2⟩:=(HRr.out.below hB).elem (show k<n by omega)
  obtain⟨rfl,rfl⟩:bb=b2/\bo=o2:=by simpa using hq
  have e1:wr.cell? ⟨bb,bo+k,ag⟩=ai (M U (R k)):=eI hc2
  have hk1:(((k+1:Nat):Int) - 1)=(k:Int):=om
  have hk2:=aD (((k+1:Nat):Int) - 1) ⟨by omega,by omega⟩
  have hk3:(0:Int)<((k+1:Nat):Int):=om
  have hk4:decide ((0:Int)<((k+1:Nat):Int))=true:=decide_eq_true om
  have i3:(k:Int)<(n:Int):=om
  have HQ:bj ((decide (0<k+1)&&decide (R (k+1)<=R (k+1 - 1)))=decide (R (k+1)<=R k)):=show _=_ by simp
  cases hle:decide (R (k+1)<=R k)
  rotate_left
  ·have HA:=af (HH.out (HQ.out.trans hle))
   clear HN HH HQ
   go_upto_region 4 with fail
   go_quiet (fail)
   have hb:=aM (au wr.heap.size wr) nq
   replace hB:=ak hB hb
   generalize wr.drewN nq=w2 at *
   go_wp2_with fail
   go_ret
   exact⟨bt (by rw[HS.out];exact HA.out.symm),hB⟩
  have HN2:=af (HN.out (HQ.out.trans hle))
  clear HN HH HQ
  go_upto_region 4 with fail
  go_quiet (fail)
  have hb:=aM (au wr.heap.size wr) nq
  replace hB:=ak hB hb
  generalize wr.drewN nq=w2 at *
  go_wp2_with fail
  go_roundw
  case rel=>exact⟨k+1+1,by omega,by go_num,HN2,hB⟩
  case measure=>simp[aV];omega
end
section
open Tryz
open Go.RowKit Go.Shelf
attribute [local go_sem] Oper.semAt_some
def eR (N:Nat->ByteArray) (i:Nat):Int:=if !dq (N i).data.toList then 6 else if bI (λk=>ej (N k) (N i)) i then 5 else 0
theorem nZ (f:FuncId) (eg:∀(args:Array aw) (w:aj),(callFunc f args).run prog w= .ok (.enter f args) w) (cs:Array aw) (n:Nat) (F:Nat->Nat->aw) (p:Nat->Bool) (v:aw) (w:aj) (hRr:aU w v n 1 F) (hn:n<=1125899906842624) (hF:∀(i:Nat) (W:aj),i<n->ap w.heap.size w W->aC prog f (#[F i 0]++cs) W λe w'=>e=ar (aA (p i))/\ap W.heap.size W w'):
  aC prog 260 #[v, .func (.func f) #[] cs] w λe w'=>e=ar (M U (cH p n 0))/\ap w.heap.size w w':=by
 obtain⟨ra,rc,rfl,hrc,hx⟩:=id hRr
 have HRr:=af hRr
 have HF:=af hF
 clear hRr hF
 go_enter func260,ntmps260
 exact T3
theorem jP (f:FuncId) (eg:∀(args:Array aw) (w:aj),(callFunc f args).run prog w= .ok (.enter f args) w) (cs:Array aw) (n:Nat) (F:Nat->Nat->aw) (p:Nat->Bool) (v:aw) (w:aj) (hRr:aU w v n 1 F) (hn:n<=1125899906842624) (hF:∀(i:Nat) (W:aj),i<n->ap w.heap.size w W->aC prog f (#[F i 0]++cs) W λe w'=>e=ar (aA (p i))/\ap W.heap.size W w'):
  aC prog 167 #[v, .func (.func f) #[] cs] w λe w'=>e=ar (aA (bI p n))/\ap w.heap.size w w':=by
 have HI:=af (nZ f eg cs n F p v w hRr hn hF)
 have HK:=af (dp p n)
 obtain⟨ra,rc,rfl,hrc,hx⟩:=id hRr
 clear hRr hF hx
 go_enter func167,ntmps167
 exact vn
theorem qe (nf:FuncId) (eg:∀(args:Array aw) (w:aj),(callFunc nf args).run prog w= .ok (.enter nf args) w) (fb lb ib:Nat) (n i c:Nat) (a:Option Addr) (F:Nat->Nat->aw) (x0:aw) (nx:ByteArray) (N:Nat->ByteArray) (w:aj) (h1:w.cell? ⟨fb,0,ag⟩=ai (.func (.func nf) #[] #[])) (h2:w.cell? ⟨lb,0,ag⟩=ai (T a n c)) (h3:w.cell? ⟨ib,0,ag⟩=ai (M U i)) (hR:aU w (T a n c) n 1 F) (hi:i<n)
  (hX:∀W,ap w.heap.size w W->aC prog nf #[x0] W λe w'=>e=ar (ay (nx))/\ap W.heap.size W w') (hG:∀W,ap w.heap.size w W->aC prog nf #[F i 0] W λe w'=>e=ar (ay (N i))/\ap W.heap.size W w'):
  aC prog 168 #[x0,ax (ai ⟨fb,0,ag⟩),ax (ai ⟨lb,0,ag⟩),ax (ai ⟨ib,0,ag⟩)] w λe w'=>e=ar (aA (ej nx (N i)))/\ap w.heap.size w w':=by
 have hl1:=aG w _ h1
 have hl2:=aG w _ h2
 have hl3:=aG w _ h3
 obtain⟨W0,hW0⟩:∃W0,w=W0:=⟨_,rfl⟩
 have hB:ap w.heap.size w W0:=by rw[<-hW0];exact au _ _
 have HX:=af (λW (h:ap W0.heap.size W0 W)=>hX W (ak hB h))
 have HG:=af (λW (h:ap W0.heap.size W0 W)=>hG W (ak hB h))
 obtain⟨bb,bo,rfl,bl,hc⟩:=(hR.below hB).elem hi
 have e0:W0.cell? ⟨bb,bo+i,ag⟩=ai (F i 0):=eI hc
 replace h1:=(hB.cell (p:=⟨fb,0,ag⟩) hl1).trans h1
 replace hl1:=aQ hl1 hB.size
 replace h2:=(hB.cell (p:=⟨lb,0,ag⟩) hl2).trans h2
 replace hl2:=aQ hl2 hB.size
 replace h3:=(hB.cell (p:=⟨ib,0,ag⟩) hl3).trans h3
 replace hl3:=aQ hl3 hB.size
 have HR:=af λw' (hb:ap W0.heap.size W0 w')=>tD (kp h1 hb) (kp h2 hb) (kp h3 hb) (kp e0 hb)
 have hBd:ap W0.heap.size W0 W0.drew:=(au _ _).drew
 have i2:(i:Int)<(n:Int):=om
 have HW0:=af hW0
 clear hX hG hR h1 h2 h3 hW0 e0
 go_enter func168,ntmps168
 go_upto_region 1 with fail
 rw[HW0.out]
 clear HW0
 refine bV hBd ?_
 refine br 0 hBd ?_
 refine br 1 hBd ?_
 refine br 3 hBd ?_
 refine br 4 hBd ?_
 refine br 5 hBd ?_
 refine br 6 hBd ?_
 refine br 7 hBd ?_
 refine cL 2 (λK' hK'=>?_)
 refine aZ (HX.out _ hBd) ?_
 intro w1 hb
 have hB1:=ak hBd hb
 refine bO hK' hB1 ?_
 clear hK' K'
 refine cL 8 (λK' hK'=>?_)
 refine aZ (HG.out _ hB1) ?_
 intro w2 hb
 have hB2:=ak hB1 hb
 refine bO hK' hB2 ?_
 clear hK' K'
 refine br 9 hB2 ?_
 refine br 10 hB2 ?_
 refine wpAnyH_done kr ?_ _
 (try simp only[Exit.then])
 (try refine‹∀(a:Act) (w:aj),bi prog _ _ a w->_› _ _ ?_)
 go_wp2_with fail
 go_ret
 exact⟨rfl,ak hB hB2⟩
theorem oh (nf:FuncId) (eg:∀(args:Array aw) (w:aj),(callFunc nf args).run prog w= .ok (.enter nf args) w) (n i:Nat) (F:Nat->Nat->aw) (N:Nat->ByteArray) (v:aw) (w:aj) (hR:aU w v n 1 F) (hn:n<=1125899906842624) (hi:i<n) (hN:∀i,i<n->(N i).size<=9223372036854775806)
  (hG:∀i W,i<n->ap w.heap.size w W->aC prog nf #[F i 0] W λe w'=>e=ar (ay (N i))/\ap W.heap.size W w'):
  aC prog 91 #[v,M U i, .func (.func nf) #[] #[]] w λe w'=>e=ar (M U (eR N i))/\ap w.heap.size w w':=by
 obtain⟨a,c,rfl,hac,hx⟩:=id hR
 obtain⟨r,HS⟩:=dR (eR N i)
 rw[<-HS.out]
 obtain⟨W0,hW0⟩:∃W0,((w.alloc (.cells #[T a n c] 52)).alloc (.cells #[M U i] 3)).alloc (.cells #[.func (.func nf) #[] #[]] 198)=W0:=⟨_,rfl⟩
 have h2:W0.cell? ⟨w.heap.size,0,ag⟩=ai (T a n c):=by rw[<-hW0];exact((am.below (am.below (aK w _) (aP (au _ _) _)) (aP (au _ _) _)):am _ _ 52 #[T a n c]).cell 0
 have h3:W0.cell? ⟨w.heap.size+1,0,ag⟩=ai (M U i):=by
  rw[<-hW0]
  have h:=aK (w.alloc (.cells #[T a n c] 52)) (.cells #[M U i] 3)
  exact uv
 have h1:W0.cell? ⟨w.heap.size+2,0,ag⟩=ai (.func (.func nf) #[] #[]):=by
  rw[<-hW0]
  have h:am _ _ 198 #[.func (.func nf) #[] #[]]:=aK ((w.alloc (.cells #[T a n c] 52)).alloc (.cells #[M U i] 3)) (.cells #[.func (.func nf) #[] #[]] 198)
  simp only[bg]at h
  exact h.cell 0
 have hB:ap w.heap.size w W0:=by rw[<-hW0];exact aP (aP (aP (au _ _) _) _) _
 have HG:=af (λi W hi (h:ap W0.heap.size W0 W)=>hG i W hi (ak hB h))
 have HRr:=af (hR.below hB)
 have hNi:=hN i hi
 have hl1:=aG W0 _ h1
 have hl2:=aG W0 _ h2
 have hl3:=aG W0 _ h3
 obtain⟨bb,bo,rfl,bl,hc⟩:=(HRr.out).elem hi
 have e0:W0.cell? ⟨bb,bo+i,ag⟩=ai (F i 0):=eI hc
 have HW0:=af hW0
 clear hW0 hG hR hN
 have HGi:=af (λW h=>HG.out i W hi h)
 generalize hNe:N i=ni at *
 have HNE:=af hNe
 clear hNe
 generalize F i 0=b0 at *
 go_enter func91,ntmps91
 go_upto_region 1 with fail
 rw[HW0.out]
 obtain⟨xb,hxe⟩:=bY w.heap.size
 rw[<-hxe]at h1 h2 h3 hl1 hl2 hl3⊢
 obtain⟨yb,hye⟩:=bY (xb+1)
 obtain⟨zb,hze⟩:∃x,x=xb+2:=⟨_,rfl⟩
 (try rw[show xb+1+1=xb+2 from rfl])
 rw[<-hye]at h3 hl3⊢
 rw[<-hze]at h1 hl1⊢
 clear hxe hye hze HW0
 have i2:(i:Int)<(n:Int):=om
 have HR:=af λw' (hb:ap W0.heap.size W0 w')=>tD (kp h1 hb) (kp h2 hb) (kp h3 hb) (kp e0 hb)
 have hBd:ap W0.heap.size W0 W0.drew:=(au _ _).drew
 refine bV hBd ?_
 refine K3 ?_
 refine cL 5 (λK' hK'=>?_)
 refine aZ (HGi.out _ hBd) ?_
 intro w1 hb
 have hB1:=ak hBd hb
 refine bO hK' hB1 ?_
 clear hK' K'
 refine cL 6 (λK' hK'=>?_)
 refine bH (cS _ _ hNi) ?_
 rintro(_|_) w2 g1 hb
 ·exact T25
 have hB2:=ak hB1 hb
 refine bO hK' hB2 ?_
 clear hK' K'
 refine br 7 hB2 ?_
 refine br 8 hB2 ?_
 refine wpAnyH_done kr ?_ _
 (try simp only[Exit.then])
 (try refine‹∀(a:Act) (w:aj),bi prog _ _ a w->_› _ _ ?_)
 have HRr2:=af (HRr.out.below hB2)
 obtain⟨h1,h2,h3,-⟩:=HR.out _ hB2
 have HCL:=af (λ(k:Nat) (W:aj) (hk:k<i) (h:ap w2.heap.size w2 W)=>qe nf eg zb xb yb n i c _ F (F k 0) (N k) N W ((h.cell (p:=⟨zb,0,ag⟩) (aQ hl1 hB2.size)).trans h1) ((h.cell (p:=⟨xb,0,ag⟩) (aQ hl2 hB2.size)).trans h2) ((h.cell (p:=⟨yb,0,ag⟩) (aQ hl3 hB2.size)).trans h3) (HRr2.out.below h) hi (λW2 h4=>HG.out k W2 om (ak hB2 (ak h h4))) (λW2 h4=>HG.out i W2 hi (ak hB2 (ak h h4))))
 have HT:=af (HRr2.out.take (Nat.le_of_lt hi))
 go_wp2_with fail
 refine bH (jP 168 (λ_ _=>by kernel_rfl) #[ax (ai ⟨zb,0,ag⟩),ax (ai ⟨xb,0,ag⟩),ax (ai ⟨yb,0,ag⟩)] i F (λk=>ej (N k) (N i)) _ _ HT.out om (λk W hk h=>HCL.out k W hk h)) ?_
 exact T27
theorem oF (f:FuncId) (eg:∀(args:Array aw) (w:aj),(callFunc f args).run prog w= .ok (.enter f args) w) (cs:Array aw) (n:Nat) (F:Nat->Nat->aw) (p:Nat->Bool) (v:aw) (w:aj) (hRr:aU w v n 3 F) (hn:n<=1125899906842624) (hF:∀(i:Nat) (W:aj),i<n->ap w.heap.size w W->aC prog f (#[aN #[F i 0,F i 1,F i 2]]++cs) W λe w'=>e=ar (aA (p i))/\ap W.heap.size W w'):
  aC prog 261 #[v, .func (.func f) #[] cs] w λe w'=>e=ar (M U (cH p n 0))/\ap w.heap.size w w':=by
 obtain⟨ra,rc,rfl,hrc,hx⟩:=id hRr
 have HRr:=af hRr
 have HF:=af hF
 clear hRr hF
 go_enter func261,ntmps261
 go_wp2_with fail
 go_loopw [8] (λi wr=>∃j:Nat,j<=n/\i=M U j/\ap w.heap.size w wr/\bj (cH p n 0=cH p (n - j) j)) (λi _=>n - (aV i).toNat)
 case atStart=>exact⟨0,aF _,rfl,au _ _,rfl⟩
 case round=>
  obtain⟨j,hj,rfl,hB,HI⟩:=hrel
  by_cases hlt:j<n
  rotate_left
  ·exact mv
  have HC:=af (λW (h:ap w.heap.size w W)=>HF.out j W hlt h)
  have HS:=af (dj p hlt)
  obtain⟨bb,bo,rfl,bl,hc⟩:=(HRr.out.below hB).elem hlt
  have e0:wr.cell? ⟨bb,bo+j*3,ag⟩=ai (F j 0):=hc 0 om
  have e1:wr.cell? ⟨bb,bo+j*3+1,ag⟩=ai (F j 1):=hc 1 om
  have e2:wr.cell? ⟨bb,bo+j*3+2,ag⟩=ai (F j 2):=hc 2 om
  exact T20
theorem jR (f:FuncId) (eg:∀(args:Array aw) (w:aj),(callFunc f args).run prog w= .ok (.enter f args) w) (cs:Array aw) (n:Nat) (F:Nat->Nat->aw) (p:Nat->Bool) (v:aw) (w:aj) (hRr:aU w v n 3 F) (hn:n<=1125899906842624) (hF:∀(i:Nat) (W:aj),i<n->ap w.heap.size w W->aC prog f (#[aN #[F i 0,F i 1,F i 2]]++cs) W λe w'=>e=ar (aA (p i))/\ap W.heap.size W w'):
  aC prog 169 #[v, .func (.func f) #[] cs] w λe w'=>e=ar (aA (bI p n))/\ap w.heap.size w w':=by
 have HI:=af (oF f eg cs n F p v w hRr hn hF)
 have HK:=af (dp p n)
 obtain⟨ra,rc,rfl,hrc,hx⟩:=id hRr
 clear hRr hF hx
 go_enter func169,ntmps169
 exact vn
theorem py (nf:FuncId) (eg:∀(args:Array aw) (w:aj),(callFunc nf args).run prog w= .ok (.enter nf args) w) (fb lb ib:Nat) (n i c:Nat) (a:Option Addr) (F:Nat->Nat->aw) (x0 x1 x2:aw) (nx:ByteArray) (N:Nat->ByteArray) (w:aj) (h1:w.cell? ⟨fb,0,ag⟩=ai (.func (.func nf) #[] #[])) (h2:w.cell? ⟨lb,0,ag⟩=ai (T a n c)) (h3:w.cell? ⟨ib,0,ag⟩=ai (M U i)) (hR:aU w (T a n c) n 3 F) (hi:i<n)
  (hX:∀W,ap w.heap.size w W->aC prog nf #[aN #[x0,x1,x2]] W λe w'=>e=ar (ay (nx))/\ap W.heap.size W w') (hG:∀W,ap w.heap.size w W->aC prog nf #[aN #[F i 0,F i 1,F i 2]] W λe w'=>e=ar (ay (N i))/\ap W.heap.size W w'):
  aC prog 170 #[aN #[x0,x1,x2],ax (ai ⟨fb,0,ag⟩),ax (ai ⟨lb,0,ag⟩),ax (ai ⟨ib,0,ag⟩)] w λe w'=>e=ar (aA (ej nx (N i)))/\ap w.heap.size w w':=by
 have hl1:=aG w _ h1
 have hl2:=aG w _ h2
 have hl3:=aG w _ h3
 obtain⟨W0,hW0⟩:∃W0,w.alloc (.cells #[x0,x1,x2] 200)=W0:=⟨_,rfl⟩
 have hC:am W0 w.heap.size 200 #[x0,x1,x2]:=by rw[<-hW0];exact aK _ _
 have hB:ap w.heap.size w W0:=by rw[<-hW0];exact aP (au _ _) _
 have hxl:=hC.lt
 have HX:=af (λW (h:ap W0.heap.size W0 W)=>hX W (ak hB h))
 have HG:=af (λW (h:ap W0.heap.size W0 W)=>hG W (ak hB h))
 obtain⟨bb,bo,rfl,bl,hc⟩:=(hR.below hB).elem hi
 have e0:W0.cell? ⟨bb,bo+i*3,ag⟩=ai (F i 0):=hc 0 om
 have e1:W0.cell? ⟨bb,bo+i*3+1,ag⟩=ai (F i 1):=hc 1 om
 have e2:W0.cell? ⟨bb,bo+i*3+2,ag⟩=ai (F i 2):=hc 2 om
 replace h1:=(hB.cell (p:=⟨fb,0,ag⟩) hl1).trans h1
 replace hl1:=aQ hl1 hB.size
 replace h2:=(hB.cell (p:=⟨lb,0,ag⟩) hl2).trans h2
 replace hl2:=aQ hl2 hB.size
 replace h3:=(hB.cell (p:=⟨ib,0,ag⟩) hl3).trans h3
 replace hl3:=aQ hl3 hB.size
 have HR:=af λw' (hb:ap W0.heap.size W0 w')=>an9 (kp h1 hb) (kp h2 hb) (kp h3 hb) (kp e0 hb) (kp e1 hb) (kp e2 hb) (kp (hC.cell 0) hb) (kp (hC.cell 1) hb) (kp (hC.cell 2) hb)
 have hBd:ap W0.heap.size W0 W0.drew:=(au _ _).drew
 have i2:(i:Int)<(n:Int):=om
 obtain⟨xb,hxe⟩:=bY w.heap.size
 rw[<-hxe]at HR hC hxl
 have HW0:=af hW0
 clear hX hG hR h1 h2 h3 hW0 e0 e1 e2 hC
 go_enter func170,ntmps170
 exact T7
theorem n9 (nf:FuncId) (eg:∀(args:Array aw) (w:aj),(callFunc nf args).run prog w= .ok (.enter nf args) w) (n i:Nat) (F:Nat->Nat->aw) (N:Nat->ByteArray) (v:aw) (w:aj) (hR:aU w v n 3 F) (hn:n<=1125899906842624) (hi:i<n) (hN:∀i,i<n->(N i).size<=9223372036854775806)
  (hG:∀i W,i<n->ap w.heap.size w W->aC prog nf #[aN #[F i 0,F i 1,F i 2]] W λe w'=>e=ar (ay (N i))/\ap W.heap.size W w'):
  aC prog 93 #[v,M U i, .func (.func nf) #[] #[]] w λe w'=>e=ar (M U (eR N i))/\ap w.heap.size w w':=by
 obtain⟨a,c,rfl,hac,hx⟩:=id hR
 obtain⟨r,HS⟩:=dR (eR N i)
 rw[<-HS.out]
 obtain⟨W0,hW0⟩:∃W0,((w.alloc (.cells #[T a n c] 56)).alloc (.cells #[M U i] 3)).alloc (.cells #[.func (.func nf) #[] #[]] 202)=W0:=⟨_,rfl⟩
 have h2:W0.cell? ⟨w.heap.size,0,ag⟩=ai (T a n c):=by rw[<-hW0];exact((am.below (am.below (aK w _) (aP (au _ _) _)) (aP (au _ _) _)):am _ _ 56 #[T a n c]).cell 0
 have h3:W0.cell? ⟨w.heap.size+1,0,ag⟩=ai (M U i):=by
  rw[<-hW0]
  have h:=aK (w.alloc (.cells #[T a n c] 56)) (.cells #[M U i] 3)
  exact uv
 have h1:W0.cell? ⟨w.heap.size+2,0,ag⟩=ai (.func (.func nf) #[] #[]):=by
  rw[<-hW0]
  have h:am _ _ 202 #[.func (.func nf) #[] #[]]:=aK ((w.alloc (.cells #[T a n c] 56)).alloc (.cells #[M U i] 3)) (.cells #[.func (.func nf) #[] #[]] 202)
  simp only[bg]at h
  exact h.cell 0
 have hB:ap w.heap.size w W0:=by rw[<-hW0];exact aP (aP (aP (au _ _) _) _) _
 have HG:=af (λi W hi (h:ap W0.heap.size W0 W)=>hG i W hi (ak hB h))
 have HRr:=af (hR.below hB)
 have hNi:=hN i hi
 have hl1:=aG W0 _ h1
 have hl2:=aG W0 _ h2
 have hl3:=aG W0 _ h3
 obtain⟨bb,bo,rfl,bl,hc⟩:=(HRr.out).elem hi
 have e0:W0.cell? ⟨bb,bo+i*3,ag⟩=ai (F i 0):=hc 0 om
 have e1:W0.cell? ⟨bb,bo+i*3+1,ag⟩=ai (F i 1):=hc 1 om
 have e2:W0.cell? ⟨bb,bo+i*3+2,ag⟩=ai (F i 2):=hc 2 om
 have HW0:=af hW0
 clear hW0 hG hR hN
 have HGi:=af (λW h=>HG.out i W hi h)
 generalize hNe:N i=ni at *
 have HNE:=af hNe
 clear hNe
 generalize F i 0=b0 at *
 generalize F i 1=b1 at *
 generalize F i 2=b2 at *
 go_enter func93,ntmps93
 go_upto_region 1 with fail
 rw[HW0.out]
 obtain⟨xb,hxe⟩:=bY w.heap.size
 rw[<-hxe]at h1 h2 h3 hl1 hl2 hl3⊢
 obtain⟨yb,hye⟩:=bY (xb+1)
 obtain⟨zb,hze⟩:∃x,x=xb+2:=⟨_,rfl⟩
 (try rw[show xb+1+1=xb+2 from rfl])
 rw[<-hye]at h3 hl3⊢
 rw[<-hze]at h1 hl1⊢
 clear hxe hye hze HW0
 have i2:(i:Int)<(n:Int):=om
 have HR:=af λw' (hb:ap W0.heap.size W0 w')=>an6 (kp h1 hb) (kp h2 hb) (kp h3 hb) (kp e0 hb) (kp e1 hb) (kp e2 hb)
 have hBd:ap W0.heap.size W0 W0.drew:=(au _ _).drew
 refine bV hBd ?_
 refine K3 ?_
 refine cL 5 (λK' hK'=>?_)
 refine aZ (HGi.out _ hBd) ?_
 intro w1 hb
 have hB1:=ak hBd hb
 refine bO hK' hB1 ?_
 clear hK' K'
 refine cL 6 (λK' hK'=>?_)
 refine bH (cS _ _ hNi) ?_
 rintro(_|_) w2 g1 hb
 ·exact T25
 have hB2:=ak hB1 hb
 refine bO hK' hB2 ?_
 clear hK' K'
 refine br 7 hB2 ?_
 refine br 8 hB2 ?_
 refine wpAnyH_done kr ?_ _
 (try simp only[Exit.then])
 (try refine‹∀(a:Act) (w:aj),bi prog _ _ a w->_› _ _ ?_)
 have HRr2:=af (HRr.out.below hB2)
 obtain⟨h1,h2,h3,-⟩:=HR.out _ hB2
 have HCL:=af (λ(k:Nat) (W:aj) (hk:k<i) (h:ap w2.heap.size w2 W)=>py nf eg zb xb yb n i c _ F (F k 0) (F k 1) (F k 2) (N k) N W ((h.cell (p:=⟨zb,0,ag⟩) (aQ hl1 hB2.size)).trans h1) ((h.cell (p:=⟨xb,0,ag⟩) (aQ hl2 hB2.size)).trans h2) ((h.cell (p:=⟨yb,0,ag⟩) (aQ hl3 hB2.size)).trans h3) (HRr2.out.below h) hi (λW2 h4=>HG.out k W2 om (ak hB2 (ak h h4))) (λW2 h4=>HG.out i W2 hi (ak hB2 (ak h h4))))
 have HT:=af (HRr2.out.take (Nat.le_of_lt hi))
 go_wp2_with fail
 refine bH (jR 170 (λ_ _=>by kernel_rfl) #[ax (ai ⟨zb,0,ag⟩),ax (ai ⟨xb,0,ag⟩),ax (ai ⟨yb,0,ag⟩)] i F (λk=>ej (N k) (N i)) _ _ HT.out om (λk W hk h=>HCL.out k W hk h)) ?_
 exact T27
theorem oC (f:FuncId) (eg:∀(args:Array aw) (w:aj),(callFunc f args).run prog w= .ok (.enter f args) w) (cs:Array aw) (n:Nat) (F:Nat->Nat->aw) (p:Nat->Bool) (v:aw) (w:aj) (hRr:aU w v n 9 F) (hn:n<=1125899906842624) (hF:∀(i:Nat) (W:aj),i<n->ap w.heap.size w W->aC prog f (#[aN #[F i 0,F i 1,F i 2,F i 3,F i 4,F i 5,F i 6,F i 7,F i 8]]++cs) W λe w'=>e=ar (aA (p i))/\ap W.heap.size W w'):
  aC prog 355 #[v, .func (.func f) #[] cs] w λe w'=>e=ar (M U (cH p n 0))/\ap w.heap.size w w':=by
 obtain⟨ra,rc,rfl,hrc,hx⟩:=id hRr
 have HRr:=af hRr
 have HF:=af hF
 clear hRr hF
 go_enter func355,ntmps355
 go_wp2_with fail
 go_loopw [8] (λi wr=>∃j:Nat,j<=n/\i=M U j/\ap w.heap.size w wr/\bj (cH p n 0=cH p (n - j) j)) (λi _=>n - (aV i).toNat)
 case atStart=>exact⟨0,aF _,rfl,au _ _,rfl⟩
 case round=>
  obtain⟨j,hj,rfl,hB,HI⟩:=hrel
  by_cases hlt:j<n
  rotate_left
  ·exact mv
  have HC:=af (λW (h:ap w.heap.size w W)=>HF.out j W hlt h)
  have HS:=af (dj p hlt)
  obtain⟨bb,bo,rfl,bl,e0,e1,e2,e3,e4,e5,e6,e7,e8⟩:=(HRr.out.below hB).eF9 hlt
  exact T20
theorem jZ (f:FuncId) (eg:∀(args:Array aw) (w:aj),(callFunc f args).run prog w= .ok (.enter f args) w) (cs:Array aw) (n:Nat) (F:Nat->Nat->aw) (p:Nat->Bool) (v:aw) (w:aj) (hRr:aU w v n 9 F) (hn:n<=1125899906842624) (hF:∀(i:Nat) (W:aj),i<n->ap w.heap.size w W->aC prog f (#[aN #[F i 0,F i 1,F i 2,F i 3,F i 4,F i 5,F i 6,F i 7,F i 8]]++cs) W λe w'=>e=ar (aA (p i))/\ap W.heap.size W w'):
  aC prog 262 #[v, .func (.func f) #[] cs] w λe w'=>e=ar (aA (bI p n))/\ap w.heap.size w w':=by
 have HI:=af (oC f eg cs n F p v w hRr hn hF)
 have HK:=af (dp p n)
 obtain⟨ra,rc,rfl,hrc,hx⟩:=id hRr
 clear hRr hF hx
 go_enter func262,ntmps262
 exact vn
theorem qA (nf:FuncId) (eg:∀(args:Array aw) (w:aj),(callFunc nf args).run prog w= .ok (.enter nf args) w) (fb lb ib:Nat) (n i c:Nat) (a:Option Addr) (F:Nat->Nat->aw) (x0 x1 x2 x3 x4 x5 x6 x7 x8:aw) (nx:ByteArray) (N:Nat->ByteArray) (w:aj) (h1:w.cell? ⟨fb,0,ag⟩=ai (.func (.func nf) #[] #[])) (h2:w.cell? ⟨lb,0,ag⟩=ai (T a n c)) (h3:w.cell? ⟨ib,0,ag⟩=ai (M U i)) (hR:aU w (T a n c) n 9 F) (hi:i<n)
  (hX:∀W,ap w.heap.size w W->aC prog nf #[aN #[x0,x1,x2,x3,x4,x5,x6,x7,x8]] W λe w'=>e=ar (ay (nx))/\ap W.heap.size W w') (hG:∀W,ap w.heap.size w W->aC prog nf #[aN #[F i 0,F i 1,F i 2,F i 3,F i 4,F i 5,F i 6,F i 7,F i 8]] W λe w'=>e=ar (ay (N i))/\ap W.heap.size W w'):
  aC prog 263 #[aN #[x0,x1,x2,x3,x4,x5,x6,x7,x8],ax (ai ⟨fb,0,ag⟩),ax (ai ⟨lb,0,ag⟩),ax (ai ⟨ib,0,ag⟩)] w λe w'=>e=ar (aA (ej nx (N i)))/\ap w.heap.size w w':=by
 have hl1:=aG w _ h1
 have hl2:=aG w _ h2
 have hl3:=aG w _ h3
 obtain⟨W0,hW0⟩:∃W0,w.alloc (.cells #[x0,x1,x2,x3,x4,x5,x6,x7,x8] 139)=W0:=⟨_,rfl⟩
 have hC:am W0 w.heap.size 139 #[x0,x1,x2,x3,x4,x5,x6,x7,x8]:=by rw[<-hW0];exact aK _ _
 have hB:ap w.heap.size w W0:=by rw[<-hW0];exact aP (au _ _) _
 have hxl:=hC.lt
 have HX:=af (λW (h:ap W0.heap.size W0 W)=>hX W (ak hB h))
 have HG:=af (λW (h:ap W0.heap.size W0 W)=>hG W (ak hB h))
 obtain⟨bb,bo,rfl,bl,e0,e1,e2,e3,e4,e5,e6,e7,e8⟩:=(hR.below hB).eF9 hi
 generalize F i 0=b0 at *
 generalize F i 1=b1 at *
 generalize F i 2=b2 at *
 generalize F i 3=b3 at *
 generalize F i 4=b4 at *
 generalize F i 5=b5 at *
 generalize F i 6=b6 at *
 generalize F i 7=b7 at *
 generalize F i 8=b8 at *
 replace h1:=(hB.cell (p:=⟨fb,0,ag⟩) hl1).trans h1
 replace hl1:=aQ hl1 hB.size
 replace h2:=(hB.cell (p:=⟨lb,0,ag⟩) hl2).trans h2
 replace hl2:=aQ hl2 hB.size
 replace h3:=(hB.cell (p:=⟨ib,0,ag⟩) hl3).trans h3
 replace hl3:=aQ hl3 hB.size
 have HR:bj (∀w':aj,ap W0.heap.size W0 w'->w'.cell? ⟨fb,0,ag⟩=ai (.func (.func nf) #[] #[])/\w'.cell? ⟨lb,0,ag⟩=ai (T (ai ⟨bb,bo,ag⟩) n c)/\w'.cell? ⟨ib,0,ag⟩=ai (M U i)/\w'.cell? ⟨bb,bo+i*9,ag⟩=ai (b0)/\w'.cell? ⟨bb,bo+i*9+1,ag⟩=ai (b1)/\w'.cell? ⟨bb,bo+i*9+2,ag⟩=ai (b2)/\w'.cell? ⟨bb,bo+i*9+3,ag⟩=ai (b3)/\w'.cell? ⟨bb,bo+i*9+4,ag⟩=ai (b4)/\w'.cell? ⟨bb,bo+i*9+5,ag⟩=ai (b5)/\w'.cell? ⟨bb,bo+i*9+6,ag⟩=ai (b6)/\w'.cell? ⟨bb,bo+i*9+7,ag⟩=ai (b7)/\w'.cell? ⟨bb,bo+i*9+8,ag⟩=ai (b8)/\w'.cell? ⟨w.heap.size,0,ag⟩=ai (x0)/\w'.cell? ⟨w.heap.size,1,ag⟩=ai (x1)/\w'.cell? ⟨w.heap.size,2,ag⟩=ai (x2)/\w'.cell? ⟨w.heap.size,3,ag⟩=ai (x3)/\w'.cell? ⟨w.heap.size,4,ag⟩=ai (x4)/\w'.cell? ⟨w.heap.size,5,ag⟩=ai (x5)/\w'.cell? ⟨w.heap.size,6,ag⟩=ai (x6)/\w'.cell? ⟨w.heap.size,7,ag⟩=ai (x7)/\w'.cell? ⟨w.heap.size,8,ag⟩=ai (x8)):=show∀w',_->_ from λw' hb=>⟨(hb.cell (p:=⟨fb,0,ag⟩) hl1).trans h1,(hb.cell (p:=⟨lb,0,ag⟩) hl2).trans h2,(hb.cell (p:=⟨ib,0,ag⟩) hl3).trans h3,(hb.cell (p:=⟨bb,bo+i*9,ag⟩) bl).trans e0,(hb.cell (p:=⟨bb,bo+i*9+1,ag⟩) bl).trans e1,(hb.cell (p:=⟨bb,bo+i*9+2,ag⟩) bl).trans e2,(hb.cell (p:=⟨bb,bo+i*9+3,ag⟩) bl).trans e3,(hb.cell (p:=⟨bb,bo+i*9+4,ag⟩) bl).trans e4,(hb.cell (p:=⟨bb,bo+i*9+5,ag⟩) bl).trans e5,(hb.cell (p:=⟨bb,bo+i*9+6,ag⟩) bl).trans e6,(hb.cell (p:=⟨bb,bo+i*9+7,ag⟩) bl).trans e7,(hb.cell (p:=⟨bb,bo+i*9+8,ag⟩) bl).trans e8,(hb.cell (p:=⟨w.heap.size,0,ag⟩) hxl).trans (hC.cell 0),(hb.cell (p:=⟨w.heap.size,1,ag⟩) hxl).trans (hC.cell 1),(hb.cell (p:=⟨w.heap.size,2,ag⟩) hxl).trans (hC.cell 2),(hb.cell (p:=⟨w.heap.size,3,ag⟩) hxl).trans (hC.cell 3),(hb.cell (p:=⟨w.heap.size,4,ag⟩) hxl).trans (hC.cell 4),(hb.cell (p:=⟨w.heap.size,5,ag⟩) hxl).trans (hC.cell 5),(hb.cell (p:=⟨w.heap.size,6,ag⟩) hxl).trans (hC.cell 6),(hb.cell (p:=⟨w.heap.size,7,ag⟩) hxl).trans (hC.cell 7),(hb.cell (p:=⟨w.heap.size,8,ag⟩) hxl).trans (hC.cell 8)⟩
 have hBd:ap W0.heap.size W0 W0.drew:=(au _ _).drew
 have i2:(i:Int)<(n:Int):=om
 obtain⟨xb,hxe⟩:=bY w.heap.size
 rw[<-hxe]at HR hC hxl
 have HW0:=af hW0
 clear hX hG hR h1 h2 h3 hW0 e0 e1 e2 e3 e4 e5 e6 e7 e8 hC
 go_enter func263,ntmps263
 exact T7
theorem nT (nf:FuncId) (eg:∀(args:Array aw) (w:aj),(callFunc nf args).run prog w= .ok (.enter nf args) w) (n i:Nat) (F:Nat->Nat->aw) (N:Nat->ByteArray) (v:aw) (w:aj) (hR:aU w v n 9 F) (hn:n<=1125899906842624) (hi:i<n) (hN:∀i,i<n->(N i).size<=9223372036854775806)
  (hG:∀i W,i<n->ap w.heap.size w W->aC prog nf #[aN #[F i 0,F i 1,F i 2,F i 3,F i 4,F i 5,F i 6,F i 7,F i 8]] W λe w'=>e=ar (ay (N i))/\ap W.heap.size W w'):
  aC prog 171 #[v,M U i, .func (.func nf) #[] #[]] w λe w'=>e=ar (M U (eR N i))/\ap w.heap.size w w':=by
 obtain⟨a,c,rfl,hac,hx⟩:=id hR
 obtain⟨r,HS⟩:=dR (eR N i)
 rw[<-HS.out]
 obtain⟨W0,hW0⟩:∃W0,((w.alloc (.cells #[T a n c] 57)).alloc (.cells #[M U i] 3)).alloc (.cells #[.func (.func nf) #[] #[]] 290)=W0:=⟨_,rfl⟩
 have h2:W0.cell? ⟨w.heap.size,0,ag⟩=ai (T a n c):=by rw[<-hW0];exact((am.below (am.below (aK w _) (aP (au _ _) _)) (aP (au _ _) _)):am _ _ 57 #[T a n c]).cell 0
 have h3:W0.cell? ⟨w.heap.size+1,0,ag⟩=ai (M U i):=by
  rw[<-hW0]
  have h:=aK (w.alloc (.cells #[T a n c] 57)) (.cells #[M U i] 3)
  exact uv
 have h1:W0.cell? ⟨w.heap.size+2,0,ag⟩=ai (.func (.func nf) #[] #[]):=by
  rw[<-hW0]
  have h:am _ _ 290 #[.func (.func nf) #[] #[]]:=aK ((w.alloc (.cells #[T a n c] 57)).alloc (.cells #[M U i] 3)) (.cells #[.func (.func nf) #[] #[]] 290)
  simp only[bg]at h
  exact h.cell 0
 have hB:ap w.heap.size w W0:=by rw[<-hW0];exact aP (aP (aP (au _ _) _) _) _
 have HG:=af (λi W hi (h:ap W0.heap.size W0 W)=>hG i W hi (ak hB h))
 have HRr:=af (hR.below hB)
 have hNi:=hN i hi
 have hl1:=aG W0 _ h1
 have hl2:=aG W0 _ h2
 have hl3:=aG W0 _ h3
 obtain⟨bb,bo,rfl,bl,e0,e1,e2,e3,e4,e5,e6,e7,e8⟩:=(HRr.out).eF9 hi
 have HW0:=af hW0
 clear hW0 hG hR hN
 have HGi:=af (λW h=>HG.out i W hi h)
 generalize hNe:N i=ni at *
 have HNE:=af hNe
 clear hNe
 generalize F i 0=b0 at *
 generalize F i 1=b1 at *
 generalize F i 2=b2 at *
 generalize F i 3=b3 at *
 generalize F i 4=b4 at *
 generalize F i 5=b5 at *
 generalize F i 6=b6 at *
 generalize F i 7=b7 at *
 generalize F i 8=b8 at *
 go_enter func171,ntmps171
 go_upto_region 1 with fail
 rw[HW0.out]
 obtain⟨xb,hxe⟩:=bY w.heap.size
 rw[<-hxe]at h1 h2 h3 hl1 hl2 hl3⊢
 obtain⟨yb,hye⟩:=bY (xb+1)
 obtain⟨zb,hze⟩:∃x,x=xb+2:=⟨_,rfl⟩
 (try rw[show xb+1+1=xb+2 from rfl])
 rw[<-hye]at h3 hl3⊢
 rw[<-hze]at h1 hl1⊢
 clear hxe hye hze HW0
 have i2:(i:Int)<(n:Int):=om
 have HR:=af λw' (hb:ap W0.heap.size W0 w')=>vL (kp h1 hb) (kp h2 hb) (kp h3 hb) (kp e0 hb) (kp e1 hb) (kp e2 hb) (kp e3 hb) (kp e4 hb) (kp e5 hb) (kp e6 hb) (kp e7 hb) (kp e8 hb)
 have hBd:ap W0.heap.size W0 W0.drew:=(au _ _).drew
 refine bV hBd ?_
 refine K3 ?_
 refine cL 5 (λK' hK'=>?_)
 refine aZ (HGi.out _ hBd) ?_
 intro w1 hb
 have hB1:=ak hBd hb
 refine bO hK' hB1 ?_
 clear hK' K'
 refine cL 6 (λK' hK'=>?_)
 refine bH (cS _ _ hNi) ?_
 rintro(_|_) w2 g1 hb
 ·exact T25
 have hB2:=ak hB1 hb
 refine bO hK' hB2 ?_
 clear hK' K'
 refine br 7 hB2 ?_
 refine br 8 hB2 ?_
 refine wpAnyH_done kr ?_ _
 (try simp only[Exit.then])
 (try refine‹∀(a:Act) (w:aj),bi prog _ _ a w->_› _ _ ?_)
 have HRr2:=af (HRr.out.below hB2)
 obtain⟨h1,h2,h3,-⟩:=HR.out _ hB2
 have HCL:=af (λ(k:Nat) (W:aj) (hk:k<i) (h:ap w2.heap.size w2 W)=>qA nf eg zb xb yb n i c _ F (F k 0) (F k 1) (F k 2) (F k 3) (F k 4) (F k 5) (F k 6) (F k 7) (F k 8) (N k) N W ((h.cell (p:=⟨zb,0,ag⟩) (aQ hl1 hB2.size)).trans h1) ((h.cell (p:=⟨xb,0,ag⟩) (aQ hl2 hB2.size)).trans h2) ((h.cell (p:=⟨yb,0,ag⟩) (aQ hl3 hB2.size)).trans h3) (HRr2.out.below h) hi (λW2 h4=>HG.out k W2 om (ak hB2 (ak h h4))) (λW2 h4=>HG.out i W2 hi (ak hB2 (ak h h4))))
 have HT:=af (HRr2.out.take (Nat.le_of_lt hi))
 go_wp2_with fail
 refine bH (jZ 263 (λ_ _=>by kernel_rfl) #[ax (ai ⟨zb,0,ag⟩),ax (ai ⟨xb,0,ag⟩),ax (ai ⟨yb,0,ag⟩)] i F (λk=>ej (N k) (N i)) _ _ HT.out om (λk W hk h=>HCL.out k W hk h)) ?_
 exact T27
end
section
open Tryz
open Go.RowKit Go.Shelf
attribute [local go_sem] Oper.semAt_some
theorem dW {p:Nat->Bool} {n:Nat} (h:∀i,i<n->p i=false):bI p n=false:=bT h
theorem m9 {D:bE} (hE:(eF D).2.2=0) (zv hv qv:aw):pq D (bp D zv hv qv)=0:=by
 have hG:=du hE
 have hg:=hG.zn
 have hf:dM D (bp D zv hv qv)=true:=by
  have h1:uo D (bp D zv hv qv)=false:=dW (λi _=>by unfold bp aI;simp;omega)
  have h2:ur D (bp D zv hv qv)=false:=dW (λi _=>by unfold bp aI;simp;omega)
  have h3:uV (bp D zv hv qv)=false:=dW (λi _=>by unfold bp aI;simp)
  unfold dM
  rw[h1,h2,h3]
  unfold bp aI
  simp
 have hcr:∀z:Int,0<=z->(bp D zv hv qv).crowd z=0:=λz hz=>by
  unfold bL.crowd fR
  simp only[List.countP_eq_zero]
  intro i _
  have:((bp D zv hv qv).Z i==z)=false:=by unfold bp;simp;omega
  simp[this]
 have hs:fw D (bp D zv hv qv)=true:=by
  have h1:bI (lP D (bp D zv hv qv)) D.zn=false:=dW (λi hi=>by
   have hr:=(nU (hG.z i hi)).2.2.2.2.2.2.2.2.1
   have hc:=hcr (i:Int) om
   unfold lP dz
   rw[hc]
   simp
   omega)
  have h2:bI (mx D (bp D zv hv qv)) (bp D zv hv qv).zn=false:=dW (λi hi=>by
   unfold mx dX bE.nears bE.nearsB
   simp[bp])
  have h3:bI (lN D (bp D zv hv qv)) (bp D zv hv qv).sn=false:=dW (λi hi=>by
   unfold lN
   simp[bp])
  unfold fw
  rw[h1,h2,h3]
  rfl
 unfold pq
 rw[hE,hf,hs]
 rfl
def Gx:Except Int bL->Prop
 | .ok _=>True
 | .error k=>171<=k
theorem Gx.dem {b:Bool} {k:Int} {r:Except Int bL} (hk:171<=k) (h:Gx r):Gx (pM b k r):=by
 unfold pM;split
 ·exact h
 exact hk
theorem ma (D:bE) (a k w x y:Int):dm D a k w x y=0\/dm D a k w x y=7\/dm D a k w x y=2\/dm D a k w x y=4:=by
 unfold dm
 split
 ·simp
 split
 ·simp
 split
 ·simp
 split
 ·rename_i e he
  unfold lS at he
  split at he
  ·split at he<;>simp at he;subst he;simp
  split at he
  ·split at he<;>simp at he;subst he;simp
  split at he
  ·split at he<;>simp at he;subst he;simp
  ·split at he<;>simp at he;subst he;simp
 ·unfold rX
  split
  ·split
   ·simp
   split<;>simp
  split<;>simp
theorem pg {D:bE} {a k w x y:Int} (h:dm D a k w x y=0):0<=a/\1<=k/\k<=9/\0<=w/\w<D.pn/\(k=1->-1<=x/\x<D.zn/\-1<=y/\y<D.pn)/\(k=2\/k=3\/k=4->0<=x/\x<D.kn)/\(k=5\/k=6\/k=7->0<=x/\x<D.qn)/\(k=8\/k=9->0<=x/\x<=1)/\(k=4->0<=y/\y<D.pn):=by
 unfold dm at h
 split at h
 ·cases h
 split at h
 ·cases h
 split at h
 ·cases h
 rename_i h1 h2 h3
 have h1:=aW.1 (Bool.not_eq_true _▸h1)
 have h2:=aW.1 (Bool.not_eq_true _▸h2)
 have h3:=aW.1 (Bool.not_eq_true _▸h3)
 have hw:=λh4:lS D k x=ag=>show rX D k w y=0 by rw[h4]at h;exact h
 have hk:lS D k x=ag:=by
  cases hk:lS D k x with
  |none=>rfl
  |some e=>
   rw[hk]at h
   simp only at h
   subst h
   unfold lS at hk
   split at hk
   ·split at hk<;>simp at hk
   split at hk
   ·split at hk<;>simp at hk
   split at hk
   ·split at hk<;>simp at hk
   ·split at hk<;>simp at hk
 have hw:=hw hk
 clear h
 unfold lS at hk
 unfold rX at hw
 refine⟨h1.1,h2.1,h2.2,h3.1,by omega,?_,?_,?_,?_,?_⟩
 ·intro hk1
  subst hk1
  simp at hk hw
  have hx:-1<=x/\x<D.zn:=by
   by_cases hx:x=-1
   ·omega
   have h4:=aW.1 (hk hx);omega
  by_cases hy:y=-1
  ·omega
  simp[hy]at hw
  exact vT
 ·intro hk1
  have hk2:¬k=1:=om
  rw[if_neg hk2,if_pos hk1]at hk
  exact tX
 ·intro hk1
  rw[if_neg om,if_neg om,if_pos hk1]at hk
  exact tX
 ·intro hk1
  rw[if_neg om,if_neg om,if_neg om]at hk
  exact tX
 ·intro hk1
  rw[if_pos (.inl hk1)]at hw
  exact vT
theorem rJ (D:bE) (S:bL) (what fr:Int):Gx (iQ D S what fr):=by unfold iQ;exact Gx.dem om (Gx.dem om trivial)
theorem tF (D:bE) (S:bL) (i:Nat) (what:Int) {r:Except Int bL} (h:Gx r):Gx (iY D S i what r):=by unfold iY;exact Gx.dem om (Gx.dem om (Gx.dem om h))
theorem sD (D:bE) (S:bL) (who:Nat) (what wto:Int):Gx (dC D S who what wto):=by
 unfold dC
 refine Gx.dem om (tF D S who what ?_)
 split
 ·exact rJ _ _ _ _
 exact tF _ _ _ _ (rJ _ _ _ _)
theorem oW (D:bE) (zv hv qv:aw) (at_ kind who what wto:Int) (w:aj) (hV:eP w D) (hS:gC w (bp D zv hv qv)) (hE:(eF D).2.2=0) (hac:dm D at_ kind who what wto=0):
  aC prog 359 #[aN D.cells,aN (bp D zv hv qv).cells,aN #[M U at_,M U kind,M U who,M U what,M U wto]] w λe w'=>∃r,Gx r/\lR w D at_ r e w':=by
 have hG:=du hE
 obtain⟨a1,a2,a3,a4,a5,a6,a7,a8,a9,a10⟩:=pg hac
 have g1:=hG.pn
 have g2:=hG.kn
 have g3:=hG.qn
 have g4:=hG.panel
 have g5:=hG.dn
 obtain⟨wh,rfl⟩:∃m:Nat,who=(m:Int):=⟨who.toNat,by omega⟩
 have hfar:∀(zv hv qv:aw),((bp D zv hv qv).Z wh==D.panel)=false:=λ_ _ _=>by unfold bp;simp;omega
 have hfit:∀(zv hv qv:aw),gJ D (bp D zv hv qv):=λ_ _ _=>⟨rfl,rfl,rfl⟩
 have main:∀(F:FuncId) (R:bL->Except Int bL),(∀S,(∃zv hv qv,S=bp D zv hv qv)->Gx (R S))->(∀W:aj,(Instr.index 559 (aN #[.nilFunc, .func (.func 504) #[] #[], .func (.func 505) #[] #[], .func (.func 506) #[] #[], .func (.func 507) #[] #[], .func (.func 508) #[] #[], .func (.func 509) #[] #[], .func (.func 510) #[] #[], .func (.func 511) #[] #[], .func (.func 512) #[] #[]]) (M U kind)).run prog W= .ok (.func (.func F) #[] #[]) W)->(∀(args:Array aw) (w:aj),(callFunc F args).run prog w= .ok (.enter F args) w)->(∀(w0 W:aj) (cb:Nat) (zv hv qv:aw),bR w0 W cb D (bp D zv hv qv)->aC prog F #[ax (ai ⟨cb,0,ag⟩),aN #[M U at_,M U kind,M U (wh:Int),M U what,M U wto]] W (cu w0 cb D (R (bp D zv hv qv))))->aC prog 359 #[aN D.cells,aN (bp D zv hv qv).cells,aN #[M U at_,M U kind,M U (wh:Int),M U what,M U wto]] w λe w'=>∃r,Gx r/\lR w D at_ r e w':=λF R hR hI eg hA=>
  (rF D (bp D zv hv qv) at_ kind (wh:Int) what wto w hV hS (show D.pn<=1000000 by omega) (show D.kn<=1000000 by omega) (show D.qn<=1000000 by omega) F R hI eg (λw0 W cb z2 h2 q2 hO=>hA w0 W cb z2 h2 q2 hO)).mono λe w' ⟨z2,h2,q2,h⟩=>⟨R (bp D z2 h2 q2),hR _ ⟨z2,h2,q2,rfl⟩,by rw[show decide ((bp D zv hv qv).now<=at_)=true from decide_eq_true (show(0:Int)<=at_ from a1)]at h;exact h⟩
 have hk:kind=1\/kind=2\/kind=3\/kind=4\/kind=5\/kind=6\/kind=7\/kind=8\/kind=9:=om
 have far:∀{F:FuncId} {w0 W:aj} {cb:Nat} {zv hv qv:aw} {A:Array aw},bR w0 W cb D (bp D zv hv qv)->aC prog F A W (λe w'=>e= .panicked (cN 171)/\ap W.heap.size W w')->aC prog F A W (cu w0 cb D (.error 171)):=λhO h=>h.mono λ_ _ ⟨h1,h2⟩=>⟨h1,ak hO.base h2⟩
 rcases hk with rfl|rfl|rfl|rfl|rfl|rfl|rfl|rfl|rfl
 ·have h6:=a6 rfl
  exact main 504 (λS=>dC D S wh what wto) (λS ⟨z2,h2,q2,hS2⟩=>sD D S wh what wto) (λ_=>by kernel_rfl) (λ_ _=>by kernel_rfl) (λw0 W cb z2 h2 q2 hO=>nW D _ cb wh at_ 1 what wto w0 W hO (show wh<D.pn by omega) (show wto<(D.pn:Int)by omega) om rfl hG (hfit z2 h2 q2) om (show D.pn<=1000000 by omega) (show(-1:Int)<D.zn by omega))
 ·exact main 505 (λ_=> .error 171) (λ_ _=>by show(171:Int)<=171;omega) (λ_=>by kernel_rfl) (λ_ _=>by kernel_rfl) (λw0 W cb z2 h2 q2 hO=>far hO (qr D _ cb wh at_ _ what wto W hO.at (show wh<D.pn by omega) (hfar z2 h2 q2)))
 ·exact main 506 (λ_=> .error 171) (λ_ _=>by show(171:Int)<=171;omega) (λ_=>by kernel_rfl) (λ_ _=>by kernel_rfl) (λw0 W cb z2 h2 q2 hO=>far hO (rP D _ cb wh at_ _ what wto W hO.at (show wh<D.pn by omega) (hfar z2 h2 q2)))
 ·obtain⟨h7,h8⟩:=a7 om
  obtain⟨h9,h10⟩:=a10 rfl
  obtain⟨wt,rfl⟩:∃m:Nat,what=(m:Int):=⟨what.toNat,by omega⟩
  obtain⟨wn,rfl⟩:∃m:Nat,wto=(m:Int):=⟨wto.toNat,by omega⟩
  exact main 507 (λ_=> .error 174) (λ_ _=>by show(171:Int)<=174;omega) (λ_=>by kernel_rfl) (λ_ _=>by kernel_rfl) (λw0 W cb z2 h2 q2 hO=>qd D _ cb wh wt wn at_ 4 w0 W hO (show wt<D.kn by omega) (by show((-1:Int)==(wh:Int))=false;simp))
 ·exact main 508 (λ_=> .error 171) (λ_ _=>by show(171:Int)<=171;omega) (λ_=>by kernel_rfl) (λ_ _=>by kernel_rfl) (λw0 W cb z2 h2 q2 hO=>far hO (rg D _ cb wh at_ _ what wto W hO.at (show wh<D.pn by omega) (hfar z2 h2 q2)))
 ·exact main 509 (λ_=> .error 171) (λ_ _=>by show(171:Int)<=171;omega) (λ_=>by kernel_rfl) (λ_ _=>by kernel_rfl) (λw0 W cb z2 h2 q2 hO=>far hO (nv D _ cb wh at_ _ what wto W hO.at (show wh<D.pn by omega) (hfar z2 h2 q2)))
 ·exact main 510 (λ_=> .error 171) (λ_ _=>by show(171:Int)<=171;omega) (λ_=>by kernel_rfl) (λ_ _=>by kernel_rfl) (λw0 W cb z2 h2 q2 hO=>far hO (pO D _ cb wh at_ _ what wto W hO.at (show wh<D.pn by omega) (hfar z2 h2 q2)))
 ·exact main 511 (λ_=> .error 171) (λ_ _=>by show(171:Int)<=171;omega) (λ_=>by kernel_rfl) (λ_ _=>by kernel_rfl) (λw0 W cb z2 h2 q2 hO=>far hO (oL D _ cb wh at_ _ what wto W hO.at (show wh<D.pn by omega) (hfar z2 h2 q2)))
 obtain⟨h7,h8⟩:=a9 om
 obtain⟨wt,rfl⟩:∃m:Nat,what=(m:Int):=⟨what.toNat,by omega⟩
 exact main 512 (λS=>fl S wt) (λS _=>by unfold fl;exact Gx.dem om trivial) (λ_=>by kernel_rfl) (λ_ _=>by kernel_rfl) (λw0 W cb z2 h2 q2 hO=>kW D _ cb wh wt at_ 9 wto w0 W hO (show D.qn<=1000000 by omega))
theorem mX (D:bE) (at_ kind who what wto:Int) (w:aj) (hV:eP w D) (hE:(eF D).2.2=0):
  aC prog 175 #[aN D.cells,aN #[M U at_,M U kind,M U who,M U what,M U wto]] w λe w'=>e=ar (M U (dm D at_ kind who what wto))/\ap w.heap.size w w':=by
 have hG:=du hE
 have g1:=hG.pn
 have g2:=hG.kn
 have g3:=hG.qn
 have HA:=af (ma D at_ kind who what wto)
 have HST:=af (λW (h:ap w.heap.size w W)=>nV D W (hV.below h) hE)
 have HDO:=af (λ(zv hv qv:aw) (W:aj) (h:ap w.heap.size w W) (hS:gC W (bp D zv hv qv))=>(qS D (bp D zv hv qv) at_ kind who what wto W (hV.below h) hS (show D.pn<=1000000 by omega) (show D.kn<=1000000 by omega) (show D.qn<=1000000 by omega) Gx (λ_ hac W2 h2=>oW D zv hv qv at_ kind who what wto W2 ((hV.below h).below h2) (hS.below h2) hE hac)))
 have HCS:=af (λzv hv qv=>m9 hE zv hv qv)
 obtain⟨ac,HAC⟩:=dR (dm D at_ kind who what wto)
 rw[<-HAC.out]at HA HDO⊢
 unfold bE.cells at HST HDO⊢
 obtain⟨W0,xb,HW0,hC,hC2,hB⟩:=pf w 55 #[D.vz,D.vd,D.vp,D.vk,D.vq,M U D.panel,M U D.wait] 294 #[M U at_,M U kind,M U who,M U what,M U wto]
 clear g1 g2 g3 hG
 go_enter func175,ntmps175
 go_upto_region 1 with fail
 rw[HW0.out.1,HW0.out.2]
 obtain⟨yb,hye⟩:=bY (xb+1)
 rw[<-hye]at hC2⊢
 clear hye
 clear HW0
 have xx:=aJ hC
 have yy:=aL hC2
 go_wp2_with fail
 refine(HST.out _ hB).mono ?_
 rintro e w1 ⟨zv,hv,qv,rfl,hS1,hb⟩
 obtain⟨hC,hC2,hB⟩:=bM hC hC2 hB hb
 have HS1:=af hS1
 have HD1:=af (HDO.out zv hv qv)
 have HC1:=af (HCS.out zv hv qv)
 obtain⟨za9,z1,hze,-⟩:=id hS1.z
 obtain⟨ha9,h1,hhe,-⟩:=id hS1.h
 obtain⟨qa9,q1,hqe,-⟩:=id hS1.q
 unfold bp at hze hhe hqe
 simp only at hze hhe hqe
 subst hze hhe hqe
 clear hS1
 unfold bL.cells bp at HD1⊢
 have xx:=aJ hC
 have yy:=aL hC2
 go_upto_region 2 with fail
 obtain⟨w2,hW9,hN9,hb⟩:=bW w1 75 #[M U 0,T za9 D.pn z1,T ha9 D.kn h1,T qa9 D.qn q1,M U (-1),aA false]
 rw[hW9.out]
 have HS2:=af (HS1.out.below hb);clear HS1
 obtain⟨hC,hC2,hB⟩:=bM hC hC2 hB hb
 generalize w1.heap.size=db at *
 have hD:=hN9
 have dd:=aH hD
 clear hN9
 have xx:=aJ hC
 have yy:=aL hC2
 go_wp2_with fail
 refine(HD1.out _ hB HS2.out).mono ?_
 rintro e w3 ⟨r,hG,hE9⟩
 unfold uP at hG
 rw[if_neg (λh9=>h9 HC1.out)]at hG
 clear HS2 HD1 HC1 HCS HST HDO
 by_cases hac:ac=0
 rotate_left
 ·rw[if_pos hac]at hG
  subst hG
  obtain⟨rfl,hb⟩:=hE9
  obtain⟨hC,hC2,hD,hB⟩:=oy hC hC2 hD hB hb
  unfold lZ
  have hk2:ac<170:=by have:=HA.out;omega
  exact t5
 subst hac
 rw[if_neg (by simp)]at hG
 rcases r with k|S2
 ·obtain⟨rfl,hb⟩:=hE9
  obtain⟨hC,hC2,hD,hB⟩:=oy hC hC2 hD hB hb
  unfold lZ
  have hk:(171:Int)<=k:=hG
  have hk2:¬k<170:=om
  exact t5
 obtain⟨cb,rfl,hO⟩:=hE9
 have hb:=hO.base
 obtain⟨za8,zc8,hz8,-⟩:=id hO.at.s.z
 obtain⟨ha8,hc8,hh8,-⟩:=id hO.at.s.h
 obtain⟨qa8,qc8,hq8,-⟩:=id hO.at.s.q
 clear hO
 unfold bL.cells
 rw[hz8,hh8,hq8]
 clear hz8 hh8 hq8
 generalize(S2.setN at_).now=n8
 generalize(S2.setN at_).siren=s8
 generalize(S2.setN at_).storm=t8
 generalize(S2.setN at_).zn=l8
 generalize(S2.setN at_).hn=l7
 generalize(S2.setN at_).sn=l6
 obtain⟨hC,hC2,hD,hB⟩:=oy hC hC2 hD hB hb
 exact t5
end
section
open Tryz
open Go.RowKit Go.Shelf
attribute [local go_sem] Oper.semAt_some
structure fO where
 pd:bE
 sn:Nat
 SN:Nat->ByteArray
 bn:Nat
 BN:Nat->ByteArray
 BR:Nat->Nat->Int
 tn:Nat
 TN:Nat->ByteArray
 TL:Nat->Int
 TM:Nat->Int
 TP:Nat->Bool
 LA:Nat->Nat->Option Addr
 LN:Nat->Nat->Nat
 LC:Nat->Nat->Nat
 LV:Nat->Nat->Nat->Int
 AA:Nat->Option Addr
 AN:Nat->Nat
 AC:Nat->Nat
 AV:Nat->Nat->Nat->Int
 pn:Nat
 PV:Nat->Int
 wlo:Int
 whi:Int
 vs:aw
 vb:aw
 vt:aw
 vp:aw
def fO.V (D:fO) (i k:Nat):aw:=T (D.LA i k) (D.LN i k) (D.LC i k)
def fO.stepC (D:fO) (i j:Nat):aw:=match j with
 |0=>ay (D.TN i)
 |1=>D.V i 0
 |2=>M U (D.TL i)
 |3=>M U (D.TM i)
 |4=>aA (D.TP i)
 |5=>D.V i 1
 |6=>D.V i 2
 |7=>D.V i 3
 |_=>T (D.AA i) (D.AN i) (D.AC i)
def fO.cells (D:fO):Array aw:=#[D.pd.vz,D.pd.vd,D.pd.vp,D.pd.vk,D.pd.vq,M U D.pd.panel,M U D.pd.wait,D.vs,D.vb,D.vt,D.vp,M U D.wlo,M U D.whi]
structure rf (w:aj) (D:fO):Prop where
 p:eP w D.pd
 s:aU w D.vs D.sn 1 (λi _=>ay (D.SN i))
 b:aU w D.vb D.bn 3 (em D.BN D.BR)
 t:aU w D.vt D.tn 9 D.stepC
 l:∀i k,i<D.tn->k<4->aU w (D.V i k) (D.LN i k) 1 (bw λj _=>D.LV i k j)/\D.LN i k<=1125899906842624
 a:∀i,i<D.tn->aU w (T (D.AA i) (D.AN i) (D.AC i)) (D.AN i) 5 (bw (D.AV i))
 q:aU w D.vp D.pn 1 (bw λi _=>D.PV i)
 lp:D.pn<=1125899906842624
 ns:∀i,i<D.sn->(D.SN i).size<=9223372036854775806
 nb:∀i,i<D.bn->(D.BN i).size<=9223372036854775806
 nt:∀i,i<D.tn->(D.TN i).size<=9223372036854775806
theorem rf.below {w w':aj} {D:fO} (h:rf w D) (hb:ap w.heap.size w w'):rf w' D:=
 ⟨h.p.below hb,h.s.below hb,h.b.below hb,h.t.below hb,λi k hi hk=>⟨(h.l i k hi hk).1.below hb,(h.l i k hi hk).2⟩,λi hi=>(h.a i hi).below hb,h.q.below hb,h.lp,h.ns,h.nb,h.nt⟩
theorem rf.forms {w:aj} {D:fO} (h:rf w D):∃sa sc ba bc ta tc qa qc,D.vs=T sa D.sn sc/\D.vb=T ba D.bn bc/\D.vt=T ta D.tn tc/\D.vp=T qa D.pn qc:=by
 obtain⟨sa,sc,h1,_⟩:=h.s
 obtain⟨ba,bc,h2,_⟩:=h.b
 obtain⟨ta,tc,h3,_⟩:=h.t
 obtain⟨qa,qc,h4,_⟩:=h.q
 exact⟨sa,sc,ba,bc,ta,tc,qa,qc,h1,h2,h3,h4⟩
def eV (D:fO) (i j:Nat):Option Int:=if D.AV i j 0≠0 then ai 2 else if dm D.pd (D.AV i j 0) (D.AV i j 1) (D.AV i j 2) (D.AV i j 3) (D.AV i j 4)=0 then ag else ai (dm D.pd (D.AV i j 0) (D.AV i j 1) (D.AV i j 2) (D.AV i j 3) (D.AV i j 4))
def iT (D:fO) (i:Nat):Bool:=ia i (D.LV i 0) (D.LN i 0)||(ia D.bn (D.LV i 1) (D.LN i 1)||(ia D.bn (D.LV i 2) (D.LN i 2)||ia D.bn (D.LV i 3) (D.LN i 3)))
def kg (D:fO) (i:Nat):Bool:=gD (D.LV i 0) (D.LN i 0)||(gD (D.LV i 1) (D.LN i 1)||(gD (D.LV i 2) (D.LN i 2)||gD (D.LV i 3) (D.LN i 3)))
def mV (D:fO) (i:Nat):Int:=match aB (eV D i) (D.AN i) 0 with
 |some (_,e)=>e
 |none=>0
def kK (D:fO) (i:Nat):Int:=if iT D i then 4 else if kg D i then 2 else if aI (D.TM i) 0 20000||aI (D.TL i) 0 (D.TM i)then 7 else if 8<D.AN i then 3 else mV D i
def gR (D:fO) (i:Nat):Int:=if eR D.TN i≠0 then eR D.TN i else kK D i
theorem iq {W:aj} {b m o:Nat} {V:Nat->aw} {L:Nat->Nat} {R:Nat->Nat->Int} (hb:b<W.heap.size) (hc:∀j,j<m->W.cell? ⟨b,j,ag⟩=ai (V (j+o))) (hV:∀k,k<m+o->aU W (V k) (L k) 1 (bw λi _=>R k i)/\L k<=1125899906842624):
  kx W (T (ai ⟨b,0,ag⟩) m m) m (λj _=>V (j+o)) (λj=>L (j+o)) (λj=>R (j+o)):=
 ⟨⟨_,m,rfl,aY _, .inr ⟨b,0,rfl,hb,λi j hi hj=>by
   obtain rfl:j=0:=om
   rw[Nat.zero_add,Nat.mul_one,bq];exact hc i hi⟩⟩,λj hj=>hV (j+o) om⟩
theorem tP (p:Nat->Bool):bI p 1=p 0:=by unfold bI;simp[List.range_succ]
theorem tG (p:Nat->Bool):bI p 3=(p 0||(p 1||p 2)):=by unfold bI;simp[List.range_succ,Bool.or_assoc]
theorem tI (p:Nat->Bool):bI p 4=(p 0||(p 1||(p 2||p 3))):=by unfold bI;simp[List.range_succ,Bool.or_assoc]
theorem mM (m:Nat) (F:Nat->Nat->aw) (L:Nat->Nat) (R:Nat->Nat->Int) (v:aw) (w:aj) (hR:kx w v m F L R) (hn:m<=1125899906842624):
  aC prog 174 #[v] w λe w'=>e=ar (aA (bI (λj=>gD (R j) (L j)) m))/\ap w.heap.size w w':=by
 have HC:=af (fS 267 (λ_ _=>by kernel_rfl) #[] m F (λj=>gD (R j) (L j)) v w hR.r hn (λj W hj hb=>lI (L j) (R j) _ W ((hR.s j hj).1.below hb) (hR.s j hj).2))
 obtain⟨a,c,rfl,hac,hx⟩:=hR.r
 clear hx hR
 go_enter func174,ntmps174
 exact rE
theorem kP (nm:ByteArray) (x1 x2:aw) (w:aj):
  aC prog 94 #[aN #[ay nm,x1,x2]] w λe w'=>e=ar (ay nm)/\ap w.heap.size w w':=by
 obtain⟨W0,xb,HW0,hC,hB⟩:=eB w 200 #[ay nm,x1,x2]
 go_enter func94,ntmps94
 go_upto_region 1 with fail
 rw[HW0.out.1,HW0.out.2]
 clear HW0
 obtain⟨x0,x1,x2⟩:=dT hC
 exact gU
theorem ng (nm:ByteArray) (x1 x2 x3 x4 x5 x6 x7 x8:aw) (w:aj):
  aC prog 172 #[aN #[ay nm,x1,x2,x3,x4,x5,x6,x7,x8]] w λe w'=>e=ar (ay nm)/\ap w.heap.size w w':=by
 obtain⟨W0,xb,HW0,hC,hB⟩:=eB w 139 #[ay nm,x1,x2,x3,x4,x5,x6,x7,x8]
 go_enter func172,ntmps172
 go_upto_region 1 with fail
 rw[HW0.out.1,HW0.out.2]
 clear HW0
 obtain⟨x0,x1,x2,x3,x4,x5,x6,x7,x8⟩:=bZ hC
 exact gU
theorem kX (nm:ByteArray) (w:aj):
  aC prog 92 #[ay nm] w λe w'=>e=ar (ay nm)/\ap w.heap.size w w':=by
 go_enter func92,ntmps92
 exact mE
theorem oG (D:fO) (i:Nat) (w:aj) (hV:rf w D) (hE:(eF D.pd).2.2=0) (hi:i<D.tn) (htn:D.tn<=16) (hbn:D.bn<=6):
  aC prog 95 #[aN D.cells,M U (i:Int)] w λe w'=>e=ar (M U (gR D i))/\ap w.heap.size w w':=by
 have HNm:=af (λW (h:ap w.heap.size w W)=>nT 172 (λ_ _=>by kernel_rfl) D.tn i D.stepC D.TN D.vt W (hV.t.below h) om hi hV.nt (λk W2 hk _=>ng (D.TN k) _ _ _ _ _ _ _ _ W2))
 have HWr:=af (λ(a k x y z:Int) W (h:ap w.heap.size w W)=>mX D.pd a k x y z W (hV.p.below h) hE)
 have HL:=af (λk (hk:k<4) W (h:ap w.heap.size w W)=>(⟨(hV.l i k hi hk).1.below h,(hV.l i k hi hk).2⟩:aU W (D.V i k) _ 1 _/\_))
 have HA:=af (hV.a i hi)
 have HE2:bj (kK D i=if iT D i then 4 else if kg D i then 2 else if aI (D.TM i) 0 20000||aI (D.TL i) 0 (D.TM i)then 7 else if 8<D.AN i then 3 else mV D i):=show _=_ from rfl
 have HE:bj (gR D i=if eR D.TN i≠0 then eR D.TN i else kK D i):=show _=_ from rfl
 have HCA:bj (mV D i=match aB (eV D i) (D.AN i) 0 with|some (_,e)=>e|none=>0):=show _=_ from rfl
 obtain⟨sa,sc,ba,bc,ta,tc,qa,qc,hvs,hvb,hvt,hvp⟩:=hV.forms
 obtain⟨za,zc,da,dc,pa,pc,ka,kc,ga,gc,hz1,hz2,hz3,hz4,hz5⟩:=hV.p.forms
 have HDC:bj (D.cells=#[T za D.pd.zn zc,T da D.pd.dn dc,T pa D.pd.pn pc,T ka D.pd.kn kc,T ga D.pd.qn gc,M U D.pd.panel,M U D.pd.wait,T sa D.sn sc,T ba D.bn bc,T ta D.tn tc,T qa D.pn qc,M U D.wlo,M U D.whi]):=show _=_ by unfold fO.cells;rw[hvs,hvb,hvt,hvp,hz1,hz2,hz3,hz4,hz5]
 have HPC:bj (D.pd.cells=#[T za D.pd.zn zc,T da D.pd.dn dc,T pa D.pd.pn pc,T ka D.pd.kn kc,T ga D.pd.qn gc,M U D.pd.panel,M U D.pd.wait]):=show _=_ by unfold bE.cells;rw[hz1,hz2,hz3,hz4,hz5]
 have HRs:=af (show aU w (T sa D.sn sc) _ _ _ from hvs▸hV.s)
 have HRb:=af (show aU w (T ba D.bn bc) _ _ _ from hvb▸hV.b)
 have HRt:=af (show aU w (T ta D.tn tc) _ _ _ from hvt▸hV.t)
 have HRq:=af (show aU w (T qa D.pn qc) _ _ _ from hvp▸hV.q)
 rw[HDC.out]
 rw[HPC.out]at HWr
 rw[show D.vt=T ta D.tn tc from hvt]at HNm
 clear hvs hvb hvt hvp hz1 hz2 hz3 hz4 hz5
 obtain⟨W0,xb,HW0,hC,hB⟩:=eB w 59 #[T za D.pd.zn zc,T da D.pd.dn dc,T pa D.pd.pn pc,T ka D.pd.kn kc,T ga D.pd.qn gc,M U D.pd.panel,M U D.pd.wait,T sa D.sn sc,T ba D.bn bc,T ta D.tn tc,T qa D.pn qc,M U D.wlo,M U D.whi]
 obtain⟨r,HS⟩:=dR (gR D i)
 rw[<-HS.out]
 go_enter func95,ntmps95
 go_upto_region 1 with fail
 rw[HW0.out.1,HW0.out.2]
 clear HW0
 have xx:=aX hC
 obtain⟨tb,ts,rfl,tl0,hc⟩:=(HRt.out.below hB).elem hi
 have e0:W0.cell? ⟨tb,ts+i*9,ag⟩=ai (ay (D.TN i)):=hc 0 om
 have e1:W0.cell? ⟨tb,ts+i*9+1,ag⟩=ai (D.V i 0):=hc 1 om
 have e2:W0.cell? ⟨tb,ts+i*9+2,ag⟩=ai (M U (D.TL i)):=hc 2 om
 have e3:W0.cell? ⟨tb,ts+i*9+3,ag⟩=ai (M U (D.TM i)):=hc 3 om
 have e4:W0.cell? ⟨tb,ts+i*9+4,ag⟩=ai (aA (D.TP i)):=hc 4 om
 have e5:W0.cell? ⟨tb,ts+i*9+5,ag⟩=ai (D.V i 1):=hc 5 om
 have e6:W0.cell? ⟨tb,ts+i*9+6,ag⟩=ai (D.V i 2):=hc 6 om
 have e7:W0.cell? ⟨tb,ts+i*9+7,ag⟩=ai (D.V i 3):=hc 7 om
 have e8:W0.cell? ⟨tb,ts+i*9+8,ag⟩=ai (T (D.AA i) (D.AN i) (D.AC i)):=hc 8 om
 unfold fO.V at e1 e5 e6 e7
 clear hc
 generalize hnm:D.TN i=nm at *
 clear hnm
 generalize D.TL i=tl at *
 generalize D.TM i=tm at *
 generalize D.TP i=tp at *
 generalize D.AA i=aa at *
 generalize D.AN i=an at *
 generalize D.AC i=ac at *
 have i2:(i:Int)<(D.tn:Int):=om
 go_upto_region 2 with fail
 obtain⟨w1,hW9,hN9,hb⟩:=bW W0 139 #[ay nm,T (D.LA i 0) (D.LN i 0) (D.LC i 0),M U tl,M U tm,aA tp,T (D.LA i 1) (D.LN i 1) (D.LC i 1),T (D.LA i 2) (D.LN i 2) (D.LC i 2),T (D.LA i 3) (D.LN i 3) (D.LC i 3),T aa an ac]
 rw[hW9.out]
 clear hW9
 obtain⟨hC,hB⟩:=bS hC hB hb
 generalize W0.heap.size=db at *
 have hD:=hN9
 have yy:=bZ hD
 clear hN9 e0 e1 e2 e3 e4 e5 e6 e7 e8 xx
 have xx:=aX hC
 go_wp2_with fail
 refine aZ (HNm.out _ hB) ?_
 intro w2 hb
 obtain⟨hC,hD,hB⟩:=bM hC hD hB hb
 clear HNm
 generalize eR D.TN i=q at *
 clear xx
 have xx:=aX hC
 clear yy
 have yy:=bZ hD
 by_cases hq:q=0
 rotate_left
 ·exact T97
 subst hq
 go_wp2_with fail
 obtain⟨v3a,hW9,hA,hb⟩:=bW w2 24 #[T (D.LA i 0) (D.LN i 0) (D.LC i 0)]
 rw[hW9.out]
 clear hW9
 obtain⟨hC,hD,hB⟩:=bM hC hD hB hb
 generalize w2.heap.size=vb at *
 have hA1:=hA
 have hRI:=af (iq (W:=v3a) (b:=vb) (m:=1) (o:=0) (V:=D.V i) (L:=D.LN i) (R:=D.LV i) hA1.lt (λj hj=>by match j,hj with|0,_=>exact hA1.cell 0|n+1,h9=>exact absurd h9 om) (λk hk=>HL.out k om _ hB))
 clear hA hA1
 clear xx
 have xx:=aX hC
 clear yy
 have yy:=bZ hD
 refine bH (gF i 1 _ _ _ _ _ om hRI.out om) ?_
 rintro(_|_) v3 g3 hb
 rotate_left
 ·rw[tP]at g3
  simp only[Nat.reduceAdd,Nat.zero_add]at g3
  obtain⟨hC,hD,hB⟩:=bM hC hD hB hb
  clear hRI
  clear xx
  have xx:=aX hC
  clear yy
  have yy:=bZ hD
  have hs:iT D i=true:=by unfold iT;rw[g3];rfl
  exact jh
 rw[tP]at g3
 simp only[Nat.reduceAdd,Nat.zero_add]at g3
 obtain⟨hC,hD,hB⟩:=bM hC hD hB hb
 clear hRI
 clear xx
 have xx:=aX hC
 clear yy
 have yy:=bZ hD
 go_wp2_with fail
 obtain⟨v4a,hW9,hA,hb⟩:=bW v3 24 #[T (D.LA i 1) (D.LN i 1) (D.LC i 1),T (D.LA i 2) (D.LN i 2) (D.LC i 2),T (D.LA i 3) (D.LN i 3) (D.LC i 3)]
 rw[hW9.out]
 clear hW9
 obtain⟨hC,hD,hB⟩:=bM hC hD hB hb
 generalize v3.heap.size=vb at *
 have hA1:=hA
 have hRI:=af (iq (W:=v4a) (b:=vb) (m:=3) (o:=1) (V:=D.V i) (L:=D.LN i) (R:=D.LV i) hA1.lt (λj hj=>by match j,hj with|0,_=>exact hA1.cell 0|1,_=>exact hA1.cell 1|2,_=>exact hA1.cell 2|n+3,h9=>exact absurd h9 om) (λk hk=>HL.out k om _ hB))
 clear hA hA1
 clear xx
 have xx:=aX hC
 clear yy
 have yy:=bZ hD
 refine bH (gF D.bn 3 _ _ _ _ _ om hRI.out om) ?_
 rintro(_|_) v4 g4 hb
 rotate_left
 ·rw[tG]at g4
  simp only[Nat.reduceAdd,Nat.zero_add]at g4
  obtain⟨hC,hD,hB⟩:=bM hC hD hB hb
  clear hRI
  clear xx
  have xx:=aX hC
  clear yy
  have yy:=bZ hD
  have hs:iT D i=true:=by unfold iT;rw[g3];exact g4
  exact jh
 rw[tG]at g4
 simp only[Nat.reduceAdd,Nat.zero_add]at g4
 obtain⟨hC,hD,hB⟩:=bM hC hD hB hb
 clear hRI
 clear xx
 have xx:=aX hC
 clear yy
 have yy:=bZ hD
 have hs:iT D i=false:=by unfold iT;rw[g3];exact g4
 go_wp2_with fail
 obtain⟨v5a,hW9,hA,hb⟩:=bW v4 24 #[T (D.LA i 0) (D.LN i 0) (D.LC i 0),T (D.LA i 1) (D.LN i 1) (D.LC i 1),T (D.LA i 2) (D.LN i 2) (D.LC i 2),T (D.LA i 3) (D.LN i 3) (D.LC i 3)]
 rw[hW9.out]
 clear hW9
 obtain⟨hC,hD,hB⟩:=bM hC hD hB hb
 generalize v4.heap.size=vb at *
 have hA1:=hA
 have hRI:=af (iq (W:=v5a) (b:=vb) (m:=4) (o:=0) (V:=D.V i) (L:=D.LN i) (R:=D.LV i) hA1.lt (λj hj=>by match j,hj with|0,_=>exact hA1.cell 0|1,_=>exact hA1.cell 1|2,_=>exact hA1.cell 2|3,_=>exact hA1.cell 3|n+4,h9=>exact absurd h9 om) (λk hk=>HL.out k om _ hB))
 clear hA hA1
 clear xx
 have xx:=aX hC
 clear yy
 have yy:=bZ hD
 refine bH (mM 4 _ _ _ _ _ hRI.out om) ?_
 rintro(_|_) v5 g5 hb
 rotate_left
 ·rw[tI]at g5
  simp only[Nat.reduceAdd,Nat.zero_add]at g5
  obtain⟨hC,hD,hB⟩:=bM hC hD hB hb
  clear hRI
  clear xx
  have xx:=aX hC
  clear yy
  have yy:=bZ hD
  have hm:kg D i=true:=by unfold kg;exact g5
  exact jh
 rw[tI]at g5
 simp only[Nat.reduceAdd,Nat.zero_add]at g5
 obtain⟨hC,hD,hB⟩:=bM hC hD hB hb
 clear hRI
 clear xx
 have xx:=aX hC
 clear yy
 have yy:=bZ hD
 have hm:kg D i=false:=by unfold kg;exact g5
 go_wp2_with fail
 refine bm (cV _ _ _ _) ?_
 rintro(_|_) g8
 rotate_left
 ·exact jh
 go_wp2_with fail
 refine bm (cV _ _ _ _) ?_
 rintro(_|_) g9
 rotate_left
 ·exact jh
 by_cases hl:8<an
 ·exact wG
 have hli:¬(8:Int)<(an:Int):=om
 go_wp2_with fail
 clear xx
 clear yy
 go_loopw [74] (λt wr=>∃j:Nat,j<=an/\t=M U (j:Int)/\bj (aB (eV D i) an 0=aB (eV D i) (an - j) j)/\am wr xb 59 #[T za D.pd.zn zc,T da D.pd.dn dc,T pa D.pd.pn pc,T ka D.pd.kn kc,T ga D.pd.qn gc,M U D.pd.panel,M U D.pd.wait,T sa D.sn sc,T ba D.bn bc,T (ai ⟨tb,ts,ag⟩) D.tn tc,T qa D.pn qc,M U D.wlo,M U D.whi]/\am wr db 139 #[ay nm,T (D.LA i 0) (D.LN i 0) (D.LC i 0),M U tl,M U tm,aA tp,T (D.LA i 1) (D.LN i 1) (D.LC i 1),T (D.LA i 2) (D.LN i 2) (D.LC i 2),T (D.LA i 3) (D.LN i 3) (D.LC i 3),T aa an ac]/\ap w.heap.size w wr) (λt _=>an - (aV t).toNat)
 case atStart=>exact⟨0,aF _,rfl,show _=_ from rfl,hC,hD,hB⟩
 case round=>
  clear hC hD hB
  obtain⟨j,hj,rfl,HJ,hC,hD,hB⟩:=hrel
  by_cases hlt:j<an
  rotate_left
  ·exact T35
  have HF:=af (HJ.out.trans (bf (eV D i) hlt))
  have HQ:bj (eV D i j=if D.AV i j 0≠0 then ai 2 else if dm D.pd (D.AV i j 0) (D.AV i j 1) (D.AV i j 2) (D.AV i j 3) (D.AV i j 4)=0 then ag else ai (dm D.pd (D.AV i j 0) (D.AV i j 1) (D.AV i j 2) (D.AV i j 3) (D.AV i j 4))):=show _=_ from rfl
  clear HJ
  have i3:(j:Int)<(an:Int):=om
  have xx:=aX hC
  have yy:=bZ hD
  obtain⟨ab,ao,rfl,al,hc⟩:=(HA.out.below hB).elem hlt
  have ee:=r5 hc
  simp only[bw,bq]at ee
  obtain⟨e0,e1,e2,e3,e4⟩:=ee
  clear hc
  generalize D.AV i j 0=b0 at *
  generalize D.AV i j 1=b1 at *
  generalize D.AV i j 2=b2 at *
  generalize D.AV i j 3=b3 at *
  generalize D.AV i j 4=b4 at *
  go_upto_region 17 with fail
  obtain⟨u1,hW9,hN9,hb⟩:=bW wr 294 #[M U b0,M U b1,M U b2,M U b3,M U b4]
  rw[hW9.out]
  clear hW9
  obtain⟨hC,hD,hB⟩:=bM hC hD hB hb
  generalize wr.heap.size=cb at *
  have hC2:=hN9
  have zz:=aL hC2
  clear hN9 e0 e1 e2 e3 e4 xx yy
  have xx:=aX hC
  have yy:=bZ hD
  by_cases h0:b0=0
  rotate_left
  ·exact T54
  subst h0
  go_wp2_with fail
  refine aZ (HWr.out 0 b1 b2 b3 b4 _ hB) ?_
  intro u2 hb
  obtain⟨hC,hC2,hD,hB⟩:=oy hC hC2 hD hB hb
  clear zz
  clear xx
  have xx:=aX hC
  clear yy
  exact T10
end
section
open Tryz
open Go.RowKit Go.Shelf
attribute [local go_sem] Oper.semAt_some
def eu (N:Nat->ByteArray) (i:Nat):Option Int:=if eR N i=0 then ag else ai (eR N i)
def gP (D:fO) (i:Nat):Option Int:=if eR D.BN i≠0 then ai (eR D.BN i)else if aI (D.BR i 1) 1 1000000||aI (D.BR i 2) 1 1000 then ai 7 else ag
def fZ (D:fO) (i:Nat):Option Int:=if gR D i=0 then ag else ai (gR D i)
def m6 (D:fO) (i:Nat):Option Int:=if aI (D.PV i) 0 ((D.tn:Int) - 1)then ai 4 else if 0<i/\D.PV i<=D.PV (i - 1)then ai 2 else ag
def qj (D:fO):Int×Int×Int:=
 if(eF D.pd).2.2≠0 then(1,0,(eF D.pd).2.2)else if 8<D.sn\/6<D.bn\/aI D.tn 1 16=true then(2,0,3)else
 match aB (eu D.SN) D.sn 0 with
 |some (i,e)=>(3,((i:Nat):Int),e)
 |none=>match aB (gP D) D.bn 0 with
  |some (i,e)=>(4,((i:Nat):Int),e)
  |none=>match aB (fZ D) D.tn 0 with
   |some (i,e)=>(5,((i:Nat):Int),e)
   |none=>match aB (m6 D) D.pn 0 with
    |some (i,e)=>(6,((i:Nat):Int),e)
    |none=>if aI D.whi 0 100000||aI D.wlo 0 D.whi then(7,0,7)else(0,0,0)
theorem mC (D:fO) (w:aj) (hV:rf w D):
  aC prog 30 #[aN D.cells] w (E3 w (qj D)):=by
 have hlp:=hV.lp
 obtain⟨⟨p1,p2,p3⟩,hpr⟩:∃p,eF D.pd=p:=⟨_,rfl⟩
 have HPd:=af (λW (h:ap w.heap.size w W)=>go D.pd W (hV.p.below h))
 unfold E3 at HPd
 have HNs:=af (λ(hs:D.sn<=8) (i:Nat) (hi:i<D.sn) W (h:ap w.heap.size w W)=>oh 92 (λ_ _=>by kernel_rfl) D.sn i (λi _=>ay (D.SN i)) D.SN D.vs W (hV.s.below h) om hi hV.ns (λk W2 hk _=>kX (D.SN k) W2))
 have HNb:=af (λ(hs:D.bn<=6) (i:Nat) (hi:i<D.bn) W (h:ap w.heap.size w W)=>n9 94 (λ_ _=>by kernel_rfl) D.bn i (em D.BN D.BR) D.BN D.vb W (hV.b.below h) om hi hV.nb (λk W2 hk _=>kP (D.BN k) _ _ W2))
 have HSt:=af (λ(he:(eF D.pd).2.2=0) (h1:D.tn<=16) (h2:D.bn<=6) (i:Nat) (hi:i<D.tn) W (h:ap w.heap.size w W)=>oG D i W (hV.below h) he hi h1 h2)
 obtain⟨sa,sc,ba,bc,ta,tc,qa,qc,hvs,hvb,hvt,hvp⟩:=hV.forms
 obtain⟨za,zc,da,dc,pa,pc,ka,kc,ga,gc,hz1,hz2,hz3,hz4,hz5⟩:=hV.p.forms
 have HDC:bj (D.cells=#[T za D.pd.zn zc,T da D.pd.dn dc,T pa D.pd.pn pc,T ka D.pd.kn kc,T ga D.pd.qn gc,M U D.pd.panel,M U D.pd.wait,T sa D.sn sc,T ba D.bn bc,T ta D.tn tc,T qa D.pn qc,M U D.wlo,M U D.whi]):=show _=_ by unfold fO.cells;rw[hvs,hvb,hvt,hvp,hz1,hz2,hz3,hz4,hz5]
 have HPC:bj (D.pd.cells=#[T za D.pd.zn zc,T da D.pd.dn dc,T pa D.pd.pn pc,T ka D.pd.kn kc,T ga D.pd.qn gc,M U D.pd.panel,M U D.pd.wait]):=show _=_ by unfold bE.cells;rw[hz1,hz2,hz3,hz4,hz5]
 have HRs:=af (show aU w (T sa D.sn sc) _ _ _ from hvs▸hV.s)
 have HRb:=af (show aU w (T ba D.bn bc) _ _ _ from hvb▸hV.b)
 have HRt:=af (show aU w (T ta D.tn tc) _ _ _ from hvt▸hV.t)
 have HRq:=af (show aU w (T qa D.pn qc) _ _ _ from hvp▸hV.q)
 rw[HDC.out]
 rw[HPC.out,hpr]at HPd
 simp only at HPd
 rw[show D.vs=T sa D.sn sc from hvs]at HNs
 rw[show D.vb=T ba D.bn bc from hvb]at HNb
 rw[HDC.out]at HSt
 clear hvs hvb hvt hvp hz1 hz2 hz3 hz4 hz5
 obtain⟨W0,xb,HW0,hC,hB⟩:=eB w 59 #[T za D.pd.zn zc,T da D.pd.dn dc,T pa D.pd.pn pc,T ka D.pd.kn kc,T ga D.pd.qn gc,M U D.pd.panel,M U D.pd.wait,T sa D.sn sc,T ba D.bn bc,T ta D.tn tc,T qa D.pn qc,M U D.wlo,M U D.whi]
 obtain⟨r,HS⟩:=dR (qj D)
 rw[<-HS.out]
 go_enter func30,ntmps30
 go_upto_region 1 with fail
 rw[HW0.out.1,HW0.out.2]
 clear HW0
 have xx:=aX hC
 go_wp2_with fail
 refine aZ (HPd.out _ hB) ?_
 intro w1 hb
 obtain⟨hC,hB⟩:=bS hC hB hb
 clear xx
 have xx:=aX hC
 by_cases he:p3=0
 rotate_left
 ·have heb:(p3 != 0)=true:=by simpa using he
  exact js
 subst he
 by_cases h1:8<D.sn
 ·have h1i:(8:Int)<(D.sn:Int):=om
  exact js
 have h1i:¬(8:Int)<(D.sn:Int):=om
 by_cases h2:6<D.bn
 ·have h2i:(6:Int)<(D.bn:Int):=om
  exact js
 have h2i:¬(6:Int)<(D.bn:Int):=om
 go_wp2_with fail
 refine bm (cV _ _ _ _) ?_
 rintro(_|_) g0
 rotate_left
 ·exact js
 have htn:=aW.1 g0
 go_wp2_with fail
 clear xx
 go_loopw [40] (λt wr=>∃j:Nat,j<=D.sn/\t=M U (j:Int)/\bj (aB (eu D.SN) D.sn 0=aB (eu D.SN) (D.sn - j) j)/\am wr xb 59 #[T za D.pd.zn zc,T da D.pd.dn dc,T pa D.pd.pn pc,T ka D.pd.kn kc,T ga D.pd.qn gc,M U D.pd.panel,M U D.pd.wait,T sa D.sn sc,T ba D.bn bc,T ta D.tn tc,T qa D.pn qc,M U D.wlo,M U D.whi]/\ap w.heap.size w wr) (λt _=>D.sn - (aV t).toNat)
 case atStart=>exact⟨0,aF _,rfl,show _=_ from rfl,hC,hB⟩
 case round=>
  clear hC hB
  obtain⟨j,hj,rfl,HJ,hC,hB⟩:=hrel
  by_cases hlt:j<D.sn
  ·have HF:=af (HJ.out.trans (bf (eu D.SN) hlt))
   clear HJ
   have i2:(j:Int)<(D.sn:Int):=om
   have xx:=aX hC
   go_wp2_with fail
   refine aZ (HNs.out om j hlt _ hB) ?_
   intro w9 hb
   obtain⟨hC,hB⟩:=bS hC hB hb
   have HQ:bj (eu D.SN j=if eR D.SN j=0 then ag else ai (eR D.SN j)):=show _=_ from rfl
   generalize eR D.SN j=q at *
   clear xx
   have xx:=aX hC
   by_cases hq:q=0
   rotate_left
   ·exact T64
   subst hq
   have HJ2:bj (aB (eu D.SN) D.sn 0=aB (eu D.SN) (D.sn - (j+1)) (j+1)):=by
    exact pZ
   exact qG
  have hjn:j=D.sn:=om
  have hk:=HJ.out
  rw[hjn]at hk
  replace hk:=hk.trans (bh (eu D.SN) D.sn)
  clear HJ
  have hnj:¬(j:Int)<(D.sn:Int):=om
  clear hjn
  have hk1:=hk
  clear hk
  have xx:=aX hC
  go_wp2_with fail
  clear xx
  go_loopw [55] (λt wr=>∃j:Nat,j<=D.bn/\t=M U (j:Int)/\bj (aB (gP D) D.bn 0=aB (gP D) (D.bn - j) j)/\am wr xb 59 #[T za D.pd.zn zc,T da D.pd.dn dc,T pa D.pd.pn pc,T ka D.pd.kn kc,T ga D.pd.qn gc,M U D.pd.panel,M U D.pd.wait,T sa D.sn sc,T ba D.bn bc,T ta D.tn tc,T qa D.pn qc,M U D.wlo,M U D.whi]/\ap w.heap.size w wr) (λt _=>D.bn - (aV t).toNat)
  case atStart=>exact⟨0,aF _,rfl,show _=_ from rfl,hC,hB⟩
  case round=>
   clear hC hB
   obtain⟨j,hj,rfl,HJ,hC,hB⟩:=hrel
   by_cases hlt:j<D.bn
   ·have HF:=af (HJ.out.trans (bf (gP D) hlt))
    clear HJ
    have i2:(j:Int)<(D.bn:Int):=om
    have xx:=aX hC
    obtain⟨bb,bo,rfl,bl,hc⟩:=(HRb.out.below hB).elem hlt
    have e0:wr.cell? ⟨bb,bo+j*3,ag⟩=ai (ay (D.BN j)):=hc 0 om
    have e1:wr.cell? ⟨bb,bo+j*3+1,ag⟩=ai (M U (D.BR j 1)):=hc 1 om
    have e2:wr.cell? ⟨bb,bo+j*3+2,ag⟩=ai (M U (D.BR j 2)):=hc 2 om
    clear hc
    have HQ:bj (gP D j=if eR D.BN j≠0 then ai (eR D.BN j)else if aI (D.BR j 1) 1 1000000||aI (D.BR j 2) 1 1000 then ai 7 else ag):=show _=_ from rfl
    have HNj:=af (HNb.out om j hlt)
    generalize D.BN j=b0 at e0
    generalize D.BR j 1=b1 at *
    generalize D.BR j 2=b2 at *
    go_upto_region 16 with fail
    obtain⟨w8,hW9,hN9,hb⟩:=bW wr 200 #[ay b0,M U b1,M U b2]
    rw[hW9.out]
    clear hW9
    obtain⟨hC,hB⟩:=bS hC hB hb
    generalize wr.heap.size=db at *
    have hD:=hN9
    have yy:=dT hD
    clear hN9 e0 e1 e2 xx
    have xx:=aX hC
    go_wp2_with fail
    refine aZ (HNj.out _ hB) ?_
    intro w9 hb
    obtain⟨hC,hD,hB⟩:=bM hC hD hB hb
    clear HNj
    generalize eR D.BN j=q at *
    clear xx
    have xx:=aX hC
    clear yy
    have yy:=dT hD
    by_cases hq:q=0
    rotate_left
    ·have hqb:(q != 0)=true:=by simpa using hq
     exact T95
    subst hq
    go_wp2_with fail
    refine bm (cV _ _ _ _) ?_
    rintro(_|_) g1
    rotate_left
    ·exact T95
    go_wp2_with fail
    refine bm (cV _ _ _ _) ?_
    rintro(_|_) g2
    rotate_left
    ·exact T95
    have HJ2:bj (aB (gP D) D.bn 0=aB (gP D) (D.bn - (j+1)) (j+1)):=by
     exact tu
    exact qG
   have hjn:j=D.bn:=om
   have hk:=HJ.out
   rw[hjn]at hk
   replace hk:=hk.trans (bh (gP D) D.bn)
   clear HJ
   have hnj:¬(j:Int)<(D.bn:Int):=om
   clear hjn
   have hk2:=hk
   clear hk
   have xx:=aX hC
   go_wp2_with fail
   clear xx
   go_loopw [83] (λt wr=>∃j:Nat,j<=D.tn/\t=M U (j:Int)/\bj (aB (fZ D) D.tn 0=aB (fZ D) (D.tn - j) j)/\am wr xb 59 #[T za D.pd.zn zc,T da D.pd.dn dc,T pa D.pd.pn pc,T ka D.pd.kn kc,T ga D.pd.qn gc,M U D.pd.panel,M U D.pd.wait,T sa D.sn sc,T ba D.bn bc,T ta D.tn tc,T qa D.pn qc,M U D.wlo,M U D.whi]/\ap w.heap.size w wr) (λt _=>D.tn - (aV t).toNat)
   case atStart=>exact⟨0,aF _,rfl,show _=_ from rfl,hC,hB⟩
   case round=>
    clear hC hB
    obtain⟨j,hj,rfl,HJ,hC,hB⟩:=hrel
    by_cases hlt:j<D.tn
    ·have HF:=af (HJ.out.trans (bf (fZ D) hlt))
     clear HJ
     have i2:(j:Int)<(D.tn:Int):=om
     have xx:=aX hC
     go_wp2_with fail
     refine aZ (HSt.out (by rw[hpr]) om om j hlt _ hB) ?_
     intro w9 hb
     obtain⟨hC,hB⟩:=bS hC hB hb
     have HQ:bj (fZ D j=if gR D j=0 then ag else ai (gR D j)):=show _=_ from rfl
     generalize gR D j=q at *
     clear xx
     have xx:=aX hC
     by_cases hq:q=0
     rotate_left
     ·exact T64
     subst hq
     have HJ2:bj (aB (fZ D) D.tn 0=aB (fZ D) (D.tn - (j+1)) (j+1)):=by
      exact pZ
     exact qG
    have hjn:j=D.tn:=om
    have hk:=HJ.out
    rw[hjn]at hk
    replace hk:=hk.trans (bh (fZ D) D.tn)
    clear HJ
    have hnj:¬(j:Int)<(D.tn:Int):=om
    clear hjn
    have hk3:=hk
    clear hk
    have xx:=aX hC
    go_wp2_with fail
    clear xx
    go_loopw [97] (λt wr=>∃j:Nat,j<=D.pn/\t=M U (j:Int)/\bj (aB (m6 D) D.pn 0=aB (m6 D) (D.pn - j) j)/\am wr xb 59 #[T za D.pd.zn zc,T da D.pd.dn dc,T pa D.pd.pn pc,T ka D.pd.kn kc,T ga D.pd.qn gc,M U D.pd.panel,M U D.pd.wait,T sa D.sn sc,T ba D.bn bc,T ta D.tn tc,T qa D.pn qc,M U D.wlo,M U D.whi]/\ap w.heap.size w wr) (λt _=>D.pn - (aV t).toNat)
    case atStart=>exact⟨0,aF _,rfl,show _=_ from rfl,hC,hB⟩
    case round=>
     clear hC hB
     obtain⟨j,hj,rfl,HJ,hC,hB⟩:=hrel
     by_cases hlt:j<D.pn
     rotate_left
     ·have hjn:j=D.pn:=om
      have hk:=HJ.out
      rw[hjn]at hk
      replace hk:=hk.trans (bh (m6 D) D.pn)
      clear HJ
      have hnj:¬(j:Int)<(D.pn:Int):=om
      clear hjn
      have hk4:=hk
      clear hk
      have xx:=aX hC
      go_wp2_with fail
      refine bm (cV _ _ _ _) ?_
      rintro(_|_) g1
      rotate_left
      ·exact js
      go_wp2_with fail
      refine bm (cV _ _ _ _) ?_
      rintro(_|_) g2
      ·exact js
      exact js
     have HF:=af (HJ.out.trans (bf (m6 D) hlt))
     clear HJ
     have i2:(j:Int)<(D.pn:Int):=om
     have xx:=aX hC
     have HQ:bj (m6 D j=if aI (D.PV j) 0 ((D.tn:Int) - 1)then ai 4 else if 0<j/\D.PV j<=D.PV (j - 1)then ai 2 else ag):=show _=_ from rfl
     have hw:=aD ((D.tn:Int) - 1) ⟨by omega,by omega⟩
     obtain⟨qb,qo,rfl,ql,hc⟩:=(HRq.out.below hB).elem hlt
     have e0:wr.cell? ⟨qb,qo+j,ag⟩=ai (M U (D.PV j)):=eI hc
     clear hc
     by_cases hj0:0<j
     rotate_left
     ·obtain rfl:j=0:=om
      have hj0:¬(0:Nat)<0:=om
      rw[bq]at e0
      have i20:(0:Int)<(D.pn:Int):=om
      generalize D.PV 0=v at *
      go_wp2_with fail
      refine bm (cV _ _ _ _) ?_
      rintro(_|_) g1
      rotate_left
      ·exact T93
      have HJ2:bj (aB (m6 D) D.pn 0=aB (m6 D) (D.pn - (0+1)) (0+1)):=by
       have h9:=HQ.out
       simp[g1]at h9
       unfold bj;rw[HF.out,h9]
      clear HF HQ
      exact qf
     obtain⟨k,rfl⟩:∃k,j=k+1:=⟨j - 1,by omega⟩
     obtain⟨q2,o2,hq2,-,hc2⟩:=(HRq.out.below hB).elem (show k<D.pn by omega)
     obtain⟨rfl,rfl⟩:qb=q2/\qo=o2:=by simpa using hq2
     have e1:wr.cell? ⟨qb,qo+k,ag⟩=ai (M U (D.PV k)):=eI hc2
     clear hc2 hq2
     have k1:(((k+1:Nat):Int) - 1)=(k:Int):=om
     have k2:=aD (((k+1:Nat):Int) - 1) ⟨by omega,by omega⟩
     have k3:(0:Int)<((k+1:Nat):Int):=om
     have k4:(k:Int)<(D.pn:Int):=om
     rw[show k+1 - 1=k from rfl]at HQ
     generalize D.PV (k+1)=v at *
     generalize D.PV k=u at *
     go_wp2_with fail
     refine bm (cV _ _ _ _) ?_
     rintro(_|_) g1
     rotate_left
     ·exact T93
     by_cases hu:v<=u
     ·have hJ:=HF.out
      rw[HQ.out]at hJ
      simp[g1,hu]at hJ
      clear HF HQ
      exact js
     exact T37
end
end Go.Proofs.YtbpnallaifdcpaaGreatDoor
