/- Parts of the proof. -/
import Derived.Test.YtbpnallaifdcpaaGreatDoorZi
set_option linter.unusedVariables false
set_option linter.unusedSimpArgs false
set_option maxRecDepth 100000
set_option maxHeartbeats 4000000
namespace Go.Proofs.YtbpnallaifdcpaaGreatDoor
open Go.Value renaming int→M
open Go.IntKind renaming i64→U
open Go.Value renaming slice→T,pointer→ax,agg→aN
open Go.Lib renaming hid→af
open Option renaming none→ag,some→ai
open Go renaming World→aj,Value→aw,Calls→aC,wpList_append_lies→ci,maxLen→cF
open Go.RowKit renaming Below→ap,Hid→bj
open Go.RowKit.Below renaming refl→au
open Nat renaming le_trans→aO,lt_of_lt_of_le→aQ,le_refl→aY,le_of_eq→bs
open Go.World renaming size_alloc→bg,ownsRow.alloc→ck,news_of_block→cm
open Go.Code renaming wp→bi
open Go.Exit renaming normal→bk
section
open Tryz
open Go.RowKit Go.Shelf
attribute [local go_sem] Oper.semAt_some
def ow (D:bE) (S:bL) (what:Int):Bool:=(D.nears what).all λq=>!S.storm||S.Q q==2
def iY (D:bE) (S:bL) (i:Nat) (what:Int) (r:Except Int bL):Except Int bL:=pM (decide (what<0)||decide (D.ZR what.toNat 5<=D.PR i 1)) 172 (pM (ow D S what) 173 (pM (dX D S (i:Int) what) 174 r))
def iQ (D:bE) (S:bL) (what fr:Int):Except Int bL:=pM (decide (what<0)||decide ((S.crowd what:Int)<=D.ZR what.toNat 6)) 175 (pM (!dz D S what&&!dz D S fr) 176 (.ok S))
def dC (D:bE) (S:bL) (who:Nat) (what wto:Int):Except Int bL:=pM ((fj D (S.Z who) what||fj D what (S.Z who))&&(decide (wto<0)||S.Z wto.toNat==S.Z who)) 171
 (iY D S who what (if wto<0 then iQ D (S.setZ who what) what (S.Z who)else iY D S wto.toNat what (iQ D ((S.setZ who what).setZ wto.toNat what) what (S.Z who))))
theorem eX.below {B:Nat} {W W':aj} {L:List Nat} (h:eX B W L) (hb:ap W.heap.size W W'):eX B W' L:=
 ⟨h.1,λd hd=>⟨(h.2 d hd).1,(hb.block _ (Array.getElem?_eq_some_iff.1 (h.2 d hd).2).1).trans (h.2 d hd).2⟩⟩
theorem eX.set {B:Nat} {W:aj} {L:List Nat} (h:eX B W L) (p:Addr) (v:aw):eX B (W.setCell p v) L:=
 ⟨h.1,λd hd=>⟨(h.2 d hd).1,(KeepsOthers.setCell _ _ _).same d _ (h.2 d hd).2 rfl⟩⟩
theorem eX.add {w0 W W':aj} {L:List Nat} {d:Nat} (h:eX w0.heap.size W L) (hb:ap W.heap.size W W') (h0:ap w0.heap.size w0 W) (hd:W.heap.size<=d) (hK:W'.heap[d]?=ai (.deferred (ai []))):eX w0.heap.size W' (d :: L):=by
 have h2:=h.below hb
 refine⟨List.nodup_cons.2 ⟨λhm=>?_,h2.1⟩,λe he=>?_⟩
 ·have:=(Array.getElem?_eq_some_iff.1 (h.2 d hm).2).1
  omega
 rcases List.mem_cons.1 he with rfl|he
 ·exact⟨aO h0.size hd,hK⟩
 exact h2.2 e he
def fU (W:aj) (g:Nat) (L:List Int):Prop:=g<W.heap.size/\∀j v,L[j]?=ai v->W.cell? ⟨g,j,ag⟩=ai (M U v)
theorem fU.below {W W':aj} {g:Nat} {L:List Int} (h:fU W g L) (hb:ap W.heap.size W W'):fU W' g L:=
 ⟨aQ h.1 hb.size,λj v hj=>(hb.cell (p:=⟨g,j,ag⟩) h.1).trans (h.2 j v hj)⟩
theorem fU.drew {W:aj} {g:Nat} {L:List Int} (h:fU W g L):fU W.drew g L:=h
theorem fU.set_other {W:aj} {g:Nat} {L:List Int} (h:fU W g L) {p:Addr} (hp:p.block≠g) (u:aw):fU (W.setCell p u) g L:=
 ⟨aQ h.1 (KeepsOthers.setCell _ _ _).1,λj v hj=>by rw[aj.cell?_setCell_other (h:=λe=>hp (by rw[e]))];exact h.2 j v hj⟩
theorem bQ {D:bE} {S:bL} (h:S.storm=false) (what:Int):ow D S what=true:=by unfold ow;rw[List.all_eq_true];intro q _;rw[h];rfl
theorem nW (D:bE) (S:bL) (cb who:Nat) (at_ kind what wto:Int) (w0 w:aj) (hO:bR w0 w cb D S) (hw:who<S.zn) (hwt:wto<S.zn) (hz:what<D.zn) (hst:S.storm=false) (hG:cA D) (hF:gJ D S) (hdn:D.dn<=1000000) (hzn:S.zn<=1000000) (hzd:S.Z who<D.zn):
  aC prog 504 #[ax (ai ⟨cb,0,ag⟩),aN #[M U at_,M U kind,M U (who:Int),M U what,M U wto]] w (cu w0 cb D (dC D S who what wto)):=by
 have HGW:=af (show∀g c,S.zv=T (ai ⟨g,0,ag⟩) S.zn c->g<w.heap.size from λg c e=>by obtain⟨g2,c2,e2,_,h3,_⟩:=hO.putZ hw;rw[e]at e2;cases e2;exact h3)
 obtain⟨r,HS⟩:=dR (dC D S who what wto)
 rw[<-HS.out]
 obtain⟨W0,hW0⟩:∃W0,(w.alloc (.cells #[ax (ai ⟨cb,0,ag⟩)] 554)).alloc (.cells #[M U at_,M U kind,M U (who:Int),M U what,M U wto] 294)=W0:=⟨_,rfl⟩
 have hB:ap w.heap.size w W0:=by rw[<-hW0];exact aP (aP (au _ _) _) _
 have hC:am W0 w.heap.size 554 #[ax (ai ⟨cb,0,ag⟩)]:=by
  exact ul
 have hX:am W0 (w.heap.size+1) 294 #[M U at_,M U kind,M U (who:Int),M U what,M U wto]:=by
  rw[<-hW0]
  have h:=aK (w.alloc (.cells #[ax (ai ⟨cb,0,ag⟩)] 554)) (.cells #[M U at_,M U kind,M U (who:Int),M U what,M U wto] 294)
  simp only[bg]at h
  exact h
 have HO:=af (hO.below hB)
 clear hO
 have HW0:=af hW0
 clear hW0
 refine(callsIn_wide (n:=3)).1 (callsIn_of_wp_marks func504 rfl trivial ?_ rfl)
 refine wpIn_wide.2 ?_
 simp only[ntmps504,List.size_toArray,List.length_cons,List.length_nil,Nat.reduceAdd,Nat.reduceSub,Array.replicate_succ,Array.replicate_zero,List.push_toArray,List.append_toArray,List.nil_append,List.cons_append]
 go_upto_region 1 with fail
 rw[HW0.out]
 clear HW0
 obtain⟨b2,hpe⟩:=bY w.heap.size
 have hb2:w.heap.size<=b2:=bs hpe.symm
 rw[<-hpe]at hC hX⊢
 obtain⟨b3,hye⟩:=bY (b2+1)
 have hb3:b2<b3:=om
 rw[<-hye]at hX⊢
 clear hpe hye
 have x8:=(bK HO.out.at).2.2.2.2.2.2.2.2.1
 obtain⟨_,zc,hvz,_⟩:=HO.out.at.s.z.form
 have hRz:=HO.out.at.s.z
 rw[hvz]at hRz x8
 obtain⟨zb,zo,rfl,zl,hc1⟩:=hRz.elem hw
 have e1:W0.cell? ⟨zb,zo+who,ag⟩=ai (M U (S.Z who)):=eI hc1
 have y2:=hX.cell 2
 have c0:=hC.cell 0
 have i1:(who:Int)<(S.zn:Int):=om
 have hA0:=HO.out.at
 have HFR:bj (∃f,f=S.Z who):=show∃f,f=S.Z who from⟨_,rfl⟩
 obtain⟨fr,hfr⟩:=HFR.out
 rw[<-hfr]at e1
 have HFR:=af hfr
 clear hfr
 go_region
 clear x8 hRz hc1 e1 y2 i1 zl hvz
 have hO1:=HO.out.below (au W0.heap.size W0).drew
 have hC1:=hC.drew
 have hX1:=hX.drew
 replace hB:=ap.drew hB
 clear HO hC hX hA0 c0
 (try simp only[Exit.inBlock,Exit.then])
 (try refine‹∀(a:Act) (w:aj),bi prog _ _ a w->_› _ _ ?_)
 go_upto_region 2 with fail
 generalize W0.drew=wa at *
 have HO:=af hO1
 have hC:=hC1
 have hX:=hX1
 clear hO1 hC1 hX1
 refine mv2 (D:=D) (S:=S) kr HO.out.at (hC.cell 0) hX hdn ?_
 intro u5 u21 u22 u23 u24 u25 u26 u27 u28 u29 u30 u31 u32 u33 u34 u35 u36 u37 u38 u39 u40 u41 u42 w1 hb hu5
 generalize hdr:(fj D fr what||fj D what fr)=dr at *
 have HDR:=af hdr
 clear hdr
 subst hu5
 have hO1:=HO.out.below hb
 replace hC:=hC.below hb
 replace hX:=hX.below hb
 replace hB:=ak hB hb
 clear HO hb
 have HO:=af hO1
 clear hO1
 (try simp only[Exit.inBlock,Exit.then])
 (try refine‹∀(a:Act) (w:aj),bi prog _ _ a w->_› _ _ ?_)
 go_upto_region 3 with fail
 refine mv3 (D:=D) (S:=S) kr HO.out.at (hC.cell 0) hX hwt (λhT=>?_) (λhT=>?_)
 rotate_left
 ·have hT3:((fj D (S.Z who) what||fj D what (S.Z who))&&(decide (wto<0)||S.Z wto.toNat==S.Z who))=false:=by rw[<-HFR.out,HDR.out];exact hT
  intro a w9 hb hd
  obtain⟨at1,ad1⟩:=a
  have hd2:ad1=[]:=hd
  subst hd2
  show LeavesInM Fence.wide 3 prog f504 at1 (cu w0 cb D r) [] (.panicking (cN 171)) w9
  rw[HS.out,dC,eN hT3]
  exact cT [] _ ⟨by simp,by simp⟩ (ak HO.out.base hb)
 have hT3:((fj D (S.Z who) what||fj D what (S.Z who))&&(decide (wto<0)||S.Z wto.toNat==S.Z who))=true:=by rw[<-HFR.out,HDR.out];exact hT
 have HT3:=af hT3
 clear hT hT3 HDR
 intro u43 u44 u45 u46 u47 u48 u49 u50 u51 u52 u53 u54 u55 u56 u57 u58 u59 u60 u61 u62 w2 hb
 have hO1:=HO.out.below hb
 replace hC:=hC.below hb
 replace hX:=hX.below hb
 replace hB:=ak hB hb
 clear HO hb
 have HO:=af hO1
 clear hO1
 (try simp only[Exit.inBlock,Exit.then])
 (try refine‹∀(a:Act) (w:aj),bi prog _ _ a w->_› _ _ ?_)
 have y2:=hX.cell 2
 have y4:=hX.cell 4
 have c0:=hC.cell 0
 have hlX:=hX.lt
 have hlC:=hC.lt
 have hlS:=HO.out.c.lt
 by_cases hn:wto<0
 ·have hdn0:decide (wto<0)=true:=decide_eq_true hn
  have hge:¬0<=wto:=om
  have hge2:decide (0<=wto)=false:=decide_eq_false hge
  go_upto_region 8 with fail
  have hBz:=hB.size
  have hG1:am (w2.alloc (.cells #[M U (who:Int)] 3)) w2.heap.size 3 #[M U (who:Int)]:=aK w2 _
  have hb:=aP (au w2.heap.size w2) (.cells #[M U (who:Int)] 3)
  have hO1:=HO.out.below hb
  replace hC:=hC.below hb
  replace hX:=hX.below hb
  replace hB:=ak hB hb
  clear HO hb
  have HO:=af hO1
  clear hO1
  clear hlX hlC hlS y2 y4 c0 hdn0 hge hge2
  generalize w2.alloc (.cells #[M U (who:Int)] 3)=w3 at *
  have hgb:w.heap.size<=w2.heap.size:=hBz
  clear hBz
  generalize w2.heap.size=gb at *
  have hgl:=hG1.lt
  have hG9:fU w3 gb [(who:Int)]:=⟨hgl,λj v hj=>by rcases j with _|j<;>simp at hj;subst hj;exact hG1.cell 0⟩
  clear hG1
  have hG1:=hG9
  clear hG9
  have g0:=hG1.2 0 _ rfl
  have HMK:bj (eX w0.heap.size w3 []):=show eX _ _ _ from⟨by simp,by simp⟩
  have hwp:who<D.pn:=by have:=hF.z;omega
  refine wp_loop_rounds 2 ?_
  rw[rounds_succ]
  go_upto_region 10 with fail
  refine uf (D:=D) (S:=S) (i:=who) kr HO.out.at (hC.cell 0) hX hwp hz (λhT=>?_) (λhT=>?_)
  rotate_left
  ·intro a w9 hb hd
   obtain⟨at1,ad1⟩:=a
   subst hd
   show LeavesInM Fence.wide 3 prog f504 at1 (cu w0 cb D r) [] (.panicking (cN 172)) w9
   rw[HS.out,dC,bB HT3.out,iY,eN hT]
   exact cT [] _ (HMK.out.below hb) (ak HO.out.base hb)
  have HTa1:=af hT
  clear hT
  intro u80 u81 u82 u83 u84 u85 u86 u87 u88 u89 u90 u91 u92 u93 u94 u95 u96 u97 u98 u99 u100 u101 u102 u103 u104 u105 w9 hb
  have HMK:=af (HMK.out.below hb)
  replace hG1:=hG1.below hb
  have hO1:=HO.out.below hb
  replace hC:=hC.below hb
  replace hX:=hX.below hb
  replace hB:=ak hB hb
  clear HO hb
  have HO:=af hO1
  clear hO1
  (try simp only[Exit.inBlock,Exit.then])
  (try refine‹∀(a:Act) (w:aj),bi prog _ _ a w->_› _ _ ?_)
  refine nS (D:=D) (S:=S) (i:=who) kr HO.out.at (hC.cell 0) hX hst hG hF hz (λhT=>?_) (λhT=>?_)
  rotate_left
  ·intro a Dd1 w10 hb hDd hKd hd
   obtain⟨at1,ad1⟩:=a
   subst hd
   show LeavesInM Fence.wide 3 prog f504 at1 (cu w0 cb D r) [{target:= .collected Dd1,args:=#[]}] (.panicking (cN 174)) w10
   rw[HS.out,dC,bB HT3.out,iY,bB HTa1.out,bB (bQ hst what),eN hT]
   exact wF
  have HTb1:=af hT
  clear hT
  intro u106 u107 u108 u109 u110 u111 u112 u132 u133 u134 u135 u136 u137 Dd1 w10 hb hDd hKd
  have HMK:=af (HMK.out.add hb HO.out.base hDd hKd)
  clear hDd hKd
  replace hG1:=hG1.below hb
  have hO1:=HO.out.below hb
  replace hC:=hC.below hb
  replace hX:=hX.below hb
  replace hB:=ak hB hb
  clear HO hb
  have HO:=af hO1
  clear hO1
  (try simp only[Exit.inBlock,Exit.then])
  (try refine‹∀(a:Act) (w:aj),bi prog _ _ a w->_› _ _ ?_)
  go_wp2_with fail
  rw[rounds_succ]
  have g0:=hG1.2 0 _ rfl
  have hgl:=hG1.1
  go_upto_region 17 with fail
  refine wp_loop_rounds 2 ?_
  rw[rounds_succ]
  go_upto_region 19 with fail
  refine uK (D:=D) (S:=S) (w0:=w0) (i:=who) kr HO.out (hC.cell 0) hX hw ?_
  intro u145 u146 u147 u148 u149 u150 u151 u152 u153 g c hzv hO1
  have hgw:=HGW.out g c hzv
  have hC1:=hC.drew.set_other (p:=⟨g,who,ag⟩) (by show g≠b2;omega) (M U what)
  have hX1:=hX.drew.set_other (p:=⟨g,who,ag⟩) (by show g≠b3;omega) (M U what)
  have hG2:=hG1.drew.set_other (p:=⟨g,who,ag⟩) (by show g≠gb;omega) (M U what)
  have hM1:=(show eX w0.heap.size w10.drew [Dd1]from HMK.out).set ⟨g,who,ag⟩ (M U what)
  clear HO HMK hC hX hG1 hzv hgw
  (try clear hB)
  generalize w10.drew.setCell ⟨g,who,ag⟩ (M U what)=w11 at *
  have HO:=af hO1
  have hC:=hC1
  have hX:=hX1
  have hG1:=hG2
  have HMK:=af hM1
  clear hO1 hC1 hX1 hG2 hM1
  (try simp only[Exit.inBlock,Exit.then])
  (try refine‹∀(a:Act) (w:aj),bi prog _ _ a w->_› _ _ ?_)
  go_wp2_with fail
  rw[rounds_succ]
  go_upto_region 21 with fail
  refine vU (D:=D) (S:=S.setZ who what) kr HO.out.at (hC.cell 0) hX hzn hz (λhT=>?_) (λhT=>?_)
  rotate_left
  ·intro a w13 hb hd
   obtain⟨at1,ad1⟩:=a
   subst hd
   have HMK:=af (HMK.out.below hb)
   have hO1:=HO.out.below hb
   replace hC:=hC.below hb
   replace hX:=hX.below hb
   clear HO hb
   have HO:=af hO1
   clear hO1
   show LeavesInM Fence.wide 3 prog f504 _ (cu w0 cb D r) [{target:= .collected Dd1,args:=#[]}] (.panicking (cN 175)) w13
   rw[HS.out,dC,bB HT3.out,iY,bB HTa1.out,bB (bQ hst what),bB HTb1.out,if_pos hn,iQ,eN hT]
   exact cT [Dd1] _ HMK.out HO.out.base
  have HTe:=af hT
  clear hT
  intro u155 u156 u157 u158 u159 u160 u161 u162 u163 u164 u165 u166 u167 u168 u169 u170 u171 u172 u173 u174 u175 w13 hb
  have HMK:=af (HMK.out.below hb)
  have hO1:=HO.out.below hb
  replace hC:=hC.below hb
  replace hX:=hX.below hb
  clear HO hb
  have HO:=af hO1
  clear hO1
  (try simp only[Exit.inBlock,Exit.then])
  (try refine‹∀(a:Act) (w:aj),bi prog _ _ a w->_› _ _ ?_)
  have c0:=hC.cell 0
  have y3:=hX.cell 3
  have hfz:fr<D.zn:=by rw[HFR.out];exact hzd
  go_wp2_with fail
  refine(fm D (S.setZ who what) cb what _ HO.out.at hzn hz).mono ?_
  rintro e w14 ⟨rfl,rfl⟩
  cases ha1:dz D (S.setZ who what) what with
  |true=>
   go_wp2_with fail
   refine dU ?_
   show LeavesInM Fence.wide 3 prog f504 _ (cu w0 cb D r) [{target:= .collected Dd1,args:=#[]}] (.panicking (cN 176)) w13
   rw[HS.out,dC,bB HT3.out,iY,bB HTa1.out,bB (bQ hst what),bB HTb1.out,if_pos hn,iQ,bB HTe.out,eN (by rw[ha1];rfl)]
   exact cT [Dd1] _ HMK.out HO.out.base
  |false=>
   go_wp2_with fail
   refine(fm D (S.setZ who what) cb fr _ HO.out.at hzn hfz).mono ?_
   rintro e w14 ⟨rfl,rfl⟩
   cases ha2:dz D (S.setZ who what) fr with
   |true=>
    go_wp2_with fail
    refine dU ?_
    show LeavesInM Fence.wide 3 prog f504 _ (cu w0 cb D r) [{target:= .collected Dd1,args:=#[]}] (.panicking (cN 176)) w13
    rw[HS.out,dC,bB HT3.out,iY,bB HTa1.out,bB (bQ hst what),bB HTb1.out,if_pos hn,iQ,bB HTe.out,eN (by rw[ha1,<-HFR.out,ha2];rfl)]
    exact cT [Dd1] _ HMK.out HO.out.base
   |false=>
    go_wp2_with fail
    refine dH ?_
    (try dsimp only)
    (try simp only[Exit.inBlock,Exit.then])
    refine‹∀(a:Act) (w:aj),bodyPostM Fence.wide 3 prog f504 (cu w0 cb D r) bk a w->_› _ _ ?_
    show LeavesInM Fence.wide 3 prog f504 _ (cu w0 cb D r) [{target:= .collected Dd1,args:=#[]}] .returning w13
    rw[HS.out,dC,bB HT3.out,iY,bB HTa1.out,bB (bQ hst what),bB HTb1.out,if_pos hn,iQ,bB HTe.out,bB (by rw[ha1,<-HFR.out,ha2];rfl)]
    exact mZ [Dd1] _ HMK.out HO.out
 ·have hdn0:decide (wto<0)=false:=decide_eq_false hn
  have hge:0<=wto:=om
  have hge2:decide (0<=wto)=true:=decide_eq_true hge
  go_upto_region 6 with fail
  obtain⟨wn,rfl⟩:∃m:Nat,wto=(m:Int):=⟨wto.toNat,by omega⟩
  have hwn:wn<S.zn:=om
  have hwnp:wn<D.pn:=by have:=hF.z;omega
  have hwp:who<D.pn:=by have:=hF.z;omega
  have hOW:(w2.alloc (.cells #[M U (who:Int)] 3)).ownsRow w2.heap.size 3 1 (T (ai ⟨w2.heap.size,0,ag⟩) 1 1) 1 [M U (who:Int)]:=aj.ownsRow_lit w2 #[M U (who:Int)] 1 (aY _) (by unfold cF;omega) rfl
  have hb:=aP (au w2.heap.size w2) (.cells #[M U (who:Int)] 3)
  have z0:=(hC.below hb).cell 0
  have z2:=(hX.below hb).cell 2
  have z4:=(hX.below hb).cell 4
  have hs3:(w2.alloc (.cells #[M U (who:Int)] 3)).heap.size=w2.heap.size+1:=by simp
  have hgb:w.heap.size<=w2.heap.size:=hB.size
  clear hlX hlC hlS y2 y4 c0
  generalize w2.alloc (.cells #[M U (who:Int)] 3)=w3 at *
  obtain⟨gb0,hgb0⟩:=bY w2.heap.size
  rw[<-hgb0]at hb hOW hs3 hgb⊢
  have HGB:=af hgb0
  have HOW:=af hOW
  have HS3:=af hs3
  clear hgb0 hOW hs3
  obtain⟨i0,hi,hz0,hz1,hz2⟩:=info_parts infoC_clone_ints
  go_upto_region 8 with(at_builtin;refine ci _ (by rfl) _ _ _ (by rfl) gb0 3 i0 _ 1 8 underlying24 hi hz0 hz1 hz2 rfl om _ 1 [M U (who:Int)] (by rfl) (ck HOW.out _) ⟨w3.heap.size,0,ag⟩ 1 1 [M U (wn:Int)] (by rfl) (by rfl) (cm (cs:=#[M U (wn:Int)]) (t:=3) (fr:=(0,0)) (aK w3 _)) (by simp[aw.oneCell']) om (by unfold cF;omega) om (by have:=HS3.out;simp;omega) (w3.heap.size+1) (by simp) ?_;intro gb cap w4 hown1 hgrow hat hltg)
  have hb3w:ap w2.heap.size w2 w3:=by rw[<-HGB.out];exact hb
  have hog:∀g,(T (ai ⟨gb0,0,ag⟩) 1 1).ownBlock=ai g->w2.heap.size<=g:=by rw[<-HGB.out];exact lg HOW.out
  have hbw:ap w2.heap.size w2 w4:=gO (aP hb3w _) hgrow hog
  have hgb1:w.heap.size<=gb:=by rcases hat with h|h;exact aO hgb (lg HOW.out gb h);have:=HS3.out;omega
  have hG1:fU w4 gb [(who:Int),(wn:Int)]:=⟨hltg,λj v hj=>by rcases j with _|_|j<;>simp at hj;subst hj;exact hown1.cellAt 0 om;subst hj;exact hown1.cellAt 1 om⟩
  clear z0 z2 z4 hb hb3w hog hat hgrow hown1 hltg hgb HOW HS3 HGB hdn0 hge hge2
  have hb:=hbw
  clear hbw
  have hO1:=HO.out.below hb
  replace hC:=hC.below hb
  replace hX:=hX.below hb
  replace hB:=ak hB hb
  clear HO hb
  have HO:=af hO1
  clear hO1
  replace hgb1:=af hgb1
  have hgb:=hgb1.out
  clear hgb1
  have g0:=hG1.2 0 _ rfl
  have hgl:=hG1.1
  have HMK:bj (eX w0.heap.size w4 []):=show eX _ _ _ from⟨by simp,by simp⟩
  refine wp_loop_rounds 3 ?_
  rw[rounds_succ]
  go_upto_region 10 with fail
  refine uf (D:=D) (S:=S) (i:=who) kr HO.out.at (hC.cell 0) hX hwp hz (λhT=>?_) (λhT=>?_)
  rotate_left
  ·intro a w9 hb hd
   obtain⟨at1,ad1⟩:=a
   subst hd
   show LeavesInM Fence.wide 3 prog f504 at1 (cu w0 cb D r) [] (.panicking (cN 172)) w9
   rw[HS.out,dC,bB HT3.out,Int.toNat_natCast,iY,eN hT]
   exact cT [] _ (HMK.out.below hb) (ak HO.out.base hb)
  have HTa1:=af hT
  clear hT
  intro u80 u81 u82 u83 u84 u85 u86 u87 u88 u89 u90 u91 u92 u93 u94 u95 u96 u97 u98 u99 u100 u101 u102 u103 u104 u105 w9 hb
  have HMK:=af (HMK.out.below hb)
  replace hG1:=hG1.below hb
  have hO1:=HO.out.below hb
  replace hC:=hC.below hb
  replace hX:=hX.below hb
  replace hB:=ak hB hb
  clear HO hb
  have HO:=af hO1
  clear hO1
  (try simp only[Exit.inBlock,Exit.then])
  (try refine‹∀(a:Act) (w:aj),bi prog _ _ a w->_› _ _ ?_)
  refine nS (D:=D) (S:=S) (i:=who) kr HO.out.at (hC.cell 0) hX hst hG hF hz (λhT=>?_) (λhT=>?_)
  rotate_left
  ·intro a Dd1 w10 hb hDd hKd hd
   obtain⟨at1,ad1⟩:=a
   subst hd
   show LeavesInM Fence.wide 3 prog f504 at1 (cu w0 cb D r) [{target:= .collected Dd1,args:=#[]}] (.panicking (cN 174)) w10
   rw[HS.out,dC,bB HT3.out,Int.toNat_natCast,iY,bB HTa1.out,bB (bQ hst what),eN hT]
   exact wF
  have HTb1:=af hT
  clear hT
  intro u106 u107 u108 u109 u110 u111 u112 u132 u133 u134 u135 u136 u137 Dd1 w10 hb hDd hKd
  have HMK:=af (HMK.out.add hb HO.out.base hDd hKd)
  clear hDd hKd
  replace hG1:=hG1.below hb
  have hO1:=HO.out.below hb
  replace hC:=hC.below hb
  replace hX:=hX.below hb
  replace hB:=ak hB hb
  clear HO hb
  have HO:=af hO1
  clear hO1
  (try simp only[Exit.inBlock,Exit.then])
  (try refine‹∀(a:Act) (w:aj),bi prog _ _ a w->_› _ _ ?_)
  go_wp2_with fail
  rw[rounds_succ]
  have g1:=hG1.2 1 _ rfl
  have hgl:=hG1.1
  go_upto_region 10 with fail
  refine uf (D:=D) (S:=S) (i:=wn) kr HO.out.at (hC.cell 0) hX hwnp hz (λhT=>?_) (λhT=>?_)
  rotate_left
  ·intro a w9 hb hd
   obtain⟨at1,ad1⟩:=a
   subst hd
   show LeavesInM Fence.wide 3 prog f504 at1 (cu w0 cb D r) [{target:= .collected Dd1,args:=#[]}] (.panicking (cN 172)) w9
   rw[HS.out,dC,bB HT3.out,Int.toNat_natCast,iY,bB HTa1.out,bB (bQ hst what),bB HTb1.out,if_neg (show¬((wn:Int)<0)by omega),iY,eN hT]
   exact cT [Dd1] _ (HMK.out.below hb) (ak HO.out.base hb)
  have HTa2:=af hT
  clear hT
  intro u80 u81 u82 u83 u84 u85 u86 u87 u88 u89 u90 u91 u92 u93 u94 u95 u96 u97 u98 u99 u100 u101 u102 u103 u104 u105 w9 hb
  have HMK:=af (HMK.out.below hb)
  replace hG1:=hG1.below hb
  have hO1:=HO.out.below hb
  replace hC:=hC.below hb
  replace hX:=hX.below hb
  replace hB:=ak hB hb
  clear HO hb
  have HO:=af hO1
  clear hO1
  (try simp only[Exit.inBlock,Exit.then])
  (try refine‹∀(a:Act) (w:aj),bi prog _ _ a w->_› _ _ ?_)
  refine nS (D:=D) (S:=S) (i:=wn) kr HO.out.at (hC.cell 0) hX hst hG hF hz (λhT=>?_) (λhT=>?_)
  rotate_left
  ·intro a Dd2 w10 hb hDd hKd hd
   obtain⟨at1,ad1⟩:=a
   subst hd
   show LeavesInM Fence.wide 3 prog f504 at1 (cu w0 cb D r) [{target:= .collected Dd2,args:=#[]},{target:= .collected Dd1,args:=#[]}] (.panicking (cN 174)) w10
   rw[HS.out,dC,bB HT3.out,Int.toNat_natCast,iY,bB HTa1.out,bB (bQ hst what),bB HTb1.out,if_neg (show¬((wn:Int)<0)by omega),iY,bB HTa2.out,bB (bQ hst what),eN hT]
   exact cT [Dd2,Dd1] _ (HMK.out.add hb HO.out.base hDd hKd) (ak HO.out.base hb)
  have HTb2:=af hT
  clear hT
  intro u106 u107 u108 u109 u110 u111 u112 u132 u133 u134 u135 u136 u137 Dd2 w10 hb hDd hKd
  have HMK:=af (HMK.out.add hb HO.out.base hDd hKd)
  clear hDd hKd
  replace hG1:=hG1.below hb
  have hO1:=HO.out.below hb
  replace hC:=hC.below hb
  replace hX:=hX.below hb
  replace hB:=ak hB hb
  clear HO hb
  have HO:=af hO1
  clear hO1
  (try simp only[Exit.inBlock,Exit.then])
  (try refine‹∀(a:Act) (w:aj),bi prog _ _ a w->_› _ _ ?_)
  go_wp2_with fail
  rw[rounds_succ]
  have g0:=hG1.2 0 _ rfl
  have hgl:=hG1.1
  go_upto_region 17 with fail
  refine wp_loop_rounds 3 ?_
  rw[rounds_succ]
  go_upto_region 19 with fail
  refine uK (D:=D) (S:=S) (w0:=w0) (i:=who) kr HO.out (hC.cell 0) hX hw ?_
  intro u145 u146 u147 u148 u149 u150 u151 u152 u153 g c hzv hO1
  have hgw:=HGW.out g c hzv
  have hC1:=hC.drew.set_other (p:=⟨g,who,ag⟩) (by show g≠b2;omega) (M U what)
  have hX1:=hX.drew.set_other (p:=⟨g,who,ag⟩) (by show g≠b3;omega) (M U what)
  have hG2:=hG1.drew.set_other (p:=⟨g,who,ag⟩) (by show g≠gb;omega) (M U what)
  have hM1:=(show eX w0.heap.size w10.drew [Dd2,Dd1]from HMK.out).set ⟨g,who,ag⟩ (M U what)
  clear HO HMK hC hX hG1 hzv hgw
  (try clear hB)
  generalize w10.drew.setCell ⟨g,who,ag⟩ (M U what)=w11 at *
  have HO:=af hO1
  have hC:=hC1
  have hX:=hX1
  have hG1:=hG2
  have HMK:=af hM1
  clear hO1 hC1 hX1 hG2 hM1
  (try simp only[Exit.inBlock,Exit.then])
  (try refine‹∀(a:Act) (w:aj),bi prog _ _ a w->_› _ _ ?_)
  go_wp2_with fail
  rw[rounds_succ]
  have g1:=hG1.2 1 _ rfl
  go_upto_region 19 with fail
  refine uK (D:=D) (S:=S.setZ who what) (w0:=w0) (i:=wn) kr HO.out (hC.cell 0) hX hwn ?_
  intro u145 u146 u147 u148 u149 u150 u151 u152 u153 g c hzv hO1
  have hgw:=HGW.out g c hzv
  have hC1:=hC.drew.set_other (p:=⟨g,wn,ag⟩) (by show g≠b2;omega) (M U what)
  have hX1:=hX.drew.set_other (p:=⟨g,wn,ag⟩) (by show g≠b3;omega) (M U what)
  have hG2:=hG1.drew.set_other (p:=⟨g,wn,ag⟩) (by show g≠gb;omega) (M U what)
  have hM1:=(show eX w0.heap.size w11.drew [Dd2,Dd1]from HMK.out).set ⟨g,wn,ag⟩ (M U what)
  clear HO HMK hC hX hG1 hzv hgw
  (try clear hB)
  generalize w11.drew.setCell ⟨g,wn,ag⟩ (M U what)=w12 at *
  have HO:=af hO1
  have hC:=hC1
  have hX:=hX1
  have hG1:=hG2
  have HMK:=af hM1
  clear hO1 hC1 hX1 hG2 hM1
  (try simp only[Exit.inBlock,Exit.then])
  (try refine‹∀(a:Act) (w:aj),bi prog _ _ a w->_› _ _ ?_)
  go_wp2_with fail
  rw[rounds_succ]
  go_upto_region 21 with fail
  refine vU (D:=D) (S:=(S.setZ who what).setZ wn what) kr HO.out.at (hC.cell 0) hX hzn hz (λhT=>?_) (λhT=>?_)
  rotate_left
  ·intro a w13 hb hd
   obtain⟨at1,ad1⟩:=a
   subst hd
   have HMK:=af (HMK.out.below hb)
   have hO1:=HO.out.below hb
   replace hC:=hC.below hb
   replace hX:=hX.below hb
   clear HO hb
   have HO:=af hO1
   clear hO1
   show LeavesInM Fence.wide 3 prog f504 _ (cu w0 cb D r) [{target:= .collected Dd2,args:=#[]},{target:= .collected Dd1,args:=#[]}] (.panicking (cN 175)) w13
   rw[HS.out,dC,bB HT3.out,Int.toNat_natCast,iY,bB HTa1.out,bB (bQ hst what),bB HTb1.out,if_neg (show¬((wn:Int)<0)by omega),iY,bB HTa2.out,bB (bQ hst what),bB HTb2.out,iQ,eN hT]
   exact cT [Dd2,Dd1] _ HMK.out HO.out.base
  have HTe:=af hT
  clear hT
  intro u155 u156 u157 u158 u159 u160 u161 u162 u163 u164 u165 u166 u167 u168 u169 u170 u171 u172 u173 u174 u175 w13 hb
  have HMK:=af (HMK.out.below hb)
  have hO1:=HO.out.below hb
  replace hC:=hC.below hb
  replace hX:=hX.below hb
  clear HO hb
  have HO:=af hO1
  clear hO1
  (try simp only[Exit.inBlock,Exit.then])
  (try refine‹∀(a:Act) (w:aj),bi prog _ _ a w->_› _ _ ?_)
  have c0:=hC.cell 0
  have y3:=hX.cell 3
  have hfz:fr<D.zn:=by rw[HFR.out];exact hzd
  go_wp2_with fail
  refine(fm D ((S.setZ who what).setZ wn what) cb what _ HO.out.at hzn hz).mono ?_
  rintro e w14 ⟨rfl,rfl⟩
  cases ha1:dz D ((S.setZ who what).setZ wn what) what with
  |true=>
   go_wp2_with fail
   refine dU ?_
   show LeavesInM Fence.wide 3 prog f504 _ (cu w0 cb D r) [{target:= .collected Dd2,args:=#[]},{target:= .collected Dd1,args:=#[]}] (.panicking (cN 176)) w13
   rw[HS.out,dC,bB HT3.out,Int.toNat_natCast,iY,bB HTa1.out,bB (bQ hst what),bB HTb1.out,if_neg (show¬((wn:Int)<0)by omega),iY,bB HTa2.out,bB (bQ hst what),bB HTb2.out,iQ,bB HTe.out,eN (by rw[ha1];rfl)]
   exact cT [Dd2,Dd1] _ HMK.out HO.out.base
  |false=>
   go_wp2_with fail
   refine(fm D ((S.setZ who what).setZ wn what) cb fr _ HO.out.at hzn hfz).mono ?_
   rintro e w14 ⟨rfl,rfl⟩
   cases ha2:dz D ((S.setZ who what).setZ wn what) fr with
   |true=>
    go_wp2_with fail
    refine dU ?_
    show LeavesInM Fence.wide 3 prog f504 _ (cu w0 cb D r) [{target:= .collected Dd2,args:=#[]},{target:= .collected Dd1,args:=#[]}] (.panicking (cN 176)) w13
    rw[HS.out,dC,bB HT3.out,Int.toNat_natCast,iY,bB HTa1.out,bB (bQ hst what),bB HTb1.out,if_neg (show¬((wn:Int)<0)by omega),iY,bB HTa2.out,bB (bQ hst what),bB HTb2.out,iQ,bB HTe.out,eN (by rw[ha1,<-HFR.out,ha2];rfl)]
    exact cT [Dd2,Dd1] _ HMK.out HO.out.base
   |false=>
    go_wp2_with fail
    refine dH ?_
    (try dsimp only)
    (try simp only[Exit.inBlock,Exit.then])
    refine‹∀(a:Act) (w:aj),bodyPostM Fence.wide 3 prog f504 (cu w0 cb D r) bk a w->_› _ _ ?_
    show LeavesInM Fence.wide 3 prog f504 _ (cu w0 cb D r) [{target:= .collected Dd2,args:=#[]},{target:= .collected Dd1,args:=#[]}] .returning w13
    rw[HS.out,dC,bB HT3.out,Int.toNat_natCast,iY,bB HTa1.out,bB (bQ hst what),bB HTb1.out,if_neg (show¬((wn:Int)<0)by omega),iY,bB HTa2.out,bB (bQ hst what),bB HTb2.out,iQ,bB HTe.out,bB (by rw[ha1,<-HFR.out,ha2];rfl)]
    exact mZ [Dd2,Dd1] _ HMK.out HO.out
end
end Go.Proofs.YtbpnallaifdcpaaGreatDoor
