/- Parts of the proof. -/
import Derived.Test.YtbpnallaifdcpaaGreatDoorZh
import Derived.Test.YtbpnallaifdcpaaGreatDoorZi
set_option linter.unusedVariables false
set_option linter.unusedSimpArgs false
set_option maxRecDepth 100000
set_option maxHeartbeats 4000000
namespace Go.Proofs.YtbpnallaifdcpaaGreatDoor
open Go.Value renaming int→M
open Go.IntKind renaming i64→U
open Go.Value renaming slice→T,pointer→ax,string→ay,bool→aA,agg→aN
open Go.Lib renaming hid→af
open Option renaming none→ag,some→ai
open Go renaming World→aj,Value→aw,Calls→aC,below_drewN→aM,bodyPost_ret→bG
open Go.RowKit renaming Below→ap,intOf→aV,Hid→bj
open Go.Ending renaming returned→ar
open Go.RowKit.Below renaming refl→au,setCell→aS
open Nat renaming zero_le→aF,le_trans→aO,lt_of_lt_of_le→aQ,le_refl→aY,add_zero→bq
open Go.Code renaming wp→bi
open Go.Exit renaming normal→bk
section
open Tryz
open Go.RowKit Go.Shelf
attribute [local go_sem] Oper.semAt_some
section
variable {P:Program} {ops:Array Oper} {Q:Exit->Act->aj->Prop} {md:Region.Mode} {S:aj->Prop} {l:Nat}
def dB (P:Program) (md:Region.Mode) (ops:Array Oper) (Q:Exit->Act->aj->Prop) (S:aj->Prop) (l fuel:Nat) (listed:Array Bool) (a:Act) (w:aj) (rs:List Nat):Prop:=
 ∀i∈rs,wpOp P ops Q i (λa' w'=>((listed.setIfInBounds i true).getD l true=false->S w')/\cQ P md ops Q S l fuel (listed.setIfInBounds i true) a' w') a w
theorem dB.nil {fuel:Nat} {listed:Array Bool} {a:Act} {w:aj}:dB P md ops Q S l fuel listed a w []:=λ_ h=>by cases h
theorem dB.cons {fuel:Nat} {listed:Array Bool} {a:Act} {w:aj} {i:Nat} {o:Oper} {rs:List Nat} (ho:ops[i]?=ai o)
  (h:∀K':Act->aj->Prop,Shut (∀a w,((listed.setIfInBounds i true).getD l true=false->S w)->cQ P md ops Q S l fuel (listed.setIfInBounds i true) a w->K' a w)->if Region.wanted o (yielded ops a.tmps)=true then Oper.wp P o a w K' Q else K' (a.put o.dst undef) w)
  (hs:dB P md ops Q S l fuel listed a w rs):dB P md ops Q S l fuel listed a w (i :: rs):=λj hj=>by
 rcases List.mem_cons.1 hj with rfl|hj
 ·exact wpOp_step ho (λK' hK=>h K' (λa w hS hW=>hK a w ⟨hS,hW⟩))
 ·exact hs j hj
theorem cf {rs:List Nat} {fuel:Nat} {listed:Array Bool} {a:Act} {w:aj} (hr:Region.ready md ops listed=rs) (hne:rs≠[]) (h:dB P md ops Q S l fuel listed a w rs):cQ P md ops Q S l (fuel+1) listed a w:=
 ⟨λh0=>absurd (hr.symm.trans h0) hne,λj hj=>h j (hr▸hj)⟩
end
theorem lh (w:aj) (b off:Nat):w.setCells b off []=w:=rfl
theorem ik {ops:Array Oper} {o:Oper} {a:Act} {w:aj} {K:Act->aj->Prop} {Q:Exit->Act->aj->Prop} {E:Prop} (hgd:o.guard=ag) (s x:Operand)
  (ho:o.op= .call {callee:= .builtin .append,args:=#[s,x],argTypes:=#[24,24]}) (g:Nat) (hs:a.eval s=T (ai ⟨g,0,ag⟩) 0 0) {n:Nat} {F:Nat->aw} {xv:aw} (hx:a.eval x=xv) (hR:aU w xv n 1 (λi _=>F i)) (hF:∀i,i<n->(F i).oneCell'=true) (hn:n<=8)
  (h:∀v' w',cW w' w.heap.size v' n 1 (λi _=>F i)->ap w.heap.size w w'->K (a.put o.dst v') w'):if Region.wanted o (yielded ops a.tmps)=true then Oper.wp prog o a w K Q else E:=by
 have hw:Region.wanted o (yielded ops a.tmps)=true:=by simp[Region.wanted,hgd]
 rw[if_pos hw]
 obtain⟨i0,hi,hz0,hz1,hz2⟩:=info_parts infoC_clone_ints
 have main:∀v' w',(Builtin.append_ #[24,24] o.type #[T (ai ⟨g,0,ag⟩) 0 0,xv]).run prog w= .ok v' w'->cW w' w.heap.size v' n 1 (λi _=>F i)->ap w.heap.size w w'->Oper.wp prog o a w K Q:=λv' w' hr h1 h2=>by
  unfold Oper.wp execOp
  simp only[ho,resolve,invoke,builtin,Sem.run_bind,Sem.run_pure,Result.andThen_ok,List.map_toArray,List.map_cons,List.map_nil,hs,hx,hr]
  exact h v' w' h1 h2
 obtain⟨ra,rc,rfl,hrc,hr⟩:=hR
 rcases Nat.eq_zero_or_pos n with h0|h0
 ·subst h0
  have hsrc:Src prog i0.size 24 (T ra 0 rc) 0 [] w:=by
   cases ra with
   |none=>exact Src.ofNil w underlying24 rc
   |some ad=>exact Src.ofSlice w underlying24 ad 0 rc [] (by simp) (λj u hu=>by simp at hu) (λu hu=>by cases hu)
  have hrun:=run_append_room_src w 24 24 o.type 3 i0 underlying24 hi g 0 0 0 _ 0 [] hsrc (aY _) (λj hj=>by simp at hj) (λj hj=>by simp at hj)
  rw[lh]at hrun
  exact main _ _ hrun (cW.nil _ _ _ _ _ _) (au _ _)
 obtain⟨b,off,rfl,hlt,hc⟩:∃b off,ra=ai ⟨b,off,ag⟩/\b<w.heap.size/\∀i j,i<n->j<1->w.cell? ⟨b,off+i*1+j,ag⟩=ai (F i):=by
  rcases hr with hr|hr
  ·omega
  exact hr
 have hl:((List.range n).map F).length=n:=by simp
 have hnews:∀j u,((List.range n).map F)[j]?=ai u->w.cell? (Addr.add ⟨b,off,ag⟩ j)=ai u:=λj u hu=>by
  have hj:j<n:=by
   have:=(List.getElem?_eq_some_iff.1 hu).1
   simpa using this
  rw[List.getElem?_map,List.getElem?_range hj]at hu
  simp only[Option.map_some,Option.some.injEq]at hu
  subst hu
  have h9:=hc j 0 hj om
  rw[Nat.mul_one,bq]at h9
  rw[Addr.add_lit]
  exact h9
 have hone:∀u∈(List.range n).map F,u.oneCell'=true:=λu hu=>by
  obtain⟨m,hm,rfl⟩:=List.mem_map.1 hu
  exact hF m (List.mem_range.1 hm)
 have hsrc:Src prog i0.size 24 (T (ai ⟨b,off,ag⟩) n rc) n ((List.range n).map F) w:=Src.ofSlice w underlying24 _ n rc _ (by rw[hz1];simp) hnews hone
 have hcap:Builtin.nextslicecap (0+n) 0*i0.bytes<=281474976710656:=by
  rw[hz2]
  have:∀k:Fin 9,Builtin.nextslicecap (0+k.val) 0*8<=281474976710656:=by decide+kernel
  exact this ⟨n,by omega⟩
 have hrun:=run_append_grow_src w 24 24 o.type 3 i0 (M U 0) underlying24 hi hz0 (ai ⟨g,0,ag⟩) 0 0 [] (run_firstCells_some w.drew i0.size 0 ⟨g,0,ag⟩ 0 0 [] (by simp) (λj u hu=>by simp at hu)) (T (ai ⟨b,off,ag⟩) n rc) n ((List.range n).map F) hsrc om om hcap
 have hgc:=grownCap_ge w (0+n) 0 3
 rw[Nat.zero_add]at hrun hgc
 refine main _ _ hrun ?_ ?_
 rotate_left
 ·exact(au _ _).drew.alloc (aY _) _
 refine⟨_,_,rfl,hgc, .inr ⟨w.heap.size,rfl,aY _,by simp,λi j hi hj=>?_⟩⟩
 obtain rfl:j=0:=om
 rw[Nat.mul_one,bq]
 have hA:am (w.drew.alloc (.cells (([]++(List.range n).map F).toArray++Builtin.zeroCells (M U 0).cells (grownCap w n 0 3 - n)) 3)) w.heap.size 3 (([]++(List.range n).map F).toArray++Builtin.zeroCells (M U 0).cells (grownCap w n 0 3 - n)):=aK w.drew _
 refine⟨(hA.cell i).trans ?_,hA.frozen i⟩
 rw[Array.getElem?_append_left (by simp;omega)]
 simp[hi]
end
section
open Tryz
open Go.RowKit Go.Shelf
attribute [local go_sem] Oper.semAt_some
variable {v0 v2 v3 v4 v5 v6 v7 v8 v9 v10 v11 v12 v13 v14 v15 v16 v17 v18:aw}
def gK (w:aj) (B:Nat) (S:bL):Prop:=∃gz gh gq,bP w S.zv S.zn gz S.Z/\bP w S.hv S.hn gh S.H/\bP w S.qv S.sn gq S.Q/\(0<S.zn->B<=gz)/\(0<S.hn->B<=gh)/\(0<S.sn->B<=gq)/\(0<S.zn->0<S.hn->gz≠gh)/\(0<S.zn->0<S.sn->gz≠gq)
theorem gK.below {w w':aj} {B:Nat} {S:bL} (h:gK w B S) (hb:ap w.heap.size w w'):gK w' B S:=by
 obtain⟨gz,gh,gq,h1,h2,h3,h4⟩:=h
 exact⟨gz,gh,gq,h1.below hb,h2.below hb,h3.below hb,h4⟩
theorem gK.mono {w:aj} {B B':Nat} {S:bL} (h:gK w B S) (hB:B'<=B):gK w B' S:=by
 obtain⟨gz,gh,gq,h1,h2,h3,h4,h5,h6,h7⟩:=h
 exact⟨gz,gh,gq,h1,h2,h3,λh=>aO hB (h4 h),λh=>aO hB (h5 h),λh=>aO hB (h6 h),h7⟩
theorem gK.st {w:aj} {B:Nat} {S:bL} (h:gK w B S):gC w S:=by
 obtain⟨gz,gh,gq,h1,h2,h3,h4⟩:=h
 exact⟨h1.row,h2.row,h3.row⟩
section
variable {S:bL} {a1 a2 a3:Option Addr} {c1 c2 c3 sb B:Nat}
theorem tr {c:Code} (hc:c=et f441 1) {wc:aj} {Q:Exit->Act->aj->Prop} (hC:am wc sb 75 #[M U S.now,T a1 S.zn c1,T a2 S.hn c2,T a3 S.sn c3,M U S.siren,aA S.storm]) (hZ:aU wc (T a1 S.zn c1) S.zn 1 (bw λi _=>S.Z i)) (hH:aU wc (T a2 S.hn c2) S.hn 1 (bw λi _=>S.H i)) (hQ:aU wc (T a3 S.sn c3) S.sn 1 (bw λi _=>S.Q i)) (n1:S.zn<=8) (n2:S.hn<=8) (n3:S.sn<=8) (hBs:B<=sb) {rb:Nat} {rcs:Array aw} (hr:am wc rb 75 rcs) (hne:sb≠rb)
 (hK:∀(u3 u4 u5 u6 u7 u8 u9 u10 u11 u12 u13 u14 u15 u16 u17 zv hv qv:aw) (w':aj),ap B wc w'->am w' sb 75 (S.with zv hv qv).cells->gK w' wc.heap.size (S.with zv hv qv)->am w' rb 75 rcs->
  Q bk {tmps:=#[v0,ax (ai ⟨sb,0,ag⟩),v2,u3,u4,u5,u6,u7,u8,u9,u10,u11,u12,u13,u14,u15,u16,u17,v18],defers:=[]} w'):
 bi prog c Q {tmps:=#[v0,ax (ai ⟨sb,0,ag⟩),v2,v3,v4,v5,v6,v7,v8,v9,v10,v11,v12,v13,v14,v15,v16,v17,v18],defers:=[]} wc:=by
 subst hc
 conv=>arg 2;whnf
 have HKK:=af hK
 clear hK
 have hsbl:=hC.lt
 have HR:bj (∀w':aj,am w' sb 75 #[M U S.now,T a1 S.zn c1,T a2 S.hn c2,T a3 S.sn c3,M U S.siren,aA S.storm]->w'.cell? ⟨sb,1,ag⟩=ai (T a1 S.zn c1)/\w'.cell? ⟨sb,2,ag⟩=ai (T a2 S.hn c2)/\w'.cell? ⟨sb,3,ag⟩=ai (T a3 S.sn c3)):=show∀w',_->_ from λw' h=>⟨h.cell 1,h.cell 2,h.cell 3⟩
 have hK:am wc.drew sb 75 #[M U S.now,T a1 S.zn c1,T a2 S.hn c2,T a3 S.sn c3,M U S.siren,aA S.storm]:=hC
 have HZ:=af (show aU wc.drew _ _ _ _ from hZ)
 have HH:=af (show aU wc.drew _ _ _ _ from hH)
 have HQ:=af (show aU wc.drew _ _ _ _ from hQ)
 have hB:ap B wc wc.drew:=(au _ _).drew
 have hs0:wc.heap.size<=wc.drew.heap.size:=aY _
 replace hr:am wc.drew rb 75 rcs:=hr
 clear hC hZ hH hQ
 obtain⟨B0,hB0⟩:=bY wc.heap.size
 have HB0:=af hB0
 rw[<-hB0]at hs0 hsbl
 clear hB0
 refine wp_region_noPanic ?_
 refine fV 13 (λw'=>am w' sb 75 #[M U S.now,T a1 S.zn c1,T a2 S.hn c2,T a3 S.sn c3,M U S.siren,aA S.storm]) kr ?_
 generalize wc.drew=W at *
 refine iZ 1 [2,3,7,11,13] hK ?_
 refine iZ 2 [3,7,11,13] hK ?_
 refine iZ 5 [6,7,11,13] hK ?_
 refine iZ 6 [7,11,13] hK ?_
 refine iZ 9 [10,11,13] hK ?_
 refine iZ 10 [11,13] hK ?_
 repeat' first
  |(skip
    obtain⟨az,cz,rfl,-⟩:=id hz
    obtain⟨ah,ch,rfl,-⟩:=id hh
    obtain⟨aq,cq,rfl,-⟩:=id hq
    replace hzb:=λh=>(hzb h).1
    replace hhb:=λh=>(hhb h).1
    replace hqb:=λh=>(hqb h).1
    have zz:=aH hK
    have f9:=hK.frozen 1
    refine jF (i:=13) ?_ rfl (λK' hK'=>?_)
    focus(decide+kernel)
    go_simp
    replace hK:=hK.set 1 (T az S.zn cz)
    replace hr:=hr.set_other (p:=⟨sb,1,ag⟩) hne (T az S.zn cz)
    simp only[List.setIfInBounds_toArray,List.set_cons_zero,List.set_cons_succ]at hK
    replace hB:=aS (p:=⟨sb,1,ag⟩) hB hBs (T az S.zn cz)
    replace hz:=bP.other hz (p:=⟨sb,1,ag⟩) (λh=>by have:=hzb h;show sb≠_;omega) (T az S.zn cz)
    replace hh:=bP.other hh (p:=⟨sb,1,ag⟩) (λh=>by have:=hhb h;show sb≠_;omega) (T az S.zn cz)
    replace hq:=bP.other hq (p:=⟨sb,1,ag⟩) (λh=>by have:=hqb h;show sb≠_;omega) (T az S.zn cz)
    refine hK'.out _ _ (λh=>Bool.noConfusion (show true=false from h)) ?_
    clear hK' K'
    refine jN ?_
    refine pW 14 (λK' hK'=>?_)
    refine hK'.out _ _ (λh=>Bool.noConfusion (show true=false from h)) ?_
    clear hK' K'
    refine jN ?_
    have zz:=aH hK
    have f9:=hK.frozen 2
    refine pW 15 (λK' hK'=>?_)
    replace hK:=hK.set 2 (T ah S.hn ch)
    replace hr:=hr.set_other (p:=⟨sb,2,ag⟩) hne (T ah S.hn ch)
    simp only[List.setIfInBounds_toArray,List.set_cons_zero,List.set_cons_succ]at hK
    replace hB:=aS (p:=⟨sb,2,ag⟩) hB hBs (T ah S.hn ch)
    replace hz:=bP.other hz (p:=⟨sb,2,ag⟩) (λh=>by have:=hzb h;show sb≠_;omega) (T ah S.hn ch)
    replace hh:=bP.other hh (p:=⟨sb,2,ag⟩) (λh=>by have:=hhb h;show sb≠_;omega) (T ah S.hn ch)
    replace hq:=bP.other hq (p:=⟨sb,2,ag⟩) (λh=>by have:=hqb h;show sb≠_;omega) (T ah S.hn ch)
    refine hK'.out _ _ (λh=>Bool.noConfusion (show true=false from h)) ?_
    clear hK' K'
    refine jN ?_
    refine pW 16 (λK' hK'=>?_)
    refine hK'.out _ _ (λh=>Bool.noConfusion (show true=false from h)) ?_
    clear hK' K'
    refine jN ?_
    have zz:=aH hK
    have f9:=hK.frozen 3
    refine pW 17 (λK' hK'=>?_)
    replace hK:=hK.set 3 (T aq S.sn cq)
    replace hr:=hr.set_other (p:=⟨sb,3,ag⟩) hne (T aq S.sn cq)
    simp only[List.setIfInBounds_toArray,List.set_cons_zero,List.set_cons_succ]at hK
    replace hB:=aS (p:=⟨sb,3,ag⟩) hB hBs (T aq S.sn cq)
    replace hz:=bP.other hz (p:=⟨sb,3,ag⟩) (λh=>by have:=hzb h;show sb≠_;omega) (T aq S.sn cq)
    replace hh:=bP.other hh (p:=⟨sb,3,ag⟩) (λh=>by have:=hhb h;show sb≠_;omega) (T aq S.sn cq)
    replace hq:=bP.other hq (p:=⟨sb,3,ag⟩) (λh=>by have:=hqb h;show sb≠_;omega) (T aq S.sn cq)
    refine hK'.out _ _ (λh=>Bool.noConfusion (show true=false from h)) ?_
    clear hK' K'
    refine jN ?_
    refine gt kr (NoPanic.normal ?_) _
    refine HKK.out _ _ _ _ _ _ _ _ _ _ _ _ _ _ _ (T az S.zn cz) (T ah S.hn ch) (T aq S.sn cq) _ hB hK ?_ hr
    rw[<-HB0.out]
    exact⟨gz,gh,gq,hz,hh,hq,hzb,hhb,hqb,hne1,hne2⟩)
  |exact dB.nil
  |refine dB.cons rfl (λK' hK'=>?_) ?_
  |(refine ik rfl (.tmp 3) (.tmp 5) rfl _ rfl rfl HZ.out (λ_ _=>rfl) n1 ?_
    intro vz W ho hb
    obtain⟨gz,hz9,hgb⟩:=bP.of ho
    have hzb9:=λh=>(⟨aO hs0 (hgb h).1,(hgb h).2⟩:B0<=gz/\gz<W.heap.size)
    clear ho hgb
    have hsz:=hb.size;replace hr:=hr.below hb;replace hK:=hK.below hb;replace HZ:=af (HZ.out.below hb);replace HH:=af (HH.out.below hb);replace HQ:=af (HQ.out.below hb);replace hB:=hB.trans (hb.mono om);(try replace hz:=hz.below hb);(try replace hh:=hh.below hb);(try replace hzb:=λh=>(⟨(hzb h).1,aQ (hzb h).2 hsz⟩:_/\_));(try replace hhb:=λh=>(⟨(hhb h).1,aQ (hhb h).2 hsz⟩:_/\_));replace hs0:=aO hs0 hsz;clear hb hsz
    have hz:=hz9
    have hzb:=hzb9
    clear hz9 hzb9
    refine hK'.out _ _ (λ_=>hK) ?_;clear hK' K';refine jN ?_
    refine iZ 12 [13] hK ?_
    skip)
  |(refine ik rfl (.tmp 7) (.tmp 9) rfl _ rfl rfl HH.out (λ_ _=>rfl) n2 ?_
    intro vh W ho hb
    obtain⟨gh,hh9,hgb⟩:=bP.of ho
    have hne1:=λ(h:0<S.zn) (h2:0<S.hn)=>(show gz≠gh by have:=hzb h;have:=hgb h2;omega)
    have hhb9:=λh=>(⟨aO hs0 (hgb h).1,(hgb h).2⟩:B0<=gh/\gh<W.heap.size)
    clear ho hgb
    have hsz:=hb.size;replace hr:=hr.below hb;replace hK:=hK.below hb;replace HZ:=af (HZ.out.below hb);replace HH:=af (HH.out.below hb);replace HQ:=af (HQ.out.below hb);replace hB:=hB.trans (hb.mono om);(try replace hz:=hz.below hb);(try replace hh:=hh.below hb);(try replace hzb:=λh=>(⟨(hzb h).1,aQ (hzb h).2 hsz⟩:_/\_));(try replace hhb:=λh=>(⟨(hhb h).1,aQ (hhb h).2 hsz⟩:_/\_));replace hs0:=aO hs0 hsz;clear hb hsz
    have hh:=hh9
    have hhb:=hhb9
    clear hh9 hhb9
    refine hK'.out _ _ (λ_=>hK) ?_;clear hK' K';refine jN ?_
    skip)
  |(refine ik rfl (.tmp 11) (.tmp 13) rfl _ rfl rfl HQ.out (λ_ _=>rfl) n3 ?_
    intro vq W ho hb
    obtain⟨gq,hq9,hgb⟩:=bP.of ho
    have hne2:=λ(h:0<S.zn) (h2:0<S.sn)=>(show gz≠gq by have:=hzb h;have:=hgb h2;omega)
    have hqb9:=λh=>(⟨aO hs0 (hgb h).1,(hgb h).2⟩:B0<=gq/\gq<W.heap.size)
    clear ho hgb
    have hsz:=hb.size;replace hr:=hr.below hb;replace hK:=hK.below hb;replace HZ:=af (HZ.out.below hb);replace HH:=af (HH.out.below hb);replace HQ:=af (HQ.out.below hb);replace hB:=hB.trans (hb.mono om);(try replace hz:=hz.below hb);(try replace hh:=hh.below hb);(try replace hzb:=λh=>(⟨(hzb h).1,aQ (hzb h).2 hsz⟩:_/\_));(try replace hhb:=λh=>(⟨(hhb h).1,aQ (hhb h).2 hsz⟩:_/\_));replace hs0:=aO hs0 hsz;clear hb hsz
    have hq:=hq9
    have hqb:=hqb9
    clear hq9 hqb9
    refine hK'.out _ _ (λ_=>hK) ?_;clear hK' K';refine jN ?_
    skip)
  |(go_simp
    have hb:=aP (au W.heap.size W) (.cells #[] 3)
    have hsz:=hb.size;replace hr:=hr.below hb;replace hK:=hK.below hb;replace HZ:=af (HZ.out.below hb);replace HH:=af (HH.out.below hb);replace HQ:=af (HQ.out.below hb);replace hB:=hB.trans (hb.mono om);(try replace hz:=hz.below hb);(try replace hh:=hh.below hb);(try replace hzb:=λh=>(⟨(hzb h).1,aQ (hzb h).2 hsz⟩:_/\_));(try replace hhb:=λh=>(⟨(hhb h).1,aQ (hhb h).2 hsz⟩:_/\_));replace hs0:=aO hs0 hsz;clear hb hsz
    generalize W.heap.size=ge
    generalize W.alloc (.cells #[] 3)=W at *
    refine hK'.out _ _ (λ_=>hK) ?_;clear hK' K';(try simp only[Act.put,List.setIfInBounds_toArray,List.set_cons_zero,List.set_cons_succ,List.getElem_toArray,List.getElem_cons_succ,List.getElem_cons_zero]))
  |(refine cf (rs:=[0,4,8]) ?h (List.cons_ne_nil _ _) ?_;focus(decide+kernel))
  |(refine cf (rs:=[0,4]) ?h (List.cons_ne_nil _ _) ?_;focus(decide+kernel))
  |(refine cf (rs:=[0,8]) ?h (List.cons_ne_nil _ _) ?_;focus(decide+kernel))
  |(refine cf (rs:=[0]) ?h (List.cons_ne_nil _ _) ?_;focus(decide+kernel))
  |(refine cf (rs:=[3,4,8]) ?h (List.cons_ne_nil _ _) ?_;focus(decide+kernel))
  |(refine cf (rs:=[3,4]) ?h (List.cons_ne_nil _ _) ?_;focus(decide+kernel))
  |(refine cf (rs:=[3,8]) ?h (List.cons_ne_nil _ _) ?_;focus(decide+kernel))
  |(refine cf (rs:=[3]) ?h (List.cons_ne_nil _ _) ?_;focus(decide+kernel))
  |(refine cf (rs:=[7]) ?h (List.cons_ne_nil _ _) ?_;focus(decide+kernel))
  |(refine cf (rs:=[7,8]) ?h (List.cons_ne_nil _ _) ?_;focus(decide+kernel))
  |(refine cf (rs:=[4]) ?h (List.cons_ne_nil _ _) ?_;focus(decide+kernel))
  |(refine cf (rs:=[4,8]) ?h (List.cons_ne_nil _ _) ?_;focus(decide+kernel))
  |(refine cf (rs:=[11]) ?h (List.cons_ne_nil _ _) ?_;focus(decide+kernel))
  |(refine cf (rs:=[8]) ?h (List.cons_ne_nil _ _) ?_;focus(decide+kernel))
end
end
section
open Tryz
open Go.RowKit Go.Shelf
attribute [local go_sem] Oper.semAt_some
theorem bP.oth6 {w:aj} {v:aw} {n g b:Nat} {R:Nat->Int} (h:bP w v n g R) (hb:0<n->b≠g) (u0 u1 u2 u3 u4 u5:aw):bP ((((((w.setCell ⟨b,0,ag⟩ u0).setCell ⟨b,1,ag⟩ u1).setCell ⟨b,2,ag⟩ u2).setCell ⟨b,3,ag⟩ u3).setCell ⟨b,4,ag⟩ u4).setCell ⟨b,5,ag⟩ u5) v n g R:=
 (((((h.other (p:=⟨b,0,ag⟩) hb u0).other (p:=⟨b,1,ag⟩) hb u1).other (p:=⟨b,2,ag⟩) hb u2).other (p:=⟨b,3,ag⟩) hb u3).other (p:=⟨b,4,ag⟩) hb u4).other (p:=⟨b,5,ag⟩) hb u5
theorem gK.oth6 {w:aj} {B b:Nat} {S:bL} (h:gK w B S) (hb:b<B) (u0 u1 u2 u3 u4 u5:aw):gK ((((((w.setCell ⟨b,0,ag⟩ u0).setCell ⟨b,1,ag⟩ u1).setCell ⟨b,2,ag⟩ u2).setCell ⟨b,3,ag⟩ u3).setCell ⟨b,4,ag⟩ u4).setCell ⟨b,5,ag⟩ u5) B S:=by
 obtain⟨gz,gh,gq,h1,h2,h3,h4,h5,h6,h7⟩:=h
 exact⟨gz,gh,gq,h1.oth6 (λh=>by have:=h4 h;omega) ..,h2.oth6 (λh=>by have:=h5 h;omega) ..,h3.oth6 (λh=>by have:=h6 h;omega) ..,h4,h5,h6,h7⟩
theorem o5 (S:bL) (w:aj) (hS:gC w S) (n1:S.zn<=8) (n2:S.hn<=8) (n3:S.sn<=8):
  aC prog 441 #[aN S.cells] w λe w'=>∃zv hv qv,e=ar (aN (S.with zv hv qv).cells)/\gK w' w.heap.size (S.with zv hv qv)/\ap w.heap.size w w':=by
 obtain⟨a1,c1,a2,c2,a3,c3,hw1,hw2,hw3⟩:=hS.forms
 have HSC:bj (S.cells=#[M U S.now,T a1 S.zn c1,T a2 S.hn c2,T a3 S.sn c3,M U S.siren,aA S.storm]):=show _=_ by unfold bL.cells;rw[hw1,hw2,hw3]
 have HRZ:=af (show _ from(by have h:=hS.z;rw[hw1]at h;exact h))
 have HRH:=af (show _ from(by have h:=hS.h;rw[hw2]at h;exact h))
 have HRQ:=af (show _ from(by have h:=hS.q;rw[hw3]at h;exact h))
 rw[HSC.out]
 clear hw1 hw2 hw3
 obtain⟨W0,HW0,hC,hC2,hB⟩:=o6 w 75 #[M U S.now,T a1 S.zn c1,T a2 S.hn c2,T a3 S.sn c3,M U S.siren,aA S.storm] 75 #[M U 0,T ag 0 0,T ag 0 0,T ag 0 0,M U 0,aA false]
 go_enter func441,ntmps441
 go_upto_region 1 with fail
 rw[HW0.out]
 obtain⟨xb,hxe⟩:=bY w.heap.size
 rw[<-hxe]at hC hC2⊢
 obtain⟨yb,hye⟩:=bY (xb+1)
 rw[<-hye]at hC2⊢
 have hxyb:xb+1=yb:=hye.symm;clear hye
 have hxw:xb=w.heap.size:=hxe;have HXW:=af hxw;clear hxw hxe HW0
 have xx:=aH hC
 have yy:=aH hC2
 refine tr (S:=S) (B:=xb) kr hC (HRZ.out.below hB) (HRH.out.below hB) (HRQ.out.below hB) n1 n2 n3 (aY _) hC2 om ?_
 intro _ _ _ _ _ _ _ _ _ _ _ _ _ _ _ zv hv qv w9 hb9 hS9 hO9 hr9
 (try simp only[Exit.then])
 (try refine‹∀(a:Act) (w:aj),bi prog _ _ a w->_› _ _ ?_)
 have hO:=hO9.mono (show w.heap.size<=W0.heap.size from hB.size)
 have hB9:ap w.heap.size w w9:=hB.trans (hb9.mono (by rw[HXW.out];exact aY _))
 obtain⟨gz,gh,gq,⟨az,cz,hvz,-⟩,⟨ah,ch,hvh,-⟩,⟨aq,cq,hvq,-⟩,-⟩:=id hO
 unfold bL.with at hvz hvh hvq
 simp only at hvz hvh hvq
 subst hvz hvh hvq
 unfold bL.cells bL.with at hS9
 simp only at hS9
 have kk:=aH hS9
 have ll:=aH hr9
 have m0:=hr9.frozen 0
 have m1:=hr9.frozen 1
 have m2:=hr9.frozen 2
 have m3:=hr9.frozen 3
 have m4:=hr9.frozen 4
 have m5:=hr9.frozen 5
 go_wp2_with fail
 have hr10:=dQ hr9 (M U S.now) (T az S.zn cz) (T ah S.hn ch) (T aq S.sn cq) (M U S.siren) (aA S.storm)
 have hB10:=dO hB9 (show w.heap.size<=yb by have:=HXW.out;omega) (M U S.now) (T az S.zn cz) (T ah S.hn ch) (T aq S.sn cq) (M U S.siren) (aA S.storm)
 have hO10:=gK.oth6 hO9 (show yb<W0.heap.size from hC2.lt) (M U S.now) (T az S.zn cz) (T ah S.hn ch) (T aq S.sn cq) (M U S.siren) (aA S.storm)
 generalize((((((w9.setCell ⟨yb,0,ag⟩ (M U S.now)).setCell ⟨yb,1,ag⟩ (T az S.zn cz)).setCell ⟨yb,2,ag⟩ (T ah S.hn ch)).setCell ⟨yb,3,ag⟩ (T aq S.sn cq)).setCell ⟨yb,4,ag⟩ (M U S.siren)).setCell ⟨yb,5,ag⟩ (aA S.storm))=w10 at *
 have ll:=aH hr10
 refine bG (P:=prog) (fn:=f441) (v:=aN (S.with (T az S.zn cz) (T ah S.hn ch) (T aq S.sn cq)).cells) ?_ rfl ?_
 ·simp[results,results441,go_sem,bL.with,bL.cells, *]
 exact⟨_,_,_,rfl,hO10.mono hB.size,hB10⟩
def ExI (w:aj) (e:Ending) (w1:aj):Prop:=∃k:Int,e=ar (M U k)/\(k=0\/171<=k)/\ap w.heap.size w w1
theorem lA {P:Program} {f:FuncId} {a:Array aw} {w w0:aj} {Q:Ending->aj->Prop} (h:aC P f a w (ExI w0)) (hK:∀(k:Int) (w1:aj),(k=0\/171<=k)->ap w0.heap.size w0 w1->Q (ar (M U k)) w1):aC P f a w Q:=
 h.mono λe w1 ⟨b,he,hc,hb⟩=>by subst he;exact hK b w1 hc hb
theorem ny (D:bE) (S:bL) (person:Nat) (zone:Int) (w:aj) (hV:eP w D) (hS:gC w S) (hG:cA D) (hH:D.kn<=S.hn) (hQ:D.qn<=S.sn) (hp:person<D.pn) (hz:zone<D.zn) (hst:S.storm=false):
  aC prog 517 #[aN D.cells,aN S.cells,M U (person:Int),M U zone] w (ExI w):=by
 have hqn:=hG.qn
 have HKe:=af (λW (h:ap w.heap.size w W)=>iK D S person zone W (hV.below h) (hS.below h) hG hH hQ hz)
 obtain⟨za,zc,da,dc,pa,pc,ka,kc,qa,qc,HDC,HRz,HRd,HRp,HRk,HRq⟩:=hV.lit
 obtain⟨a1,c1,a2,c2,a3,c3,hw1,hw2,hw3⟩:=hS.forms
 have HSC:bj (S.cells=#[M U S.now,T a1 S.zn c1,T a2 S.hn c2,T a3 S.sn c3,M U S.siren,aA S.storm]):=show _=_ by unfold bL.cells;rw[hw1,hw2,hw3]
 rw[HDC.out,HSC.out]
 rw[HDC.out,HSC.out]at HKe
 rw[hst]at HKe⊢
 clear hG
 clear hw1 hw2 hw3
 obtain⟨W0,xb,HW0,hC,hC2,hB⟩:=pf w 55 #[T za D.zn zc,T da D.dn dc,T pa D.pn pc,T ka D.kn kc,T qa D.qn qc,M U D.panel,M U D.wait] 75 #[M U S.now,T a1 S.zn c1,T a2 S.hn c2,T a3 S.sn c3,M U S.siren,aA false]
 go_enter func517,ntmps517
 go_upto_region 1 with fail
 rw[HW0.out.1,HW0.out.2]
 obtain⟨yb,hye⟩:=bY (xb+1)
 rw[<-hye]at hC2⊢
 clear hye
 clear HW0
 have xx:=aJ hC
 have yy:=aH hC2
 by_cases hz0:zone<0
 ·go_wp2_with fail
  go_ret
  exact⟨0,rfl,Or.inl rfl,hB⟩
 obtain⟨zi,hzi⟩:∃m:Nat,zone=(m:Int):=⟨zone.toNat,by omega⟩
 subst hzi
 have i1:(person:Int)<(D.pn:Int):=om
 have i2:(zi:Int)<(D.zn:Int):=hz
 obtain⟨zb,zo,rfl,zl,hc⟩:=(HRz.out.below hB).elem (show zi<D.zn by omega)
 have e5:W0.cell? ⟨zb,zo+zi*8+5,ag⟩=ai (M U (D.ZR zi 5)):=hc 5 om
 clear hc
 obtain⟨pb,po,rfl,pl,hc⟩:=(HRp.out.below hB).elem hp
 have f1:W0.cell? ⟨pb,po+person*2+1,ag⟩=ai (M U (D.PR person 1)):=hc 1 om
 clear hc
 generalize D.ZR zi 5=g1 at *
 generalize D.PR person 1=g2 at *
 go_upto_region 3 with fail
 go_quiet (fail)
 have hb:=aM (au W0.heap.size W0) nq
 obtain⟨hC,hC2,hB⟩:=bM hC hC2 hB hb
 generalize W0.drewN nq=w1 at *
 clear e5 f1
 clear xx
 have xx:=aJ hC
 clear yy
 have yy:=aH hC2
 by_cases hg:g2<g1
 ·go_wp2_with fail
  go_ret
  exact⟨172,rfl,Or.inr om,hB⟩
 go_upto_region 6 with fail
 go_loopw [9] (λt wr=>t=M U 0/\am wr xb 55 #[T (ai ⟨zb,zo,ag⟩) D.zn zc,T da D.dn dc,T (ai ⟨pb,po,ag⟩) D.pn pc,T ka D.kn kc,T qa D.qn qc,M U D.panel,M U D.wait]/\am wr yb 75 #[M U S.now,T a1 S.zn c1,T a2 S.hn c2,T a3 S.sn c3,M U S.siren,aA false]/\ap w.heap.size w wr) (λ_ _=>0)
 case atStart=>exact⟨rfl,hC,hC2,hB⟩
 case round=>
  clear hC hC2 hB
  obtain⟨rfl,hC,hC2,hB⟩:=hrel
  have xx:=aJ hC
  have yy:=aH hC2
  by_cases hq0:(0:Int)<(D.qn:Int)
  ·exact T19
  exact T19
end
section
open Tryz
open Go.RowKit Go.Shelf
attribute [local go_sem] Oper.semAt_some
def uq (w0:aj) (e:Ending) (w1:aj):Prop:=∃(n sr:Int) (st:Bool) (a1 a2 a3:Option Addr) (n1 c1 n2 c2 n3 c3:Nat) (k:Int),e=ar (.tuple #[aN #[M U n,T a1 n1 c1,T a2 n2 c2,T a3 n3 c3,M U sr,aA st],M U k])/\(k=0\/171<=k)/\ap w0.heap.size w0 w1
theorem sh (k:Int) {G:Prop} (h:∀x:Int,x=k->G:=by
  intro kk hkk
  have tt:=aH hL
  have mm:=fz6 hL
  go_wp2_with fail
  obtain⟨w9,hw9,hL9,hB9,hD9⟩:=fin6 hL hB hD (show w0.heap.size<=tb by omega) (show tb≠kb by omega) (M U S.now) (T (ai ⟨gz,0,ag⟩) S.zn cz) (T a2 S.hn c2) (T a3 S.sn c3) (M U S.siren) (aA false)
  rw[hw9]
  have tt:=aH hL9
  refine bG (P:=prog) (fn:=f442) (v:= .tuple #[aN #[M U S.now,T (ai ⟨gz,0,ag⟩) S.zn cz,T a2 S.hn c2,T a3 S.sn c3,M U S.siren,aA false],M U kk]) ?_ rfl ?_
  ·simp[results,results442,go_sem, *]
  exact⟨⟨_,_,_,_,_,_,_,_,_,_,_,_,kk,rfl,by omega,hB9⟩,hD9⟩):G:=h k rfl
theorem m8 (D:bE) (S:bL) (who:Nat) (at_ kind what wto:Int) (w0 w:aj) (hV:eP w0 D) (hB0:ap w0.heap.size w0 w) {w1:aj} (hO:gK w1 w0.heap.size S) (hb1:ap w1.heap.size w1 w) {kb:Nat} {kcs:Array aw} (hkb:w1.heap.size<=kb) (hD:am w kb 75 kcs) (hG:cA D) (hZ1:D.pn<=S.zn) (hZ2:S.zn<=8) (hH:D.kn<=S.hn) (hQ:D.qn<=S.sn) (hst:S.storm=false) (hwho:who<D.pn) (hwto:wto<D.pn) (hw1:-1<=what) (hw2:what<D.zn) (hfr:S.Z who=-1):
  aC prog 442 #[aN D.cells,aN S.cells,aN #[M U at_,M U kind,M U (who:Int),M U what,M U wto]] w (λe w'=>uq w0 e w'/\am w' kb 75 kcs):=by
 have hg1:=hG.zn
 have hg2:=hG.pn
 have hg5:=hG.dn
 obtain⟨gz,gh,gq,hz,hh,hq,b1,b2,b3,ne1,ne2⟩:=hO
 obtain⟨_,-,_,hgk,_,_⟩:=hz.form (show who<S.zn by omega)
 have hgkb:gz≠kb:=om
 have hkl:=hD.lt
 replace hz:=hz.below hb1
 replace hh:=hh.below hb1
 replace hq:=hq.below hb1
 clear hb1 hkb hgk
 obtain⟨cz,hsz,hczl,hgl,hze,hzf⟩:=hz.form (show who<S.zn by omega)
 obtain⟨a2,c2,hsh,-⟩:=id hh
 obtain⟨a3,c3,hsq,-⟩:=id hq
 have HSC:bj (S.cells=#[M U S.now,T (ai ⟨gz,0,ag⟩) S.zn cz,T a2 S.hn c2,T a3 S.sn c3,M U S.siren,aA false]):=show _=_ by unfold bL.cells;rw[hsz,hsh,hsq,hst]
 have b1:=b1 om
 rw[hfr]at hze
 obtain⟨za,zc,da,dc,pa,pc,ka,kc,qa,qc,HDC,HRz,HRd,HRp,HRk,HRq⟩:=hV.lit
 have HDo:=af (λ(x:Int) W (h:ap w0.heap.size w0 W)=>nL D (-1) x W (hV.below h) hg5)
 have HCo:=af (λ(i:Nat) (hi:i<D.pn) W (h:ap w0.heap.size w0 W) (hS:gC W S)=>ny D S i what W (hV.below h) hS hG hH hQ hi hw2 hst)
 have HMa:=af (λ(S1:bL) (he:S1.cells=#[M U S.now,T (ai ⟨gz,0,ag⟩) S.zn cz,T a2 S.hn c2,T a3 S.sn c3,M U S.siren,aA false]) (hn:S1.zn<=8) (z:Int) W (hS:gC W S1)=>show aC prog 513 #[aN #[M U S.now,T (ai ⟨gz,0,ag⟩) S.zn cz,T a2 S.hn c2,T a3 S.sn c3,M U S.siren,aA false],M U z] W _ from he▸ju S1 z W hS hn)
 rw[HDC.out]at HDo
 rw[HDC.out,HSC.out]at HCo
 rw[HDC.out,HSC.out]
 have HZr:=af hz
 have HHr:=af hh
 have HQr:=af hq
 clear hsz hsh hsq hz hh hq hG hst hfr
 obtain⟨W0,HW0,hC,hC2,hC3,hL,hB⟩:=oZ w 55 #[T za D.zn zc,T da D.dn dc,T pa D.pn pc,T ka D.kn kc,T qa D.qn qc,M U D.panel,M U D.wait] 75 #[M U S.now,T (ai ⟨gz,0,ag⟩) S.zn cz,T a2 S.hn c2,T a3 S.sn c3,M U S.siren,aA false] 294 #[M U at_,M U kind,M U (who:Int),M U what,M U wto] 75 #[M U 0,T ag 0 0,T ag 0 0,T ag 0 0,M U 0,aA false]
 replace hD:=hD.below hB
 replace HZr:=af (HZr.out.below hB)
 replace HHr:=af (HHr.out.below hB)
 replace HQr:=af (HQr.out.below hB)
 replace hze:=(hB.cell (p:=⟨gz,who,ag⟩) hgl).trans hze
 replace hzf:W0.frozen? ⟨gz,who,ag⟩=false:=by rw[fo (p:=⟨gz,who,ag⟩) (hB.block gz hgl)];exact hzf
 have hw0:=hB0.size
 replace hB:=ak hB0 hB
 clear hB0
 go_enter func442,ntmps442
 go_upto_region 1 with fail
 rw[HW0.out]
 obtain⟨xb,hxe⟩:=bY w.heap.size
 rw[<-hxe]at hC hC2 hC3 hL⊢
 obtain⟨yb,hyb⟩:=bY (xb+1)
 rw[<-hyb]
 rw[show xb+1=yb by omega]at hC2
 obtain⟨zb,hzb⟩:=bY (yb+1)
 rw[<-hzb]
 rw[show xb+2=zb by omega]at hC3
 obtain⟨tb,htb⟩:=bY (zb+1)
 rw[<-htb]
 rw[show xb+3=tb by omega]at hL
 have l1:w0.heap.size<=xb:=om
 have l2:gz<xb:=om
 have l3:xb<yb:=om
 have l4:yb<zb:=om
 have l5:zb<tb:=om
 have l6:kb<xb:=om
 clear hxe HW0 hw0 hgl hyb hzb htb
 have xx:=aJ hC
 have yy:=aH hC2
 have vv:=aL hC3
 have i1:(who:Int)<(S.zn:Int):=om
 go_wp2_with fail
 refine ld (HDo.out what _ hB) ?_
 rintro(_|_) w1 - hb
 ·replace HZr:=af (HZr.out.below hb)
  replace HHr:=af (HHr.out.below hb)
  replace HQr:=af (HQr.out.below hb)
  obtain⟨hC,hC2,hC3,hD,hL,hB⟩:=pR hC hC2 hC3 hD hL hB hb
  have xx:=aJ hC
  have yy:=aH hC2
  have vv:=aL hC3
  exact sh 171
 replace HZr:=af (HZr.out.below hb)
 replace HHr:=af (HHr.out.below hb)
 replace HQr:=af (HQr.out.below hb)
 obtain⟨hC,hC2,hC3,hD,hL,hB⟩:=pR hC hC2 hC3 hD hL hB hb
 have xx:=aJ hC
 have yy:=aH hC2
 have vv:=aL hC3
 by_cases hw:wto<0
 ·have hwn:¬(0:Int)<=wto:=om
  have hwd:decide ((0:Int)<=wto)=false:=by simpa using hwn
  go_wp2_with fail
  refine lA (HCo.out who hwho _ hB ⟨HZr.out.row,HHr.out.row,HQr.out.row⟩) ?_
  intro k2 w2 hk2 hb
  replace HZr:=af (HZr.out.below hb)
  replace HHr:=af (HHr.out.below hb)
  replace HQr:=af (HQr.out.below hb)
  obtain⟨hC,hC2,hC3,hD,hL,hB⟩:=pR hC hC2 hC3 hD hL hB hb
  have xx:=aJ hC
  have yy:=aH hC2
  have vv:=aL hC3
  by_cases hk:k2=0
  rotate_left
  ·exact vj
  subst hk
  go_upto_region 9 with fail
  obtain⟨_,-,_,_,hzc9,hzf9⟩:=HZr.out.form (show who<S.zn by omega)
  generalize S.Z who=vz at hzc9
  go_upto_region 10 with fail
  clear hzc9 hzf9 xx yy vv
  have hZ9:=HZr.out.set (show who<S.zn by omega) what
  have hH9:=HHr.out.other (p:=⟨gz,who,ag⟩) (λh=>ne1 om h) (M U what)
  have hQ9:=HQr.out.other (p:=⟨gz,who,ag⟩) (λh=>ne2 om h) (M U what)
  replace hB:=aS (p:=⟨gz,who,ag⟩) hB b1 (M U what)
  replace hC:=hC.set_other (p:=⟨gz,who,ag⟩) (show gz≠xb by omega) (M U what)
  replace hC2:=hC2.set_other (p:=⟨gz,who,ag⟩) (show gz≠yb by omega) (M U what)
  replace hC3:=hC3.set_other (p:=⟨gz,who,ag⟩) (show gz≠zb by omega) (M U what)
  replace hL:=hL.set_other (p:=⟨gz,who,ag⟩) (show gz≠tb by omega) (M U what)
  replace hD:=hD.set_other (p:=⟨gz,who,ag⟩) (show gz≠kb by omega) (M U what)
  generalize w2.setCell ⟨gz,who,ag⟩ (M U what)=w3 at *
  clear HZr HHr HQr
  have HZr:=af hZ9
  have HHr:=af hH9
  have HQr:=af hQ9
  clear hZ9 hH9 hQ9
  have xx:=aJ hC
  have yy:=aH hC2
  have vv:=aL hC3
  go_upto_region 12 with fail
  have HMs:=af (λ(z:Int) W (h:ap w3.heap.size w3 W)=>HMa.out (S.setZ who what) HSC.out (show S.zn<=8 from hZ2) z W ⟨(HZr.out.below h).row,(HHr.out.below h).row,(HQr.out.below h).row⟩)
  have hxl:=hC.lt
  have hyl:=hC2.lt
  have hzl:=hC3.lt
  by_cases hwz:what<0
  ·have hwq:¬(0:Int)<=what:=om
   have hwr:decide ((0:Int)<=what)=false:=by simpa using hwq
   have HR:=af λw' (hb:ap w3.heap.size w3 w')=>tN (aH (hC2.below hb)) (aL (hC3.below hb))
   have hBd:ap w3.heap.size w3 w3.drew:=(au _ _).drew
   refine bV hBd ?_
   refine K2 ?_
   refine K5 ?_
   refine br 15 hBd ?_
   refine br 16 hBd ?_
   refine wpAnyH_done kr ?_ _
   (try simp only[Exit.then])
   (try refine‹∀(a:Act) (w:aj),bi prog _ _ a w->_› _ _ ?_)
   replace hC:=hC.below hBd
   replace hC2:=hC2.below hBd
   replace hC3:=hC3.below hBd
   replace hL:=hL.below hBd
   replace hD:=hD.below hBd
   replace hB:=ak hB hBd
   clear HR HMs
   generalize w3.drew=w7 at *
   clear hBd
   have xx:=aJ hC
   have yy:=aH hC2
   have vv:=aL hC3
   exact sh 0
  obtain⟨zi,hzi⟩:∃m:Nat,what=(m:Int):=⟨what.toNat,by omega⟩
  subst hzi
  have hwp2:(0:Int)<=(zi:Int):=om
  have i5:(zi:Int)<(D.zn:Int):=hw2
  obtain⟨qb,qo,rfl,ql,hc⟩:=(HRz.out.below hB).elem (show zi<D.zn by omega)
  have e6:w3.cell? ⟨qb,qo+zi*8+6,ag⟩=ai (M U (D.ZR zi 6)):=hc 6 om
  have e7:w3.cell? ⟨qb,qo+zi*8+7,ag⟩=ai (aA (D.ZB zi)):=hc 7 om
  generalize D.ZR zi 6=rm at *
  generalize D.ZB zi=pr at *
  have HR:=af λw' (hb:ap w3.heap.size w3 w')=>tD (aJ (hC.below hb)) (aH (hC2.below hb)) (aL (hC3.below hb)) (kp e6 hb)
  have hBd:ap w3.heap.size w3 w3.drew:=(au _ _).drew
  refine bV hBd ?_
  refine K3 ?_
  refine br 5 hBd ?_
  refine br 6 hBd ?_
  refine br 8 hBd ?_
  refine K5 ?_
  refine cL 7 (λK' hK'=>?_)
  refine aZ (HMs.out _ _ hBd) ?_
  intro w8 hb
  have hB1:=ak hBd hb
  refine bO hK' hB1 ?_
  clear hK' K'
  refine br 15 hB1 ?_
  refine br 16 hB1 ?_
  refine wpAnyH_done kr ?_ _
  (try simp only[Exit.then])
  (try refine‹∀(a:Act) (w:aj),bi prog _ _ a w->_› _ _ ?_)
  replace e6:=(hB1.cell (p:=⟨qb,qo+zi*8+6,ag⟩) ql).trans e6
  replace e7:=(hB1.cell (p:=⟨qb,qo+zi*8+7,ag⟩) ql).trans e7
  have HM2:=af (λ(z:Int) W (h:ap w8.heap.size w8 W)=>HMs.out z W (ak hB1 h))
  replace hC:=hC.below hB1
  replace hC2:=hC2.below hB1
  replace hC3:=hC3.below hB1
  replace hL:=hL.below hB1
  replace hD:=hD.below hB1
  replace hB:=ak hB hB1
  have ql2:=aQ ql hB1.size
  clear HR HMs hBd hB1
  have xx:=aJ hC
  have yy:=aH hC2
  have vv:=aL hC3
  skip
  obtain⟨cr,hcr⟩:∃c:Int,c=(((S.setZ who (zi:Int)).crowd (zi:Int):Nat):Int):=⟨_,rfl⟩
  exact T18
 obtain⟨wn,hwe⟩:∃m:Nat,wto=(m:Int):=⟨wto.toNat,by omega⟩
 subst hwe
 have hwp:(0:Int)<=(wn:Int):=om
 have i2:(wn:Int)<(S.zn:Int):=om
 obtain⟨_,-,_,_,hwc,hwf⟩:=HZr.out.form (show wn<S.zn by omega)
 generalize hgw:S.Z wn=vw at *
 clear hgw
 by_cases hvw:vw=-1
 rotate_left
 ·have hvb:(vw != -1)=true:=by simpa using hvw
  exact sh 171
 subst hvw
 go_wp2_with fail
 refine lA (HCo.out who hwho _ hB ⟨HZr.out.row,HHr.out.row,HQr.out.row⟩) ?_
 intro k2 w2 hk2 hb
 replace HZr:=af (HZr.out.below hb)
 replace HHr:=af (HHr.out.below hb)
 replace HQr:=af (HQr.out.below hb)
 obtain⟨hC,hC2,hC3,hD,hL,hB⟩:=pR hC hC2 hC3 hD hL hB hb
 have xx:=aJ hC
 have yy:=aH hC2
 have vv:=aL hC3
 by_cases hk:k2=0
 rotate_left
 ·exact vj
 subst hk
 go_wp2_with fail
 refine lA (HCo.out wn om _ hB ⟨HZr.out.row,HHr.out.row,HQr.out.row⟩) ?_
 intro k3 w3 hk3 hb
 replace HZr:=af (HZr.out.below hb)
 replace HHr:=af (HHr.out.below hb)
 replace HQr:=af (HQr.out.below hb)
 obtain⟨hC,hC2,hC3,hD,hL,hB⟩:=pR hC hC2 hC3 hD hL hB hb
 have xx:=aJ hC
 have yy:=aH hC2
 have vv:=aL hC3
 by_cases hk9:k3=0
 rotate_left
 ·have hkb:(k3 != 0)=true:=by simpa using hk9
  exact sh k3
 subst hk9
 go_upto_region 9 with fail
 obtain⟨_,-,_,_,hzc9,hzf9⟩:=HZr.out.form (show who<S.zn by omega)
 generalize S.Z who=vz at hzc9
 go_upto_region 10 with fail
 clear hzc9 hzf9 xx yy vv
 have hZ9:=HZr.out.set (show who<S.zn by omega) what
 have hH9:=HHr.out.other (p:=⟨gz,who,ag⟩) (λh=>ne1 om h) (M U what)
 have hQ9:=HQr.out.other (p:=⟨gz,who,ag⟩) (λh=>ne2 om h) (M U what)
 replace hB:=aS (p:=⟨gz,who,ag⟩) hB b1 (M U what)
 replace hC:=hC.set_other (p:=⟨gz,who,ag⟩) (show gz≠xb by omega) (M U what)
 replace hC2:=hC2.set_other (p:=⟨gz,who,ag⟩) (show gz≠yb by omega) (M U what)
 replace hC3:=hC3.set_other (p:=⟨gz,who,ag⟩) (show gz≠zb by omega) (M U what)
 replace hL:=hL.set_other (p:=⟨gz,who,ag⟩) (show gz≠tb by omega) (M U what)
 replace hD:=hD.set_other (p:=⟨gz,who,ag⟩) (show gz≠kb by omega) (M U what)
 generalize w3.setCell ⟨gz,who,ag⟩ (M U what)=w4 at *
 clear HZr HHr HQr
 have HZr:=af hZ9
 have HHr:=af hH9
 have HQr:=af hQ9
 clear hZ9 hH9 hQ9
 have xx:=aJ hC
 have yy:=aH hC2
 have vv:=aL hC3
 obtain⟨_,-,_,_,hzc9,hzf9⟩:=HZr.out.form (show wn<S.zn by omega)
 generalize lE S.Z who what wn=vz at hzc9
 go_upto_region 12 with fail
 clear hzc9 hzf9 xx yy vv
 have hZ9:=HZr.out.set (show wn<S.zn by omega) what
 have hH9:=HHr.out.other (p:=⟨gz,wn,ag⟩) (λh=>ne1 om h) (M U what)
 have hQ9:=HQr.out.other (p:=⟨gz,wn,ag⟩) (λh=>ne2 om h) (M U what)
 replace hB:=aS (p:=⟨gz,wn,ag⟩) hB b1 (M U what)
 replace hC:=hC.set_other (p:=⟨gz,wn,ag⟩) (show gz≠xb by omega) (M U what)
 replace hC2:=hC2.set_other (p:=⟨gz,wn,ag⟩) (show gz≠yb by omega) (M U what)
 replace hC3:=hC3.set_other (p:=⟨gz,wn,ag⟩) (show gz≠zb by omega) (M U what)
 replace hL:=hL.set_other (p:=⟨gz,wn,ag⟩) (show gz≠tb by omega) (M U what)
 replace hD:=hD.set_other (p:=⟨gz,wn,ag⟩) (show gz≠kb by omega) (M U what)
 generalize w4.setCell ⟨gz,wn,ag⟩ (M U what)=w4s at *
 clear HZr HHr HQr
 have HZr:=af hZ9
 have HHr:=af hH9
 have HQr:=af hQ9
 clear hZ9 hH9 hQ9
 have xx:=aJ hC
 have yy:=aH hC2
 have vv:=aL hC3
 have HMs:=af (λ(z:Int) W (h:ap w4s.heap.size w4s W)=>HMa.out ((S.setZ who what).setZ wn what) HSC.out (show S.zn<=8 from hZ2) z W ⟨(HZr.out.below h).row,(HHr.out.below h).row,(HQr.out.below h).row⟩)
 have hxl:=hC.lt
 have hyl:=hC2.lt
 have hzl:=hC3.lt
 by_cases hwz:what<0
 ·have hwq:¬(0:Int)<=what:=om
  have hwr:decide ((0:Int)<=what)=false:=by simpa using hwq
  have HR:=af λw' (hb:ap w4s.heap.size w4s w')=>tN (aH (hC2.below hb)) (aL (hC3.below hb))
  have hBd:ap w4s.heap.size w4s w4s.drew:=(au _ _).drew
  refine bV hBd ?_
  refine K2 ?_
  refine K5 ?_
  refine br 15 hBd ?_
  refine br 16 hBd ?_
  refine wpAnyH_done kr ?_ _
  (try simp only[Exit.then])
  (try refine‹∀(a:Act) (w:aj),bi prog _ _ a w->_› _ _ ?_)
  replace hC:=hC.below hBd
  replace hC2:=hC2.below hBd
  replace hC3:=hC3.below hBd
  replace hL:=hL.below hBd
  replace hD:=hD.below hBd
  replace hB:=ak hB hBd
  clear HR HMs
  generalize w4s.drew=w7 at *
  clear hBd
  have xx:=aJ hC
  have yy:=aH hC2
  have vv:=aL hC3
  exact sh 0
 obtain⟨zi,hzi⟩:∃m:Nat,what=(m:Int):=⟨what.toNat,by omega⟩
 subst hzi
 have hwp2:(0:Int)<=(zi:Int):=om
 have i5:(zi:Int)<(D.zn:Int):=hw2
 obtain⟨qb,qo,rfl,ql,hc⟩:=(HRz.out.below hB).elem (show zi<D.zn by omega)
 have e6:w4s.cell? ⟨qb,qo+zi*8+6,ag⟩=ai (M U (D.ZR zi 6)):=hc 6 om
 have e7:w4s.cell? ⟨qb,qo+zi*8+7,ag⟩=ai (aA (D.ZB zi)):=hc 7 om
 generalize D.ZR zi 6=rm at *
 generalize D.ZB zi=pr at *
 have HR:=af λw' (hb:ap w4s.heap.size w4s w')=>tD (aJ (hC.below hb)) (aH (hC2.below hb)) (aL (hC3.below hb)) (kp e6 hb)
 have hBd:ap w4s.heap.size w4s w4s.drew:=(au _ _).drew
 refine bV hBd ?_
 refine K3 ?_
 refine br 5 hBd ?_
 refine br 6 hBd ?_
 refine br 8 hBd ?_
 refine K5 ?_
 refine cL 7 (λK' hK'=>?_)
 refine aZ (HMs.out _ _ hBd) ?_
 intro w8 hb
 have hB1:=ak hBd hb
 refine bO hK' hB1 ?_
 clear hK' K'
 refine br 15 hB1 ?_
 refine br 16 hB1 ?_
 refine wpAnyH_done kr ?_ _
 (try simp only[Exit.then])
 (try refine‹∀(a:Act) (w:aj),bi prog _ _ a w->_› _ _ ?_)
 replace e6:=(hB1.cell (p:=⟨qb,qo+zi*8+6,ag⟩) ql).trans e6
 replace e7:=(hB1.cell (p:=⟨qb,qo+zi*8+7,ag⟩) ql).trans e7
 have HM2:=af (λ(z:Int) W (h:ap w8.heap.size w8 W)=>HMs.out z W (ak hB1 h))
 replace hC:=hC.below hB1
 replace hC2:=hC2.below hB1
 replace hC3:=hC3.below hB1
 replace hL:=hL.below hB1
 replace hD:=hD.below hB1
 replace hB:=ak hB hB1
 have ql2:=aQ ql hB1.size
 clear HR HMs hBd hB1
 have xx:=aJ hC
 have yy:=aH hC2
 have vv:=aL hC3
 skip
 obtain⟨cr,hcr⟩:∃c:Int,c=((((S.setZ who (zi:Int)).setZ wn (zi:Int)).crowd (zi:Int):Nat):Int):=⟨_,rfl⟩
 exact T18
end
section
open Tryz
open Go.RowKit Go.Shelf
attribute [local go_sem] Oper.semAt_some
theorem oK (D:bE) (S:bL) (who what:Nat) (at_ kind wto:Int) (w:aj) (hV:eP w D) (hS:gC w S) (hst:S.storm=false) (hp:(0:Int)<=D.panel) (hfr:S.Z who=-1) (hwho:who<S.zn) (hk:kind=2\/kind=3\/kind=4) (hwh:what<S.hn) (hH:S.H what=-1):
  aC prog 443 #[aN D.cells,aN S.cells,aN #[M U at_,M U kind,M U (who:Int),M U (what:Int),M U wto]] w (uq w):=by
 obtain⟨za,zc,da,dc,pa,pc,ka,kc,qa,qc,HDC,HRz,HRd,HRp,HRk,HRq⟩:=hV.lit
 obtain⟨a1,c1,a2,c2,a3,c3,hw1,hw2,hw3⟩:=hS.forms
 have HSC:bj (S.cells=#[M U S.now,T a1 S.zn c1,T a2 S.hn c2,T a3 S.sn c3,M U S.siren,aA false]):=show _=_ by unfold bL.cells;rw[hw1,hw2,hw3,hst]
 have HRZ:=af (show _ from(by have h:=hS.z;rw[hw1]at h;exact h))
 have HRH:=af (show _ from(by have h:=hS.h;rw[hw2]at h;exact h))
 rw[HDC.out,HSC.out]
 clear hw1 hw2 hw3 hst
 obtain⟨W0,HW0,hC,hC2,hC3,hL,hB⟩:=oZ w 55 #[T za D.zn zc,T da D.dn dc,T pa D.pn pc,T ka D.kn kc,T qa D.qn qc,M U D.panel,M U D.wait] 75 #[M U S.now,T a1 S.zn c1,T a2 S.hn c2,T a3 S.sn c3,M U S.siren,aA false] 294 #[M U at_,M U kind,M U (who:Int),M U (what:Int),M U wto] 75 #[M U 0,T ag 0 0,T ag 0 0,T ag 0 0,M U 0,aA false]
 go_enter func443,ntmps443
 go_upto_region 1 with fail
 rw[HW0.out]
 obtain⟨xb,hxe⟩:=bY w.heap.size
 rw[<-hxe]at hC hC2 hC3 hL⊢
 obtain⟨yb,hyb⟩:=bY (xb+1)
 rw[<-hyb]
 rw[show xb+1=yb by omega]at hC2
 obtain⟨zb,hzb⟩:=bY (yb+1)
 rw[<-hzb]
 rw[show xb+2=zb by omega]at hC3
 obtain⟨tb,htb⟩:=bY (zb+1)
 rw[<-htb]
 rw[show xb+3=tb by omega]at hL
 have l1:w.heap.size<=xb:=om
 have l3:xb<yb:=om
 have l4:yb<zb:=om
 have l5:zb<tb:=om
 clear hxe HW0 hyb hzb htb
 have xx:=aJ hC
 have yy:=aH hC2
 have vv:=aL hC3
 obtain⟨bb,bo,rfl,bl,hc⟩:=(HRZ.out.below hB).elem hwho
 have e0:W0.cell? ⟨bb,bo+who,ag⟩=ai (M U (S.Z who)):=eI hc
 obtain⟨hb9,ho,rfl,hl,hc⟩:=(HRH.out.below hB).elem hwh
 have e1:W0.cell? ⟨hb9,ho+what,ag⟩=ai (M U (S.H what)):=eI hc
 rw[hfr]at e0
 rw[hH]at e1
 clear hfr hH
 have i1:(who:Int)<(S.zn:Int):=om
 have i2:(what:Int)<(S.hn:Int):=om
 have hpn:((-1:Int)==D.panel)=false:=by simp<;>omega
 have hwn:((-1:Int) != (who:Int))=true:=by simp<;>omega
 go_upto_region 1 with fail
 go_quiet (fail)
 have hb:=aM (au W0.heap.size W0) nq
 have e2:=(hb.cell (p:=⟨hb9,ho+what,ag⟩) hl).trans e1
 obtain⟨hC,hC2,hC3,hL,hB⟩:=jO hC hC2 hC3 hL hB hb
 generalize W0.drewN nq=w1 at *
 have xx:=aJ hC
 have yy:=aH hC2
 have vv:=aL hC3
 rcases hk with rfl|rfl|rfl
 ·exact T2
 ·exact T2
 go_upto_region 24 with fail
 go_quiet (fail)
 have hb:=aM (au w1.heap.size w1) nq
 obtain⟨hC,hC2,hC3,hL,hB⟩:=jO hC hC2 hC3 hL hB hb
 generalize w1.drewN nq=w2 at *
 have xx:=aJ hC
 have yy:=aH hC2
 have vv:=aL hC3
 have tt:=aH hL
 have m0:=hL.frozen 0
 have m1:=hL.frozen 1
 have m2:=hL.frozen 2
 have m3:=hL.frozen 3
 have m4:=hL.frozen 4
 have m5:=hL.frozen 5
 go_wp2_with fail
 have hL9:=dQ hL (M U S.now) (T (ai ⟨bb,bo,ag⟩) S.zn c1) (T (ai ⟨hb9,ho,ag⟩) S.hn c2) (T a3 S.sn c3) (M U S.siren) (aA false)
 have hB9:=dO hB (show w.heap.size<=tb by omega) (M U S.now) (T (ai ⟨bb,bo,ag⟩) S.zn c1) (T (ai ⟨hb9,ho,ag⟩) S.hn c2) (T a3 S.sn c3) (M U S.siren) (aA false)
 generalize((((((w2.setCell ⟨tb,0,ag⟩ (M U S.now)).setCell ⟨tb,1,ag⟩ (T (ai ⟨bb,bo,ag⟩) S.zn c1)).setCell ⟨tb,2,ag⟩ (T (ai ⟨hb9,ho,ag⟩) S.hn c2)).setCell ⟨tb,3,ag⟩ (T a3 S.sn c3)).setCell ⟨tb,4,ag⟩ (M U S.siren)).setCell ⟨tb,5,ag⟩ (aA false))=w9 at *
 have tt:=aH hL9
 refine bG (P:=prog) (fn:=f443) (v:= .tuple #[aN #[M U S.now,T (ai ⟨bb,bo,ag⟩) S.zn c1,T (ai ⟨hb9,ho,ag⟩) S.hn c2,T a3 S.sn c3,M U S.siren,aA false],M U 174]) ?_ rfl ?_
 ·simp[results,results443,go_sem, *]
 exact⟨_,_,_,_,_,_,_,_,_,_,_,_,174,rfl,Or.inr om,hB9⟩
theorem lH (D:bE) (S:bL) (who what:Nat) (at_ kind wto:Int) (w:aj) (hV:eP w D) (hS:gC w S) (hst:S.storm=false) (hp:(0:Int)<=D.panel) (hfr:S.Z who=-1) (hwho:who<S.zn) (hwh:what<D.qn):
  aC prog 444 #[aN D.cells,aN S.cells,aN #[M U at_,M U kind,M U (who:Int),M U (what:Int),M U wto]] w (uq w):=by
 obtain⟨za,zc,da,dc,pa,pc,ka,kc,qa,qc,HDC,HRz,HRd,HRp,HRk,HRq⟩:=hV.lit
 obtain⟨a1,c1,a2,c2,a3,c3,hw1,hw2,hw3⟩:=hS.forms
 have HSC:bj (S.cells=#[M U S.now,T a1 S.zn c1,T a2 S.hn c2,T a3 S.sn c3,M U S.siren,aA false]):=show _=_ by unfold bL.cells;rw[hw1,hw2,hw3,hst]
 have HRZ:=af (show _ from(by have h:=hS.z;rw[hw1]at h;exact h))
 rw[HDC.out,HSC.out]
 clear hw1 hw2 hw3 hst
 obtain⟨W0,HW0,hC,hC2,hC3,hL,hB⟩:=oZ w 55 #[T za D.zn zc,T da D.dn dc,T pa D.pn pc,T ka D.kn kc,T qa D.qn qc,M U D.panel,M U D.wait] 75 #[M U S.now,T a1 S.zn c1,T a2 S.hn c2,T a3 S.sn c3,M U S.siren,aA false] 294 #[M U at_,M U kind,M U (who:Int),M U (what:Int),M U wto] 75 #[M U 0,T ag 0 0,T ag 0 0,T ag 0 0,M U 0,aA false]
 go_enter func444,ntmps444
 go_upto_region 1 with fail
 rw[HW0.out]
 obtain⟨xb,hxe⟩:=bY w.heap.size
 rw[<-hxe]at hC hC2 hC3 hL⊢
 obtain⟨yb,hyb⟩:=bY (xb+1)
 rw[<-hyb]
 rw[show xb+1=yb by omega]at hC2
 obtain⟨zb,hzb⟩:=bY (yb+1)
 rw[<-hzb]
 rw[show xb+2=zb by omega]at hC3
 obtain⟨tb,htb⟩:=bY (zb+1)
 rw[<-htb]
 rw[show xb+3=tb by omega]at hL
 have l1:w.heap.size<=xb:=om
 have l3:xb<yb:=om
 have l4:yb<zb:=om
 have l5:zb<tb:=om
 clear hxe HW0 hyb hzb htb
 have xx:=aJ hC
 have yy:=aH hC2
 have vv:=aL hC3
 obtain⟨bb,bo,rfl,bl,hc⟩:=(HRZ.out.below hB).elem hwho
 have e0:W0.cell? ⟨bb,bo+who,ag⟩=ai (M U (S.Z who)):=eI hc
 clear hc
 rw[hfr]at e0
 clear hfr
 obtain⟨qb,qo,rfl,ql,hc⟩:=(HRq.out.below hB).elem hwh
 have f0:W0.cell? ⟨qb,qo+what*6,ag⟩=ai (ay (D.QN what)):=hc 0 om
 have f1:W0.cell? ⟨qb,qo+what*6+1,ag⟩=ai (M U (D.QR what 1)):=hc 1 om
 have f2:W0.cell? ⟨qb,qo+what*6+2,ag⟩=ai (M U (D.QR what 2)):=hc 2 om
 have f3:W0.cell? ⟨qb,qo+what*6+3,ag⟩=ai (M U (D.QR what 3)):=hc 3 om
 have f4:W0.cell? ⟨qb,qo+what*6+4,ag⟩=ai (M U (D.QR what 4)):=hc 4 om
 have f5:W0.cell? ⟨qb,qo+what*6+5,ag⟩=ai (T (D.SA what) (D.SN what) (D.SC what)):=hc 5 om
 clear hc
 generalize D.QN what=b0 at *
 generalize D.QR what 1=b1 at *
 generalize D.QR what 2=b2 at *
 generalize D.QR what 3=b3 at *
 generalize D.QR what 4=b4 at *
 generalize D.SA what=ka2 at *
 generalize D.SN what=kn2 at *
 generalize D.SC what=kc2 at *
 have i1:(who:Int)<(S.zn:Int):=om
 have i2:(what:Int)<(D.qn:Int):=om
 have hpn:((-1:Int) != D.panel)=true:=by simp<;>omega
 go_upto_region 2 with fail
 have hb:=aP (au W0.heap.size W0) (.cells #[ay b0,M U b1,M U b2,M U b3,M U b4,T ka2 kn2 kc2] 246)
 have e9:=(hb.cell (p:=⟨bb,bo+who,ag⟩) bl).trans e0
 obtain⟨hC,hC2,hC3,hL,hB⟩:=jO hC hC2 hC3 hL hB hb
 generalize W0.alloc (.cells #[ay b0,M U b1,M U b2,M U b3,M U b4,T ka2 kn2 kc2] 246)=w1 at *
 clear e0 f0 f1 f2 f3 f4 f5
 clear xx
 clear yy
 clear vv
 have xx:=aJ hC
 have yy:=aH hC2
 have vv:=aL hC3
 go_quiet (fail)
 have hb:=aM (au w1.heap.size w1) nq
 obtain⟨hC,hC2,hC3,hL,hB⟩:=jO hC hC2 hC3 hL hB hb
 generalize w1.drewN nq=w2 at *
 clear e9
 clear xx
 clear yy
 clear vv
 have xx:=aJ hC
 have yy:=aH hC2
 have vv:=aL hC3
 have tt:=aH hL
 have m0:=hL.frozen 0
 have m1:=hL.frozen 1
 have m2:=hL.frozen 2
 have m3:=hL.frozen 3
 have m4:=hL.frozen 4
 have m5:=hL.frozen 5
 go_wp2_with fail
 have hL9:=dQ hL (M U S.now) (T (ai ⟨bb,bo,ag⟩) S.zn c1) (T a2 S.hn c2) (T a3 S.sn c3) (M U S.siren) (aA false)
 have hB9:=dO hB (show w.heap.size<=tb by omega) (M U S.now) (T (ai ⟨bb,bo,ag⟩) S.zn c1) (T a2 S.hn c2) (T a3 S.sn c3) (M U S.siren) (aA false)
 generalize((((((w2.setCell ⟨tb,0,ag⟩ (M U S.now)).setCell ⟨tb,1,ag⟩ (T (ai ⟨bb,bo,ag⟩) S.zn c1)).setCell ⟨tb,2,ag⟩ (T a2 S.hn c2)).setCell ⟨tb,3,ag⟩ (T a3 S.sn c3)).setCell ⟨tb,4,ag⟩ (M U S.siren)).setCell ⟨tb,5,ag⟩ (aA false))=w9 at *
 clear tt m0 m1 m2 m3 m4 m5
 have tt:=aH hL9
 refine bG (P:=prog) (fn:=f444) (v:= .tuple #[aN #[M U S.now,T (ai ⟨bb,bo,ag⟩) S.zn c1,T a2 S.hn c2,T a3 S.sn c3,M U S.siren,aA false],M U 171]) ?_ rfl ?_
 ·simp[results,results444,go_sem, *]
 exact⟨_,_,_,_,_,_,_,_,_,_,_,_,171,rfl,Or.inr om,hB9⟩
theorem j6 (D:bE) (S:bL) (who what:Nat) (at_ kind wto:Int) (w:aj) (hV:eP w D) (hS:gC w S) (hst:S.storm=false) (hp:(0:Int)<=D.panel) (hfr:S.Z who=-1) (hwho:who<S.zn) (hk:kind=8\/kind=9) (hwh:what<=1) (hQ:∀i,i<S.sn->S.Q i=0) (hsn:S.sn<=8):
  aC prog 445 #[aN D.cells,aN S.cells,aN #[M U at_,M U kind,M U (who:Int),M U (what:Int),M U wto]] w (uq w):=by
 have HQ0:=af hQ
 clear hQ
 obtain⟨za,zc,da,dc,pa,pc,ka,kc,qa,qc,HDC,HRz,HRd,HRp,HRk,HRq⟩:=hV.lit
 obtain⟨a1,c1,a2,c2,a3,c3,hw1,hw2,hw3⟩:=hS.forms
 have HSC:bj (S.cells=#[M U S.now,T a1 S.zn c1,T a2 S.hn c2,T a3 S.sn c3,M U S.siren,aA false]):=show _=_ by unfold bL.cells;rw[hw1,hw2,hw3,hst]
 have HRZ:=af (show _ from(by have h:=hS.z;rw[hw1]at h;exact h))
 have HRQ:=af (show _ from(by have h:=hS.q;rw[hw3]at h;exact h))
 rw[HDC.out,HSC.out]
 clear hw1 hw2 hw3 hst
 obtain⟨W0,HW0,hC,hC2,hC3,hL,hB⟩:=oZ w 55 #[T za D.zn zc,T da D.dn dc,T pa D.pn pc,T ka D.kn kc,T qa D.qn qc,M U D.panel,M U D.wait] 75 #[M U S.now,T a1 S.zn c1,T a2 S.hn c2,T a3 S.sn c3,M U S.siren,aA false] 294 #[M U at_,M U kind,M U (who:Int),M U (what:Int),M U wto] 75 #[M U 0,T ag 0 0,T ag 0 0,T ag 0 0,M U 0,aA false]
 go_enter func445,ntmps445
 go_upto_region 1 with fail
 rw[HW0.out]
 obtain⟨xb,hxe⟩:=bY w.heap.size
 rw[<-hxe]at hC hC2 hC3 hL⊢
 obtain⟨yb,hyb⟩:=bY (xb+1)
 rw[<-hyb]
 rw[show xb+1=yb by omega]at hC2
 obtain⟨zb,hzb⟩:=bY (yb+1)
 rw[<-hzb]
 rw[show xb+2=zb by omega]at hC3
 obtain⟨tb,htb⟩:=bY (zb+1)
 rw[<-htb]
 rw[show xb+3=tb by omega]at hL
 have l1:w.heap.size<=xb:=om
 have l3:xb<yb:=om
 have l4:yb<zb:=om
 have l5:zb<tb:=om
 clear hxe HW0 hyb hzb htb
 have xx:=aJ hC
 have yy:=aH hC2
 have vv:=aL hC3
 obtain⟨bb,bo,rfl,bl,hc⟩:=(HRZ.out.below hB).elem hwho
 have e0:W0.cell? ⟨bb,bo+who,ag⟩=ai (M U (S.Z who)):=eI hc
 rw[hfr]at e0
 clear hfr
 have i1:(who:Int)<(S.zn:Int):=om
 have hpn:((-1:Int) != D.panel)=true:=by simp<;>omega
 rcases hk with rfl|rfl
 ·go_upto_region 11 with fail
  go_quiet (fail)
  have hb:=aM (au W0.heap.size W0) nq
  obtain⟨hC,hC2,hC3,hL,hB⟩:=jO hC hC2 hC3 hL hB hb
  generalize W0.drewN nq=w1 at *
  have xx:=aJ hC
  have yy:=aH hC2
  have vv:=aL hC3
  have tt:=aH hL
  have m0:=hL.frozen 0
  have m1:=hL.frozen 1
  have m2:=hL.frozen 2
  have m3:=hL.frozen 3
  have m4:=hL.frozen 4
  have m5:=hL.frozen 5
  go_wp2_with fail
  have hL9:=dQ hL (M U S.now) (T (ai ⟨bb,bo,ag⟩) S.zn c1) (T a2 S.hn c2) (T a3 S.sn c3) (M U S.siren) (aA false)
  have hB9:=dO hB (show w.heap.size<=tb by omega) (M U S.now) (T (ai ⟨bb,bo,ag⟩) S.zn c1) (T a2 S.hn c2) (T a3 S.sn c3) (M U S.siren) (aA false)
  generalize((((((w1.setCell ⟨tb,0,ag⟩ (M U S.now)).setCell ⟨tb,1,ag⟩ (T (ai ⟨bb,bo,ag⟩) S.zn c1)).setCell ⟨tb,2,ag⟩ (T a2 S.hn c2)).setCell ⟨tb,3,ag⟩ (T a3 S.sn c3)).setCell ⟨tb,4,ag⟩ (M U S.siren)).setCell ⟨tb,5,ag⟩ (aA false))=w9 at *
  have tt:=aH hL9
  refine bG (P:=prog) (fn:=f445) (v:= .tuple #[aN #[M U S.now,T (ai ⟨bb,bo,ag⟩) S.zn c1,T a2 S.hn c2,T a3 S.sn c3,M U S.siren,aA false],M U 171]) ?_ rfl ?_
  ·simp[results,results445,go_sem, *]
  exact⟨_,_,_,_,_,_,_,_,_,_,_,_,171,rfl,Or.inr om,hB9⟩
 by_cases hw:what=0
 ·subst hw
  have tt:=aH hL
  have m0:=hL.frozen 0
  have m1:=hL.frozen 1
  have m2:=hL.frozen 2
  have m3:=hL.frozen 3
  have m4:=hL.frozen 4
  have m5:=hL.frozen 5
  go_wp2_with fail
  have hL9:=dQ hL (M U S.now) (T (ai ⟨bb,bo,ag⟩) S.zn c1) (T a2 S.hn c2) (T a3 S.sn c3) (M U S.siren) (aA false)
  have hB9:=dO hB (show w.heap.size<=tb by omega) (M U S.now) (T (ai ⟨bb,bo,ag⟩) S.zn c1) (T a2 S.hn c2) (T a3 S.sn c3) (M U S.siren) (aA false)
  generalize((((((W0.setCell ⟨tb,0,ag⟩ (M U S.now)).setCell ⟨tb,1,ag⟩ (T (ai ⟨bb,bo,ag⟩) S.zn c1)).setCell ⟨tb,2,ag⟩ (T a2 S.hn c2)).setCell ⟨tb,3,ag⟩ (T a3 S.sn c3)).setCell ⟨tb,4,ag⟩ (M U S.siren)).setCell ⟨tb,5,ag⟩ (aA false))=w9 at *
  have tt:=aH hL9
  refine bG (P:=prog) (fn:=f445) (v:= .tuple #[aN #[M U S.now,T (ai ⟨bb,bo,ag⟩) S.zn c1,T a2 S.hn c2,T a3 S.sn c3,M U S.siren,aA false],M U 177]) ?_ rfl ?_
  ·simp[results,results445,go_sem, *]
  exact⟨_,_,_,_,_,_,_,_,_,_,_,_,177,rfl,Or.inr om,hB9⟩
 obtain rfl:what=1:=om
 have m5:=hC2.frozen 5
 go_upto_region 5 with fail
 have hC9:=hC2.set 5 (aA true)
 simp only[List.setIfInBounds_toArray,List.set_cons_zero,List.set_cons_succ]at hC9
 have hL9:=hL.set_other (p:=⟨yb,5,ag⟩) (show yb≠tb by omega) (aA true)
 have hB9:=aS (p:=⟨yb,5,ag⟩) hB (show w.heap.size<=yb by omega) (aA true)
 generalize W0.setCell ⟨yb,5,ag⟩ (aA true)=w1 at *
 clear e0 m5 hC hC2 hC3 hL hB xx yy vv
 have hC2:=hC9
 have hL:=hL9
 have hB:=hB9
 clear hC9 hL9 hB9
 have yy:=aH hC2
 go_wp2_with fail
 go_loopw [8] (λt wr=>∃j:Nat,j<=S.sn/\t=M U (j:Int)/\am wr yb 75 #[M U S.now,T (ai ⟨bb,bo,ag⟩) S.zn c1,T a2 S.hn c2,T a3 S.sn c3,M U S.siren,aA true]/\am wr tb 75 #[M U 0,T ag 0 0,T ag 0 0,T ag 0 0,M U 0,aA false]/\ap w.heap.size w wr) (λt _=>S.sn - (aV t).toNat)
 case atStart=>exact⟨0,aF _,rfl,hC2,hL,hB⟩
 case round=>
  clear hC2 hL hB
  obtain⟨j,hj,rfl,hC2,hL,hB⟩:=hrel
  have yy:=aH hC2
  by_cases hlt:j<S.sn
  ·obtain⟨qb,qo,rfl,ql,hc⟩:=(HRQ.out.below hB).elem hlt
   have f0:wr.cell? ⟨qb,qo+j,ag⟩=ai (M U (S.Q j)):=eI hc
   rw[HQ0.out j hlt]at f0
   have i2:(j:Int)<(S.sn:Int):=om
   go_wp2_with fail
   go_roundw
   case rel=>exact⟨j+1,by omega,by go_num,hC2,hL,hB⟩
   case measure=>simp[aV];omega
  have hnj:¬(j:Int)<(S.sn:Int):=om
  have tt:=aH hL
  have m0:=hL.frozen 0
  have m1:=hL.frozen 1
  have m2:=hL.frozen 2
  have m3:=hL.frozen 3
  have m4:=hL.frozen 4
  have m5:=hL.frozen 5
  go_wp2_with fail
  have hL9:=dQ hL (M U S.now) (T (ai ⟨bb,bo,ag⟩) S.zn c1) (T a2 S.hn c2) (T a3 S.sn c3) (M U S.siren) (aA true)
  have hB9:=dO hB (show w.heap.size<=tb by omega) (M U S.now) (T (ai ⟨bb,bo,ag⟩) S.zn c1) (T a2 S.hn c2) (T a3 S.sn c3) (M U S.siren) (aA true)
  generalize((((((wr.setCell ⟨tb,0,ag⟩ (M U S.now)).setCell ⟨tb,1,ag⟩ (T (ai ⟨bb,bo,ag⟩) S.zn c1)).setCell ⟨tb,2,ag⟩ (T a2 S.hn c2)).setCell ⟨tb,3,ag⟩ (T a3 S.sn c3)).setCell ⟨tb,4,ag⟩ (M U S.siren)).setCell ⟨tb,5,ag⟩ (aA true))=w9 at *
  have tt:=aH hL9
  refine bG (P:=prog) (fn:=f445) (v:= .tuple #[aN #[M U S.now,T (ai ⟨bb,bo,ag⟩) S.zn c1,T a2 S.hn c2,T a3 S.sn c3,M U S.siren,aA true],M U 0]) ?_ rfl ?_
  ·simp[results,results445,go_sem, *]
  exact⟨_,_,_,_,_,_,_,_,_,_,_,_,0,rfl,Or.inl rfl,hB9⟩
end
end Go.Proofs.YtbpnallaifdcpaaGreatDoor
