/- Parts of the proof. -/
import Derived.Test.YtbpnallaifdcpaaGreatDoorZh
import Derived.Test.YtbpnallaifdcpaaGreatDoorZi
set_option linter.unusedVariables false
set_option linter.unusedSimpArgs false
set_option maxRecDepth 100000
set_option maxHeartbeats 4000000
namespace Go.Proofs.YtbpnallaifdcpaaGreatDoor
open Go.Value renaming int→M
open Go.IntKind renaming i64→U
open Go.Value renaming slice→T,pointer→ax,bool→aA,agg→aN
open Go.Lib renaming hid→af
open Option renaming none→ag,some→ai
open Go renaming World→aj,Value→aw,Calls→aC,bodyPost_ret→bG
open Go.RowKit renaming Below→ap,Hid→bj
open Go.Ending renaming returned→ar
open Go.RowKit.Below renaming refl→au,setCell→aS
open Nat renaming le_trans→aO,le_of_eq→bs
open Go.World renaming size_alloc→bg
open Go.Code renaming wp→bi
open Go.Exit renaming normal→bk
section
open Tryz
open Go.RowKit Go.Shelf
attribute [local go_sem] Oper.semAt_some
def lZ:Array aw:=#[M U 0,T ag 0 0,T ag 0 0,T ag 0 0,M U 0,aA false]
theorem gH (B bx be:Nat) (hBx:B<=bx) (hBe:B<=be) (k k0:Int) (older:List PanicEntry) (W:aj) (hne:bx≠be) (hx:am W bx 75 lZ) (he:am W be 69 #[M U k0]):
  CallsD prog 436 #[ax (ai ⟨bx,0,ag⟩),ax (ai ⟨be,0,ag⟩)] (.panicking ({v:= .iface 69 (M U k),recovered:=false} :: older)) W λe u' w'=>
   e=ar (.tuple #[])/\u'= .panicking ({v:= .iface 69 (M U k),recovered:=true} :: older)/\am w' bx 75 lZ/\am w' be 69 #[M U k]/\ap B W w':=by
 unfold lZ at *
 have c0:W.cell? ⟨bx,0,ag⟩=ai (M U 0):=hx.cell 0
 have c1:W.cell? ⟨bx,1,ag⟩=ai (T ag 0 0):=hx.cell 1
 have c2:W.cell? ⟨bx,2,ag⟩=ai (T ag 0 0):=hx.cell 2
 have c3:W.cell? ⟨bx,3,ag⟩=ai (T ag 0 0):=hx.cell 3
 have c4:W.cell? ⟨bx,4,ag⟩=ai (M U 0):=hx.cell 4
 have c5:W.cell? ⟨bx,5,ag⟩=ai (aA false):=hx.cell 5
 have ce:W.cell? ⟨be,0,ag⟩=ai (M U k0):=he.cell 0
 have fz:=hx.frozen
 have fe:=he.frozen 0
 have hta:∀w:aj,(Instr.typeAssert (.iface 69 (M U k)) 20 69 false).run prog w= .ok (M U k) w:=λ_=>by kernel_rfl
 refine callsD_of_wpS func436 rfl λc₀ cs hu=>?_
 apply wpS_seq
 apply wpS_region
 simp[wpOpsS,go_sem,recoverD,hu,ntmps436,Exit.thenS]
 refine wpS_of_wp ?_
 simp only[Array.replicate_succ,Array.replicate_zero,List.push_toArray,List.append_toArray,List.nil_append,List.cons_append,List.setIfInBounds_toArray,List.set_cons_zero,List.set_cons_succ]
 go_wp2_with fail
 go_region
 have y1:=((((((hx.set 0 (M U 0)).set 1 (T ag 0 0)).set 2 (T ag 0 0)).set 3 (T ag 0 0)).set 4 (M U 0)).set 5 (aA false)).set_other (p:=⟨be,0,ag⟩) (λe=>hne e.symm) (M U k)
 have y2:=((((((he.set_other (p:=⟨bx,0,ag⟩) hne (M U 0)).set_other (p:=⟨bx,1,ag⟩) hne (T ag 0 0)).set_other (p:=⟨bx,2,ag⟩) hne (T ag 0 0)).set_other (p:=⟨bx,3,ag⟩) hne (T ag 0 0)).set_other (p:=⟨bx,4,ag⟩) hne (M U 0)).set_other (p:=⟨bx,5,ag⟩) hne (aA false)).set 0 (M U k)
 simp only[List.setIfInBounds_toArray,List.set_cons_zero,List.set_cons_succ]at y1 y2
 have hY1:=af y1
 have hY2:=af y2
 clear y1 y2 c0 c1 c2 c3 c4 c5 ce fz fe hx he
 change bodyPostS prog f436 c₀ cs _ bk _ _ _
 refine⟨rfl,_,rfl, .tuple #[],results_none rfl _ _ _,rfl,rfl,?_,?_,?_⟩
 ·exact hY1.out.drew
 ·exact hY2.out.drew
 repeat(first|with_reducible exact au _ _|with_reducible refine ap.drew ?_|(with_reducible refine aS ?_ ?_ _;rotate_left;first|exact hBx|exact hBe))
theorem kR (bx be:Nat) (W:aj):
  CallsD prog 436 #[ax (ai ⟨bx,0,ag⟩),ax (ai ⟨be,0,ag⟩)] .returning W λe u' w'=>
   e=ar (.tuple #[])/\u'= .returning/\w'=W:=by
 refine callsD_of_wpS func436 rfl λc₀ cs hu=>?_
 apply wpS_seq
 apply wpS_region
 simp[wpOpsS,go_sem,recoverD,hu,ntmps436,Exit.thenS]
 refine wpS_of_wp ?_
 simp only[Array.replicate_succ,Array.replicate_zero,List.push_toArray,List.append_toArray,List.nil_append,List.cons_append,List.setIfInBounds_toArray,List.set_cons_zero,List.set_cons_succ]
 go_wp2_with fail
 cases c₀
 simp_all[bodyPostS,results,results436]
end
section
open Tryz
open Go.RowKit Go.Shelf
attribute [local go_sem] Oper.semAt_some
theorem oJ {P:Program} {w:aj} {a:Addr} {m:Mode}:(store a .nilFunc m).run P w=stored P w a .nilFunc m:=run_store P w a _ m rfl
theorem sI {P:Program} {w:aj} {a:Addr} {m:Mode} (f:Fn) (x y:Array aw):(store a (.func f x y) m).run P w=stored P w a (.func f x y) m:=run_store P w a _ m rfl
attribute [local go_sem] oJ sI
theorem ri (w:aj):
  aC prog 438 #[] w λe w'=>e=ar (aN #[.nilFunc, .func (.func 504) #[] #[], .func (.func 505) #[] #[], .func (.func 506) #[] #[], .func (.func 507) #[] #[], .func (.func 508) #[] #[], .func (.func 509) #[] #[], .func (.func 510) #[] #[], .func (.func 511) #[] #[], .func (.func 512) #[] #[]])/\ap w.heap.size w w':=by
 obtain⟨W0,HW0,hC,hB⟩:=bW w 559 #[.nilFunc, .nilFunc, .nilFunc, .nilFunc, .nilFunc, .nilFunc, .nilFunc, .nilFunc, .nilFunc, .nilFunc]
 go_enter func438,ntmps438
 go_upto_region 1 with fail
 rw[HW0.out]
 obtain⟨xb,hxe⟩:=bY w.heap.size
 have hxb:w.heap.size<=xb:=bs hxe.symm
 rw[<-hxe]at hC⊢
 clear hxe HW0
 have y0:W0.cell? ⟨xb,0,ag⟩=ai .nilFunc:=hC.cell 0
 have f0:W0.frozen? ⟨xb,0,ag⟩=false:=hC.frozen 0
 have y1:W0.cell? ⟨xb,1,ag⟩=ai .nilFunc:=hC.cell 1
 have f1:W0.frozen? ⟨xb,1,ag⟩=false:=hC.frozen 1
 have y2:W0.cell? ⟨xb,2,ag⟩=ai .nilFunc:=hC.cell 2
 have f2:W0.frozen? ⟨xb,2,ag⟩=false:=hC.frozen 2
 have y3:W0.cell? ⟨xb,3,ag⟩=ai .nilFunc:=hC.cell 3
 have f3:W0.frozen? ⟨xb,3,ag⟩=false:=hC.frozen 3
 have y4:W0.cell? ⟨xb,4,ag⟩=ai .nilFunc:=hC.cell 4
 have f4:W0.frozen? ⟨xb,4,ag⟩=false:=hC.frozen 4
 have y5:W0.cell? ⟨xb,5,ag⟩=ai .nilFunc:=hC.cell 5
 have f5:W0.frozen? ⟨xb,5,ag⟩=false:=hC.frozen 5
 have y6:W0.cell? ⟨xb,6,ag⟩=ai .nilFunc:=hC.cell 6
 have f6:W0.frozen? ⟨xb,6,ag⟩=false:=hC.frozen 6
 have y7:W0.cell? ⟨xb,7,ag⟩=ai .nilFunc:=hC.cell 7
 have f7:W0.frozen? ⟨xb,7,ag⟩=false:=hC.frozen 7
 have y8:W0.cell? ⟨xb,8,ag⟩=ai .nilFunc:=hC.cell 8
 have f8:W0.frozen? ⟨xb,8,ag⟩=false:=hC.frozen 8
 have y9:W0.cell? ⟨xb,9,ag⟩=ai .nilFunc:=hC.cell 9
 have f9:W0.frozen? ⟨xb,9,ag⟩=false:=hC.frozen 9
 go_wp2_with fail
 refine(show∀W2,am W2 xb 559 #[.nilFunc, .func (.func 504) #[] #[], .func (.func 505) #[] #[], .func (.func 506) #[] #[], .func (.func 507) #[] #[], .func (.func 508) #[] #[], .func (.func 509) #[] #[], .func (.func 510) #[] #[], .func (.func 511) #[] #[], .func (.func 512) #[] #[]]->ap w.heap.size w W2->bodyPost prog f438 _ Exit.ret _ W2 from λW2 h2 hB2=>?_) _ (by have h:=((((((((((hC.set 0 .nilFunc).set 1 (.func (.func 504) #[] #[])).set 2 (.func (.func 505) #[] #[])).set 3 (.func (.func 506) #[] #[])).set 4 (.func (.func 507) #[] #[])).set 5 (.func (.func 508) #[] #[])).set 6 (.func (.func 509) #[] #[])).set 7 (.func (.func 510) #[] #[])).set 8 (.func (.func 511) #[] #[])).set 9 (.func (.func 512) #[] #[]));simp only[List.setIfInBounds_toArray,List.set_cons_zero,List.set_cons_succ]at h;exact h) eo
 have c0:W2.cell? ⟨xb,0,ag⟩=ai (.nilFunc):=h2.cell 0
 have c1:W2.cell? ⟨xb,1,ag⟩=ai (.func (.func 504) #[] #[]):=h2.cell 1
 have c2:W2.cell? ⟨xb,2,ag⟩=ai (.func (.func 505) #[] #[]):=h2.cell 2
 have c3:W2.cell? ⟨xb,3,ag⟩=ai (.func (.func 506) #[] #[]):=h2.cell 3
 have c4:W2.cell? ⟨xb,4,ag⟩=ai (.func (.func 507) #[] #[]):=h2.cell 4
 have c5:W2.cell? ⟨xb,5,ag⟩=ai (.func (.func 508) #[] #[]):=h2.cell 5
 have c6:W2.cell? ⟨xb,6,ag⟩=ai (.func (.func 509) #[] #[]):=h2.cell 6
 have c7:W2.cell? ⟨xb,7,ag⟩=ai (.func (.func 510) #[] #[]):=h2.cell 7
 have c8:W2.cell? ⟨xb,8,ag⟩=ai (.func (.func 511) #[] #[]):=h2.cell 8
 have c9:W2.cell? ⟨xb,9,ag⟩=ai (.func (.func 512) #[] #[]):=h2.cell 9
 refine bG (P:=prog) (fn:=f438) (v:=aN #[.nilFunc, .func (.func 504) #[] #[], .func (.func 505) #[] #[], .func (.func 506) #[] #[], .func (.func 507) #[] #[], .func (.func 508) #[] #[], .func (.func 509) #[] #[], .func (.func 510) #[] #[], .func (.func 511) #[] #[], .func (.func 512) #[] #[]]) ?_ rfl ⟨rfl,hB2⟩
 simp[results,results438,go_sem,c0,c1,c2,c3,c4,c5,c6,c7,c8,c9]
end
section
open Tryz
open Go.RowKit Go.Shelf
theorem ij {w w':aj} {a:Addr} (h:w'.heap[a.block]?=w.heap[a.block]?):w'.frozen? a=w.frozen? a:=by simp[aj.frozen?,h]
theorem bP.same {W W':aj} {v:aw} {n g:Nat} {R:Nat->Int} (h:bP W v n g R) (hg:0<n->W'.heap[g]?=W.heap[g]?):bP W' v n g R:=by
 obtain⟨a,c,rfl,hc,h⟩:=h
 refine⟨a,c,rfl,hc,?_⟩
 rcases h with h|⟨rfl,h1,h2⟩
 ·exact .inl h
 rcases Nat.eq_zero_or_pos n with hn|hn
 ·exact .inl hn
 have hk:=hg hn
 refine .inr ⟨rfl,?_,λi hi=>⟨(aj.cell?_of_block (a:=⟨g,i,ag⟩) hk).trans (h2 i hi).1,(ij (a:=⟨g,i,ag⟩) hk).trans (h2 i hi).2⟩⟩
 have h3:W.heap[g]?=ai W.heap[g]:=Array.getElem?_eq_getElem h1
 rw[<-hk]at h3
 exact(Array.getElem?_eq_some_iff.1 h3).1
theorem bR.outer {w W0 W W':aj} {cb:Nat} {D:bE} {S:bL} (h:bR W0 W cb D S) (hV:eP w D) (hs:w.heap.size<=W0.heap.size) (hk:∀k,W0.heap.size<=k->W'.heap[k]?=W.heap[k]?) (hB:ap w.heap.size w W'):bR w W' cb D S:=by
 obtain⟨gz,gh,gq,h1,h2,h3,d1,d2,d3,d4⟩:=h.r.ex
 refine⟨hB,hV,aO hs h.cbB,(hk cb h.cbB).trans h.c,⟨gz,gh,gq,h1.same (λhn=>hk _ (d1 hn).1),h2.same (λhn=>hk _ (d2 hn).1),h3.same (λhn=>hk _ (d3 hn).1),λhn=>⟨aO hs (d1 hn).1,(d1 hn).2⟩,λhn=>⟨aO hs (d2 hn).1,(d2 hn).2⟩,λhn=>⟨aO hs (d3 hn).1,(d3 hn).2⟩,d4⟩⟩
end
section
open Tryz
open Go.RowKit Go.Shelf
attribute [local go_sem] Oper.semAt_some
variable {v0 v1 v2 v3 v4 v6 v7 v9 v10 v11 v12 v13 v14 v15 v16 v17 v18 v19 v20 v21 v22 v23 v24 v25 v26 v27 v28 v29 v30 v31 v32 v33 v34 v35 v36 v37 v38:aw}
theorem ku {a:Act} {d:Option Tmp} {v v6 v7:aw} {df:List Deferred} (hd:(d==ai 6||d==ai 7)=false) (h:(a.put d v).defers=df/\(a.put d v).tmps[6]?=ai v6/\(a.put d v).tmps[7]?=ai v7):a.defers=df/\a.tmps[6]?=ai v6/\a.tmps[7]?=ai v7:=by
 cases d with
 |none=>exact h
 |some d=>
  simp at hd
  obtain⟨h1,h2,h3⟩:=h
  refine⟨h1,?_,?_⟩
  ·rw[<-h2];simp[Act.put,Array.getElem?_setIfInBounds,hd.1]
  rw[<-h3];simp[Act.put,Array.getElem?_setIfInBounds,hd.2]
theorem do4 {c:Code} (hc:c=et f359 4) {D:bE} {S:bL} {cb b5:Nat} {at_ kind who what wto:Int} {w0 wc:aj} {Q:Exit->Act->aj->Prop} {df:List Deferred} {F:FuncId} {r:Except Int bL}
 (hO:bR w0 wc cb D S) (hX:am w0 b5 294 #[M U at_,M U kind,M U who,M U what,M U wto]) (hI:∀W:aj,(Instr.index 559 (aN #[.nilFunc, .func (.func 504) #[] #[], .func (.func 505) #[] #[], .func (.func 506) #[] #[], .func (.func 507) #[] #[], .func (.func 508) #[] #[], .func (.func 509) #[] #[], .func (.func 510) #[] #[], .func (.func 511) #[] #[], .func (.func 512) #[] #[]]) (M U kind)).run prog W= .ok (.func (.func F) #[] #[]) W)
 (hA:∀W:aj,bR w0 W cb D S->aC prog F #[ax (ai ⟨cb,0,ag⟩),aN #[M U at_,M U kind,M U who,M U what,M U wto]] W (cu w0 cb D r))
 (eg:∀(args:Array aw) (w:aj),(callFunc F args).run prog w= .ok (.enter F args) w)
 (hK:∀S',r= .ok S'->∀(u22 u23 u24 u25 u26 u27 u28:aw) (w':aj),bR w0 w' cb D S'->Q bk {tmps:=#[v0,v1,v2,v3,v4,ax (ai ⟨b5,0,ag⟩),v6,v7,ax (ai ⟨cb,0,ag⟩),v9,v10,v11,v12,v13,v14,v15,v16,v17,v18,v19,v20,v21,u22,u23,u24,u25,u26,u27,u28,v29,v30,v31,v32,v33,v34,v35,v36,v37,v38],defers:=df} w')
 (hP:∀k,r= .error k->∀(a:Act) (w':aj),ap w0.heap.size w0 w'->a.defers=df->a.tmps[6]?=ai v6->a.tmps[7]?=ai v7->Q (Exit.panic (cN k)) a w'):
 bi prog c Q {tmps:=#[v0,v1,v2,v3,v4,ax (ai ⟨b5,0,ag⟩),v6,v7,ax (ai ⟨cb,0,ag⟩),v9,v10,v11,v12,v13,v14,v15,v16,v17,v18,v19,v20,v21,v22,v23,v24,v25,v26,v27,v28,v29,v30,v31,v32,v33,v34,v35,v36,v37,v38],defers:=df} wc:=by
 subst hc
 conv=>arg 2;whnf
 have HKK:=af hK
 have HPP:=af hP
 clear hK hP
 obtain⟨Qx,hQx⟩:∃Qx:Exit->Act->aj->Prop,Qx=λe a w=>match e with| .panic ch=>(a.defers=df/\a.tmps[6]?=ai v6/\a.tmps[7]?=ai v7)/\∃k,ch=cN k/\r= .error k/\ap w0.heap.size w0 w|e=>Q e a w:=⟨_,rfl⟩
 refine Code.wp_mono (Q:=Qx) (λe a w h=>by subst hQx;cases e<;>first|exact h|exact(by obtain⟨h1,k,rfl,h3,h4⟩:=h;exact HPP.out k h3 a w h4 h1.1 h1.2.1 h1.2.2)) ?_
 have HQQ:bj (∀(ch:List PanicEntry) (a:Act) (d:Option Tmp) (v:aw) (w:aj),(d==ai 6||d==ai 7)=false->Qx (Exit.panic ch) (a.put d v) w->Qx (Exit.panic ch) a w):=by subst hQx;exact λch a d v w hd ⟨h1,h2⟩=>⟨ku hd h1,h2⟩
 have HQN:bj (∀a w,Q bk a w->Qx bk a w):=by subst hQx;exact λa w h=>h
 have HQP:bj (∀k a w,(a.defers=df/\a.tmps[6]?=ai v6/\a.tmps[7]?=ai v7)->r= .error k->ap w0.heap.size w0 w->Qx (Exit.panic (cN k)) a w):=by subst hQx;exact λk a w h1 h2 h3=>⟨h1,k,rfl,h2,h3⟩
 clear HPP hQx
 have hB:ap w0.heap.size w0 wc.drew:=hO.base.drew
 have lx:=hX.lt
 have HDO:=af (λW=>ri W)
 have HO:=af (hO.below (au wc.heap.size wc).drew)
 have HAC:=af hA
 have lc:=hO.c.lt
 have HR:=af λw' (hb:ap w0.heap.size w0 w')=>an5 (kp (hX.cell 0) hb) (kp (hX.cell 1) hb) (kp (hX.cell 2) hb) (kp (hX.cell 3) hb) (kp (hX.cell 4) hb)
 clear hO hX hA
 refine bV hB ?_
 refine br 1 hB ?_
 refine br 2 hB ?_
 refine br 4 hB ?_
 refine br 5 hB ?_
 refine cL 0 (λK' hK'=>?_)
 refine aZ (HDO.out _) ?_
 intro w1 hb
 have hO1:=HO.out.below hb
 have HO1:=af hO1
 have hB1:ap w0.heap.size w0 w1:=hO1.base
 clear hb hO1
 refine bO hK' hB1 ?_
 clear hK' K'
 refine br 3 hB1 ?_
 refine cL 6 (λK' hK'=>?_)
 refine(HAC.out w1 HO1.out).mono ?_
 rintro e w2 he
 cases hr:r with
 |error k=>
  rw[hr]at he
  obtain⟨rfl,hb⟩:=he
  exact HQP.out k _ _ ⟨rfl,rfl,rfl⟩ hr hb
 |ok S'=>
  rw[hr]at he
  obtain⟨rfl,hO2⟩:=he
  (try dsimp only)
  refine bO hK' hO2.base ?_
  clear hK' K'
  refine nI ?_
  exact HQN.out _ _ (HKK.out _ hr _ _ _ _ _ _ _ _ hO2)
end
section
open Tryz
open Go.RowKit Go.Shelf
attribute [local go_sem] Oper.semAt_some
variable {v0 v1 v2 v3 v4 v6 v7 v9 v10 v11 v12 v13 v14 v15 v16 v17 v18 v19 v20 v21 v22 v23 v24 v25 v26 v27 v28 v29 v30 v31 v32 v33 v34 v35 v36 v37 v38:aw}
theorem do3 {c:Code} (hc:c=et f359 3) {D:bE} {S:bL} {cb b5:Nat} {at_ kind who what wto:Int} {wc:aj} {Q:Exit->Act->aj->Prop} {df:List Deferred}
 (hA:dG wc cb D S) (hX:am wc b5 294 #[M U at_,M U kind,M U who,M U what,M U wto])
 (hK:(decide (S.now<=at_))=true->∀(u13 u14 u15 u16 u17 u18 u19 u20 u21:aw) (w':aj),ap wc.heap.size wc w'->Q bk {tmps:=#[v0,v1,v2,v3,v4,ax (ai ⟨b5,0,ag⟩),v6,v7,ax (ai ⟨cb,0,ag⟩),v9,v10,v11,v12,u13,u14,u15,u16,u17,u18,u19,u20,u21,v22,v23,v24,v25,v26,v27,v28,v29,v30,v31,v32,v33,v34,v35,v36,v37,v38],defers:=df} w')
 (hP:(decide (S.now<=at_))=false->∀(a:Act) (w':aj),ap wc.heap.size wc w'->a.defers=df->a.tmps[6]?=ai v6->a.tmps[7]?=ai v7->Q (Exit.panic (cN 170)) a w'):
 bi prog c Q {tmps:=#[v0,v1,v2,v3,v4,ax (ai ⟨b5,0,ag⟩),v6,v7,ax (ai ⟨cb,0,ag⟩),v9,v10,v11,v12,v13,v14,v15,v16,v17,v18,v19,v20,v21,v22,v23,v24,v25,v26,v27,v28,v29,v30,v31,v32,v33,v34,v35,v36,v37,v38],defers:=df} wc:=by
 subst hc
 conv=>arg 2;whnf
 have HKK:=af hK
 have HPP:=af hP
 clear hK hP
 obtain⟨Qx,hQx⟩:∃Qx:Exit->Act->aj->Prop,Qx=λe a w=>match e with| .panic ch=>(a.defers=df/\a.tmps[6]?=ai v6/\a.tmps[7]?=ai v7)/\ch=cN 170/\(decide (S.now<=at_))=false/\ap wc.heap.size wc w|e=>Q e a w:=⟨_,rfl⟩
 refine Code.wp_mono (Q:=Qx) (λe a w h=>by subst hQx;cases e<;>first|exact h|exact(by obtain⟨h1,rfl,h3,h4⟩:=h;exact HPP.out h3 a w h4 h1.1 h1.2.1 h1.2.2)) ?_
 have HQQ:bj (∀(ch:List PanicEntry) (a:Act) (d:Option Tmp) (v:aw) (w:aj),(d==ai 6||d==ai 7)=false->Qx (Exit.panic ch) (a.put d v) w->Qx (Exit.panic ch) a w):=by subst hQx;exact λch a d v w hd ⟨h1,h2⟩=>⟨ku hd h1,h2⟩
 have HQN:bj (∀a w,Q bk a w->Qx bk a w):=by subst hQx;exact λa w h=>h
 have HQP:bj (∀a w,(a.defers=df/\a.tmps[6]?=ai v6/\a.tmps[7]?=ai v7)->(decide (S.now<=at_))=false->ap wc.heap.size wc w->Qx (Exit.panic (cN 170)) a w):=by subst hQx;exact λa w h1 h2 h3=>⟨h1,rfl,h2,h3⟩
 clear HPP hQx
 have hB:ap wc.heap.size wc wc.drew:=(au _ _).drew
 have lx:=hX.lt
 have lc:=hA.c.lt
 have x7:=(bK hA).2.2.2.2.2.2.2.1
 have HR:=af λw' (hb:ap wc.heap.size wc w')=>tN (kp (hX.cell 0) hb) (kp x7 hb)
 clear hA hX x7
 generalize S.now=nw at *
 by_cases hq:nw<=at_
 ·have hq3:decide (nw<=at_)=true:=decide_eq_true hq
  refine bV hB ?_
  refine K1 ?_
  refine br 7 hB ?_
  refine cL 8 (λK' hK'=>?_)
  refine dH ?_
  (try dsimp only)
  refine bO hK' hB ?_
  clear hK' K'
  refine nI ?_
  exact HQN.out _ _ (HKK.out hq3 _ _ _ _ _ _ _ _ _ _ hB)
 ·have hq3:decide (nw<=at_)=false:=decide_eq_false hq
  refine bV hB ?_
  refine K1 ?_
  refine br 7 hB ?_
  refine cL 8 (λK' hK'=>?_)
  refine dU ?_
  exact HQP.out _ _ ⟨rfl,rfl,rfl⟩ hq3 hB
end
section
open Tryz
open Go.RowKit Go.Shelf
attribute [local go_sem] Oper.semAt_some
def lR (w:aj) (D:bE) (at_:Int):Except Int bL->Ending->aj->Prop
 | .error k,e,w'=>e=ar (.tuple #[aN lZ,M U k])/\ap w.heap.size w w'
 | .ok S2,e,w'=>∃cb,e=ar (.tuple #[aN (S2.setN at_).cells,M U 0])/\bR w w' cb D (S2.setN at_)
theorem rF (D:bE) (S:bL) (at_ kind who what wto:Int) (w:aj) (hV:eP w D) (hS:gC w S) (n1:S.zn<=1000000) (n2:S.hn<=1000000) (n3:S.sn<=1000000) (F:FuncId) (R:bL->Except Int bL)
 (hI:∀W:aj,(Instr.index 559 (aN #[.nilFunc, .func (.func 504) #[] #[], .func (.func 505) #[] #[], .func (.func 506) #[] #[], .func (.func 507) #[] #[], .func (.func 508) #[] #[], .func (.func 509) #[] #[], .func (.func 510) #[] #[], .func (.func 511) #[] #[], .func (.func 512) #[] #[]]) (M U kind)).run prog W= .ok (.func (.func F) #[] #[]) W) (eg:∀(args:Array aw) (w:aj),(callFunc F args).run prog w= .ok (.enter F args) w)
 (hA:∀(w0 W:aj) (cb:Nat) (zv hv qv:aw),bR w0 W cb D (S.with zv hv qv)->aC prog F #[ax (ai ⟨cb,0,ag⟩),aN #[M U at_,M U kind,M U who,M U what,M U wto]] W (cu w0 cb D (R (S.with zv hv qv)))):
  aC prog 359 #[aN D.cells,aN S.cells,aN #[M U at_,M U kind,M U who,M U what,M U wto]] w λe w'=>∃zv hv qv,lR w D at_ (pM (decide (S.now<=at_)) 170 (R (S.with zv hv qv))) e w':=by
 have HST:=af (λW (h:ap w.heap.size w W)=>kJ D S W (hV.below h) (hS.below h) n1 n2 n3)
 unfold bE.cells bL.cells at HST⊢
 obtain⟨W0,hW0⟩:∃W0,(((((w.alloc (.cells #[D.vz,D.vd,D.vp,D.vk,D.vq,M U D.panel,M U D.wait] 55)).alloc (.cells #[M U S.now,S.zv,S.hv,S.qv,M U S.siren,aA S.storm] 75)).alloc (.cells #[M U at_,M U kind,M U who,M U what,M U wto] 294)).alloc (.cells #[M U 0,T ag 0 0,T ag 0 0,T ag 0 0,M U 0,aA false] 75)).alloc (.cells #[M U 0] 69))=W0:=⟨_,rfl⟩
 have hC0:am W0 (w.heap.size) 55 #[D.vz,D.vd,D.vp,D.vk,D.vq,M U D.panel,M U D.wait]:=by
  rw[<-hW0]
  have h:=aK w (.cells #[D.vz,D.vd,D.vp,D.vk,D.vq,M U D.panel,M U D.wait] 55)
  (try simp only[bg]at h)
  refine am.below ?_ (aP (au _ _) _)
  exact T66
 have hC1:am W0 (w.heap.size+1) 75 #[M U S.now,S.zv,S.hv,S.qv,M U S.siren,aA S.storm]:=by
  rw[<-hW0]
  have h:=aK (w.alloc (.cells #[D.vz,D.vd,D.vp,D.vk,D.vq,M U D.panel,M U D.wait] 55)) (.cells #[M U S.now,S.zv,S.hv,S.qv,M U S.siren,aA S.storm] 75)
  (try simp only[bg]at h)
  exact T66
 have hC2:am W0 (w.heap.size+1+1) 294 #[M U at_,M U kind,M U who,M U what,M U wto]:=by
  rw[<-hW0]
  have h:=aK ((w.alloc (.cells #[D.vz,D.vd,D.vp,D.vk,D.vq,M U D.panel,M U D.wait] 55)).alloc (.cells #[M U S.now,S.zv,S.hv,S.qv,M U S.siren,aA S.storm] 75)) (.cells #[M U at_,M U kind,M U who,M U what,M U wto] 294)
  (try simp only[bg]at h)
  exact sQ
 have hC3:am W0 (w.heap.size+1+1+1) 75 #[M U 0,T ag 0 0,T ag 0 0,T ag 0 0,M U 0,aA false]:=by
  rw[<-hW0]
  have h:=aK (((w.alloc (.cells #[D.vz,D.vd,D.vp,D.vk,D.vq,M U D.panel,M U D.wait] 55)).alloc (.cells #[M U S.now,S.zv,S.hv,S.qv,M U S.siren,aA S.storm] 75)).alloc (.cells #[M U at_,M U kind,M U who,M U what,M U wto] 294)) (.cells #[M U 0,T ag 0 0,T ag 0 0,T ag 0 0,M U 0,aA false] 75)
  (try simp only[bg]at h)
  exact sH
 have hC4:am W0 (w.heap.size+1+1+1+1) 69 #[M U 0]:=by
  rw[<-hW0]
  have h:=aK ((((w.alloc (.cells #[D.vz,D.vd,D.vp,D.vk,D.vq,M U D.panel,M U D.wait] 55)).alloc (.cells #[M U S.now,S.zv,S.hv,S.qv,M U S.siren,aA S.storm] 75)).alloc (.cells #[M U at_,M U kind,M U who,M U what,M U wto] 294)).alloc (.cells #[M U 0,T ag 0 0,T ag 0 0,T ag 0 0,M U 0,aA false] 75)) (.cells #[M U 0] 69)
  (try simp only[bg]at h)
  exact h
 have hB:ap w.heap.size w W0:=by rw[<-hW0];exact aP (aP (aP (aP (aP (au _ _) _) _) _) _) _
 have HW0:=af hW0
 have HV0:=af hV
 clear hW0 hV hS
 have hmf:∀(fn:Fn) (first cap:Array aw) (w:aj),(Instr.makeFunc fn first cap).run prog w= .ok (.func fn first cap) w:=λ_ _ _ _=>rfl
 go_enter_defers func359,ntmps359
 go_upto_region 1 with fail
 rw[HW0.out]
 clear HW0
 obtain⟨b3,he0⟩:=bY w.heap.size
 have hb0:w.heap.size<=b3:=om
 rw[<-he0]at hC0 hC1 hC2 hC3 hC4⊢
 obtain⟨b4,he1⟩:=bY (b3+1)
 have hb1:b3<b4:=om
 rw[<-he1]at hC1 hC2 hC3 hC4⊢
 obtain⟨b5,he2⟩:=bY (b4+1)
 have hb2:b4<b5:=om
 rw[<-he2]at hC2 hC3 hC4⊢
 obtain⟨b6,he3⟩:=bY (b5+1)
 have hb3:b5<b6:=om
 rw[<-he3]at hC3 hC4⊢
 obtain⟨b7,he4⟩:=bY (b6+1)
 have hb4:b6<b7:=om
 rw[<-he4]at hC4⊢
 clear he0 he1 he2 he3 he4
 obtain⟨x0,x1,x2,x3,x4,x5,x6⟩:=aJ hC0
 have yy:=aH hC1
 go_wp2_with fail
 refine(HST.out _ hB).mono ?_
 rintro e w1 ⟨cb,zv,hv,qv,rfl,hO⟩
 go_upto_region 3 with fail
 have hB1:=hO.base
 have hO1:=af hO
 refine do3 (D:=D) (S:=S.with zv hv qv) kr hO.at (hC2.below hO.base) (λhT=>?_) (λhT=>?_)
 rotate_left
 ·intro a w9 hb hd h6 h7
  obtain⟨at1,ad1⟩:=a
  subst hd
  have hBz:ap W0.heap.size W0 w9:=ak hO.base hb
  have hz9:=hC3.below hBz
  have he9:=hC4.below hBz
  have hBw:ap w.heap.size w w9:=ak hB hBz
  have h6b:at1[6]?=ai (ax (ai ⟨b6,0,ag⟩)):=h6
  have h7b:at1[7]?=ai (ax (ai ⟨b7,0,ag⟩)):=h7
  refine leaves_cons (f:=436) (args:=#[ax (ai ⟨b6,0,ag⟩),ax (ai ⟨b7,0,ag⟩)]) (by simp) (by simp[go_sem]) ?_
  refine(gH w.heap.size b6 b7 om om 170 0 [] w9 om hz9 he9).mono ?_
  rintro e u' w10 ⟨rfl,rfl,hx4,he4,hB4⟩
  unfold lZ at hx4
  have d0:w10.cell? ⟨b6,0,ag⟩=ai (M U 0):=hx4.cell 0
  have d1:w10.cell? ⟨b6,1,ag⟩=ai (T ag 0 0):=hx4.cell 1
  have d2:w10.cell? ⟨b6,2,ag⟩=ai (T ag 0 0):=hx4.cell 2
  have d3:w10.cell? ⟨b6,3,ag⟩=ai (T ag 0 0):=hx4.cell 3
  have d4:w10.cell? ⟨b6,4,ag⟩=ai (M U 0):=hx4.cell 4
  have d5:w10.cell? ⟨b6,5,ag⟩=ai (aA false):=hx4.cell 5
  have de:w10.cell? ⟨b7,0,ag⟩=ai (M U 170):=he4.cell 0
  have g6:at1.getD 6 undef=ax (ai ⟨b6,0,ag⟩):=by rw[Array.getD_eq_getD_getElem?,h6b];rfl
  have g7:at1.getD 7 undef=ax (ai ⟨b7,0,ag⟩):=by rw[Array.getD_eq_getD_getElem?,h7b];rfl
  simp[Leaves,settle,results,results359,go_sem,h6b,h7b,g6,g7,d0,d1,d2,d3,d4,d5,de]
  exact⟨zv,hv,qv,by rw[eN (show decide (S.now<=at_)=false from hT)];exact⟨rfl,hBw.trans hB4⟩⟩
 have hT2:decide (S.now<=at_)=true:=hT
 intro u13 u14 u15 u16 u17 u18 u19 u20 u21 w2 hb
 have hO2:=hO.below hb
 (try simp only[Exit.then])
 (try refine‹∀(a:Act) (w:aj),bi prog _ _ a w->_› _ _ ?_)
 go_upto_region 4 with fail
 refine do4 (D:=D) (S:=S.with zv hv qv) (w0:=W0) (F:=F) (r:=R (S.with zv hv qv)) kr hO2 hC2 hI (λW h=>hA W0 W cb zv hv qv h) eg (λS2 hr=>?_) (λk hr=>?_)
 rotate_left
 ·intro a w9 hb hd h6 h7
  obtain⟨at1,ad1⟩:=a
  subst hd
  have hBz:ap W0.heap.size W0 w9:=hb
  have hz9:=hC3.below hBz
  have he9:=hC4.below hBz
  have hBw:ap w.heap.size w w9:=ak hB hBz
  have h6b:at1[6]?=ai (ax (ai ⟨b6,0,ag⟩)):=h6
  have h7b:at1[7]?=ai (ax (ai ⟨b7,0,ag⟩)):=h7
  refine leaves_cons (f:=436) (args:=#[ax (ai ⟨b6,0,ag⟩),ax (ai ⟨b7,0,ag⟩)]) (by simp) (by simp[go_sem]) ?_
  refine(gH w.heap.size b6 b7 om om k 0 [] w9 om hz9 he9).mono ?_
  rintro e u' w10 ⟨rfl,rfl,hx4,he4,hB4⟩
  unfold lZ at hx4
  have d0:w10.cell? ⟨b6,0,ag⟩=ai (M U 0):=hx4.cell 0
  have d1:w10.cell? ⟨b6,1,ag⟩=ai (T ag 0 0):=hx4.cell 1
  have d2:w10.cell? ⟨b6,2,ag⟩=ai (T ag 0 0):=hx4.cell 2
  have d3:w10.cell? ⟨b6,3,ag⟩=ai (T ag 0 0):=hx4.cell 3
  have d4:w10.cell? ⟨b6,4,ag⟩=ai (M U 0):=hx4.cell 4
  have d5:w10.cell? ⟨b6,5,ag⟩=ai (aA false):=hx4.cell 5
  have de:w10.cell? ⟨b7,0,ag⟩=ai (M U k):=he4.cell 0
  have g6:at1.getD 6 undef=ax (ai ⟨b6,0,ag⟩):=by rw[Array.getD_eq_getD_getElem?,h6b];rfl
  have g7:at1.getD 7 undef=ax (ai ⟨b7,0,ag⟩):=by rw[Array.getD_eq_getD_getElem?,h7b];rfl
  simp[Leaves,settle,results,results359,go_sem,h6b,h7b,g6,g7,d0,d1,d2,d3,d4,d5,de]
  exact⟨zv,hv,qv,by rw[bB hT2,hr];exact⟨rfl,hBw.trans hB4⟩⟩
 intro u22 u23 u24 u25 u26 u27 u28 w3 hO3
 (try simp only[Exit.then])
 have hBz3:=hO3.base
 have hB3:=ak hB hBz3
 obtain⟨za,zc,hz1,_⟩:=hO3.at.s.z.form
 obtain⟨ha,hc,hh1,_⟩:=hO3.at.s.h.form
 obtain⟨qa,qc,hq1,_⟩:=hO3.at.s.q.form
 obtain⟨x0,x1,x2,x3,x4,x5,x6,x7,x8,x9,x10,x11,x12⟩:=bK hO3.at
 rw[hz1]at x8
 rw[hh1]at x9
 rw[hq1]at x10
 have f7:=hO3.c.frozen 7
 have e0:w3.cell? ⟨b5,0,ag⟩=ai (M U at_):=(hC2.below hBz3).cell 0
 have z3:=hC3.below hBz3
 have z4:=hC4.below hBz3
 have r0:w3.cell? ⟨b6,0,ag⟩=ai (M U 0):=z3.cell 0
 have g0:w3.frozen? ⟨b6,0,ag⟩=false:=z3.frozen 0
 have r1:w3.cell? ⟨b6,1,ag⟩=ai (T ag 0 0):=z3.cell 1
 have g1:w3.frozen? ⟨b6,1,ag⟩=false:=z3.frozen 1
 have r2:w3.cell? ⟨b6,2,ag⟩=ai (T ag 0 0):=z3.cell 2
 have g2:w3.frozen? ⟨b6,2,ag⟩=false:=z3.frozen 2
 have r3:w3.cell? ⟨b6,3,ag⟩=ai (T ag 0 0):=z3.cell 3
 have g3:w3.frozen? ⟨b6,3,ag⟩=false:=z3.frozen 3
 have r4:w3.cell? ⟨b6,4,ag⟩=ai (M U 0):=z3.cell 4
 have g4:w3.frozen? ⟨b6,4,ag⟩=false:=z3.frozen 4
 have r5:w3.cell? ⟨b6,5,ag⟩=ai (aA false):=z3.cell 5
 have g5:w3.frozen? ⟨b6,5,ag⟩=false:=z3.frozen 5
 have r6:w3.cell? ⟨b7,0,ag⟩=ai (M U 0):=z4.cell 0
 have g6:w3.frozen? ⟨b7,0,ag⟩=false:=z4.frozen 0
 have l6:=hC3.lt
 have l7:=hC4.lt
 have lcb:=hO3.cbB
 have n5:b5≠cb:=by have:=hC2.lt;omega
 have n6:b6≠cb:=om
 have n7:b7≠cb:=om
 have n67:b6≠b7:=om
 have n6':cb≠b6:=om
 have n7':cb≠b7:=om
 have n76:b7≠b6:=om
 have HO3:=af hO3
 have HZ:=af hz1
 have HH:=af hh1
 have HQ:=af hq1
 clear hO3 hz1 hh1 hq1 hO hO1 hO2
 (try refine‹∀(a:Act) (w:aj),bi prog _ _ a w->_› _ _ ?_)
 go_wp2_with fail
 refine leaves_cons (f:=436) (args:=#[ax (ai ⟨b6,0,ag⟩),ax (ai ⟨b7,0,ag⟩)]) (by simp) (by simp[go_sem]) ?_
 refine(kR b6 b7 _).mono ?_
 rintro e u' w10 ⟨rfl,rfl,rfl⟩
 simp[Leaves,settle,results,results359,go_sem,r0,r1,r2,r3,r4,r5,r6,n67,n76]
 refine⟨zv,hv,qv,?_⟩
 rw[bB hT2,hr]
 refine⟨cb,?_,?_⟩
 ·exact T72
 ·refine bR.outer (HO3.out.putN at_) HV0.out hB.size (λk hk=>?_) ?_
  ·have k6:k≠b6:=om
   have k7:k≠b7:=om
   simp only[heap_setCell_other _ ⟨b6,_,ag⟩ k _ k6,heap_setCell_other _ ⟨b7,_,ag⟩ k _ k7]
  have hcw:w.heap.size<=cb:=by have:=hB.size;omega
  have h6w:w.heap.size<=b6:=om
  have h7w:w.heap.size<=b7:=om
  repeat(first|with_reducible exact hB3|with_reducible refine ap.drew ?_|(with_reducible refine aS ?_ ?_ _;rotate_left;first|exact hcw|exact h6w|exact h7w))
end
section
open Tryz
open Go.RowKit Go.Shelf
attribute [local go_sem] Oper.semAt_some
theorem qH {D:bE} {S:bL} (h:pq D S=0):(eF D).2.2=0:=by
 unfold pq at h
 by_cases h1:(eF D).2.2=0
 ·exact h1
 simp[h1]at h
def uP (D:bE) (S:bL) (ac:Int) (G:Except Int bL->Prop) (r:Except Int bL):Prop:=if pq D S≠0 then r= .error (pq D S)else if ac≠0 then r= .error ac else G r
theorem qS (D:bE) (S:bL) (at_ kind who what wto:Int) (w:aj) (hV:eP w D) (hS:gC w S) (n1:S.zn<=1000000) (n2:S.hn<=1000000) (n3:S.sn<=1000000) (G:Except Int bL->Prop)
 (hD:pq D S=0->dm D at_ kind who what wto=0->∀W:aj,ap w.heap.size w W->aC prog 359 #[aN D.cells,aN S.cells,aN #[M U at_,M U kind,M U who,M U what,M U wto]] W λe w'=>∃r,G r/\lR W D at_ r e w'):
  aC prog 269 #[aN D.cells,aN S.cells,aN #[M U at_,M U kind,M U who,M U what,M U wto]] w λe w'=>∃r,uP D S (dm D at_ kind who what wto) G r/\lR w D at_ r e w':=by
 have HCS:=af (λW (h:ap w.heap.size w W)=>og D S W (hV.below h) (hS.below h) n1 n2 n3)
 have HAC:=af (λ(hc:pq D S=0) W (h:ap w.heap.size w W)=>sL D at_ kind who what wto W (hV.below h) (du (qH hc)))
 have HD:=af hD
 have HV0:=af hV
 unfold bE.cells bL.cells at HCS HD⊢
 unfold bE.cells at HAC
 obtain⟨W0,hW0⟩:∃W0,((((w.alloc (.cells #[D.vz,D.vd,D.vp,D.vk,D.vq,M U D.panel,M U D.wait] 55)).alloc (.cells #[M U S.now,S.zv,S.hv,S.qv,M U S.siren,aA S.storm] 75)).alloc (.cells #[M U at_,M U kind,M U who,M U what,M U wto] 294)).alloc (.cells #[M U 0,T ag 0 0,T ag 0 0,T ag 0 0,M U 0,aA false] 75))=W0:=⟨_,rfl⟩
 have hC0:am W0 (w.heap.size) 55 #[D.vz,D.vd,D.vp,D.vk,D.vq,M U D.panel,M U D.wait]:=by
  rw[<-hW0]
  have h:=aK w (.cells #[D.vz,D.vd,D.vp,D.vk,D.vq,M U D.panel,M U D.wait] 55)
  (try simp only[bg]at h)
  exact T66
 have hC1:am W0 (w.heap.size+1) 75 #[M U S.now,S.zv,S.hv,S.qv,M U S.siren,aA S.storm]:=by
  rw[<-hW0]
  have h:=aK (w.alloc (.cells #[D.vz,D.vd,D.vp,D.vk,D.vq,M U D.panel,M U D.wait] 55)) (.cells #[M U S.now,S.zv,S.hv,S.qv,M U S.siren,aA S.storm] 75)
  (try simp only[bg]at h)
  exact sQ
 have hC2:am W0 (w.heap.size+1+1) 294 #[M U at_,M U kind,M U who,M U what,M U wto]:=by
  rw[<-hW0]
  have h:=aK ((w.alloc (.cells #[D.vz,D.vd,D.vp,D.vk,D.vq,M U D.panel,M U D.wait] 55)).alloc (.cells #[M U S.now,S.zv,S.hv,S.qv,M U S.siren,aA S.storm] 75)) (.cells #[M U at_,M U kind,M U who,M U what,M U wto] 294)
  (try simp only[bg]at h)
  exact sH
 have hC3:am W0 (w.heap.size+1+1+1) 75 #[M U 0,T ag 0 0,T ag 0 0,T ag 0 0,M U 0,aA false]:=by
  rw[<-hW0]
  have h:=aK (((w.alloc (.cells #[D.vz,D.vd,D.vp,D.vk,D.vq,M U D.panel,M U D.wait] 55)).alloc (.cells #[M U S.now,S.zv,S.hv,S.qv,M U S.siren,aA S.storm] 75)).alloc (.cells #[M U at_,M U kind,M U who,M U what,M U wto] 294)) (.cells #[M U 0,T ag 0 0,T ag 0 0,T ag 0 0,M U 0,aA false] 75)
  (try simp only[bg]at h)
  exact h
 have hB:ap w.heap.size w W0:=by rw[<-hW0];exact aP (aP (aP (aP (au _ _) _) _) _) _
 have HW0:=af hW0
 clear hW0 hV hS hD
 go_enter func269,ntmps269
 go_upto_region 1 with fail
 rw[HW0.out]
 clear HW0
 obtain⟨b3,he0⟩:=bY w.heap.size
 have hb0:w.heap.size<=b3:=om
 rw[<-he0]at hC0 hC1 hC2 hC3⊢
 obtain⟨b4,he1⟩:=bY (b3+1)
 have hb1:b3<b4:=om
 rw[<-he1]at hC1 hC2 hC3⊢
 obtain⟨b5,he2⟩:=bY (b4+1)
 have hb2:b4<b5:=om
 rw[<-he2]at hC2 hC3⊢
 obtain⟨b6,he3⟩:=bY (b5+1)
 have hb3:b5<b6:=om
 rw[<-he3]at hC3⊢
 clear he0 he1 he2 he3
 have xx:=aJ hC0
 have yy:=aH hC1
 have aa:=aL hC2
 have zz:=aH hC3
 have g0:=hC3.frozen 0
 have g1:=hC3.frozen 1
 have g2:=hC3.frozen 2
 have g3:=hC3.frozen 3
 have g4:=hC3.frozen 4
 have g5:=hC3.frozen 5
 go_wp2_with fail
 refine aZ (HCS.out _ hB) ?_
 intro w1 hb
 replace hC0:=hC0.below hb
 replace hC1:=hC1.below hb
 replace hC2:=hC2.below hb
 replace hC3:=hC3.below hb
 replace hB:=ak hB hb
 have xx:=aJ hC0
 have yy:=aH hC1
 have aa:=aL hC2
 have zz:=aH hC3
 have g0:=hC3.frozen 0
 have g1:=hC3.frozen 1
 have g2:=hC3.frozen 2
 have g3:=hC3.frozen 3
 have g4:=hC3.frozen 4
 have g5:=hC3.frozen 5
 by_cases hce:pq D S=0
 rotate_left
 ·have hne:pq D S≠0:=hce
  clear hce
  obtain⟨ee,hee⟩:∃c,c=pq D S:=⟨_,rfl⟩
  have HEE:=af hee
  rw[<-hee]
  rw[<-hee]at hne
  clear hee
  go_wp2_with fail
  refine(show∀W2,am W2 b6 75 #[M U 0,T ag 0 0,T ag 0 0,T ag 0 0,M U 0,aA false]->ap w.heap.size w W2->bodyPost prog f269 _ Exit.ret _ W2 from λW2 h2 hB2=>?_) _ (by have h:=((((((hC3.set 0 (M U 0)).set 1 (T ag 0 0)).set 2 (T ag 0 0)).set 3 (T ag 0 0)).set 4 (M U 0)).set 5 (aA false));simp only[List.setIfInBounds_toArray,List.set_cons_zero,List.set_cons_succ]at h;exact h) eo
  have c0:W2.cell? ⟨b6,0,ag⟩=ai (M U 0):=h2.cell 0
  have c1:W2.cell? ⟨b6,1,ag⟩=ai (T ag 0 0):=h2.cell 1
  have c2:W2.cell? ⟨b6,2,ag⟩=ai (T ag 0 0):=h2.cell 2
  have c3:W2.cell? ⟨b6,3,ag⟩=ai (T ag 0 0):=h2.cell 3
  have c4:W2.cell? ⟨b6,4,ag⟩=ai (M U 0):=h2.cell 4
  have c5:W2.cell? ⟨b6,5,ag⟩=ai (aA false):=h2.cell 5
  refine bG (P:=prog) (fn:=f269) (v:= .tuple #[aN #[M U 0,T ag 0 0,T ag 0 0,T ag 0 0,M U 0,aA false],M U ee]) ?_ rfl ⟨.error ee,by unfold uP;rw[<-HEE.out,if_pos hne],rfl,hB2⟩
  exact sO
 have HCE:=af hce
 rw[hce]
 clear hce
 go_wp2_with fail
 refine aZ (HAC.out HCE.out _ hB) ?_
 intro w2 hb
 replace hC0:=hC0.below hb
 replace hC1:=hC1.below hb
 replace hC2:=hC2.below hb
 replace hC3:=hC3.below hb
 replace hB:=ak hB hb
 have xx:=aJ hC0
 have yy:=aH hC1
 have aa:=aL hC2
 have zz:=aH hC3
 have g0:=hC3.frozen 0
 have g1:=hC3.frozen 1
 have g2:=hC3.frozen 2
 have g3:=hC3.frozen 3
 have g4:=hC3.frozen 4
 have g5:=hC3.frozen 5
 by_cases hne:dm D at_ kind who what wto=0
 rotate_left
 ·skip
  obtain⟨ee,hee⟩:∃c,c=dm D at_ kind who what wto:=⟨_,rfl⟩
  have HEE:=af hee
  rw[<-hee]
  rw[<-hee]at hne
  clear hee
  go_wp2_with fail
  refine(show∀W2,am W2 b6 75 #[M U 0,T ag 0 0,T ag 0 0,T ag 0 0,M U 0,aA false]->ap w.heap.size w W2->bodyPost prog f269 _ Exit.ret _ W2 from λW2 h2 hB2=>?_) _ (by have h:=((((((hC3.set 0 (M U 0)).set 1 (T ag 0 0)).set 2 (T ag 0 0)).set 3 (T ag 0 0)).set 4 (M U 0)).set 5 (aA false));simp only[List.setIfInBounds_toArray,List.set_cons_zero,List.set_cons_succ]at h;exact h) eo
  have c0:W2.cell? ⟨b6,0,ag⟩=ai (M U 0):=h2.cell 0
  have c1:W2.cell? ⟨b6,1,ag⟩=ai (T ag 0 0):=h2.cell 1
  have c2:W2.cell? ⟨b6,2,ag⟩=ai (T ag 0 0):=h2.cell 2
  have c3:W2.cell? ⟨b6,3,ag⟩=ai (T ag 0 0):=h2.cell 3
  have c4:W2.cell? ⟨b6,4,ag⟩=ai (M U 0):=h2.cell 4
  have c5:W2.cell? ⟨b6,5,ag⟩=ai (aA false):=h2.cell 5
  refine bG (P:=prog) (fn:=f269) (v:= .tuple #[aN #[M U 0,T ag 0 0,T ag 0 0,T ag 0 0,M U 0,aA false],M U ee]) ?_ rfl ⟨.error ee,by unfold uP;rw[HCE.out,if_neg (by simp),<-HEE.out,if_pos hne],rfl,hB2⟩
  exact sO
 have HCA:=af hne
 rw[hne]
 clear hne
 go_wp2_with fail
 refine(HD.out HCE.out HCA.out _ hB).mono ?_
 rintro e w3 ⟨r,hG,hE⟩
 cases r with
 |error ee=>
  obtain⟨rfl,hb⟩:e=ar (.tuple #[aN #[M U 0,T ag 0 0,T ag 0 0,T ag 0 0,M U 0,aA false],M U ee])/\ap w2.heap.size w2 w3:=hE
  replace hC0:=hC0.below hb
  replace hC1:=hC1.below hb
  replace hC2:=hC2.below hb
  replace hC3:=hC3.below hb
  replace hB:=ak hB hb
  have xx:=aJ hC0
  have yy:=aH hC1
  have aa:=aL hC2
  have zz:=aH hC3
  have g0:=hC3.frozen 0
  have g1:=hC3.frozen 1
  have g2:=hC3.frozen 2
  have g3:=hC3.frozen 3
  have g4:=hC3.frozen 4
  have g5:=hC3.frozen 5
  go_wp2_with fail
  refine(show∀W2,am W2 b6 75 #[M U 0,T ag 0 0,T ag 0 0,T ag 0 0,M U 0,aA false]->ap w.heap.size w W2->bodyPost prog f269 _ Exit.ret _ W2 from λW2 h2 hB2=>?_) _ (by have h:=((((((hC3.set 0 (M U 0)).set 1 (T ag 0 0)).set 2 (T ag 0 0)).set 3 (T ag 0 0)).set 4 (M U 0)).set 5 (aA false));simp only[List.setIfInBounds_toArray,List.set_cons_zero,List.set_cons_succ]at h;exact h) eo
  have c0:W2.cell? ⟨b6,0,ag⟩=ai (M U 0):=h2.cell 0
  have c1:W2.cell? ⟨b6,1,ag⟩=ai (T ag 0 0):=h2.cell 1
  have c2:W2.cell? ⟨b6,2,ag⟩=ai (T ag 0 0):=h2.cell 2
  have c3:W2.cell? ⟨b6,3,ag⟩=ai (T ag 0 0):=h2.cell 3
  have c4:W2.cell? ⟨b6,4,ag⟩=ai (M U 0):=h2.cell 4
  have c5:W2.cell? ⟨b6,5,ag⟩=ai (aA false):=h2.cell 5
  refine bG (P:=prog) (fn:=f269) (v:= .tuple #[aN #[M U 0,T ag 0 0,T ag 0 0,T ag 0 0,M U 0,aA false],M U ee]) ?_ rfl ⟨.error ee,by unfold uP;rw[HCE.out,HCA.out,if_neg (by simp),if_neg (by simp)];exact hG,rfl,hB2⟩
  exact sO
 |ok S2=>
  obtain⟨cb,rfl,hO⟩:∃cb,e=ar (.tuple #[aN #[M U at_,S2.zv,S2.hv,S2.qv,M U S2.siren,aA S2.storm],M U 0])/\bR w2 w3 cb D (S2.setN at_):=hE
  have hb:=hO.base
  have hB9:=hB
  have l6:=hC3.lt
  replace hC0:=hC0.below hb
  replace hC1:=hC1.below hb
  replace hC2:=hC2.below hb
  replace hC3:=hC3.below hb
  replace hB:=ak hB hb
  have xx:=aJ hC0
  have yy:=aH hC1
  have aa:=aL hC2
  have zz:=aH hC3
  have g0:=hC3.frozen 0
  have g1:=hC3.frozen 1
  have g2:=hC3.frozen 2
  have g3:=hC3.frozen 3
  have g4:=hC3.frozen 4
  have g5:=hC3.frozen 5
  obtain⟨za,zc,hz1,_⟩:∃a c,S2.zv=T a S2.zn c/\_:=hO.at.s.z.form
  obtain⟨ha,hc,hh1,_⟩:∃a c,S2.hv=T a S2.hn c/\_:=hO.at.s.h.form
  obtain⟨qa,qc,hq1,_⟩:∃a c,S2.qv=T a S2.sn c/\_:=hO.at.s.q.form
  rw[hz1,hh1,hq1]
  have HZ:=af hz1
  have HH:=af hh1
  have HQ:=af hq1
  have HO:=af hO
  clear hz1 hh1 hq1 hO
  go_wp2_with fail
  refine(show∀W2,am W2 b6 75 #[M U at_,T za S2.zn zc,T ha S2.hn hc,T qa S2.sn qc,M U S2.siren,aA S2.storm]->bR w W2 cb D (S2.setN at_)->bodyPost prog f269 _ Exit.ret _ W2 from λW2 h2 hO2=>?_) _ (by have h:=((((((hC3.set 0 (M U at_)).set 1 (T za S2.zn zc)).set 2 (T ha S2.hn hc)).set 3 (T qa S2.sn qc)).set 4 (M U S2.siren)).set 5 (aA S2.storm));simp only[List.setIfInBounds_toArray,List.set_cons_zero,List.set_cons_succ]at h;exact h) (bR.outer HO.out HV0.out hB9.size (λk hk=>by have k6:k≠b6:=om;simp only[heap_setCell_other _ ⟨b6,_,ag⟩ k _ k6]) eo)
  have c0:W2.cell? ⟨b6,0,ag⟩=ai (M U at_):=h2.cell 0
  have c1:W2.cell? ⟨b6,1,ag⟩=ai (T za S2.zn zc):=h2.cell 1
  have c2:W2.cell? ⟨b6,2,ag⟩=ai (T ha S2.hn hc):=h2.cell 2
  have c3:W2.cell? ⟨b6,3,ag⟩=ai (T qa S2.sn qc):=h2.cell 3
  have c4:W2.cell? ⟨b6,4,ag⟩=ai (M U S2.siren):=h2.cell 4
  have c5:W2.cell? ⟨b6,5,ag⟩=ai (aA S2.storm):=h2.cell 5
  refine bG (P:=prog) (fn:=f269) (v:= .tuple #[aN #[M U at_,T za S2.zn zc,T ha S2.hn hc,T qa S2.sn qc,M U S2.siren,aA S2.storm],M U 0]) ?_ rfl ⟨.ok S2,by unfold uP;rw[HCE.out,HCA.out,if_neg (by simp),if_neg (by simp)];exact hG,cb,?_,hO2⟩
  ·exact sO
  exact T72
end
end Go.Proofs.YtbpnallaifdcpaaGreatDoor
