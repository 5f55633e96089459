/- Parts of the proof. -/
import Derived.Test.YtbpnallaifdcpaaGreatDoorZg
set_option linter.unusedVariables false
set_option linter.unusedSimpArgs false
set_option maxRecDepth 100000
set_option maxHeartbeats 4000000
namespace Go.Proofs.YtbpnallaifdcpaaGreatDoor
open Go.Value renaming int→M
open Go.IntKind renaming i64→U
open Go.Value renaming slice→T,pointer→ax,bool→aA,agg→aN
open Go.Lib renaming hid→af
open Option renaming none→ag,some→ai
open Go renaming World→aj,Value→aw,Calls→aC,bodyPost_ret→bG,wpList_append_lies→ci,maxLen→cF
open Go.RowKit renaming Below→ap,intOf→aV,Hid→bj
open Go.Ending renaming returned→ar
open Go.RowKit.Below renaming refl→au
open Go.IntWalk renaming i64_in→aD
open Nat renaming zero_le→aF,le_trans→aO,le_refl→aY,le_of_eq→bs
open Go.Code renaming wp→bi
open Go.Exit renaming normal→bk
open Go.World renaming ownsRow.alloc→ck,news_of_block→cm
section
open Tryz
open Go.RowKit Go.Shelf
attribute [local go_sem] Oper.semAt_some
def lS (D:bE) (kind what:Int):Option Int:=
 if kind=1 then(if what≠-1/\aI what 0 ((D.zn:Int) - 1)=true then ai 4 else ag)
 else if kind=2\/kind=3\/kind=4 then(if aI what 0 ((D.kn:Int) - 1)then ai 4 else ag)
 else if kind=5\/kind=6\/kind=7 then(if aI what 0 ((D.qn:Int) - 1)then ai 4 else ag)
 else(if aI what 0 1 then ai 2 else ag)
def rX (D:bE) (kind who wth:Int):Int:=
 if kind=4\/(kind=1/\wth≠-1)then(if aI wth 0 ((D.pn:Int) - 1)then 4 else if wth=who then 2 else 0)else(if wth≠-1 then 2 else 0)
def dm (D:bE) (at_ kind who what wth:Int):Int:=
 if aI at_ 0 100000 then 7 else if aI kind 1 9 then 2 else if aI who 0 ((D.pn:Int) - 1)then 4 else match lS D kind what with
  |some e=>e
  |none=>rX D kind who wth
theorem cB (n many:Int) (w:aj) (h0:0<=many) (h1:many<=1000000):
  aC prog 435 #[M U n,M U many] w λe w'=>e=ar (aA (aI n 0 (many - 1)))/\w=w':=by
 have hw:=aD (many - 1) ⟨by omega,by omega⟩
 go_enter func435,ntmps435
 exact vO
theorem sL (D:bE) (at_ kind who what wth:Int) (w:aj) (hV:eP w D) (hG:cA D):
  aC prog 358 #[aN D.cells,aN #[M U at_,M U kind,M U who,M U what,M U wth]] w λe w'=>e=ar (M U (dm D at_ kind who what wth))/\ap w.heap.size w w':=by
 obtain⟨r,HS⟩:=dR (dm D at_ kind who what wth)
 rw[<-HS.out]
 obtain⟨za,zc,hvz,hcz⟩:=hV.z.form
 obtain⟨da,dc,hvd,hcd⟩:=hV.d.form
 obtain⟨pa,pc,hvp,hcp⟩:=hV.p.form
 obtain⟨ka,kc,hvk,hck⟩:=hV.k.form
 obtain⟨qa,qc,hvq,hcq⟩:=hV.q.form
 have HDC:bj (D.cells=#[T za D.zn zc,T da D.dn dc,T pa D.pn pc,T ka D.kn kc,T qa D.qn qc,M U D.panel,M U D.wait]):=show _=_ by unfold bE.cells;rw[hvz,hvd,hvp,hvk,hvq]
 rw[HDC.out]
 have hg1:=hG.zn
 have hg2:=hG.pn
 have hg3:=hG.kn
 have hg4:=hG.qn
 clear hvz hvd hvp hvk hvq hV hG
 obtain⟨W0,HW0,hC,hC2,hB⟩:=o6 w 55 #[T za D.zn zc,T da D.dn dc,T pa D.pn pc,T ka D.kn kc,T qa D.qn qc,M U D.panel,M U D.wait] 294 #[M U at_,M U kind,M U who,M U what,M U wth]
 go_enter func358,ntmps358
 go_upto_region 1 with fail
 rw[HW0.out]
 clear HW0
 obtain⟨xb,hpe⟩:=bY w.heap.size
 rw[<-hpe]at hC hC2⊢
 obtain⟨yb,hye⟩:=bY (xb+1)
 rw[<-hye]at hC2⊢
 clear hpe hye
 obtain⟨x0,x1,x2,x3,x4,x5,x6⟩:=aJ hC
 obtain⟨y0,y1,y2,y3,y4⟩:=aL hC2
 clear x1 x5 x6 hC hC2
 by_cases hk1:kind=1
 ·subst hk1
  by_cases hw:wth=-1
  ·subst hw
   go_wp2_with fail
   refine bm (bN _ _ _ _) ?_
   rintro(_|_) g1
   rotate_left
   ·exact bU
   go_wp2_with fail
   refine bm (bN _ _ _ _) ?_
   rintro(_|_) g2
   rotate_left
   ·exact absurd g2 (by decide)
   go_wp2_with fail
   refine bm (cB _ _ _ om om) ?_
   rintro(_|_) g3
   rotate_left
   ·exact bU
   by_cases hwh:what=-1
   ·exact wI
   have hwhb:(what != -1)=true:=by simpa using hwh
   go_wp2_with fail
   refine bm (cB _ _ _ om om) ?_
   rintro(_|_) g4
   ·exact bU
   exact bU
  have hwb:(wth != -1)=true:=by simpa using hw
  go_wp2_with fail
  refine bm (bN _ _ _ _) ?_
  rintro(_|_) g5
  rotate_left
  ·exact bU
  go_wp2_with fail
  refine bm (bN _ _ _ _) ?_
  rintro(_|_) g6
  rotate_left
  ·exact absurd g6 (by decide)
  go_wp2_with fail
  refine bm (cB _ _ _ om om) ?_
  rintro(_|_) g7
  rotate_left
  ·exact bU
  by_cases hwh:what=-1
  ·subst hwh
   go_wp2_with fail
   refine bm (cB _ _ _ om om) ?_
   rintro(_|_) g8
   rotate_left
   ·exact bU
   by_cases hww:wth=who
   ·subst hww
    exact bU
   exact bU
  have hwhb:(what != -1)=true:=by simpa using hwh
  go_wp2_with fail
  refine bm (cB _ _ _ om om) ?_
  rintro(_|_) g9
  rotate_left
  ·exact bU
  go_wp2_with fail
  refine bm (cB _ _ _ om om) ?_
  exact T30
 by_cases hk4:kind=4
 ·subst hk4
  go_wp2_with fail
  refine bm (bN _ _ _ _) ?_
  rintro(_|_) g11
  rotate_left
  ·exact bU
  go_wp2_with fail
  refine bm (bN _ _ _ _) ?_
  rintro(_|_) g12
  rotate_left
  ·exact absurd g12 (by decide)
  go_wp2_with fail
  refine bm (cB _ _ _ om om) ?_
  rintro(_|_) g13
  rotate_left
  ·exact bU
  go_wp2_with fail
  refine bm (cB _ _ _ om om) ?_
  rintro(_|_) g14
  rotate_left
  ·exact bU
  go_wp2_with fail
  refine bm (cB _ _ _ om om) ?_
  rintro(_|_) g15
  rotate_left
  ·exact bU
  by_cases hww:wth=who
  ·subst hww
   exact bU
  exact bU
 have hk4b:(kind==4)=false:=by simpa using hk4
 have hk1b:(kind==1)=false:=by simpa using hk1
 go_wp2_with fail
 refine bm (bN _ _ _ _) ?_
 rintro(_|_) g16
 rotate_left
 ·exact bU
 go_wp2_with fail
 refine bm (bN _ _ _ _) ?_
 rintro(_|_) g17
 rotate_left
 ·exact bU
 go_wp2_with fail
 refine bm (cB _ _ _ om om) ?_
 rintro(_|_) g18
 rotate_left
 ·exact bU
 have h9:=aW.1 g17
 have hks:kind=2\/kind=3\/kind=5\/kind=6\/kind=7\/kind=8\/kind=9:=om
 clear h9 hk1 hk4 hk1b hk4b
 rcases hks with rfl|rfl|rfl|rfl|rfl|rfl|rfl
 ·go_wp2_with fail
  refine bm (cB _ _ _ om om) ?_
  exact T21
 ·go_wp2_with fail
  refine bm (cB _ _ _ om om) ?_
  exact T22
 ·go_wp2_with fail
  refine bm (cB _ _ _ om om) ?_
  exact T23
 ·go_wp2_with fail
  refine bm (cB _ _ _ om om) ?_
  exact T24
 ·go_wp2_with fail
  refine bm (cB _ _ _ om om) ?_
  rintro(_|_) g23
  rotate_left
  ·exact bU
  by_cases hw:wth=-1
  ·subst hw
   exact bU
  have hwb:(wth != -1)=true:=by simpa using hw
  exact bU
 ·go_wp2_with fail
  refine bm (bN _ _ _ _) ?_
  rintro(_|_) g24
  rotate_left
  ·exact bU
  by_cases hw:wth=-1
  ·subst hw
   exact bU
  have hwb:(wth != -1)=true:=by simpa using hw
  exact bU
 go_wp2_with fail
 refine bm (bN _ _ _ _) ?_
 rintro(_|_) g25
 rotate_left
 ·exact bU
 by_cases hw:wth=-1
 ·subst hw
  exact bU
 have hwb:(wth != -1)=true:=by simpa using hw
 exact bU
end
section
open Tryz
open Go.RowKit Go.Shelf
attribute [local go_sem] Oper.semAt_some
variable {v0 v3 v4 v5 v6 v8 v9 v10 v11 v12 v13 v14 v15 v16 v17 v18 v19 v20 v21 v22 v23 v24 v25 v26 v27 v28 v29 v30 v31 v32 v33:aw}
def bp (D:bE) (zv hv qv:aw):bL:=⟨0,D.pn,λ_=>-1,D.kn,λ_=>-1,D.qn,λ_=>0,-1,false,zv,hv,qv⟩
def ig (D:bE) (vz vd:aw) (pa ka qa:Option Addr) (pc kc qc xb ab:Nat) (w:aj):Prop:=am w xb 55 #[vz,vd,T pa D.pn pc,T ka D.kn kc,T qa D.qn qc,M U D.panel,M U D.wait]/\am w ab 3 #[M U (-1)]
theorem ig.below {D:bE} {vz vd:aw} {pa ka qa:Option Addr} {pc kc qc xb ab:Nat} {w w':aj} (h:ig D vz vd pa ka qa pc kc qc xb ab w) (hb:ap w.heap.size w w'):ig D vz vd pa ka qa pc kc qc xb ab w':=⟨h.1.below hb,h.2.below hb⟩
theorem ig.row {D:bE} {vz vd:aw} {pa ka qa:Option Addr} {pc kc qc xb ab:Nat} {w:aj} (h:ig D vz vd pa ka qa pc kc qc xb ab w):aU w (T (ai ⟨ab,0,ag⟩) 1 1) 1 1 (λ_ _=>M U (-1)):=
 ⟨_,1,rfl,aY _, .inr ⟨ab,0,rfl,h.2.lt,λi j hi hj=>by
  obtain rfl:i=0:=om
  obtain rfl:j=0:=om
  exact h.2.cell 0⟩⟩
theorem cW.oth {w:aj} {B:Nat} {v:aw} {n k:Nat} {F:Nat->Nat->aw} (h:cW w B v n k F) {p:Addr} (hp:p.block<B) (u:aw):cW (w.setCell p u) B v n k F:=by
 obtain⟨a,c,rfl,hc,h⟩:=h
 refine⟨a,c,rfl,hc,?_⟩
 rcases h with h|⟨g,rfl,h0,h1,h2⟩
 ·exact .inl h
 refine .inr ⟨g,rfl,h0,by simpa using h1,λi j hi hj=>?_⟩
 have hpe:p≠⟨g,i*k+j,ag⟩:=λe=>by rw[e]at hp;have hp2:g<B:=hp;omega
 exact⟨by rw[aj.cell?_setCell_other (h:=hpe)];exact(h2 i j hi hj).1,by rw[aj.frozen?_setCell];exact(h2 i j hi hj).2⟩
theorem cW.oth6 {w:aj} {B b:Nat} {v:aw} {n k:Nat} {F:Nat->Nat->aw} (h:cW w B v n k F) (hb:b<B) (u0 u1 u2 u3 u4 u5:aw):cW ((((((w.setCell ⟨b,0,ag⟩ u0).setCell ⟨b,1,ag⟩ u1).setCell ⟨b,2,ag⟩ u2).setCell ⟨b,3,ag⟩ u3).setCell ⟨b,4,ag⟩ u4).setCell ⟨b,5,ag⟩ u5) B v n k F:=
 (((((h.oth (p:=⟨b,0,ag⟩) hb u0).oth (p:=⟨b,1,ag⟩) hb u1).oth (p:=⟨b,2,ag⟩) hb u2).oth (p:=⟨b,3,ag⟩) hb u3).oth (p:=⟨b,4,ag⟩) hb u4).oth (p:=⟨b,5,ag⟩) hb u5
theorem jg {W:aj} {B n:Nat} {v:aw} (h:W.ownsRow B 3 1 v n (madeCells (M U 0).cells (n*1)).toList):cW W B v n 1 (λ_ _=>M U 0):=by
 refine cW.of_own (e:=3) ?_
 rw[Nat.mul_one]at h⊢
 rw[show aw.cells (M U 0)=#[M U 0]from rfl,toList_madeCells_one]at h
 simpa[List.map_const']using h
section
variable {D:bE} {vz vd:aw} {pa ka qa:Option Addr} {pc kc qc xb rb ab B:Nat} {w0:aj}
theorem pst5 {c:Code} (hc:c=et f268 5) {wc:aj} {Q:Exit->Act->aj->Prop} (hS:ig D vz vd pa ka qa pc kc qc xb ab wc) (hr:am wc rb 75 #[M U 0,T ag 0 0,T ag 0 0,T ag 0 0,M U 0,aA false]) (hxr:xb≠rb) (har:ab≠rb) (hB:ap B w0 wc) (hBr:B<=rb) (hBs:B<=wc.heap.size) (n1:D.pn<=8) (n2:D.kn<=8) (n3:D.qn<=6)
 (hK:∀(u19 u20 u21 u22 u23 u24 u25 u26 u27 u28 u29 u30 u31 u32 u33 zv hv qv:aw) (w':aj),ap B w0 w'->am w' rb 75 (bp D zv hv qv).cells->gC w' (bp D zv hv qv)->
  Q bk {tmps:=#[v0,ax (ai ⟨xb,0,ag⟩),ax (ai ⟨rb,0,ag⟩),M U 0,v4,v5,v6,T (ai ⟨ab,0,ag⟩) 1 1,v8,v9,v10,v11,v12,v13,v14,v15,v16,v17,v18,u19,u20,u21,u22,u23,u24,u25,u26,u27,u28,u29,u30,u31,u32,u33],defers:=[]} w'):
 bi prog c Q {tmps:=#[v0,ax (ai ⟨xb,0,ag⟩),ax (ai ⟨rb,0,ag⟩),v3,v4,v5,v6,T (ai ⟨ab,0,ag⟩) 1 1,v8,v9,v10,v11,v12,v13,v14,v15,v16,v17,v18,v19,v20,v21,v22,v23,v24,v25,v26,v27,v28,v29,v30,v31,v32,v33],defers:=[]} wc:=by
 subst hc
 conv=>arg 2;whnf
 have HKK:=af hK
 clear hK
 have HR:bj (∀w':aj,ig D vz vd pa ka qa pc kc qc xb ab w'->w'.cell? ⟨xb,2,ag⟩=ai (T pa D.pn pc)/\w'.cell? ⟨xb,3,ag⟩=ai (T ka D.kn kc)/\w'.cell? ⟨xb,4,ag⟩=ai (T qa D.qn qc)):=show∀w',_->_ from λw' h=>⟨h.1.cell 2,h.1.cell 3,h.1.cell 4⟩
 have hS1:ig D vz vd pa ka qa pc kc qc xb ab wc.drew:=hS
 replace hB:=ap.drew hB
 replace hr:am wc.drew rb 75 #[M U 0,T ag 0 0,T ag 0 0,T ag 0 0,M U 0,aA false]:=hr
 replace hBs:B<=wc.drew.heap.size:=hBs
 clear hS
 skip
 refine wp_region_noPanic ?_
 refine wp_region_held_drew (S:=ig D vz vd pa ka qa pc kc qc xb ab) kr hS1 (λ_=>?_)
 generalize wc.drew=W1 at *
 refine br 0 hS1 ?_
 refine br 1 hS1 ?_
 refine br 2 hS1 ?_
 refine br 3 hS1 ?_
 refine br 5 hS1 ?_
 refine br 6 hS1 ?_
 refine br 7 hS1 ?_
 refine br 8 hS1 ?_
 refine br 10 hS1 ?_
 refine br 11 hS1 ?_
 refine br 12 hS1 ?_
 refine wpAnyH_ready (rs:=[4,13]) kr (by simp) (AllReadyH.cons rfl (λK' hK'=>?_) (AllReadyH.cons rfl (λK' hK'=>?_) AllReadyH.nil))
 ·go_simp
  refine(eG (-1) D.pn _ _ hS1.row om).mono ?_
  rintro e W2 ⟨v101,rfl,ho,hb⟩
  obtain⟨a1,c1,rfl,-⟩:=id ho
  have ho1:=ho.mono (B':=rb+1) (by have:=hr.lt;omega)
  have hS2:=hS1.below hb
  replace hr:=hr.below hb
  have hsz:=hb.size
  replace hB:=hB.trans (hb.mono hBs)
  replace hBs:=aO hBs hsz
  clear hb hsz
  refine bO hK' hS2 ?_
  clear hK' K'
  refine wpAnyH_ready (rs:=[9,13]) kr (by simp) (AllReadyH.cons rfl (λK' hK'=>?_) (AllReadyH.cons rfl (λK' hK'=>?_) AllReadyH.nil))
  ·go_simp
   refine(eG (-1) D.kn _ _ hS2.row om).mono ?_
   rintro e W3 ⟨v102,rfl,ho,hb⟩
   obtain⟨a2,c2,rfl,-⟩:=id ho
   have ho2:=ho.mono (B':=rb+1) (by have:=hr.lt;omega)
   have hS3:=hS2.below hb
   replace hr:=hr.below hb
   replace ho1:=ho1.below hb
   have hsz:=hb.size
   replace hB:=hB.trans (hb.mono hBs)
   replace hBs:=aO hBs hsz
   clear hb hsz
   refine bO hK' hS3 ?_
   clear hK' K'
   refine cL 13 (λK' hK'=>?_)
   obtain⟨i0,hi,hz0,hz1,hz2⟩:=info_parts infoC_clone_ints
   obtain⟨W4,hmk,hown,hgr⟩:=run_make_full (P:=prog) W3 W3.heap.size 24 3 i0 (M U 0) 1 underlying24 hi hz0 hz1 .i64 .i64 D.qn (by rw[hz2];omega) (by unfold cF;omega) (aY _)
   rw[hmk]
   go_simp
   have hb:ap W3.heap.size W3 W4:=(au _ _).grown hgr (aY _) (λk e=>by cases e)
   have ho3:cW W4 (rb+1) (T (ai ⟨W3.heap.size,0,ag⟩) D.qn D.qn) D.qn 1 (λ_ _=>M U 0):=(jg hown).mono (by have:=hr.lt;omega)
   clear hmk hown hgr hi hz0 hz1 hz2
   obtain⟨g3,hg3⟩:=bY W3.heap.size
   rw[<-hg3]at ho3⊢
   clear hg3
   have hS4:=hS3.below hb
   replace hr:=hr.below hb
   replace ho1:=ho1.below hb
   replace ho2:=ho2.below hb
   have hsz:=hb.size
   replace hB:=hB.trans (hb.mono hBs)
   replace hBs:=aO hBs hsz
   clear hb hsz
   refine bO hK' hS4 ?_
   clear hK' K'
   refine br 14 hS4 ?_
   have kk:=aH hr
   have m0:=hr.frozen 0
   have m1:=hr.frozen 1
   have m2:=hr.frozen 2
   have m3:=hr.frozen 3
   have m4:=hr.frozen 4
   have m5:=hr.frozen 5
   refine cL 15 (λK' hK'=>?_)
   have hr2:=dQ hr (M U 0) (T a1 D.pn c1) (T a2 D.kn c2) (T (ai ⟨g3,0,ag⟩) D.qn D.qn) (M U (-1)) (aA false)
   have hS9:ig D vz vd pa ka qa pc kc qc xb ab _:=⟨fL hS4.1 (Ne.symm hxr) (M U 0) (T a1 D.pn c1) (T a2 D.kn c2) (T (ai ⟨g3,0,ag⟩) D.qn D.qn) (M U (-1)) (aA false),fL hS4.2 (Ne.symm har) (M U 0) (T a1 D.pn c1) (T a2 D.kn c2) (T (ai ⟨g3,0,ag⟩) D.qn D.qn) (M U (-1)) (aA false)⟩
   replace hB:=dO hB hBr (M U 0) (T a1 D.pn c1) (T a2 D.kn c2) (T (ai ⟨g3,0,ag⟩) D.qn D.qn) (M U (-1)) (aA false)
   replace ho1:=ho1.oth6 (Nat.lt_succ_self rb) (M U 0) (T a1 D.pn c1) (T a2 D.kn c2) (T (ai ⟨g3,0,ag⟩) D.qn D.qn) (M U (-1)) (aA false)
   replace ho2:=ho2.oth6 (Nat.lt_succ_self rb) (M U 0) (T a1 D.pn c1) (T a2 D.kn c2) (T (ai ⟨g3,0,ag⟩) D.qn D.qn) (M U (-1)) (aA false)
   replace ho3:=ho3.oth6 (Nat.lt_succ_self rb) (M U 0) (T a1 D.pn c1) (T a2 D.kn c2) (T (ai ⟨g3,0,ag⟩) D.qn D.qn) (M U (-1)) (aA false)
   generalize((((((W4.setCell ⟨rb,0,ag⟩ (M U 0)).setCell ⟨rb,1,ag⟩ (T a1 D.pn c1)).setCell ⟨rb,2,ag⟩ (T a2 D.kn c2)).setCell ⟨rb,3,ag⟩ (T (ai ⟨g3,0,ag⟩) D.qn D.qn)).setCell ⟨rb,4,ag⟩ (M U (-1))).setCell ⟨rb,5,ag⟩ (aA false))=W9 at *
   refine bO hK' hS9 ?_
   clear hK' K'
   refine br 16 hS9 ?_
   refine wpAnyH_done kr (NoPanic.normal ?_) _
   exact HKK.out _ _ _ _ _ _ _ _ _ _ _ _ _ _ _ (T a1 D.pn c1) (T a2 D.kn c2) (T (ai ⟨g3,0,ag⟩) D.qn D.qn) _ hB hr2 ⟨ho1.row,ho2.row,ho3.row⟩
  ·go_simp
   obtain⟨i0,hi,hz0,hz1,hz2⟩:=info_parts infoC_clone_ints
   obtain⟨W3,hmk,hown,hgr⟩:=run_make_full (P:=prog) W2 W2.heap.size 24 3 i0 (M U 0) 1 underlying24 hi hz0 hz1 .i64 .i64 D.qn (by rw[hz2];omega) (by unfold cF;omega) (aY _)
   rw[hmk]
   go_simp
   have hb:ap W2.heap.size W2 W3:=(au _ _).grown hgr (aY _) (λk e=>by cases e)
   have ho3:cW W3 (rb+1) (T (ai ⟨W2.heap.size,0,ag⟩) D.qn D.qn) D.qn 1 (λ_ _=>M U 0):=(jg hown).mono (by have:=hr.lt;omega)
   clear hmk hown hgr hi hz0 hz1 hz2
   obtain⟨g3,hg3⟩:=bY W2.heap.size
   rw[<-hg3]at ho3⊢
   clear hg3
   have hS3:=hS2.below hb
   replace hr:=hr.below hb
   replace ho1:=ho1.below hb
   have hsz:=hb.size
   replace hB:=hB.trans (hb.mono hBs)
   replace hBs:=aO hBs hsz
   clear hb hsz
   refine bO hK' hS3 ?_
   clear hK' K'
   refine cL 9 (λK' hK'=>?_)
   refine(eG (-1) D.kn _ _ hS3.row om).mono ?_
   rintro e W4 ⟨v102,rfl,ho,hb⟩
   obtain⟨a2,c2,rfl,-⟩:=id ho
   have ho2:=ho.mono (B':=rb+1) (by have:=hr.lt;omega)
   have hS4:=hS3.below hb
   replace hr:=hr.below hb
   replace ho1:=ho1.below hb
   replace ho3:=ho3.below hb
   have hsz:=hb.size
   replace hB:=hB.trans (hb.mono hBs)
   replace hBs:=aO hBs hsz
   clear hb hsz
   refine bO hK' hS4 ?_
   clear hK' K'
   refine br 14 hS4 ?_
   have kk:=aH hr
   have m0:=hr.frozen 0
   have m1:=hr.frozen 1
   have m2:=hr.frozen 2
   have m3:=hr.frozen 3
   have m4:=hr.frozen 4
   have m5:=hr.frozen 5
   refine cL 15 (λK' hK'=>?_)
   have hr2:=dQ hr (M U 0) (T a1 D.pn c1) (T a2 D.kn c2) (T (ai ⟨g3,0,ag⟩) D.qn D.qn) (M U (-1)) (aA false)
   have hS9:ig D vz vd pa ka qa pc kc qc xb ab _:=⟨fL hS4.1 (Ne.symm hxr) (M U 0) (T a1 D.pn c1) (T a2 D.kn c2) (T (ai ⟨g3,0,ag⟩) D.qn D.qn) (M U (-1)) (aA false),fL hS4.2 (Ne.symm har) (M U 0) (T a1 D.pn c1) (T a2 D.kn c2) (T (ai ⟨g3,0,ag⟩) D.qn D.qn) (M U (-1)) (aA false)⟩
   replace hB:=dO hB hBr (M U 0) (T a1 D.pn c1) (T a2 D.kn c2) (T (ai ⟨g3,0,ag⟩) D.qn D.qn) (M U (-1)) (aA false)
   replace ho1:=ho1.oth6 (Nat.lt_succ_self rb) (M U 0) (T a1 D.pn c1) (T a2 D.kn c2) (T (ai ⟨g3,0,ag⟩) D.qn D.qn) (M U (-1)) (aA false)
   replace ho2:=ho2.oth6 (Nat.lt_succ_self rb) (M U 0) (T a1 D.pn c1) (T a2 D.kn c2) (T (ai ⟨g3,0,ag⟩) D.qn D.qn) (M U (-1)) (aA false)
   replace ho3:=ho3.oth6 (Nat.lt_succ_self rb) (M U 0) (T a1 D.pn c1) (T a2 D.kn c2) (T (ai ⟨g3,0,ag⟩) D.qn D.qn) (M U (-1)) (aA false)
   generalize((((((W4.setCell ⟨rb,0,ag⟩ (M U 0)).setCell ⟨rb,1,ag⟩ (T a1 D.pn c1)).setCell ⟨rb,2,ag⟩ (T a2 D.kn c2)).setCell ⟨rb,3,ag⟩ (T (ai ⟨g3,0,ag⟩) D.qn D.qn)).setCell ⟨rb,4,ag⟩ (M U (-1))).setCell ⟨rb,5,ag⟩ (aA false))=W9 at *
   refine bO hK' hS9 ?_
   clear hK' K'
   refine br 16 hS9 ?_
   refine wpAnyH_done kr (NoPanic.normal ?_) _
   exact HKK.out _ _ _ _ _ _ _ _ _ _ _ _ _ _ _ (T a1 D.pn c1) (T a2 D.kn c2) (T (ai ⟨g3,0,ag⟩) D.qn D.qn) _ hB hr2 ⟨ho1.row,ho2.row,ho3.row⟩
 ·go_simp
  obtain⟨i0,hi,hz0,hz1,hz2⟩:=info_parts infoC_clone_ints
  obtain⟨W2,hmk,hown,hgr⟩:=run_make_full (P:=prog) W1 W1.heap.size 24 3 i0 (M U 0) 1 underlying24 hi hz0 hz1 .i64 .i64 D.qn (by rw[hz2];omega) (by unfold cF;omega) (aY _)
  rw[hmk]
  go_simp
  have hb:ap W1.heap.size W1 W2:=(au _ _).grown hgr (aY _) (λk e=>by cases e)
  have ho3:cW W2 (rb+1) (T (ai ⟨W1.heap.size,0,ag⟩) D.qn D.qn) D.qn 1 (λ_ _=>M U 0):=(jg hown).mono (by have:=hr.lt;omega)
  clear hmk hown hgr hi hz0 hz1 hz2
  obtain⟨g3,hg3⟩:=bY W1.heap.size
  rw[<-hg3]at ho3⊢
  clear hg3
  have hS2:=hS1.below hb
  replace hr:=hr.below hb
  have hsz:=hb.size
  replace hB:=hB.trans (hb.mono hBs)
  replace hBs:=aO hBs hsz
  clear hb hsz
  refine bO hK' hS2 ?_
  clear hK' K'
  refine cL 4 (λK' hK'=>?_)
  refine(eG (-1) D.pn _ _ hS2.row om).mono ?_
  rintro e W3 ⟨v101,rfl,ho,hb⟩
  obtain⟨a1,c1,rfl,-⟩:=id ho
  have ho1:=ho.mono (B':=rb+1) (by have:=hr.lt;omega)
  have hS3:=hS2.below hb
  replace hr:=hr.below hb
  replace ho3:=ho3.below hb
  have hsz:=hb.size
  replace hB:=hB.trans (hb.mono hBs)
  replace hBs:=aO hBs hsz
  clear hb hsz
  refine bO hK' hS3 ?_
  clear hK' K'
  refine cL 9 (λK' hK'=>?_)
  refine(eG (-1) D.kn _ _ hS3.row om).mono ?_
  rintro e W4 ⟨v102,rfl,ho,hb⟩
  obtain⟨a2,c2,rfl,-⟩:=id ho
  have ho2:=ho.mono (B':=rb+1) (by have:=hr.lt;omega)
  have hS4:=hS3.below hb
  replace hr:=hr.below hb
  replace ho1:=ho1.below hb
  replace ho3:=ho3.below hb
  have hsz:=hb.size
  replace hB:=hB.trans (hb.mono hBs)
  replace hBs:=aO hBs hsz
  clear hb hsz
  refine bO hK' hS4 ?_
  clear hK' K'
  refine br 14 hS4 ?_
  have kk:=aH hr
  have m0:=hr.frozen 0
  have m1:=hr.frozen 1
  have m2:=hr.frozen 2
  have m3:=hr.frozen 3
  have m4:=hr.frozen 4
  have m5:=hr.frozen 5
  refine cL 15 (λK' hK'=>?_)
  have hr2:=dQ hr (M U 0) (T a1 D.pn c1) (T a2 D.kn c2) (T (ai ⟨g3,0,ag⟩) D.qn D.qn) (M U (-1)) (aA false)
  have hS9:ig D vz vd pa ka qa pc kc qc xb ab _:=⟨fL hS4.1 (Ne.symm hxr) (M U 0) (T a1 D.pn c1) (T a2 D.kn c2) (T (ai ⟨g3,0,ag⟩) D.qn D.qn) (M U (-1)) (aA false),fL hS4.2 (Ne.symm har) (M U 0) (T a1 D.pn c1) (T a2 D.kn c2) (T (ai ⟨g3,0,ag⟩) D.qn D.qn) (M U (-1)) (aA false)⟩
  replace hB:=dO hB hBr (M U 0) (T a1 D.pn c1) (T a2 D.kn c2) (T (ai ⟨g3,0,ag⟩) D.qn D.qn) (M U (-1)) (aA false)
  replace ho1:=ho1.oth6 (Nat.lt_succ_self rb) (M U 0) (T a1 D.pn c1) (T a2 D.kn c2) (T (ai ⟨g3,0,ag⟩) D.qn D.qn) (M U (-1)) (aA false)
  replace ho2:=ho2.oth6 (Nat.lt_succ_self rb) (M U 0) (T a1 D.pn c1) (T a2 D.kn c2) (T (ai ⟨g3,0,ag⟩) D.qn D.qn) (M U (-1)) (aA false)
  replace ho3:=ho3.oth6 (Nat.lt_succ_self rb) (M U 0) (T a1 D.pn c1) (T a2 D.kn c2) (T (ai ⟨g3,0,ag⟩) D.qn D.qn) (M U (-1)) (aA false)
  generalize((((((W4.setCell ⟨rb,0,ag⟩ (M U 0)).setCell ⟨rb,1,ag⟩ (T a1 D.pn c1)).setCell ⟨rb,2,ag⟩ (T a2 D.kn c2)).setCell ⟨rb,3,ag⟩ (T (ai ⟨g3,0,ag⟩) D.qn D.qn)).setCell ⟨rb,4,ag⟩ (M U (-1))).setCell ⟨rb,5,ag⟩ (aA false))=W9 at *
  refine bO hK' hS9 ?_
  clear hK' K'
  refine br 16 hS9 ?_
  refine wpAnyH_done kr (NoPanic.normal ?_) _
  exact HKK.out _ _ _ _ _ _ _ _ _ _ _ _ _ _ _ (T a1 D.pn c1) (T a2 D.kn c2) (T (ai ⟨g3,0,ag⟩) D.qn D.qn) _ hB hr2 ⟨ho1.row,ho2.row,ho3.row⟩
end
end
section
open Tryz
open Go.RowKit Go.Shelf
attribute [local go_sem] Oper.semAt_some
variable {v0 v3 v4 v5 v6 v7 v8 v9 v10 v11 v12 v13 v14 v15 v16 v17 v18 v19 v20 v21 v22 v23:aw}
theorem nV (D:bE) (w:aj) (hV:eP w D) (hE:(eF D).2.2=0):
  aC prog 268 #[aN D.cells] w λe w'=>∃zv hv qv,e=ar (.tuple #[aN (bp D zv hv qv).cells,M U 0])/\gC w' (bp D zv hv qv)/\ap w.heap.size w w':=by
 have hG:=du hE
 have hg1:=hG.pn
 have hg2:=hG.kn
 have hg3:=hG.qn
 have HP:=af (λW (h:ap w.heap.size w W)=>go D W (hV.below h))
 unfold E3 at HP
 obtain⟨za,zc,da,dc,pa,pc,ka,kc,qa,qc,HDC,HRz,HRd,HRp,HRk,HRq⟩:=hV.lit
 rw[HDC.out]
 rw[HDC.out]at HP
 generalize eF D=pr at *
 obtain⟨p1,p2,p3⟩:=pr
 simp only at hE HP
 subst hE
 obtain⟨W0,HW0,hC,hC2,hB⟩:=o6 w 55 #[T za D.zn zc,T da D.dn dc,T pa D.pn pc,T ka D.kn kc,T qa D.qn qc,M U D.panel,M U D.wait] 75 #[M U 0,T ag 0 0,T ag 0 0,T ag 0 0,M U 0,aA false]
 go_enter func268,ntmps268
 go_upto_region 1 with fail
 rw[HW0.out]
 obtain⟨xb,hxe⟩:=bY w.heap.size
 rw[<-hxe]at hC hC2⊢
 obtain⟨yb,hye⟩:=bY (xb+1)
 rw[<-hye]at hC2⊢
 have hxyb:xb+1=yb:=hye.symm;clear hye
 have hxw:w.heap.size<=xb:=bs hxe.symm;clear hxe HW0
 have xx:=aJ hC
 have yy:=aH hC2
 skip
 go_wp2_with fail
 refine aZ (HP.out _ hB) ?_
 intro w1 hb
 obtain⟨hC,hC2,hB⟩:=bM hC hC2 hB hb
 go_upto_region 5 with fail
 obtain⟨w2,hW9,hA,hb⟩:=bW w1 3 #[M U (-1)]
 rw[hW9.out]
 have hyl:=hC2.lt
 obtain⟨hC,hC2,hB⟩:=bM hC hC2 hB hb
 obtain⟨ab,hab⟩:=bY w1.heap.size
 rw[<-hab]at hA hyl⊢
 clear hab
 have hA1:am w2 ab 3 #[M U (-1)]:=hA
 refine pst5 kr (⟨hC,hA1⟩:ig D _ _ pa ka qa pc kc qc xb ab w2) hC2 om om hB om (aO hB.size (aY _)) om om om ?_
 intro _ _ _ _ _ _ _ _ _ _ _ _ _ _ _ zv hv qv w9 hB9 hr9 hS9
 (try simp only[Exit.then])
 (try refine‹∀(a:Act) (w:aj),bi prog _ _ a w->_› _ _ ?_)
 have hr0:=hr9
 unfold bL.cells bp at hr9
 have kk:=aH hr9
 go_wp2_with fail
 refine bG (P:=prog) (fn:=f268) (v:= .tuple #[aN (bp D zv hv qv).cells,M U 0]) ?_ rfl ?_
 ·simp[results,results268,go_sem,bp,bL.cells, *]
 exact⟨zv,hv,qv,rfl,hS9,hB9⟩
theorem iE (D:bE) (w:aj) (hV:eP w D):
  aC prog 360 #[aN D.cells] w λe w'=>e=ar (M U (eF D).2.2)/\ap w.heap.size w w':=by
 have HP:=af (λW (h:ap w.heap.size w W)=>iz D W (hV.below h))
 unfold E3 at HP
 obtain⟨za,zc,da,dc,pa,pc,ka,kc,qa,qc,HDC,HRz,HRd,HRp,HRk,HRq⟩:=hV.lit
 rw[HDC.out]
 rw[HDC.out]at HP
 generalize eF D=pr at *
 obtain⟨p1,p2,p3⟩:=pr
 simp only at HP⊢
 obtain⟨W0,xb,HW0,hC,hB⟩:=eB w 55 #[T za D.zn zc,T da D.dn dc,T pa D.pn pc,T ka D.kn kc,T qa D.qn qc,M U D.panel,M U D.wait]
 go_enter func360,ntmps360
 go_upto_region 1 with fail
 rw[HW0.out.1,HW0.out.2]
 clear HW0
 have xx:=aJ hC
 go_wp2_with fail
 refine aZ (HP.out _ hB) ?_
 exact tV
theorem gS (x:Int) (n:Nat) (w:aj) (hn:n<=8):
  aC prog 361 #[M U x,M U (n:Int)] w λe w'=>∃v,e=ar v/\cW w' w.heap.size v n 1 (λ_ _=>M U x)/\ap w.heap.size w w':=by
 obtain⟨i0,hi,hz0,hz1,hz2⟩:=info_parts infoC_clone_ints
 go_enter func361,ntmps361
 go_wp2_with fail
 go_loopw [5,6] (λl t wr=>∃j:Nat,j<=n/\t=M U j/\bj (wr.ownsRow w.heap.size 3 1 l j ((List.range j).map λ_=>M U x))/\ap w.heap.size w wr) (λ_ t _=>n - (aV t).toNat)
 case atStart=>exact⟨0,aF _,rfl,aj.ownsRow_nil _ _ _ _,au _ _⟩
 case round=>
  obtain⟨j,hj,rfl,HOW,hB⟩:=hrel
  by_cases hlt:j<n
  rotate_left
  ·obtain rfl:j=n:=om
   have hjj:¬(j:Int)<(j:Int):=om
   go_wp2_with fail
   go_ret
   exact⟨_,rfl,cW.of_own (F:=λ_ _=>M U x) (by simpa using HOW.out),hB⟩
  have i2:(j:Int)<(n:Int):=om
  go_wp2_with (at_builtin;refine ci _ (by rfl) _ _ _ (by rfl) w.heap.size 3 i0 _ 1 8 underlying24 hi hz0 hz1 hz2 rfl om _ j _ (by rfl) (ck HOW.out _) ⟨wr.heap.size,0,ag⟩ 1 1 [M U x] (by rfl) (by rfl) (cm (cs:=#[M U x]) (t:=3) (fr:=(0,0)) (aK wr _)) (by simp[aw.oneCell']) om (by unfold cF;omega) om (by have:=hB.size;simp;omega) (wr.heap.size+1) (by simp) ?_;intro g cap wn hown1 hgrow hat hltg)
  go_roundw
  case rel=>exact⟨j+1,by omega,by go_num,(fd (F:=λ_=>M U x) j)▸hown1,eC hB hgrow HOW.out (aY _)⟩
  case measure=>simp[aV];omega
section
variable {D:bE} {vz vd:aw} {pa ka qa:Option Addr} {pc kc qc xb rb B:Nat} {w0:aj}
theorem ws {c:Code} (hc:c=et f274 4) {wc:aj} {Q:Exit->Act->aj->Prop} (hS:am wc xb 55 #[vz,vd,T pa D.pn pc,T ka D.kn kc,T qa D.qn qc,M U D.panel,M U D.wait]) (hr:am wc rb 75 #[M U 0,T ag 0 0,T ag 0 0,T ag 0 0,M U 0,aA false]) (hxr:xb≠rb) (hB:ap B w0 wc) (hBr:B<=rb) (hBs:B<=wc.heap.size) (n1:D.pn<=8) (n2:D.kn<=8) (n3:D.qn<=6)
 (hK:∀(u11 u12 u13 u14 u15 u16 u17 u18 u19 u20 u21 u22 u23 zv hv qv:aw) (w':aj),ap B w0 w'->am w' rb 75 (bp D zv hv qv).cells->gC w' (bp D zv hv qv)->
  Q bk {tmps:=#[v0,ax (ai ⟨xb,0,ag⟩),ax (ai ⟨rb,0,ag⟩),M U 0,v4,v5,v6,v7,v8,v9,v10,u11,u12,u13,u14,u15,u16,u17,u18,u19,u20,u21,u22,u23],defers:=[]} w'):
 bi prog c Q {tmps:=#[v0,ax (ai ⟨xb,0,ag⟩),ax (ai ⟨rb,0,ag⟩),v3,v4,v5,v6,v7,v8,v9,v10,v11,v12,v13,v14,v15,v16,v17,v18,v19,v20,v21,v22,v23],defers:=[]} wc:=by
 subst hc
 conv=>arg 2;whnf
 have HKK:=af hK
 clear hK
 have HR:bj (∀w':aj,am w' xb 55 #[vz,vd,T pa D.pn pc,T ka D.kn kc,T qa D.qn qc,M U D.panel,M U D.wait]->w'.cell? ⟨xb,2,ag⟩=ai (T pa D.pn pc)/\w'.cell? ⟨xb,3,ag⟩=ai (T ka D.kn kc)/\w'.cell? ⟨xb,4,ag⟩=ai (T qa D.qn qc)):=show∀w',_->_ from λw' h=>⟨h.cell 2,h.cell 3,h.cell 4⟩
 have hS1:am wc.drew xb 55 #[vz,vd,T pa D.pn pc,T ka D.kn kc,T qa D.qn qc,M U D.panel,M U D.wait]:=hS
 replace hB:=ap.drew hB
 replace hr:am wc.drew rb 75 #[M U 0,T ag 0 0,T ag 0 0,T ag 0 0,M U 0,aA false]:=hr
 replace hBs:B<=wc.drew.heap.size:=hBs
 clear hS
 refine wp_region_noPanic ?_
 refine wp_region_held_drew (S:=λw'=>am w' xb 55 #[vz,vd,T pa D.pn pc,T ka D.kn kc,T qa D.qn qc,M U D.panel,M U D.wait]) kr hS1 (λ_=>?_)
 refine br 0 hS1 ?_
 refine br 1 hS1 ?_
 refine br 2 hS1 ?_
 refine br 4 hS1 ?_
 refine br 5 hS1 ?_
 refine br 6 hS1 ?_
 refine br 8 hS1 ?_
 refine br 9 hS1 ?_
 refine br 10 hS1 ?_
 refine cL 3 (λK' hK'=>?_)
 refine(gS (-1) D.pn _ om).mono ?_
 rintro e W2 ⟨v101,rfl,ho,hb⟩
 obtain⟨a1,c1,rfl,-⟩:=id ho
 have ho1:=ho.mono (B':=rb+1) (by have:=hr.lt;omega)
 have hS2:=hS1.below hb
 replace hr:=hr.below hb
 have hsz:=hb.size
 replace hB:=hB.trans (hb.mono hBs)
 replace hBs:=aO hBs hsz
 clear hb hsz
 refine bO hK' hS2 ?_
 clear hK' K'
 refine cL 7 (λK' hK'=>?_)
 refine(gS (-1) D.kn _ om).mono ?_
 rintro e W3 ⟨v102,rfl,ho,hb⟩
 obtain⟨a2,c2,rfl,-⟩:=id ho
 have ho2:=ho.mono (B':=rb+1) (by have:=hr.lt;omega)
 have hS3:=hS2.below hb
 replace hr:=hr.below hb
 replace ho1:=ho1.below hb
 have hsz:=hb.size
 replace hB:=hB.trans (hb.mono hBs)
 replace hBs:=aO hBs hsz
 clear hb hsz
 refine bO hK' hS3 ?_
 clear hK' K'
 refine cL 11 (λK' hK'=>?_)
 refine(gS (0) D.qn _ om).mono ?_
 rintro e W4 ⟨v103,rfl,ho,hb⟩
 obtain⟨a3,c3,rfl,-⟩:=id ho
 have ho3:=ho.mono (B':=rb+1) (by have:=hr.lt;omega)
 have hS4:=hS3.below hb
 replace hr:=hr.below hb
 replace ho1:=ho1.below hb
 replace ho2:=ho2.below hb
 have hsz:=hb.size
 replace hB:=hB.trans (hb.mono hBs)
 replace hBs:=aO hBs hsz
 clear hb hsz
 refine bO hK' hS4 ?_
 clear hK' K'
 refine br 12 hS4 ?_
 have kk:=aH hr
 have m0:=hr.frozen 0
 have m1:=hr.frozen 1
 have m2:=hr.frozen 2
 have m3:=hr.frozen 3
 have m4:=hr.frozen 4
 have m5:=hr.frozen 5
 refine cL 13 (λK' hK'=>?_)
 have hr2:=dQ hr (M U 0) (T a1 D.pn c1) (T a2 D.kn c2) (T a3 D.qn c3) (M U (-1)) (aA false)
 have hS9:=fL hS4 (Ne.symm hxr) (M U 0) (T a1 D.pn c1) (T a2 D.kn c2) (T a3 D.qn c3) (M U (-1)) (aA false)
 replace hB:=dO hB hBr (M U 0) (T a1 D.pn c1) (T a2 D.kn c2) (T a3 D.qn c3) (M U (-1)) (aA false)
 replace ho1:=ho1.oth6 (Nat.lt_succ_self rb) (M U 0) (T a1 D.pn c1) (T a2 D.kn c2) (T a3 D.qn c3) (M U (-1)) (aA false)
 replace ho2:=ho2.oth6 (Nat.lt_succ_self rb) (M U 0) (T a1 D.pn c1) (T a2 D.kn c2) (T a3 D.qn c3) (M U (-1)) (aA false)
 replace ho3:=ho3.oth6 (Nat.lt_succ_self rb) (M U 0) (T a1 D.pn c1) (T a2 D.kn c2) (T a3 D.qn c3) (M U (-1)) (aA false)
 generalize((((((W4.setCell ⟨rb,0,ag⟩ (M U 0)).setCell ⟨rb,1,ag⟩ (T a1 D.pn c1)).setCell ⟨rb,2,ag⟩ (T a2 D.kn c2)).setCell ⟨rb,3,ag⟩ (T a3 D.qn c3)).setCell ⟨rb,4,ag⟩ (M U (-1))).setCell ⟨rb,5,ag⟩ (aA false))=W9 at *
 refine bO hK' hS9 ?_
 clear hK' K'
 refine br 14 hS9 ?_
 refine wpAnyH_done kr (NoPanic.normal ?_) _
 exact HKK.out _ _ _ _ _ _ _ _ _ _ _ _ _ (T a1 D.pn c1) (T a2 D.kn c2) (T a3 D.qn c3) _ hB hr2 ⟨ho1.row,ho2.row,ho3.row⟩
end
theorem mI (D:bE) (w:aj) (hV:eP w D) (hE:(eF D).2.2=0):
  aC prog 274 #[aN D.cells] w λe w'=>∃zv hv qv,e=ar (.tuple #[aN (bp D zv hv qv).cells,M U 0])/\gC w' (bp D zv hv qv)/\ap w.heap.size w w':=by
 have hG:=du hE
 have hg1:=hG.pn
 have hg2:=hG.kn
 have hg3:=hG.qn
 have HP:=af (λW (h:ap w.heap.size w W)=>iE D W (hV.below h))
 obtain⟨za,zc,da,dc,pa,pc,ka,kc,qa,qc,HDC,HRz,HRd,HRp,HRk,HRq⟩:=hV.lit
 rw[HDC.out]
 rw[HDC.out,hE]at HP
 obtain⟨W0,HW0,hC,hC2,hB⟩:=o6 w 55 #[T za D.zn zc,T da D.dn dc,T pa D.pn pc,T ka D.kn kc,T qa D.qn qc,M U D.panel,M U D.wait] 75 #[M U 0,T ag 0 0,T ag 0 0,T ag 0 0,M U 0,aA false]
 go_enter func274,ntmps274
 go_upto_region 1 with fail
 rw[HW0.out]
 obtain⟨xb,hxe⟩:=bY w.heap.size
 rw[<-hxe]at hC hC2⊢
 obtain⟨yb,hye⟩:=bY (xb+1)
 rw[<-hye]at hC2⊢
 have hxyb:xb+1=yb:=hye.symm;clear hye
 have hxw:w.heap.size<=xb:=bs hxe.symm;clear hxe HW0
 have xx:=aJ hC
 have yy:=aH hC2
 go_wp2_with fail
 refine aZ (HP.out _ hB) ?_
 intro w1 hb
 obtain⟨hC,hC2,hB⟩:=bM hC hC2 hB hb
 go_upto_region 4 with fail
 refine ws (D:=D) kr hC hC2 om hB om (aO hB.size (aY _)) om om om ?_
 intro _ _ _ _ _ _ _ _ _ _ _ _ _ zv hv qv w9 hB9 hr9 hS9
 (try simp only[Exit.then])
 (try refine‹∀(a:Act) (w:aj),bi prog _ _ a w->_› _ _ ?_)
 unfold bL.cells bp at hr9
 have kk:=aH hr9
 go_wp2_with fail
 refine bG (P:=prog) (fn:=f274) (v:= .tuple #[aN (bp D zv hv qv).cells,M U 0]) ?_ rfl ?_
 ·simp[results,results274,go_sem,bp,bL.cells, *]
 exact⟨zv,hv,qv,rfl,hS9,hB9⟩
end
section
open Tryz
open Go.RowKit Go.Shelf
attribute [local go_sem] Oper.semAt_some
theorem jD (D:bE) (zv hv qv:aw) (w:aj) (hV:eP w D) (hS:gC w (bp D zv hv qv)) (hG:cA D):
  aC prog 439 #[aN D.cells,aN (bp D zv hv qv).cells] w λe w'=>e=ar (aA true)/\ap w.heap.size w w':=by
 have hg1:=hG.zn
 have hg2:=hG.pn
 have hg3:=hG.kn
 have hg4:=hG.qn
 have q1:=aD ((D.zn:Int) - 1) ⟨by omega,by omega⟩
 have q2:=aD ((D.pn:Int) - 1) ⟨by omega,by omega⟩
 have g1:aI 0 0 100000=false:=by decide
 have g2:aI (-1) (-1) 0=false:=by decide
 have g3:aI (-1) (-1) ((D.zn:Int) - 1)=false:=aW.2 ⟨by omega,by omega⟩
 have g4:aI (-1) (-1) ((D.pn:Int) - 1)=false:=aW.2 ⟨by omega,by omega⟩
 have g5:aI 0 0 2=false:=by decide
 obtain⟨za,zc,da,dc,pa,pc,ka,kc,qa,qc,HDC,HRz,HRd,HRp,HRk,HRq⟩:=hV.lit
 obtain⟨a1,c1,a2,c2,a3,c3,hw1,hw2,hw3⟩:=hS.forms
 have hSz:aU w zv D.pn 1 (bw λ_ _=>-1):=hS.z
 have hSh:aU w hv D.kn 1 (bw λ_ _=>-1):=hS.h
 have hSq:aU w qv D.qn 1 (bw λ_ _=>0):=hS.q
 simp only[bp]at hw1 hw2 hw3
 subst hw1 hw2 hw3
 have HSC:bj ((bp D (T a1 D.pn c1) (T a2 D.kn c2) (T a3 D.qn c3)).cells=#[M U 0,T a1 D.pn c1,T a2 D.kn c2,T a3 D.qn c3,M U (-1),aA false]):=show _=_ from rfl
 have HSz:=af hSz
 have HSh:=af hSh
 have HSq:=af hSq
 rw[HDC.out,HSC.out]
 clear hSz hSh hSq
 obtain⟨W0,xb,HW0,hC,hC2,hB⟩:=pf w 55 #[T za D.zn zc,T da D.dn dc,T pa D.pn pc,T ka D.kn kc,T qa D.qn qc,M U D.panel,M U D.wait] 75 #[M U 0,T a1 D.pn c1,T a2 D.kn c2,T a3 D.qn c3,M U (-1),aA false]
 go_enter func439,ntmps439
 go_upto_region 1 with fail
 rw[HW0.out.1,HW0.out.2]
 obtain⟨yb,hye⟩:=bY (xb+1)
 rw[<-hye]at hC2⊢
 clear hye
 clear HW0
 have xx:=aJ hC
 have yy:=aH hC2
 go_wp2_with fail
 refine aR (bC _ _ _ _) ?_
 rintro(_|_) g9<;>(try(rw[g1]at g9;cases g9))
 go_wp2_with fail
 refine aR (bC _ _ _ _) ?_
 rintro(_|_) g9<;>(try(rw[g2]at g9;cases g9))
 go_wp2_with fail
 go_loopw [5,6] (λg t wr=>∃j:Nat,j<=D.pn/\t=M U (j:Int)/\g=aA true/\am wr xb 55 #[T za D.zn zc,T da D.dn dc,T pa D.pn pc,T ka D.kn kc,T qa D.qn qc,M U D.panel,M U D.wait]/\am wr yb 75 #[M U 0,T a1 D.pn c1,T a2 D.kn c2,T a3 D.qn c3,M U (-1),aA false]/\ap w.heap.size w wr) (λ_ t _=>D.pn - (aV t).toNat)
 case atStart=>exact⟨0,aF _,rfl,rfl,hC,hC2,hB⟩
 case round=>
  clear hC hC2 hB
  obtain⟨j,hj,rfl,rfl,hC,hC2,hB⟩:=hrel
  have xx:=aJ hC
  have yy:=aH hC2
  by_cases hlt:j<D.pn
  ·obtain⟨bb,bo,rfl,bl,hc⟩:=(HSz.out.below hB).elem hlt
   have e0:wr.cell? ⟨bb,bo+j,ag⟩=ai (M U (-1)):=eI hc
   have i2:(j:Int)<(D.pn:Int):=om
   have hxl:=hC.lt
   have hyl:=hC2.lt
   go_upto_region 5 with fail
   have HR:=af λw' (hb:ap wr.heap.size wr w')=>uE (aH (hC2.below hb)) (kp e0 hb) (aJ (hC.below hb))
   have hBd:ap wr.heap.size wr wr.drew:=(au _ _).drew
   refine bV hBd ?_
   refine K2 ?_
   refine br 9 hBd ?_
   refine br 10 hBd ?_
   refine cL 11 (λK' hK'=>?_)
   refine aR (bC _ _ _ _) ?_
   rintro(_|_) g9<;>(try(rw[g3]at g9;cases g9))
   exact T13
  have hnj:¬(j:Int)<(D.pn:Int):=om
  go_wp2_with fail
  go_loopw [5,7] (λg t wr=>∃j:Nat,j<=D.kn/\t=M U (j:Int)/\g=aA true/\am wr xb 55 #[T za D.zn zc,T da D.dn dc,T pa D.pn pc,T ka D.kn kc,T qa D.qn qc,M U D.panel,M U D.wait]/\am wr yb 75 #[M U 0,T a1 D.pn c1,T a2 D.kn c2,T a3 D.qn c3,M U (-1),aA false]/\ap w.heap.size w wr) (λ_ t _=>D.kn - (aV t).toNat)
  case atStart=>exact⟨0,aF _,rfl,rfl,hC,hC2,hB⟩
  case round=>
   clear hC hC2 hB
   obtain⟨j,hj,rfl,rfl,hC,hC2,hB⟩:=hrel
   have xx:=aJ hC
   have yy:=aH hC2
   by_cases hlt:j<D.kn
   rotate_left
   ·have hnj:¬(j:Int)<(D.kn:Int):=om
    go_wp2_with fail
    go_loopw [5,8] (λg t wr=>∃j:Nat,j<=D.qn/\t=M U (j:Int)/\g=aA true/\am wr xb 55 #[T za D.zn zc,T da D.dn dc,T pa D.pn pc,T ka D.kn kc,T qa D.qn qc,M U D.panel,M U D.wait]/\am wr yb 75 #[M U 0,T a1 D.pn c1,T a2 D.kn c2,T a3 D.qn c3,M U (-1),aA false]/\ap w.heap.size w wr) (λ_ t _=>D.qn - (aV t).toNat)
    case atStart=>exact⟨0,aF _,rfl,rfl,hC,hC2,hB⟩
    case round=>
     clear hC hC2 hB
     obtain⟨j,hj,rfl,rfl,hC,hC2,hB⟩:=hrel
     have xx:=aJ hC
     have yy:=aH hC2
     by_cases hlt:j<D.qn
     rotate_left
     ·have hnj:¬(j:Int)<(D.qn:Int):=om
      exact gU
     obtain⟨bb,bo,rfl,bl,hc⟩:=(HSq.out.below hB).elem hlt
     have e0:wr.cell? ⟨bb,bo+j,ag⟩=ai (M U (0)):=eI hc
     have i2:(j:Int)<(D.qn:Int):=om
     go_wp2_with fail
     refine aR (bC _ _ _ _) ?_
     rintro(_|_) g9<;>(try(rw[g5]at g9;cases g9))
     go_wp2_with fail
     go_roundw
     case rel=>exact⟨j+1,by omega,by go_num,rfl,hC,hC2,hB⟩
     case measure=>simp[aV];omega
   obtain⟨bb,bo,rfl,bl,hc⟩:=(HSh.out.below hB).elem hlt
   have e0:wr.cell? ⟨bb,bo+j,ag⟩=ai (M U (-1)):=eI hc
   have i2:(j:Int)<(D.kn:Int):=om
   have hxl:=hC.lt
   have hyl:=hC2.lt
   go_upto_region 9 with fail
   have HR:=af λw' (hb:ap wr.heap.size wr w')=>uE (aH (hC2.below hb)) (kp e0 hb) (aJ (hC.below hb))
   have hBd:ap wr.heap.size wr wr.drew:=(au _ _).drew
   refine bV hBd ?_
   refine K2 ?_
   refine br 9 hBd ?_
   refine br 10 hBd ?_
   refine cL 11 (λK' hK'=>?_)
   refine aR (bC _ _ _ _) ?_
   rintro(_|_) g9<;>(try(rw[g4]at g9;cases g9))
   exact T13
theorem mO (D:bE) (zv hv qv:aw) (z:Nat):(bp D zv hv qv).crowd (z:Int)=0:=by
 unfold bL.crowd fR
 simp only[List.countP_eq_zero]
 intro i _
 have:((bp D zv hv qv).Z i==(z:Int))=false:=by unfold bp;simp<;>omega
 simp[this]
theorem jS (D:bE) (zv hv qv:aw) (w:aj) (hV:eP w D) (hS:gC w (bp D zv hv qv)) (hG:cA D):
  aC prog 440 #[aN D.cells,aN (bp D zv hv qv).cells] w λe w'=>e=ar (aA true)/\ap w.heap.size w w':=by
 have hg1:=hG.zn
 have hg2:=hG.pn
 have hg3:=hG.kn
 have hg4:=hG.qn
 have HRoom:=af (λj hj=>(nU (hG.z j hj)).2.2.2.2.2.2.2.2.1)
 have HMa:=af (λ(z:Nat) W (h:ap w.heap.size w W)=>show aC prog 513 #[aN (bp D zv hv qv).cells,M U (z:Int)] W _ from(by have h9:=ju (bp D zv hv qv) z W (hS.below h) (by show D.pn<=8;omega);rw[mO D zv hv qv z]at h9;exact h9))
 have HKe:=af (λ(i:Nat) W (h:ap w.heap.size w W)=>iK D (bp D zv hv qv) i (-1) W (hV.below h) (hS.below h) hG (aY _) (aY _) om)
 obtain⟨za,zc,da,dc,pa,pc,ka,kc,qa,qc,HDC,HRz,HRd,HRp,HRk,HRq⟩:=hV.lit
 obtain⟨a1,c1,a2,c2,a3,c3,hw1,hw2,hw3⟩:=hS.forms
 have hSz:aU w zv D.pn 1 (bw λ_ _=>-1):=hS.z
 have hSh:aU w hv D.kn 1 (bw λ_ _=>-1):=hS.h
 have hSq:aU w qv D.qn 1 (bw λ_ _=>0):=hS.q
 simp only[bp]at hw1 hw2 hw3
 subst hw1 hw2 hw3
 have HSC:bj ((bp D (T a1 D.pn c1) (T a2 D.kn c2) (T a3 D.qn c3)).cells=#[M U 0,T a1 D.pn c1,T a2 D.kn c2,T a3 D.qn c3,M U (-1),aA false]):=show _=_ from rfl
 have HSz:=af hSz
 have HSh:=af hSh
 have HSq:=af hSq
 rw[HDC.out,HSC.out]
 rw[HSC.out]at HMa
 rw[HDC.out,HSC.out]at HKe
 clear hSz hSh hSq
 obtain⟨W0,xb,HW0,hC,hC2,hB⟩:=pf w 55 #[T za D.zn zc,T da D.dn dc,T pa D.pn pc,T ka D.kn kc,T qa D.qn qc,M U D.panel,M U D.wait] 75 #[M U 0,T a1 D.pn c1,T a2 D.kn c2,T a3 D.qn c3,M U (-1),aA false]
 go_enter func440,ntmps440
 go_upto_region 1 with fail
 rw[HW0.out.1,HW0.out.2]
 obtain⟨yb,hye⟩:=bY (xb+1)
 rw[<-hye]at hC2⊢
 clear hye
 clear HW0
 have xx:=aJ hC
 have yy:=aH hC2
 go_wp2_with fail
 go_loopw [5] (λt wr=>∃j:Nat,j<=D.zn/\t=M U (j:Int)/\am wr xb 55 #[T za D.zn zc,T da D.dn dc,T pa D.pn pc,T ka D.kn kc,T qa D.qn qc,M U D.panel,M U D.wait]/\am wr yb 75 #[M U 0,T a1 D.pn c1,T a2 D.kn c2,T a3 D.qn c3,M U (-1),aA false]/\ap w.heap.size w wr) (λt _=>D.zn - (aV t).toNat)
 case atStart=>exact⟨0,aF _,rfl,hC,hC2,hB⟩
 case round=>
  clear hC hC2 hB
  obtain⟨j,hj,rfl,hC,hC2,hB⟩:=hrel
  have xx:=aJ hC
  have yy:=aH hC2
  by_cases hlt:j<D.zn
  ·have hr:=HRoom.out j hlt
   obtain⟨zb,zo,rfl,zl,hc⟩:=(HRz.out.below hB).elem hlt
   have e6:wr.cell? ⟨zb,zo+j*8+6,ag⟩=ai (M U (D.ZR j 6)):=hc 6 om
   have e7:wr.cell? ⟨zb,zo+j*8+7,ag⟩=ai (aA (D.ZB j)):=hc 7 om
   generalize D.ZR j 6=rm at *
   have hr2:¬rm<0:=om
   have i2:(j:Int)<(D.zn:Int):=om
   go_wp2_with fail
   refine aZ (HMa.out j _ hB) ?_
   intro w2 hb
   have f6:=(hb.cell (p:=⟨zb,zo+j*8+6,ag⟩) zl).trans e6
   have f7:=(hb.cell (p:=⟨zb,zo+j*8+7,ag⟩) zl).trans e7
   exact T55
  have hnj:¬(j:Int)<(D.zn:Int):=om
  go_wp2_with fail
  go_loopw [7] (λt wr=>∃j:Nat,j<=D.pn/\t=M U (j:Int)/\am wr xb 55 #[T za D.zn zc,T da D.dn dc,T pa D.pn pc,T ka D.kn kc,T qa D.qn qc,M U D.panel,M U D.wait]/\am wr yb 75 #[M U 0,T a1 D.pn c1,T a2 D.kn c2,T a3 D.qn c3,M U (-1),aA false]/\ap w.heap.size w wr) (λt _=>D.pn - (aV t).toNat)
  case atStart=>exact⟨0,aF _,rfl,hC,hC2,hB⟩
  case round=>
   clear hC hC2 hB
   obtain⟨j,hj,rfl,hC,hC2,hB⟩:=hrel
   have xx:=aJ hC
   have yy:=aH hC2
   by_cases hlt:j<D.pn
   rotate_left
   ·have hnj:¬(j:Int)<(D.pn:Int):=om
    go_wp2_with fail
    go_loopw [8] (λt wr=>∃j:Nat,j<=D.qn/\t=M U (j:Int)/\am wr xb 55 #[T za D.zn zc,T da D.dn dc,T pa D.pn pc,T ka D.kn kc,T qa D.qn qc,M U D.panel,M U D.wait]/\am wr yb 75 #[M U 0,T a1 D.pn c1,T a2 D.kn c2,T a3 D.qn c3,M U (-1),aA false]/\ap w.heap.size w wr) (λt _=>D.qn - (aV t).toNat)
    case atStart=>exact⟨0,aF _,rfl,hC,hC2,hB⟩
    case round=>
     clear hC hC2 hB
     obtain⟨j,hj,rfl,hC,hC2,hB⟩:=hrel
     have xx:=aJ hC
     have yy:=aH hC2
     by_cases hlt:j<D.qn
     rotate_left
     ·have hnj:¬(j:Int)<(D.qn:Int):=om
      exact gU
     obtain⟨bb,bo,rfl,bl,hc⟩:=(HSq.out.below hB).elem hlt
     have e0:wr.cell? ⟨bb,bo+j,ag⟩=ai (M U (0)):=eI hc
     have i2:(j:Int)<(D.qn:Int):=om
     exact sY
   obtain⟨bb,bo,rfl,bl,hc⟩:=(HSz.out.below hB).elem hlt
   have e0:wr.cell? ⟨bb,bo+j,ag⟩=ai (M U (-1)):=eI hc
   have i2:(j:Int)<(D.pn:Int):=om
   have hxl:=hC.lt
   have hyl:=hC2.lt
   go_upto_region 10 with fail
   have HR:=af λw' (hb:ap wr.heap.size wr w')=>uE (aJ (hC.below hb)) (aH (hC2.below hb)) (kp e0 hb)
   have hBd:ap wr.heap.size wr wr.drew:=(au _ _).drew
   refine bV hBd ?_
   refine K2 ?_
   refine K5 ?_
   refine br 15 hBd ?_
   refine br 16 hBd ?_
   refine br 17 hBd ?_
   refine br 18 hBd ?_
   refine br 19 hBd ?_
   refine br 20 hBd ?_
   refine br 21 hBd ?_
   refine br 22 hBd ?_
   refine br 23 hBd ?_
   refine br 24 hBd ?_
   refine br 25 hBd ?_
   refine br 26 hBd ?_
   refine br 27 hBd ?_
   refine br 28 hBd ?_
   refine br 29 hBd ?_
   refine br 30 hBd ?_
   refine br 31 hBd ?_
   refine br 32 hBd ?_
   refine br 33 hBd ?_
   refine cL 34 (λK' hK'=>?_)
   refine ld (HKe.out j _ (ak hB hBd)) ?_
   rintro b9 w9 hb9 hb
   obtain rfl:b9=true:=hb9 om
   have hB1:=ak hBd hb
   clear hb hb9
   refine bO hK' hB1 ?_
   clear hK' K'
   refine br 35 hB1 ?_
   refine br 36 hB1 ?_
   refine wpAnyH_done kr ?_ _
   (try simp only[Exit.then])
   (try refine‹∀(a:Act) (w:aj),bi prog _ _ a w->_› _ _ ?_)
   replace hC:=hC.below hB1
   replace hC2:=hC2.below hB1
   replace hB:=ak hB hB1
   clear HR hBd hB1
   have xx:=aJ hC
   have yy:=aH hC2
   exact sY
end
section
open Tryz
open Go.RowKit Go.Shelf
attribute [local go_sem] Oper.semAt_some
theorem jp (D:bE) (zv hv qv:aw) (w:aj) (hV:eP w D) (hS:gC w (bp D zv hv qv)) (hE:(eF D).2.2=0):
  aC prog 362 #[aN D.cells,aN (bp D zv hv qv).cells] w λe w'=>e=ar (M U 0)/\ap w.heap.size w w':=by
 have hG:=du hE
 have HVa:=af (λW (h:ap w.heap.size w W)=>iE D W (hV.below h))
 have HFo:=af (λW (h:ap w.heap.size w W)=>jD D zv hv qv W (hV.below h) (hS.below h) hG)
 have HSo:=af (λW (h:ap w.heap.size w W)=>jS D zv hv qv W (hV.below h) (hS.below h) hG)
 obtain⟨za,zc,da,dc,pa,pc,ka,kc,qa,qc,HDC,HRz,HRd,HRp,HRk,HRq⟩:=hV.lit
 obtain⟨a1,c1,a2,c2,a3,c3,hw1,hw2,hw3⟩:=hS.forms
 have hSz:aU w zv D.pn 1 (bw λ_ _=>-1):=hS.z
 have hSh:aU w hv D.kn 1 (bw λ_ _=>-1):=hS.h
 have hSq:aU w qv D.qn 1 (bw λ_ _=>0):=hS.q
 simp only[bp]at hw1 hw2 hw3
 subst hw1 hw2 hw3
 have HSC:bj ((bp D (T a1 D.pn c1) (T a2 D.kn c2) (T a3 D.qn c3)).cells=#[M U 0,T a1 D.pn c1,T a2 D.kn c2,T a3 D.qn c3,M U (-1),aA false]):=show _=_ from rfl
 have HSz:=af hSz
 have HSh:=af hSh
 have HSq:=af hSq
 rw[HDC.out,HSC.out]
 rw[HDC.out,hE]at HVa
 rw[HDC.out,HSC.out]at HFo HSo
 clear hSz hSh hSq
 obtain⟨W0,xb,HW0,hC,hC2,hB⟩:=pf w 55 #[T za D.zn zc,T da D.dn dc,T pa D.pn pc,T ka D.kn kc,T qa D.qn qc,M U D.panel,M U D.wait] 75 #[M U 0,T a1 D.pn c1,T a2 D.kn c2,T a3 D.qn c3,M U (-1),aA false]
 go_enter func362,ntmps362
 go_upto_region 1 with fail
 rw[HW0.out.1,HW0.out.2]
 obtain⟨yb,hye⟩:=bY (xb+1)
 rw[<-hye]at hC2⊢
 clear hye
 clear HW0
 have xx:=aJ hC
 have yy:=aH hC2
 go_wp2_with fail
 refine aZ (HVa.out _ hB) ?_
 intro w1 hb
 obtain⟨hC,hC2,hB⟩:=bM hC hC2 hB hb
 have xx:=aJ hC
 have yy:=aH hC2
 go_wp2_with fail
 refine aZ (HFo.out _ hB) ?_
 intro w2 hb
 obtain⟨hC,hC2,hB⟩:=bM hC hC2 hB hb
 have xx:=aJ hC
 have yy:=aH hC2
 go_wp2_with fail
 refine aZ (HSo.out _ hB) ?_
 intro w3 hb
 obtain⟨hC,hC2,hB⟩:=bM hC hC2 hB hb
 have xx:=aJ hC
 have yy:=aH hC2
 exact gU
theorem qu (D:bE) (at_ kind who what wth:Int) (w:aj) (hV:eP w D) (hG:cA D):
  aC prog 363 #[aN D.cells,aN #[M U at_,M U kind,M U who,M U what,M U wth]] w λe w'=>e=ar (M U (dm D at_ kind who what wth))/\ap w.heap.size w w':=by
 have hg1:=hG.zn
 have hg2:=hG.pn
 have hg3:=hG.kn
 have hg4:=hG.qn
 have HZ:=af (λ(n:Int) W (h:ap w.heap.size w W)=>gQ D n W (hV.below h) hg1.2)
 have qz:=aD ((D.zn:Int) - 1) ⟨by omega,by omega⟩
 have qp:=aD ((D.pn:Int) - 1) ⟨by omega,by omega⟩
 have qk:=aD ((D.kn:Int) - 1) ⟨by omega,by omega⟩
 have qq:=aD ((D.qn:Int) - 1) ⟨by omega,by omega⟩
 obtain⟨za,zc,da,dc,pa,pc,ka,kc,qa,qc,HDC,HRz,HRd,HRp,HRk,HRq⟩:=hV.lit
 rw[HDC.out]
 rw[HDC.out]at HZ
 clear hG
 obtain⟨W0,xb,HW0,hC,hC2,hB⟩:=pf w 55 #[T za D.zn zc,T da D.dn dc,T pa D.pn pc,T ka D.kn kc,T qa D.qn qc,M U D.panel,M U D.wait] 294 #[M U at_,M U kind,M U who,M U what,M U wth]
 obtain⟨r,HS⟩:=dR (dm D at_ kind who what wth)
 rw[<-HS.out]
 go_enter func363,ntmps363
 go_upto_region 1 with fail
 rw[HW0.out.1,HW0.out.2]
 obtain⟨yb,hye⟩:=bY (xb+1)
 rw[<-hye]at hC2⊢
 clear hye
 clear HW0
 have xx:=aJ hC
 have yy:=aL hC2
 by_cases hk1:kind=1
 ·subst hk1
  by_cases hw:wth=-1
  ·subst hw
   go_wp2_with fail
   refine aR (bC _ _ _ _) ?_
   rintro(_|_) g2
   rotate_left
   ·exact bU
   go_wp2_with fail
   refine aR (bC _ _ _ _) ?_
   rintro(_|_) gk<;>(try(exact absurd gk (by decide)))
   go_wp2_with fail
   refine aR (bC _ _ _ _) ?_
   rintro(_|_) g3
   rotate_left
   ·exact bU
   by_cases hwh:what=-1
   ·exact wI
   have hwhb:(what != -1)=true:=by simpa using hwh
   go_wp2_with fail
   refine cg (HZ.out what _ hB) ?_
   rintro(_|_) w1 g1 hb
   ·exact T65
   exact T65
  have hwb:(wth==-1)=false:=by simpa using hw
  go_wp2_with fail
  refine aR (bC _ _ _ _) ?_
  rintro(_|_) g7
  rotate_left
  ·exact bU
  go_wp2_with fail
  refine aR (bC _ _ _ _) ?_
  rintro(_|_) gk<;>(try(exact absurd gk (by decide)))
  go_wp2_with fail
  refine aR (bC _ _ _ _) ?_
  rintro(_|_) g8
  rotate_left
  ·exact bU
  by_cases hwh:what=-1
  ·subst hwh
   go_wp2_with fail
   refine aR (bC _ _ _ _) ?_
   rintro(_|_) g4
   rotate_left
   ·exact bU
   by_cases hww:wth=who
   ·subst hww
    exact bU
   exact bU
  have hwhb:(what != -1)=true:=by simpa using hwh
  go_wp2_with fail
  refine cg (HZ.out what _ hB) ?_
  rintro(_|_) w5 g5 hb
  rotate_left
  ·exact T65
  obtain⟨hC,hC2,hB⟩:=bM hC hC2 hB hb
  have xx:=aJ hC
  have yy:=aL hC2
  go_wp2_with fail
  refine aR (bC _ _ _ _) ?_
  rintro(_|_) g6
  rotate_left
  ·exact bU
  by_cases hww:wth=who
  ·subst hww
   exact bU
  exact bU
 by_cases hk4:kind=4
 ·subst hk4
  go_wp2_with fail
  refine aR (bC _ _ _ _) ?_
  rintro(_|_) g11
  rotate_left
  ·exact bU
  go_wp2_with fail
  refine aR (bC _ _ _ _) ?_
  rintro(_|_) gk<;>(try(exact absurd gk (by decide)))
  go_wp2_with fail
  refine aR (bC _ _ _ _) ?_
  rintro(_|_) g12
  rotate_left
  ·exact bU
  go_wp2_with fail
  refine aR (bC _ _ _ _) ?_
  rintro(_|_) g9
  rotate_left
  ·exact bU
  go_wp2_with fail
  refine aR (bC _ _ _ _) ?_
  exact T30
 have hk4b:(kind==4)=false:=by simpa using hk4
 have hk1b:(kind==1)=false:=by simpa using hk1
 go_wp2_with fail
 refine aR (bC _ _ _ _) ?_
 rintro(_|_) g13
 rotate_left
 ·exact bU
 go_wp2_with fail
 refine aR (bC _ _ _ _) ?_
 rintro(_|_) g14
 rotate_left
 ·exact bU
 go_wp2_with fail
 refine aR (bC _ _ _ _) ?_
 rintro(_|_) g15
 rotate_left
 ·exact bU
 have h9:=aW.1 g14
 have hks:kind=2\/kind=3\/kind=5\/kind=6\/kind=7\/kind=8\/kind=9:=om
 clear h9 hk1 hk4 hk1b hk4b
 rcases hks with rfl|rfl|rfl|rfl|rfl|rfl|rfl
 ·go_wp2_with fail
  refine aR (bC _ _ _ _) ?_
  rintro(_|_) g16
  rotate_left
  ·exact bU
  by_cases hw:wth=-1
  ·subst hw
   exact bU
  have hwb:(wth != -1)=true:=by simpa using hw
  exact bU
 ·go_wp2_with fail
  refine aR (bC _ _ _ _) ?_
  rintro(_|_) g17
  rotate_left
  ·exact bU
  by_cases hw:wth=-1
  ·subst hw
   exact bU
  have hwb:(wth != -1)=true:=by simpa using hw
  exact bU
 ·go_wp2_with fail
  refine aR (bC _ _ _ _) ?_
  rintro(_|_) g18
  rotate_left
  ·exact bU
  by_cases hw:wth=-1
  ·subst hw
   exact bU
  have hwb:(wth != -1)=true:=by simpa using hw
  exact bU
 ·go_wp2_with fail
  refine aR (bC _ _ _ _) ?_
  exact T21
 ·go_wp2_with fail
  refine aR (bC _ _ _ _) ?_
  exact T22
 ·go_wp2_with fail
  refine aR (bC _ _ _ _) ?_
  exact T23
 go_wp2_with fail
 refine aR (bC _ _ _ _) ?_
 exact T24
theorem nL (D:bE) (a b:Int) (w:aj) (hV:eP w D) (hn:D.dn<=24):
  aC prog 516 #[aN D.cells,M U a,M U b] w (ExB w λ_=>True):=by
 obtain⟨za,zc,da,dc,pa,pc,ka,kc,qa,qc,HDC,HRz,HRd,HRp,HRk,HRq⟩:=hV.lit
 rw[HDC.out]
 obtain⟨W0,xb,HW0,hC,hB⟩:=eB w 55 #[T za D.zn zc,T da D.dn dc,T pa D.pn pc,T ka D.kn kc,T qa D.qn qc,M U D.panel,M U D.wait]
 go_enter func516,ntmps516
 go_upto_region 1 with fail
 rw[HW0.out.1,HW0.out.2]
 clear HW0
 have xx:=aJ hC
 go_wp2_with fail
 clear xx
 go_loopw [7] (λt wr=>∃j:Nat,j<=D.dn/\t=M U (j:Int)/\am wr xb 55 #[T za D.zn zc,T da D.dn dc,T pa D.pn pc,T ka D.kn kc,T qa D.qn qc,M U D.panel,M U D.wait]/\ap w.heap.size w wr) (λt _=>D.dn - (aV t).toNat)
 case atStart=>exact⟨0,aF _,rfl,hC,hB⟩
 case round=>
  clear hC hB
  obtain⟨j,hj,rfl,hC,hB⟩:=hrel
  have xx:=aJ hC
  by_cases hlt:j<D.dn
  rotate_left
  ·have hnj:¬(j:Int)<(D.dn:Int):=om
   go_wp2_with fail
   go_ret
   exact⟨false,rfl,trivial,hB⟩
  obtain⟨db0,do0,rfl,dl,e0,e1⟩:=(HRd.out.below hB).eI2 hlt
  generalize D.DR j 0=b0 at *
  generalize D.DR j 1=b1 at *
  have i2:(j:Int)<(D.dn:Int):=om
  go_upto_region 5 with fail
  obtain⟨w1,hW9,hN9,hb⟩:=bW wr 242 #[M U b0,M U b1]
  rw[hW9.out]
  clear hW9
  obtain⟨hC,hB⟩:=bS hC hB hb
  generalize wr.heap.size=db at *
  have hD:=hN9
  have dd:=bA hD
  clear hN9 e0 e1 xx
  have xx:=aJ hC
  cases k1:(b0==a)
  ·exact T28
  cases k2:(b1==b)
  rotate_left
  ·go_wp2_with fail
   go_ret
   exact⟨true,rfl,trivial,hB⟩
  exact T28
end
end Go.Proofs.YtbpnallaifdcpaaGreatDoor
