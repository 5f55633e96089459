/- The evaluator, further. -/
import Derived.Test.YtbpnallaifdcpaaGreatDoorEb
set_option linter.unusedVariables false
set_option linter.unusedSimpArgs false
open Go
open Option renaming some→F,none→H
open Go.Result renaming andThen_ok→I
open Go.Sem renaming run_bind→J,run_pure→O
open Go renaming Value→N,TypeId→S,Operand→W,Oper→Z,World→aa
open Bool renaming and_eq_true→Q
open Nat renaming eq_of_beq_eq_true→U
namespace Ev
section
section
variable {D:Array Z->Bool} {E:Env} {ρ:aj} {T:Tr AV} {a:Act} {b:Frame} {n:Nat} {df:List ADef} {st:St} {w:aa} {cs:List Frame} {ev:b8} {ar car:Option Nat} {k:List Item} {ops:Array Z} {o:Z}
theorem g0:∀(l:List Z) (j:Nat),jw l j=l[j]?
 |[],j=>rfl
 |o :: os,j=>by cases j with
  |zero=>rfl
  |succ j=>simp[jw,g0 os j]
theorem ER.get (hE:ER ρ T a.tmps) {t:Nat} {v:AV} (h:T.get t=F v):∃x,a.tmps[t]?=F x/\VR ρ v x:=by
 obtain⟨h1,h2⟩:=hE t v h
 refine⟨a.tmps[t],by simp[h1],?_⟩
 simpa[h1]using h2
theorem bG (hE:ER ρ T a.tmps) {r:Bool} (h:au ops.toList o T=F r):Region.wanted o (yielded ops a.tmps)=r:=by
 have hw:au ops.toList o T=match o.guard with|none=>F true|some g=>dC ops.toList T g:=by
  unfold au;cases o.guard<;>rfl
 rw[hw]at h
 unfold Region.wanted
 cases hg:o.guard with
 |none=>rw[hg]at h;cases h;rfl
 |some g=>
  rw[hg]at h
  obtain⟨j,want⟩:=g
  simp only[dC,g0]at h
  have hj:ops.toList[j]?=ops[j]?:=by simp
  rw[hj]at h
  show(yielded ops a.tmps j==F want)=r
  unfold yielded
  cases ho:ops[j]? with
  |none=>rw[ho]at h;cases h;rfl
  |some o'=>
   rw[ho]at h
   dsimp only at h
   cases hd:o'.dst with
   |none=>rw[hd]at h;cases h;simp[hd]
   |some d=>
    rw[hd]at h
    dsimp only at h
    split at h
    ·rename_i bb hb
     cases h
     obtain⟨x,h1,h2⟩:=hE.get hb
     cases h2
     simp[hd,h1]
    ·rename_i hb
     cases h
     obtain⟨x,h1,h2⟩:=hE.get hb
     cases h2 with
     |tup h3=>cases h3;simp[hd,h1]
    ·cases h
theorem fL {c:Call} (h:o.op= .defer c):(∃d,an E o T st= .defer d)\/∃wy,an E o T st= .no wy:=by
 have:an E o T st=cm E o T st c:=by unfold an;rw[h]
 rw[this]
 unfold cm
 split
 ·split
  ·exact .inl ⟨_,rfl⟩
  ·exact .inl ⟨_,rfl⟩
  ·exact .inr ⟨_,rfl⟩
 ·exact .inr ⟨_,rfl⟩
theorem bB:VR ρ ax undef:= .tup .nil
theorem Sit.put (h:Sit D E ρ b n T df st a w cs) {d:Option Tmp} (hd:jA n d=true) {v:AV} {x:N} {ρ':aj} {st':St} {w':aa} (hm:Mv E (GE D E) ρ st w ρ' st' w') (hv:VR ρ' v x):
  To D E ρ b n st w cs ρ' (aB T d v) df st' (a.put d x) w' cs:=by
 have hle:=hm.ext.mono
 refine⟨⟨hm.rel,(h.er.mono hle).putT (ja hd h.n) hv,by rw[bF];exact h.n,?_,?_⟩,hm.mw, .inl rfl,by rw[hm.u]⟩
 ·have:(a.put d x).defers=a.defers:=by cases d<;>rfl
  rw[this];exact h.df.mono hle
 ·rw[hm.u];exact h.ur.mono hle
theorem Mv.of_mw {ρ':aj} {st':St} {w':aa} {G:aD} (h:Mw E G ρ st w ρ' st' w') (hu:st'.u=st.u):Mv E G ρ st w ρ' st' w':=⟨h.rel,h.ext,h.same,hu⟩
theorem gQ (os:List Z):e7 E ev ar ops.toList (o :: os) T df st=jg E ev ar ops.toList o (e7 E ev ar ops.toList os) T df st:=rfl
theorem jS (hOK:EOK E) (ih:RecOK D E ev) (hop:cW E.P.globals.size n o=true) {i:Nat} {l:List Nat} (ho:ops[i]?=F o) {K:bE}
  (hK:∀T df st ρ a w cs,Sit D E ρ b n T df st a w cs->iR ρ ar car->(ar.isSome=true->st.u=H)->ah D E ρ b car n k st w cs (lone (At b car a (.inRegion ops l :: k)) cs w) (K T df st))
  (h:Sit D E ρ b n T df st a w cs) (har:iR ρ ar car) (hu:ar.isSome=true->st.u=H):
  ah D E ρ b car n k st w cs (lone (At b car a (.inRegion ops (i :: l) :: k)) cs w) (jg E ev ar ops.toList o K T df st):=by
 unfold cW at hop
 simp at hop
 obtain⟨hgo,hdst⟩:=hop
 unfold jg
 cases hw:au ops.toList o T with
 |none=>trivial
 |some r=>
  have hwant:=bG (ops:=ops) h.er hw
  cases r with
  |false=>
   show ah D E ρ b car n k st w cs _ (K (aB T o.dst ax) df st)
   have hs:=dg (P:=E.P) (b:=b) (ar:=car) (a:=a) (k:=k) (cs:=cs) (w:=w) (ops:=ops) (i:=i) (rest:=l) (by simp[ho,hwant])
   simp only[ho,Option.bind_some]at hs
   have ht:=h.put hdst (Mv.refl h.rel) (bB (ρ:=ρ))
   exact .step hs (hK _ _ _ _ _ _ _ ht.sit har hu)
  |true=>
   show ah D E ρ b car n k st w cs _ (kp ev ar o.dst T df K st (an E o T st))
   have hOp:=il hOK h.rel h.er hgo
   have hd:(∀d,an E o T st≠ .defer d)->(∀wy,an E o T st≠ .no wy)->car=H\/∀c,o.op≠ .defer c:=by
    intro h1 h2
    right
    intro c hc
    rcases fL (E:=E) (T:=T) (st:=st) hc with⟨d,hd⟩|⟨wy,hd⟩
    ·exact h1 d hd
    ·exact h2 wy hd
   generalize an E o T st=r at hOp hd⊢
   cases r with
   |val v st'=>
    obtain⟨x,w',ρ',hr,hv,hm⟩:=hOp
    have hs:=dx (P:=E.P) (b:=b) (ar:=car) (k:=k) (cs:=cs) (rest:=l) ho hwant (hd (by simp) (by simp)) hr
    have ht:=h.put hdst hm hv
    exact ah.after ht (.one hs) (hK _ _ _ _ _ _ _ ht.sit (har.mono hm.ext.mono) (λh'=>by rw[hm.u];exact hu h')) (λ_ _ _ _=>rfl) (λ_ _ _ _ _=>rfl)
   |skip st'=>
    obtain⟨w',ρ',hr,hm⟩:=hOp
    have hs:=fi (P:=E.P) (b:=b) (ar:=car) (k:=k) (cs:=cs) (rest:=l) ho hwant (hd (by simp) (by simp)) hr
    have ht:=h.put hdst hm (bB (ρ:=ρ'))
    exact ah.after ht (.one hs) (hK _ _ _ _ _ _ _ ht.sit (har.mono hm.ext.mono) (λh'=>by rw[hm.u];exact hu h')) (λ_ _ _ _=>rfl) (λ_ _ _ _ _=>rfl)
   |enter f args st1=>
    obtain⟨rfl,xs,hr,hxs⟩:=hOp
    have hs:=gD (P:=E.P) (b:=b) (ar:=car) (k:=k) (cs:=cs) (rest:=l) ho hwant (hd (by simp) (by simp)) hr
    show ah D E ρ b car n k st1 w cs _ (dE o.dst T df K (ev (.call f args) st1))
    have hc:=ih.call f args st1 ρ w xs h.rel hxs
    generalize ev (.call f args) st1=out at hc⊢
    cases out with
    |val v st'=>
     obtain⟨e,w',fr,⟨x,ρ',rfl,hv,hm,hu'⟩,hcomes,_,hleave⟩:=hc (At b car a (.inRegion ops (i :: l) :: k) :: cs)
     have hlast:=step_leave_returned (c:=At b car a (.inRegion ops (i :: l) :: k)) (cs:=cs) hleave
     have hf:=aH b car a ops i l k x
     rw[ho]at hf
     rw[hf]at hlast
     have ht:=h.put hdst (Mv.of_mw hm hu') hv
     exact ah.after ht (.head hs (Steps.trans hcomes (.one hlast))) (hK _ _ _ _ _ _ _ ht.sit (har.mono hm.ext.mono) (λh'=>by rw[hu'];exact hu h')) (λ_ _ _ _=>rfl) (λ_ _ _ _ _=>rfl)
    |panic c T' df' st'=>
     obtain⟨e,w',fr,⟨chain,ρ',rfl,hp,hm,hu'⟩,hcomes,_,hleave⟩:=hc (At b car a (.inRegion ops (i :: l) :: k) :: cs)
     have hlast:=step_leave_panicked (c:=At b car a (.inRegion ops (i :: l) :: k)) (cs:=cs) hleave
     rw[cF]at hlast
     have hle:=hm.ext.mono
     exact⟨ρ',a,w',cs,_,chain,⟨⟨hm.rel,h.er.mono hle,h.n,h.df.mono hle,by rw[hu'];exact h.ur.mono hle⟩,hm, .inl rfl,by rw[hu']⟩,hp, .head hs (Steps.trans hcomes (.one hlast))⟩
    |_=>trivial
   |round l' args=>
    obtain⟨lb,e,xs,hl,hxs,hr⟩:=hOp
    show ah D E ρ b car n k st w cs _ (dE o.dst T df K (ev (.round l' args) st))
    have hc:=ih.round l' args st ρ w xs lb e h.rel hxs hl
    have hstep:∀lp,w.heap[lb]?=F (.loop lp)->xs.length=lp.params.size->
      step E.P (lone (At b car a (.inRegion ops (i :: l) :: k)) cs w)= .next (lone (Frame.round lb lp.fn (aM lp xs) lp.assign lp.body .normal) (At b car a (.inRegion ops (i :: l) :: k) :: cs) w):=by
     intro lp hlp hlen
     refine hJ ho hwant (hd (by simp) (by simp)) ?_
     rw[hr]
     have hgo:=ai (P:=E.P) hlp (λ_ _ _ h=>by cases h)
     simp only[Instr.yield,Instr.getLoop,J,hgo,I,O]
     have:¬((⟨xs⟩:Array N).size≠lp.params.size):=by simp[hlen]
     simp only[this,if_false,O]
     rfl
    generalize ev (.round l' args) st=out at hc⊢
    cases out with
    |val v st'=>
     obtain⟨lp,hlp,hlen,hc⟩:=hc
     obtain⟨x,ρ',w',hsteps,hv,hm,hu'⟩:=hc (At b car a (.inRegion ops (i :: l) :: k)) cs
     have hf:=aH b car a ops i l k x
     rw[ho]at hf
     rw[hf]at hsteps
     have ht:=h.put hdst (Mv.of_mw hm hu') hv
     exact ah.after ht (.head (hstep lp hlp hlen) hsteps) (hK _ _ _ _ _ _ _ ht.sit (har.mono hm.ext.mono) (λh'=>by rw[hu'];exact hu h')) (λ_ _ _ _=>rfl) (λ_ _ _ _ _=>rfl)
    |panic c T' df' st'=>
     obtain⟨lp,hlp,hlen,hc⟩:=hc
     obtain⟨chain,ρ',w',hsteps,hp,hm,hu'⟩:=hc (At b car a (.inRegion ops (i :: l) :: k)) cs
     rw[cF]at hsteps
     have hle:=hm.ext.mono
     exact⟨ρ',a,w',cs,_,chain,⟨⟨hm.rel,h.er.mono hle,h.n,h.df.mono hle,by rw[hu'];exact h.ur.mono hle⟩,hm, .inl rfl,by rw[hu']⟩,hp, .head (hstep lp hlp hlen) hsteps⟩
    |_=>trivial
   |defer d=>
    show ah D E ρ b car n k st w cs _ (dV ar o.dst T df K st d)
    unfold dV
    cases ar with
    |some _=>trivial
    |none=>
     cases car with
     |some _=>exact har.elim
     |none=>
      obtain⟨c,hr,hdr⟩:=hOp
      have hs:=j6 (P:=E.P) (b:=b) (k:=k) (cs:=cs) (rest:=l) ho hwant hr
      have h':Sit D E ρ b n T (d :: df) st {a with defers:=c :: a.defers} w cs:=⟨h.rel,h.er,h.n,⟨hdr,h.df⟩,h.ur⟩
      have ht:=h'.put hdst (Mv.refl h.rel) (bB (ρ:=ρ))
      exact .step hs (hK _ _ _ _ _ _ _ ht.sit har hu)
   |recover=>
    show ah D E ρ b car n k st w cs _ (cy ar o.dst T df K st)
    unfold cy
    cases ar with
    |some _=>trivial
    |none=>
     cases car with
     |some _=>exact har.elim
     |none=>
      have hr:(execOp a.eval o).run E.P w= .ok .recover w:=hOp
      have hno:tryRecover (At b H a (.inRegion ops (i :: l) :: k)) cs=H->ah D E ρ b H n k st w cs (lone (At b H a (.inRegion ops (i :: l) :: k)) cs w) (K (aB T o.dst (.val .nilIface)) df st):=by
       intro ht'
       have hs:=ek (P:=E.P) (b:=b) (k:=k) (cs:=cs) (rest:=l) ho hwant hr ht'
       have ht:=h.put hdst (Mv.refl h.rel) (VR.val (ρ:=ρ) .nilIface)
       exact .step hs (hK _ _ _ _ _ _ _ ht.sit har hu)
      have hur:=h.ur
      dsimp only
      split
      ·rename_i v older hst
       rw[hst]at hur
       obtain⟨hkind,c,cs0,rfl,ll,hmode,hpan⟩:=hur
       cases ll with
       |nil=>exact hpan.elim
       |cons p ps=>
        obtain⟨⟨hpv,hprec,hpgo⟩,hps⟩:=hpan
        obtain⟨pv,prec,pgo⟩:=p
        simp only at hprec hpgo hpv
        subst hprec;subst hpgo
        have ht':tryRecover (At b H a (.inRegion ops (i :: l) :: k)) (c :: cs0)=F (pv,{c with mode:= .panicking ({v:=pv,recovered:=true} :: ps)} :: cs0):=by
         unfold tryRecover
         have hk':(At b H a (.inRegion ops (i :: l) :: k)).kind= .deferred:=hkind
         simp only[hk',hmode]
        have hs:=ej (P:=E.P) (b:=b) (k:=k) (rest:=l) ho hwant hr ht'
        have hto:To D E ρ b n st w (c :: cs0) ρ (aB T o.dst v) df {st with u:=F (.panicking (⟨v,true⟩ :: older))} (a.put o.dst pv) w ({c with mode:= .panicking ({v:=pv,recovered:=true} :: ps)} :: cs0):=by
         have ht:=h.put hdst (Mv.refl h.rel) hpv
         refine⟨⟨h.rel.withU _,ht.sit.er,ht.sit.n,ht.sit.df,hkind,_,cs0,rfl,_,rfl,⟨hpv,rfl,rfl⟩,hps⟩,(Mw.refl h.rel).withR _, .inr ⟨by rw[hst];rfl,c,cs0,_,rfl,rfl⟩,by rw[hst];rfl⟩
        exact ah.after hto (.one hs) (hK _ _ _ _ _ _ _ hto.sit har (λh'=>by cases h')) (λ_ _ _ _=>rfl) (λ_ _ _ _ _=>rfl)
      ·rename_i hne
       refine hno ?_
       unfold tryRecover
       cases hst:st.u with
       |none=>
        rw[hst]at hur
        have hk':(At b H a (.inRegion ops (i :: l) :: k)).kind= .normal:=hur
        simp only[hk']
       |some um=>
        rw[hst]at hur
        obtain⟨hkind,c,cs0,rfl,hmode⟩:=hur
        have hk':(At b H a (.inRegion ops (i :: l) :: k)).kind= .deferred:=hkind
        simp only[hk']
        cases um with
        |returning=>
         have hmode':c.mode= .returning:=hmode
         simp only[hmode']
        |panicking pl=>
         obtain⟨ll,hmode',hpan⟩:=hmode
         cases pl with
         |nil=>cases ll with
          |nil=>simp only[hmode']
          |cons _ _=>exact hpan.elim
         |cons p pl=>
          cases ll with
          |nil=>exact hpan.elim
          |cons q ql=>
           obtain⟨pv,prec⟩:=p
           cases prec with
           |false=>exact absurd hst (hne pv pl)
           |true=>
            obtain⟨⟨_,hq,_⟩,_⟩:=hpan
            obtain⟨qv,qr,qg⟩:=q
            simp only at hq
            subst hq
            simp only[hmode']
   |panic v st1=>
    obtain⟨rfl,x,hr,hv⟩:=hOp
    have hs:=gZ (P:=E.P) (b:=b) (ar:=car) (k:=k) (cs:=cs) (rest:=l) ho hwant (hd (by simp) (by simp)) hr
    exact⟨ρ,a,w,cs,_,[{v:=x,recovered:=false}],To.refl h,⟨⟨hv,rfl,rfl⟩,trivial⟩, .one hs⟩
   |no wy=>trivial
theorem fS (hOK:EOK E) (ih:RecOK D E ev):∀(l:List Nat) (os:List Z),l.map (λi=>ops[i]?)=os.map F->(∀o∈os,cW E.P.globals.size n o=true)->
  ∀T df st ρ a w cs,Sit D E ρ b n T df st a w cs->iR ρ ar car->(ar.isSome=true->st.u=H)->
  ah D E ρ b car n k st w cs (lone (At b car a (.inRegion ops l :: k)) cs w) (e7 E ev ar ops.toList os T df st)
 |[],[],_,_,T,df,st,ρ,a,w,cs,h,_,_=>⟨ρ,a,w,cs,To.refl h, .one bW⟩
 |i :: l,o :: os,hl,hall,T,df,st,ρ,a,w,cs,h,har,hu=>by
  simp at hl
  rw[gQ]
  exact jS hOK ih (hall o (List.mem_cons_self ..)) hl.1 (fS hOK ih l os hl.2 (λo ho=>hall o (List.mem_cons_of_mem _ ho))) h har hu
 |[],_ :: _,hl,_,_,_,_,_,_,_,_,_,_,_=>by simp at hl
 |_ :: _,[],hl,_,_,_,_,_,_,_,_,_,_,_=>by simp at hl
end
end
section
section
variable {D:Array Z->Bool} {E:Env} {ρ:aj} {T:Tr AV} {a:Act} {b:Frame} {n:Nat} {df:List ADef} {st:St} {w:aa} {cs:List Frame} {ev:b8} {ar car:Option Nat} {k:List Item} {ops:Array Z} {o:Z} {f:FuncId}
def dt (D:Array Z->Bool) (E:Env) (ev:b8):Prop:=
 ∀(ops:Array Z) (t n:Nat) (T:Tr AV) (df:List ADef) (st:St) (ρ:aj) (b:Frame) (ar car:Option Nat) (k:List Item) (a:Act) (w:aa) (cs:List Frame),D ops=true->ops.all (cW E.P.globals.size n)=true->
  Sit D E ρ b n T df st a w cs->iR ρ ar car->(ar.isSome=true->st.u=H)->
  ah D E ρ b car n k st w cs (lone (At b car a (.inRegion ops (Region.linearise .any ops t) :: k)) cs w) (b9 E ev ops.toList (jV ops) T df st)
theorem jl (hOK:EOK E) (hm:E.P.follows .mixedOrders=true) (ih:RecOK D E ev) (hdr:dt D E ev) {id:Nat} {d:Bool} (hg:goodC D E.P.globals.size n (.region id ops d)=true)
  (h:Sit D E ρ b n T df st a w cs) (har:iR ρ ar car) (hu:ar.isSome=true->st.u=H):
  ah D E ρ b car n k st w cs (lone (At b car a (.code (.region id ops d) :: k)) cs w) (gR E ev ar ops d T df st):=by
 simp only[goodC,Q]at hg
 cases d with
 |false=>
  show ah D E ρ b car n k st w cs _ (e7 E ev ar ops.toList ops.toList T df st)
  refine .step jL (fS hOK ih _ _ ?_ ?_ _ _ _ _ _ _ _ h har hu)
  ·apply List.ext_getElem?
   intro i
   by_cases hi:i<ops.size
   ·simp[hi]
   ·simp[hi]
  ·intro o ho
   exact(Array.all_eq_true_iff_forall_mem.1 hg.1) o (by simpa using ho)
 |true=>
  show ah D E ρ b car n k st w cs _ (b9 E ev ops.toList (jV ops) T df st)
  have hDops:D ops=true:=by simpa using hg.2
  let w1:aa:={w with drawn:=w.drawn+1}
  have h1:Sit D E ρ b n T df st a w1 cs:=⟨h.rel,h.er,h.n,h.df,h.ur⟩
  have hto:To D E ρ b n st w cs ρ T df st a w1 cs:=⟨h1,⟨h.rel,Ext.refl _ _ _,⟨rfl,rfl,rfl⟩⟩, .inl rfl,rfl⟩
  have hs:=eR (P:=E.P) (b:=b) (ar:=car) (a:=a) (k:=k) (cs:=cs) (w:=w) (ops:=ops) (id:=id)
  simp only[Region.schedule,hm,Bool.true_or,if_true]at hs
  exact ah.after hto (.one hs) (hdr ops _ n T df st ρ b ar car k a w1 cs hDops hg.1 h1 har hu) (λ_ _ _ _=>rfl) (λ_ _ _ _ _=>rfl)
theorem To.uNone {ρ':aj} {T':Tr AV} {df':List ADef} {st':St} {a':Act} {w':aa} {cs':List Frame} (hto:To D E ρ b n st w cs ρ' T' df' st' a' w' cs') (hu:ar.isSome=true->st.u=H):ar.isSome=true->st'.u=H:=by
 intro h'
 have h1:=hu h'
 have h2:=hto.u
 rw[h1]at h2
 cases hst:st'.u with
 |none=>rfl
 |some _=>rw[hst]at h2;cases h2
theorem da (ih:RecOK D E ev) {c2:Code} {it:Item} {m:Machine} {out:Out} (hit:Entry it c2) (hex:∀id,exitTo id (it :: k)=exitTo id k) (hg:goodC D E.P.globals.size n c2=true)
  (har:iR ρ ar car) (hu:ar.isSome=true->st.u=H) (hbf:b.fn=f) (hfn:∃fn,E.P.funcs[f]?=F fn) (h1:ah D E ρ b car n (it :: k) st w cs m out):
  ah D E ρ b car n k st w cs m (gp ev ar c2 f out):=by
 cases out with
 |no w=>trivial
 |val v s=>trivial
 |normal T' df' st'=>
  obtain⟨ρ',a',w',cs',hto,hs⟩:=h1
  exact ah.after hto hs (ih.code ar c2 T' df' f st' ρ' b car n k a' w' cs' hto.sit hg (har.mono hto.mw.ext.mono) (hto.uNone hu) hbf hfn it hit) (λ_ _ _ _=>rfl) (λ_ _ _ _ _=>rfl)
 |exit id T' df' st'=>
  obtain⟨ρ',a',w',cs',k',hto,he,hs⟩:=h1
  exact⟨ρ',a',w',cs',k',hto,he.trans (hex id),hs⟩
 |ret T' df' st'=>exact h1
 |panic c T' df' st'=>exact h1
theorem gc {id:Nat} {m:Machine} {out:Out} (h1:ah D E ρ b car n (.inBlock id :: k) st w cs m out):ah D E ρ b car n k st w cs m (fH id out):=by
 cases out with
 |no w=>trivial
 |val v s=>trivial
 |normal T' df' st'=>
  obtain⟨ρ',a',w',cs',hto,hs⟩:=h1
  exact⟨ρ',a',w',cs',hto,hs.trans (.one iG)⟩
 |exit id' T' df' st'=>
  obtain⟨ρ',a',w',cs',k',hto,he,hs⟩:=h1
  show ah D E ρ b car n k st w cs m (@Bool.rec (λ_=>Out) (.exit id' T' df' st') (.normal T' df' st') (Nat.beq id' id))
  cases hb:Nat.beq id' id with
  |true=>
   have:=U hb
   subst this
   have he':exitTo id' k'=F k:=by rw[he];simp[exitTo]
   exact⟨ρ',a',w',cs',hto,hs.trans (.one (kK he'))⟩
  |false=>
   have hne:=Nat.ne_of_beq_eq_false hb
   have he':exitTo id' k'=exitTo id' k:=by
    rw[he]
    have:(id==id')=false:=by simpa using λh=>hne h.symm
    simp[exitTo,this]
   exact⟨ρ',a',w',cs',k',hto,he',hs⟩
 |ret T' df' st'=>exact h1
 |panic c T' df' st'=>exact h1
theorem j3 {c:Code} {m:Machine} {out:Out} (h1:ah D E ρ b car n (.inScope c :: k) st w cs m out):ah D E ρ b car n k st w cs m out:=by
 cases out with
 |no w=>trivial
 |val v s=>trivial
 |normal T' df' st'=>
  obtain⟨ρ',a',w',cs',hto,hs⟩:=h1
  exact⟨ρ',a',w',cs',hto,hs.trans (.one iU)⟩
 |exit id' T' df' st'=>exact h1
 |ret T' df' st'=>exact h1
 |panic c T' df' st'=>exact h1
theorem gJ (ih:RecOK D E ev) {c:W} {x y:Code} (hg:goodC D E.P.globals.size n (.cond c x y)=true) (h:Sit D E ρ b n T df st a w cs) (har:iR ρ ar car) (hu:ar.isSome=true->st.u=H) (hbf:b.fn=f) (hfn:∃fn,E.P.funcs[f]?=F fn):
  ah D E ρ b car n k st w cs (lone (At b car a (.code (.cond c x y) :: k)) cs w) (gP ev ar x y T df f st (V T c)):=by
 simp only[goodC,Q]at hg
 have hv:=VR.evalO h.er (λi hi=>h.rel.glob i hi) hg.1.1
 generalize hz:a.eval c=z at hv
 generalize V T c=v at hv
 cases hv<;>try trivial
 rename_i t
 have hs:=kN (P:=E.P) (b:=b) (ar:=car) (k:=k) (cs:=cs) (w:=w) (x:=x) (y:=y) hz
 cases t with
 |true=>exact .step hs (ih.code ar x T df f st ρ b car n k a w cs h hg.1.2 har hu hbf hfn _ (.code x))
 |false=>exact .step hs (ih.code ar y T df f st ρ b car n k a w cs h hg.2 har hu hbf hfn _ (.code y))
theorem gq {ps:Array Tmp} {as bd:Code} (hg:goodC D E.P.globals.size n as=true/\goodC D E.P.globals.size n bd=true) (hps:∀t∈ps,t<n) (h:Sit D E ρ b n T df st a w cs) (har:iR ρ ar car)
  {d:Nat} {mark:List ADef} {s1:St} (hr:cJ ar st=F (d,mark,s1)):
  ∃lb cmark w' ρ',(Instr.enterLoop f a.tmps ps as bd car).run E.P w= .ok (lb,cmark) w'/\Mv E (GE D E) ρ st w ρ' (s1.new (.loop .ready H f T ps.toList as bd d)) w'/\ρ' s1.n=F (lb,0)/\fN ρ' mark cmark:=by
 have mk:∀(ρ1:aj) (s1:St) (w1:aa) (db e:Nat),Mv E (GE D E) ρ st w ρ1 s1 w1->ρ1 d=F (db,e)->∃w' ρ',(newObj (.loop {state:= .ready,pending:=H,fn:=f,tmps:=a.tmps,params:=ps,assign:=as,body:=bd,defers:=db})).run E.P w1= .ok w1.heap.size w'/\
   Mv E (GE D E) ρ st w ρ' (s1.new (.loop .ready H f T ps.toList as bd d)) w'/\ρ' s1.n=F (w1.heap.size,0)/\Le ρ1 ρ':=by
  intro ρ1 s1 w1 db e hm hd
  obtain⟨w',h1,h2⟩:=bx (E:=E) (ρ:=ρ1) (st:=s1) (w:=w1) hm.rel (ob:= .loop .ready H f T ps.toList as bd d) (o':= .loop {state:= .ready,pending:=H,fn:=f,tmps:=a.tmps,params:=ps,assign:=as,body:=bd,defers:=db})
   (.loop _ {hstate:=rfl,hpend:=rfl,hfn:=rfl,tmps:=h.er.mono hm.ext.mono,hparams:=rfl,hassign:=rfl,hbody:=rfl,defers:=⟨db,e,hd,rfl⟩,
             goodA:=fb h.n hg.1,goodB:=fb h.n hg.2,inb:=λt ht=>Nat.lt_of_lt_of_le (hps t (by simpa using ht)) h.n,goodP:=λc hc=>by cases hc})
  exact⟨w',_,h1,hm.trans h2,ae _ _ _ _,h2.ext.mono⟩
 cases ar with
 |none=>
  cases car with
  |some _=>exact har.elim
  |none=>
   simp only[cJ,Option.some.injEq,Prod.mk.injEq]at hr
   obtain⟨rfl,rfl,rfl⟩:=hr
   obtain⟨w1,h1,h2⟩:=bx (E:=E) (w:=w) h.rel (ob:= .deferred []) (o':= .deferred (F [])) (.deferred [] trivial)
   obtain⟨w',ρ',h3,h4,h5,h6⟩:=mk _ _ w1 w.heap.size 0 h2 (ae _ _ _ _)
   refine⟨w1.heap.size,[{target:= .collected w.heap.size,args:=#[]}],w',ρ',?_,h4,h5,⟨⟨w.heap.size,0,h6 _ _ (ae _ _ _ _),rfl,rfl⟩,trivial⟩⟩
   simp only[Instr.enterLoop,J,h1,I,O,h3]
 |some l=>
  cases car with
  |none=>exact har.elim
  |some lb0=>
   obtain⟨e0,hl⟩:=har
   simp only[cJ]at hr
   split at hr
   ·rename_i q1 q2 q3 q4 q5 q6 q7 q8 hg'
    simp at hr
    obtain⟨rfl,rfl,rfl⟩:=hr
    obtain⟨ob,hb,hor⟩:=h.rel.obj _ _ _ _ hg' hl
    cases hor with
    |loop lp hlp=>
    obtain⟨db,e1,hd1,hd2⟩:=hlp.defers
    have hgo:=ai (P:=E.P) hb (λ_ _ _ h=>by cases h)
    obtain⟨w',ρ',h3,h4,h5,h6⟩:=mk ρ st w db e1 (Mv.refl h.rel) hd1
    refine⟨w.heap.size,[],w',ρ',?_,h4,h5,trivial⟩
    simp only[Instr.enterLoop,Instr.getLoop,J,hgo,I,O,hd2,h3]
   ·cases hr
theorem fN.append:∀{ds es:List ADef} {xs ys:List Deferred},fN ρ ds xs->fN ρ es ys->fN ρ (ds++es) (xs++ys)
 |[],_,[],_,_,h=>h
 |_ :: _,_,_ :: _,_,h,h'=>⟨h.1,fN.append h.2 h'⟩
 |[],_,_ :: _,_,h,_=>h.elim
 |_ :: _,_,[],_,h,_=>h.elim
theorem gC (ih:RecOK D E ev) {l lb e:Nat} {T':Tr AV} {df':List ADef} {s':St} {a':Act} {w':aa} {cs':List Frame} (h:Sit D E ρ b n T' df' s' a' w' cs') (hl:ρ l=F (lb,e)) (har:iR ρ ar car) (hu:ar.isSome=true->s'.u=H) (hbf:b.fn=f) (hfn:∃fn,E.P.funcs[f]?=F fn) {v:AV}:
  ah D E ρ b car n k s' w' cs' (lone (At b car a' (.endRangeFunc lb :: k)) cs' w') (e8 ev ar l T' df' f (.val v s')):=by
 unfold e8
 dsimp only
 split
 ·rename_i lst pend q1 q2 q3 q4 q5 q6 hg
  obtain⟨ob,hb,hor⟩:=h.rel.obj _ _ _ _ hg hl
  cases hor with
  |loop lp hlp=>
  have hgo:=ai (P:=E.P) hb (λ_ _ _ h=>by cases h)
  split
  ·trivial
  ·rename_i hnb
   have hnew:OR E (GE D E) ρ e (.loop .exhausted pend q1 q2 q3 q4 q5 q6) (.loop {lp with state:= .exhausted}):=
    .loop _ {hstate:=rfl,hpend:=hlp.hpend,hfn:=hlp.hfn,tmps:=hlp.tmps,hparams:=hlp.hparams,hassign:=hlp.hassign,hbody:=hlp.hbody,defers:=hlp.defers,goodA:=hlp.goodA,goodB:=hlp.goodB,inb:=hlp.inb,goodP:=hlp.goodP}
   obtain⟨w2,r1,r2⟩:=aG h.rel hl hg hb (λ_ _ _ h=>by cases h) hnew
   have hbusy:(lp.state==LoopState.busy)=false:=by
    rw[hlp.hstate]
    cases lst<;>first|rfl|exact absurd rfl hnb
   have hrun:(Instr.endLoop lb).run E.P w'= .ok lp.pending w2:=by
    simp only[Instr.endLoop,Instr.getLoop,J,hgo,I,O,hbusy,Bool.false_eq_true,if_false,r1]
   have hs:=gF (b:=b) (ar:=car) (a:=a') (k:=k) (cs:=cs') hrun
   have hto:To D E ρ b n s' w' cs' ρ T' df' (s'.upd l (F (.loop .exhausted pend q1 q2 q3 q4 q5 q6))) a' w2 cs':=
    ⟨⟨r2.rel,h.er,h.n,h.df,h.ur⟩,r2.mw, .inl rfl,rfl⟩
   rw[hlp.hpend]at hs
   cases pend with
   |none=>exact⟨ρ,a',w2,cs',hto, .one hs⟩
   |some c=>
    have hgc:goodC D E.P.globals.size n c=true:=by
     rcases hlp.goodP c rfl with rfl|⟨id,rfl⟩<;>rfl
    exact ah.after hto (.one hs) (ih.code ar c T' df' f _ ρ b car n k a' w2 cs' hto.sit hgc har (λh'=>hu h') hbf hfn _ (.code c)) (λ_ _ _ _=>rfl) (λ_ _ _ _ _=>rfl)
 ·trivial
theorem iE (hOK:EOK E) (ih:RecOK D E ev) {g:W} {ps:Array Tmp} {as bd:Code} (hg:goodC D E.P.globals.size n (.rangeFunc g ps as bd)=true) (h:Sit D E ρ b n T df st a w cs) (har:iR ρ ar car) (hu:ar.isSome=true->st.u=H) (hbf:b.fn=f) (hfn:∃fn,E.P.funcs[f]?=F fn):
  ah D E ρ b car n k st w cs (lone (At b car a (.code (.rangeFunc g ps as bd) :: k)) cs w) (gt E ev ar g ps as bd T df f st):=by
 simp only[goodC,Q]at hg
 obtain⟨⟨⟨hgx,hps⟩,hga⟩,hgb⟩:=hg
 have hps':∀t∈ps,t<n:=λt ht=>by simpa[Nat.blt_eq]using(Array.all_eq_true_iff_forall_mem.1 hps) t ht
 unfold gt
 split
 ·trivial
 ·rename_i d mark s1 hr
  obtain⟨lb,cmark,w1,ρ1,h1,h2,h3,h4⟩:=gq (f:=f) ⟨hga,hgb⟩ hps' h har hr
  have hle:=h2.ext.mono
  have hgv:VR ρ1 (V T g) (a.eval g):=(VR.evalO h.er (λi hi=>h.rel.glob i hi) hgx).mono hle
  have hyld:VRs ρ1 [AV.yld s1.n] [.func (.yield lb) #[] #[]]:= .cons (.yld h3) .nil
  let s2:=s1.new (.loop .ready H f T ps.toList as bd d)
  split
  ·rename_i f' args s3 hcv
   obtain⟨rfl,xs,hrun,hxs⟩:=d7 hOK hgv hyld hcv w1
   let a1:Act:={a with defers:=cmark++a.defers}
   have hsit1:Sit D E ρ1 b n T (mark++df) s2 a1 w1 cs:=by
    refine⟨h2.rel,h.er.mono hle,h.n,?_,?_⟩
    ·exact fN.append h4 (h.df.mono hle)
    ·have:s2.u=st.u:=h2.u
     rw[this];exact h.ur.mono hle
   have hstep:=ga (P:=E.P) (b:=b) (ar:=car) (a:=a) (k:=k) (cs:=cs) (f:=g) (ps:=ps) (as:=as) (bd:=bd) (by rw[hbf];exact h1) (w2:=w1) (g:=f') (args:=⟨xs⟩) (by
    simp only[resolve,gX]
    have:({a with defers:=cmark++a.defers}:Act).eval g=a.eval g:=by cases g<;>rfl
    simp only[this]
    have hmap:∀(ρ:W->N),(#[W.const (N.func (Fn.yield lb) #[] #[])]:Array W).map ρ=⟨[ρ (W.const (N.func (Fn.yield lb) #[] #[]))]⟩:=λρ=>by simp
    rw[hmap]
    exact hrun)
   have hto:To D E ρ b n st w cs ρ1 T (mark++df) s2 a1 w1 cs:=⟨hsit1,h2.mw, .inl rfl,by rw[h2.u]⟩
   have hc:=ih.call f' args s2 ρ1 w1 xs h2.rel hxs
   generalize ev (.call f' args) s2=out at hc⊢
   cases out with
   |val v st'=>
    obtain⟨e,w',fr,⟨x,ρ',rfl,hv,hm,hu'⟩,hcomes,_,hleave⟩:=hc (At b car a1 (.inRangeFunc lb :: k) :: cs)
    have hlast:=step_leave_returned (c:=At b car a1 (.inRangeFunc lb :: k)) (cs:=cs) hleave
    rw[eT]at hlast
    have hle2:=hm.ext.mono
    have hto2:To D E ρ1 b n s2 w1 cs ρ' T (mark++df) st' a1 w' cs:=⟨⟨hm.rel,hsit1.er.mono hle2,h.n,hsit1.df.mono hle2,by rw[hu'];exact hsit1.ur.mono hle2⟩,hm, .inl rfl,by rw[hu']⟩
    exact ah.after (hto.trans hto2) (.head hstep (Steps.trans hcomes (.one hlast)))
     (gC ih hto2.sit (hle2 _ _ h3) ((har.mono hle).mono hle2) ((hto.trans hto2).uNone hu) hbf hfn) (λ_ _ _ _=>rfl) (λ_ _ _ _ _=>rfl)
   |panic c T' df' st'=>
    obtain⟨e,w',fr,⟨chain,ρ',rfl,hp,hm,hu'⟩,hcomes,_,hleave⟩:=hc (At b car a1 (.inRangeFunc lb :: k) :: cs)
    have hlast:=step_leave_panicked (c:=At b car a1 (.inRangeFunc lb :: k)) (cs:=cs) hleave
    rw[cF]at hlast
    have hle2:=hm.ext.mono
    have hto2:To D E ρ1 b n s2 w1 cs ρ' T (mark++df) st' a1 w' cs:=⟨⟨hm.rel,hsit1.er.mono hle2,h.n,hsit1.df.mono hle2,by rw[hu'];exact hsit1.ur.mono hle2⟩,hm, .inl rfl,by rw[hu']⟩
    exact⟨ρ',a1,w',cs,_,chain,hto.trans hto2,hp, .head hstep (Steps.trans hcomes (.one hlast))⟩
   |_=>trivial
  ·trivial
end
end
section
section
variable {D:Array Z->Bool} {E:Env} {ρ:aj} {T:Tr AV} {a:Act} {b:Frame} {n:Nat} {df:List ADef} {st:St} {w:aa} {cs:List Frame} {ev:b8} {ar car:Option Nat} {k:List Item} {ops:Array Z} {o:Z} {f:FuncId}
theorem jK (hOK:EOK E) (hm:E.P.follows .mixedOrders=true) (ih:RecOK D E ev) (hdr:dt D E ev) {c:Code} (h:Sit D E ρ b n T df st a w cs) (hg:goodC D E.P.globals.size n c=true) (har:iR ρ ar car)
  (hu:ar.isSome=true->st.u=H) (hbf:b.fn=f) (hfn:∃fn,E.P.funcs[f]?=F fn) {it:Item} (hit:Entry it c):
  ah D E ρ b car n k st w cs (lone (At b car a (it :: k)) cs w) (km E ev ar c T df f st):=by
 cases hit with
 |loop c1=>
  refine .step jJ ?_
  exact da (k:=k) ih (.loop c1) (λ_=>rfl) hg har hu hbf hfn (ih.code ar c1 T df f st ρ b car n (.inLoop c1 :: k) a w cs h hg har hu hbf hfn _ (.code c1))
 |code c=>
 cases c with
 |skip=>exact .step kI ⟨ρ,a,w,cs,To.refl h,Steps.refl _ _⟩
 |region id ops d=>exact jl hOK hm ih hdr hg h har hu
 |seq x y=>
  have hg':=hg
  simp only[goodC,Q]at hg'
  exact .step kZ (da (k:=k) ih (.code y) (λ_=>rfl) hg'.2 har hu hbf hfn (ih.code ar x T df f st ρ b car n (.code y :: k) a w cs h hg'.1 har hu hbf hfn _ (.code x)))
 |cond c x y=>exact gJ ih hg h har hu hbf hfn
 |block id x=>exact .step ko (gc (ih.code ar x T df f st ρ b car n (.inBlock id :: k) a w cs h hg har hu hbf hfn _ (.code x)))
 |loop c1=>
  refine .step kJ ?_
  exact da (k:=k) ih (.loop c1) (λ_=>rfl) hg har hu hbf hfn (ih.code ar c1 T df f st ρ b car n (.inLoop c1 :: k) a w cs h hg har hu hbf hfn _ (.code c1))
 |rangeFunc g ps as bd=>exact iE hOK ih hg h har hu hbf hfn
 |exit id=>exact⟨ρ,a,w,cs,k,To.refl h,rfl,Steps.refl _ _⟩
 |scope x=>exact .step j1 (j3 (ih.code ar x T df f st ρ b car n (.inScope x :: k) a w cs h hg har hu hbf hfn _ (.code x)))
 |label l=>exact .step j5 ⟨ρ,a,w,cs,To.refl h,Steps.refl _ _⟩
 |goto l=>trivial
 |ret=>exact⟨ρ,a,w,cs,k,To.refl h,Steps.refl _ _⟩
 |refuse s=>trivial
theorem gT:∀(as:List AV) (t:Tr AV) (i m:Nat) (v:AV),(load t i as).get m=F v->(t.get m=F v/\(m<i\/i+as.length<=m))\/(i<=m/\as[m - i]?=F v)
 |[],t,i,m,v,h=> .inl ⟨h,by simp;omega⟩
 |x :: as,t,i,m,v,h=>by
  have h':(load (t.put bits i (F x)) (i+1) as).get m=F v:=h
  rcases gT as _ (i+1) m v h' with⟨h1,h2⟩|⟨h1,h2⟩
  ·rcases Tr.put_some h1 with⟨rfl,hx⟩|⟨hne,hx⟩
   ·cases hx;right;simp
   ·left
    refine⟨hx,?_⟩
    rcases h2 with h2|h2
    ·left;omega
    ·right;simp;omega
  ·right
   refine⟨by omega,?_⟩
   have:m - i=(m - (i+1))+1:=by omega
   rw[this];simpa using h2
theorem VRs.getElem {as:List AV} {xs:List N} (h:VRs ρ as xs) {m:Nat} {v:AV} (hv:as[m]?=F v):∃x,xs[m]?=F x/\VR ρ v x:=by
 induction as generalizing xs m with
 |nil=>simp at hv
 |cons a as ih=>
  cases h with
  |cons h hs=>
   cases m with
   |zero=>simp at hv;subst hv;exact⟨_,by simp,h⟩
   |succ m=>simp at hv;simpa using ih hs hv
theorem ER.load {args:List AV} {xs:List N} (h:VRs ρ args xs) (n:Nat):ER ρ (load .nil 0 args) ((⟨xs⟩:Array N)++Array.replicate n undef):=by
 intro m v hv
 rcases gT args _ 0 m v hv with⟨h1,_⟩|⟨_,h2⟩
 ·simp at h1
 ·obtain⟨x,h3,h4⟩:=h.getElem h2
  simp at h3
  have hlt:m<xs.length:=by
   rcases Nat.lt_or_ge m xs.length with h|h
   ·exact h
   ·simp[List.getElem?_eq_none h]at h3
  refine⟨by simp;omega,?_⟩
  have:((⟨xs⟩:Array N)++Array.replicate n undef).getD m undef=x:=by
   simp
   rw[Array.getElem?_append_left (by simpa using hlt)]
   simp[h3]
  rw[this];exact h4
theorem fQ (hB:BOK D E) {fn:Func} {c:Code} (hf:E.fn f=F fn) (hb:fn.body=F c) {args:List AV} {xs:List N} (hR:Rel E (GE D E) ρ st w.heap) (hxs:VRs ρ args xs)
  (hbk:UR ρ b st.u cs):Sit D E ρ b fn.ntmps (load .nil 0 args) [] st {tmps:=⟨xs⟩++Array.replicate (fn.ntmps - xs.length) undef,defers:=[]} w cs:=
 ⟨hR,ER.load hxs _,by simp;omega,trivial,hbk⟩
theorem bY (hOK:EOK E) {fn:Func} {c:Code} (hf:E.fn f=F fn) (hb:fn.body=F c) (xs:List N) (kind:CallKind):
  Frame.enter E.P f ⟨xs⟩ kind=At {(default:Frame)with fn:=f,kind:=kind} H {tmps:=⟨xs⟩++Array.replicate (fn.ntmps - xs.length) undef,defers:=[]} [.code c]:=by
 simp[Frame.enter,At,hOK.fn _ _ hf,hb]
theorem k9.none {cs cs':List Frame} (h:k9 H cs cs'):cs'=cs:=by
 rcases h with h|⟨h,_⟩
 ·exact h
 ·cases h
theorem eK (hOK:EOK E) (hB:BOK D E) (ih:RecOK D E ev) {args:List AV} {xs:List N} (hR:Rel E (GE D E) ρ st w.heap) (hxs:VRs ρ args xs):fg D E ρ f xs st w (eB E ev f args st):=by
 unfold eB
 split
 ·trivial
 ·rename_i fn hf
  unfold i7
  split
  ·trivial
  ·rename_i c hb
   have hfn:=hOK.fn _ _ hf
   let b:Frame:={(default:Frame)with fn:=f,kind:= .normal}
   let a0:Act:={tmps:=⟨xs⟩++Array.replicate (fn.ntmps - xs.length) undef,defers:=[]}
   have hg:=hB.body f fn c hf hb
   have main:∀cs,ah D E ρ b H fn.ntmps [] {st with u:=H} w cs (lone (At b H a0 [.code c]) cs w) (ev (.code H c (load .nil 0 args) [] f) {st with u:=H}):=λcs=>
    ih.code H c _ [] f {st with u:=H} ρ b H fn.ntmps [] a0 w cs (fQ hB hf hb (hR.withU H) hxs rfl) hg trivial (λh=>by cases h) rfl ⟨fn,hfn⟩ _ (.code c)
   have lv:∀(T:Tr AV) (df:List ADef) (s':St) (u:AMode),(∀cs,∃ρ' a' w' fr mode,To D E ρ b fn.ntmps {st with u:=H} w cs ρ' T df s' a' w' cs/\aO ρ' u mode/\fr.mode=mode/\fr.defers=a'.defers/\fr.tmps=a'.tmps/\fr.fn=f/\fr.kind= .normal/\
     Steps E.P (lone (Frame.enter E.P f ⟨xs⟩ .normal) cs w) (lone fr cs w'))->fg D E ρ f xs st w (ev (.leave fn T df u) {s' with u:=st.u}):=by
    intro T df s' u hall
    cases hout2:ev (.leave fn T df u) {s' with u:=st.u}with
    |val v st2=>
     intro cs
     obtain⟨ρ',a',w',fr,mode,hto,hmr,h1,h2,h3,h4,h5,hs⟩:=hall cs
     have hl:=ih.leave fn T df u {s' with u:=st.u} ρ' a' mode w' (hto.sit.rel.withU _) hto.sit.er hto.sit.df hmr
     rw[hout2]at hl
     obtain⟨x,ρ2,w2,fr2,hs2,hfn2,hleave,hv,hm,hu2⟩:=hl fr cs h1 h2 h3 (by rw[h4];exact hfn) h5
     exact⟨.returned x,w2,fr2,⟨x,ρ2,rfl,hv,hto.mw.withL.trans hm.withL,hu2⟩,Steps.trans hs hs2,hfn2.trans h4,hleave⟩
    |panic c2 T2 df2 st2=>
     intro cs
     obtain⟨ρ',a',w',fr,mode,hto,hmr,h1,h2,h3,h4,h5,hs⟩:=hall cs
     have hl:=ih.leave fn T df u {s' with u:=st.u} ρ' a' mode w' (hto.sit.rel.withU _) hto.sit.er hto.sit.df hmr
     rw[hout2]at hl
     obtain⟨chain,ρ2,w2,fr2,hs2,hfn2,hleave,hv,hm,hu2⟩:=hl fr cs h1 h2 h3 (by rw[h4];exact hfn) h5
     exact⟨.panicked chain,w2,fr2,⟨chain,ρ2,rfl,hv,hto.mw.withL.trans hm.withL,hu2⟩,Steps.trans hs hs2,hfn2.trans h4,hleave⟩
    |_=>trivial
   generalize hout:ev (.code H c (load .nil 0 args) [] f) {st with u:=H}=out at main
   cases out with
   |no w=>trivial
   |val v s=>trivial
   |normal T df s'=>
    show fg D E ρ f xs st w (ev (.leave fn T df .returning) {s' with u:=st.u})
    refine lv T df s' .returning λcs=>?_
    obtain⟨ρ',a',w',cs',hto,hs⟩:=main cs
    have:=hto.cs.none
    subst this
    refine⟨ρ',a',w',{At b H a' []with mode:= .returning},_,hto,rfl,rfl,rfl,rfl,rfl,rfl,?_⟩
    rw[bY hOK hf hb]
    exact hs.trans (.one kj)
   |exit id T df s=>trivial
   |ret T df s'=>
    show fg D E ρ f xs st w (ev (.leave fn T df .returning) {s' with u:=st.u})
    refine lv T df s' .returning λcs=>?_
    obtain⟨ρ',a',w',cs',k',hto,hs⟩:=main cs
    have:=hto.cs.none
    subst this
    refine⟨ρ',a',w',{At b H a' (.code .ret :: k')with mode:= .returning},_,hto,rfl,rfl,rfl,rfl,rfl,rfl,?_⟩
    rw[bY hOK hf hb]
    exact hs.trans (.one ki)
   |panic c' T df s'=>
    show fg D E ρ f xs st w (ev (.leave fn T df (.panicking c')) {s' with u:=st.u})
    refine lv T df s' (.panicking c') λcs=>?_
    obtain⟨ρ',a',w',cs',todo,chain,hto,hp,hs⟩:=main cs
    have:=hto.cs.none
    subst this
    refine⟨ρ',a',w',{At b H a' todo with mode:= .panicking chain},_,hto,⟨chain,rfl,hp⟩,rfl,rfl,rfl,rfl,rfl,?_⟩
    rw[bY hOK hf hb]
    exact hs
theorem jQ (hOK:EOK E) (hB:BOK D E) (ih:RecOK D E ev) {args:List AV} {xs:List N} (hR:Rel E (GE D E) ρ st w.heap) (hxs:VRs ρ args xs):fg D E ρ f xs st w (ig E ev f args st):=by
 unfold ig
 split
 ·rename_i p hp
  unfold jj
  split
  ·rename_i v hv
   exact(hB.plug f p hp args st v hv ρ w xs hR hxs).mono λe w' ⟨x,ρ',h1,h2,h3⟩=>⟨x,ρ',h1,h2,h3.mw,h3.u⟩
  ·exact eK hOK hB ih hR hxs
 ·exact eK hOK hB ih hR hxs
theorem gg (fn:Func) (h:fn.results.toList=[]) (tmps:Array N) (w:aa):(results fn tmps).run E.P w= .ok undef w:=by
 have:fn.results=#[]:=by apply Array.ext';simpa using h
 simp[results,this]
 rfl
theorem fN.nil {xs:List Deferred} (h:fN ρ [] xs):xs=[]:=by
 cases xs with
 |nil=>rfl
 |cons _ _=>exact h.elim
theorem iV (hOK:EOK E) (hB:BOK D E) (ih:RecOK D E ev) {args:List AV} {xs:List N} {um:AMode} {mode:FrameMode} (hR:Rel E (GE D E) ρ st w.heap) (hxs:VRs ρ args xs) (hum:st.u=F um) (hmode:aO ρ um mode):
  iN D E ρ f xs st mode w (f4 E ev f args st):=by
 unfold f4
 split
 ·trivial
 ·rename_i fn hf
  split
  ·trivial
  ·rename_i c hb
   split
   ·rename_i hres
    have hfn:=hOK.fn _ _ hf
    let b:Frame:={(default:Frame)with fn:=f,kind:= .deferred}
    let a0:Act:={tmps:=⟨xs⟩++Array.replicate (fn.ntmps - xs.length) undef,defers:=[]}
    have hg:=hB.body f fn c hf hb
    have main:∀(c0:Frame) cs,c0.mode=mode->ah D E ρ b H fn.ntmps [] st w (c0 :: cs) (lone (At b H a0 [.code c]) (c0 :: cs) w) (ev (.code H c (load .nil 0 args) [] f) st):=λc0 cs hc0=>
     ih.code H c _ [] f st ρ b H fn.ntmps [] a0 w (c0 :: cs) (fQ hB hf hb hR hxs (by rw[hum];exact⟨rfl,c0,cs,rfl,by rw[hc0];exact hmode⟩)) hg trivial (λh=>by cases h) rfl ⟨fn,hfn⟩ _ (.code c)
    have fin:∀{c0:Frame} {cs cs':List Frame} {ρ':aj} {T:Tr AV} {df:List ADef} {s':St} {a':Act} {w':aa},To D E ρ b fn.ntmps st w (c0 :: cs) ρ' T df s' a' w' cs'->
      ∃um' m',s'.u=F um'/\cs'={c0 with mode:=m'} :: cs/\aO ρ' um' m':=by
     intro c0 cs cs' ρ' T df s' a' w' hto
     have hu:=hto.u
     rw[hum]at hu
     cases hs:s'.u with
     |none=>rw[hs]at hu;cases hu
     |some um'=>
      have hur:=hto.sit.ur
      rw[hs]at hur
      obtain⟨_,c1,cs1,he,hmr⟩:=hur
      rcases hto.cs with h|⟨_,c2,cs2,m',h1,h2⟩
      ·rw[h]at he
       injection he with he1 he2
       subst he1;subst he2
       exact⟨um',c0.mode,rfl,by rw[h],hmr⟩
      ·injection h1 with h1 h1'
       subst h1;subst h1'
       rw[h2]at he
       injection he with he1 he2
       subst he1
       exact⟨um',m',rfl,h2,hmr⟩
    generalize hout:ev (.code H c (load .nil 0 args) [] f) st=out at main
    have norm:∀(T:Tr AV) (s':St),(∀(c0:Frame) cs,c0.mode=mode->∃ρ' a' w' cs' fr,To D E ρ b fn.ntmps st w (c0 :: cs) ρ' T [] s' a' w' cs'/\fr.mode= .returning/\fr.defers=a'.defers/\fr.tmps=a'.tmps/\fr.fn=f/\fr.kind= .deferred/\
      Steps E.P (lone (Frame.enter E.P f ⟨xs⟩ .deferred) (c0 :: cs) w) (lone fr cs' w'))->iN D E ρ f xs st mode w (.val ax s'):=by
     intro T s' hall c0 cs hc0
     obtain⟨ρ',a',w',cs',fr,hto,h1,h2,h3,h4,h5,hs⟩:=hall c0 cs hc0
     obtain⟨um',m',hs',hcs',hmr⟩:=fin hto
     have hd:=hto.sit.df.nil
     refine⟨.returned undef,m',w',fr,⟨undef,ρ',um',rfl,hto.mw,hs',hmr⟩,?_,h5,h1,by rw[h2,hd],fn,by rw[h4];exact hfn,gg fn hres _ _⟩
     rw[hcs']at hs
     exact hs
    cases out with
    |no w=>trivial
    |val v s=>trivial
    |normal T df s'=>
     cases df with
     |cons _ _=>trivial
     |nil=>
      refine norm T s' λc0 cs hc0=>?_
      obtain⟨ρ',a',w',cs',hto,hs⟩:=main c0 cs hc0
      refine⟨ρ',a',w',cs',{At b H a' []with mode:= .returning},hto,rfl,rfl,rfl,rfl,rfl,?_⟩
      rw[bY hOK hf hb]
      exact hs.trans (.one kj)
    |exit id T df s=>trivial
    |ret T df s'=>
     cases df with
     |cons _ _=>trivial
     |nil=>
      refine norm T s' λc0 cs hc0=>?_
      obtain⟨ρ',a',w',cs',k',hto,hs⟩:=main c0 cs hc0
      refine⟨ρ',a',w',cs',{At b H a' (.code .ret :: k')with mode:= .returning},hto,rfl,rfl,rfl,rfl,rfl,?_⟩
      rw[bY hOK hf hb]
      exact hs.trans (.one ki)
    |panic c' T df s'=>
     cases df with
     |cons _ _=>trivial
     |nil=>
      intro c0 cs hc0
      obtain⟨ρ',a',w',cs',todo,chain,hto,hp,hs⟩:=main c0 cs hc0
      obtain⟨um',m',hs',hcs',hmr⟩:=fin hto
      have hd:=hto.sit.df.nil
      refine⟨.panicked chain,m',w',{At b H a' todo with mode:= .panicking chain},⟨chain,ρ',um',rfl,hp,hto.mw,hs',hmr⟩,?_,rfl,rfl,hd,fn,hfn⟩
      rw[hcs']at hs
      rw[bY hOK hf hb]
      exact hs
   ·trivial
def lh (tmps:Array N) (g:ResultVar->Sem N):Prop:=(∀t,g (.tmp t)=pure (tmps.getD t undef))/\∀ad t,g (.cell ad t)=do loadVar t (<-asAddr (tmps.getD ad undef))
theorem iC (hOK:EOK E) (hR:Rel E (GE D E) ρ st w.heap) (hE:ER ρ T a.tmps) {r:ResultVar} {v:AV} (h:eA E T st r=F v):
  ∃x,(∀g,lh a.tmps g->(g r).run E.P w= .ok x w)/\VR ρ v x:=by
 cases r with
 |tmp t=>
  simp only[eA]at h
  cases h
  exact⟨_,λg hg=>by rw[hg.1 t];rfl,VR.evalO (g:=E.P.globals.size) hE (λi hi=>hR.glob i hi) (x:= .tmp t) rfl⟩
 |cell ad t=>
  simp only[eA]at h
  obtain⟨b,ofs,x,h1,h2,h3⟩:=hL hOK hR (VR.evalO (g:=E.P.globals.size) hE (λi hi=>hR.glob i hi) (x:= .tmp ad) rfl) h
  refine⟨x,λg hg=>?_,h3⟩
  have h1':a.tmps.getD ad undef= .pointer (F ⟨b,ofs,H⟩):=h1
  rw[hg.2]
  simp only[h1',asAddr,J,O,I,h2]
theorem eh (hOK:EOK E) (hR:Rel E (GE D E) ρ st w.heap) (hE:ER ρ T a.tmps):∀{rs:List ResultVar} {vs:List AV},b2 E T st rs=F vs->
  ∃xs,(∀g,lh a.tmps g->(rs.mapM g).run E.P w= .ok xs w)/\VRs ρ vs xs
 |[],vs,h=>by simp only[b2]at h;cases h;exact⟨[],λ_ _=>rfl, .nil⟩
 |r :: rs,vs,h=>by
  simp only[b2]at h
  split at h
  ·rename_i v vs' hv hvs
   cases h
   obtain⟨x,h1,h2⟩:=iC hOK hR hE hv
   obtain⟨xs,h3,h4⟩:=eh hOK hR hE hvs
   refine⟨x :: xs,λg hg=>?_, .cons h2 h4⟩
   simp only[List.mapM_cons,J,h1 g hg,I,h3 g hg,O]
  ·cases h
theorem gG (hOK:EOK E) (hR:Rel E (GE D E) ρ st w.heap) (hE:ER ρ T a.tmps) {fn:Func} {v:AV} (h:fm E fn T st=F v):∃x,(results fn a.tmps).run E.P w= .ok x w/\VR ρ v x:=by
 unfold fm at h
 have key:∀{vs},b2 E T st fn.results.toList=F vs->∃xs:List N,VRs ρ vs xs/\(results fn a.tmps).run E.P w= .ok (if h:(⟨xs⟩:Array N).size=1 then(⟨xs⟩:Array N)[0]else .tuple ⟨xs⟩) w:=by
  intro vs hvs
  obtain⟨xs,h1,h2⟩:=eh (w:=w) hOK hR hE hvs
  refine⟨xs,h2,?_⟩
  unfold results
  rw[Array.mapM_eq_mapM_toList]
  simp only[J,Sem.run_map]
  rw[h1]
  ·rfl
  ·exact⟨λ_=>rfl,λ_ _=>rfl⟩
 split at h
 ·rename_i v' hv
  cases h
  obtain⟨xs,h1,h2⟩:=key hv
  cases h1 with
  |cons h3 h4=>
  cases h4
  exact⟨_,h2,h3⟩
 ·rename_i vs hne hvs
  cases h
  obtain⟨xs,h1,h2⟩:=key hvs
  have hlen:¬(⟨xs⟩:Array N).size=1:=by
   intro hl
   have:=h1.length
   cases vs with
   |nil=>simp at this hl;omega
   |cons x vs=>cases vs with
    |nil=>exact hne x rfl
    |cons _ _=>simp at this hl;omega
  rw[dif_neg hlen]at h2
  exact⟨_,h2, .tup h1⟩
 ·cases h
end
end
section
section
variable {D:Array Z->Bool} {E:Env} {ρ:aj} {T:Tr AV} {a:Act} {b:Frame} {n:Nat} {df:List ADef} {st:St} {w:aa} {cs:List Frame} {ev:b8} {ar car:Option Nat} {k:List Item} {ops:Array Z} {o:Z} {f:FuncId}
theorem c4:∀{as:List APan} {ps:List PanicEntry},co ρ as ps->ps.dropWhile (λe=>!e.goexit)=[]
 |[],[],_=>rfl
 |_ :: as,p :: ps,h=>by
  simp only[List.dropWhile_cons,h.1.2.2,Bool.not_false,if_true]
  exact c4 h.2
 |[],_ :: _,h=>h.elim
 |_ :: _,[],h=>h.elim
theorem jF {u:AMode} {m:FrameMode} (h:aO ρ u m):aO ρ (dD u) (settle m):=by
 cases u with
 |returning=>
  have:m= .returning:=h
  subst this
  rfl
 |panicking c=>
  obtain⟨l,rfl,hp⟩:=h
  cases c with
  |nil=>cases l with
   |nil=>exact⟨[],rfl,trivial⟩
   |cons _ _=>exact hp.elim
  |cons p c=>
   cases l with
   |nil=>exact hp.elim
   |cons q l=>
    obtain⟨pv,pr⟩:=p
    obtain⟨qv,qr,qg⟩:=q
    obtain⟨⟨h1,h2,h3⟩,h4⟩:=hp
    simp only at h2 h3
    subst h2;subst h3
    cases qr with
    |true=>
     show settle (.panicking (⟨qv,true,false⟩ :: l))= .returning
     simp only[settle,c4 h4]
    |false=>exact⟨_,rfl,⟨h1,rfl,rfl⟩,h4⟩
theorem jm {u:AMode} {m:FrameMode} {c:List APan} {chain:List PanicEntry} (h:aO ρ u m) (hc:co ρ c chain):aO ρ (dG u c) (raised m chain):=by
 cases u with
 |returning=>
  have:m= .returning:=h
  subst this
  exact⟨chain,rfl,hc⟩
 |panicking c0=>
  obtain⟨l,rfl,hp⟩:=h
  exact⟨chain++l,rfl,hc.append hp⟩
theorem aO.notRun {u:AMode} {m:FrameMode} (h:aO ρ u m):m≠ .run:=by
 cases u with
 |returning=>have:m= .returning:=h;subst this;simp
 |panicking c=>obtain⟨l,rfl,_⟩:=h;simp
theorem Rel.killSet {G:aD} (hR:Rel E G ρ st w.heap) {i b e:Nat} {ob:AObj} (hi:st.h.get i=F ob) (hr:ρ i=F (b,e)) {new:Obj} {w':aa} (hw:w'.heap=w.heap.setIfInBounds b new) (hs:Same w w'):
  Mv E G ρ st w ρ (st.upd i H) w':=by
 obtain⟨k1,k2⟩:=hR.kill hr
 have hk:∀c,c≠b->w'.heap[c]?=w.heap[c]?:=λc hc=>by rw[hw];exact Array.getElem?_setIfInBounds_ne (Ne.symm hc)
 have hsz:w'.heap.size=w.heap.size:=by rw[hw];simp
 have hfree:∀j e'',cc (st.upd i H) j->ρ j≠F (b,e''):=by
  rintro j e'' ⟨x,hx⟩ hj
  rcases Tr.put_some (hx:(st.h.put bits i H).get j=F x)with⟨_,h2⟩|⟨hne,hx'⟩
  ·cases h2
  ·exact hne (hR.inj j i b e'' e ⟨x,hx'⟩ ⟨ob,hi⟩ hj hr)
 refine⟨⟨?_,k1.inj,k1.fresh,λj c e' hj=>by rw[hsz];exact k1.below j c e' hj,k1.glob⟩,⟨k2.mono,k2.old,k2.virt,k2.n,by rw[hsz];exact Nat.le_refl _,?_,λj c e' hl hj=>k2.dom j c e' hl hj⟩,hs,rfl⟩
 ·intro j x c e' hx hj
  obtain⟨oc,h1,h2⟩:=k1.obj j x c e' hx hj
  have hcb:c≠b:=λhcb=>hfree j e' ⟨x,hx⟩ (hcb▸hj)
  exact⟨oc,by rw[hk c hcb];exact h1,h2⟩
 ·intro c hc hn
  exact hk c (λhcb=>hn i e ⟨ob,hi⟩ (hcb▸hr))
theorem aP.after {fn:Func} {mode mode':FrameMode} {ρ':aj} {st':St} {w':aa} {a':Act} {out:Out} (hm:Mw E (GE D E) ρ st w ρ' st' w') (hu:st'.u=st.u) (ht:a'.tmps=a.tmps)
  (hstep:∀(fr:Frame) (cs:List Frame),fr.mode=mode->fr.defers=a.defers->fr.tmps=a.tmps->E.P.funcs[fr.fn]?=F fn->fr.kind= .normal->
   Steps E.P (lone fr cs w) (lone {fr with mode:=mode',defers:=a'.defers} cs w')) (h:aP D E ρ' fn a' mode' st' w' out):aP D E ρ fn a mode st w out:=by
 cases out with
 |val v s=>
  intro fr cs h1 h2 h3 h4 h5
  obtain⟨x,ρ2,w2,fr2,hs,hf,hl,hv,hm2,hu2⟩:=h {fr with mode:=mode',defers:=a'.defers} cs rfl rfl (h3.trans ht.symm) h4 h5
  exact⟨x,ρ2,w2,fr2,(hstep fr cs h1 h2 h3 h4 h5).trans hs,hf,hl,hv,hm.trans hm2,hu2.trans hu⟩
 |panic c T df s=>
  intro fr cs h1 h2 h3 h4 h5
  obtain⟨x,ρ2,w2,fr2,hs,hf,hl,hv,hm2,hu2⟩:=h {fr with mode:=mode',defers:=a'.defers} cs rfl rfl (h3.trans ht.symm) h4 h5
  exact⟨x,ρ2,w2,fr2,(hstep fr cs h1 h2 h3 h4 h5).trans hs,hf,hl,hv,hm.trans hm2,hu2.trans hu⟩
 |_=>trivial
theorem aP.via {fn:Func} {mode:FrameMode} {st':St} {u':AMode} {cds:List Deferred} {out:Out} (hu:st'.u=st.u)
  (hfin:∀(fr:Frame) (cs:List Frame),fr.mode=mode->fr.defers=a.defers->fr.tmps=a.tmps->E.P.funcs[fr.fn]?=F fn->fr.kind= .normal->
   ∃ρ' w' m',Mw E (GE D E) ρ st w ρ' st' w'/\aO ρ' u' m'/\Steps E.P (lone fr cs w) (lone {fr with mode:=m',defers:=cds} cs w'))
  (hl:∀ρ' w' m',Mw E (GE D E) ρ st w ρ' st' w'->aO ρ' u' m'->aP D E ρ' fn {a with defers:=cds} m' st' w' out):aP D E ρ fn a mode st w out:=by
 cases out with
 |val v s=>
  intro fr cs h1 h2 h3 h4 h5
  obtain⟨ρ',w',m',hm,hmr,hs0⟩:=hfin fr cs h1 h2 h3 h4 h5
  obtain⟨x,ρ2,w2,fr2,hs,hf,hlv,hv,hm2,hu2⟩:=hl ρ' w' m' hm hmr {fr with mode:=m',defers:=cds} cs rfl rfl h3 h4 h5
  exact⟨x,ρ2,w2,fr2,hs0.trans hs,hf,hlv,hv,hm.trans hm2,hu2.trans hu⟩
 |panic c T df s=>
  intro fr cs h1 h2 h3 h4 h5
  obtain⟨ρ',w',m',hm,hmr,hs0⟩:=hfin fr cs h1 h2 h3 h4 h5
  obtain⟨x,ρ2,w2,fr2,hs,hf,hlv,hv,hm2,hu2⟩:=hl ρ' w' m' hm hmr {fr with mode:=m',defers:=cds} cs rfl rfl h3 h4 h5
  exact⟨x,ρ2,w2,fr2,hs0.trans hs,hf,hlv,hv,hm.trans hm2,hu2.trans hu⟩
 |_=>trivial
theorem iO (hOK:EOK E) (ih:RecOK D E ev) {fn:Func} {u:AMode} {mode:FrameMode} (hR:Rel E (GE D E) ρ st w.heap) (hE:ER ρ T a.tmps) (hdf:fN ρ df a.defers) (hmode:aO ρ u mode):aP D E ρ fn a mode st w (f6 E ev fn T df u st):=by
 unfold f6
 split
 ·
  have hd:=hdf.nil
  unfold hW
  split
  ·have hmr:mode= .returning:=hmode
   subst hmr
   split
   ·rename_i v hv
    obtain⟨x,h1,h2⟩:=gG (w:=w) hOK hR hE hv
    intro fr cs g1 g2 g3 g4 g5
    exact⟨x,ρ,w,fr,Steps.refl _ _,rfl,⟨g1,by rw[g2,hd],g5,fn,g4,by rw[g3];exact h1⟩,h2,Mw.refl hR,rfl⟩
   ·trivial
  ·rename_i c
   obtain⟨chain,rfl,hp⟩:=hmode
   intro fr cs g1 g2 g3 g4 g5
   exact⟨chain,ρ,w,fr,Steps.refl _ _,rfl,⟨g1,by rw[g2,hd],fn,g4⟩,hp,Mw.refl hR,rfl⟩
 ·rename_i d ds
  cases hda:a.defers with
  |nil=>rw[hda]at hdf;exact hdf.elim
  |cons c cds=>
   rw[hda]at hdf
   obtain⟨hdr,hds⟩:=hdf
   unfold DR at hdr
   split
   ·rename_i r hr
    rw[hr]at hdr
    obtain⟨rb,e,hrb,ht,hargs⟩:=hdr
    split
    ·rename_i l hg
     obtain⟨ob,hb,hor⟩:=hR.obj _ _ _ _ hg hrb
     cases hor with
     |deferred cl hcl=>
     have hgo:=ai (P:=E.P) hb (λ_ _ _ h=>by cases h)
     let w1:aa:={w with heap:=w.heap.setIfInBounds rb (.deferred H)}
     have hrun:(Instr.takeDeferred rb).run E.P w= .ok cl w1:=by
      have:(setObj rb (.deferred H)).run E.P w= .ok () w1:=by
       unfold setObj;simp only[Sem.run,hb];rfl
      simp only[Instr.takeDeferred,J,hgo,I,this,O]
     have hmv:=hR.killSet (w':=w1) hg hrb rfl ⟨rfl,rfl,rfl⟩
     refine aP.after (a':={a with defers:=cl++cds}) (mode':=mode) hmv.mw rfl rfl ?_ (ih.leave fn T (l++ds) u (st.upd r H) ρ {a with defers:=cl++cds} mode w1 hmv.rel hE (fN.append hcl hds) hmode)
     intro fr cs g1 g2 g3 g4 g5
     obtain⟨ctt,cta⟩:=c
     simp only at ht hargs
     subst ht;subst hargs
     have:=eu (P:=E.P) (cs:=cs) (fr:=fr) (ds:=cds) (by rw[g1];exact hmode.notRun) (by rw[g2,hda]) hrun
     refine .one ?_
     rw[this]
     congr 2
     rw[<-g1]
    ·trivial
   ·rename_i hr
    rw[hr]at hdr
    obtain⟨fv,first,cap,vs,h1,h2,h3⟩:=hdr
    split
    ·rename_i g args s1 hcv
     obtain⟨rfl,ys,hrun,hys⟩:=d7 hOK h1 h2 hcv w
     have hinv:(invoke (.fn fv cap) (first++⟨vs⟩)).run E.P w= .ok (.enter g ⟨ys⟩) w:=by
      simpa only[Deferred.ofValue,J,O,I]using hrun
     have hcd:=ih.calld g args {s1 with u:=F u} ρ w ys u mode (hR.withU _) hys rfl hmode
     have hstep:∀(fr:Frame) (cs:List Frame),fr.mode=mode->fr.defers=a.defers->step E.P (lone fr cs w)= .next (lone (Frame.enter E.P g ⟨ys⟩ .deferred) ({fr with defers:=cds} :: cs) w):=by
      intro fr cs g1 g2
      refine step_defer (d:=c) (ds:=cds) (fv:=fv) (cap:=cap) (by rw[g1];exact hmode.notRun) (by rw[g2,hda]) (by rw[h3]) (by rw[h3];exact hinv)
     generalize hout:ev (.calld g args) {s1 with u:=F u}=out at hcd
     show aP D E ρ fn a mode s1 w (fJ ev fn T ds s1.u out)
     cases out with
     |no wy=>trivial
     |normal T' df' s'=>trivial
     |exit id T' df' s'=>trivial
     |ret T' df' s'=>trivial
     |val v s'=>
      show aP D E ρ fn a mode s1 w (match s'.u with|some u'=>ev (.leave fn T ds (dD u')) {s' with u:=s1.u}|none=> .no 525)
      cases hsu:s'.u with
      |none=>trivial
      |some u'=>
       show aP D E ρ fn a mode s1 w (ev (.leave fn T ds (dD u')) {s' with u:=s1.u})
       have fin:∀(fr:Frame) (cs:List Frame),fr.mode=mode->fr.defers=a.defers->fr.tmps=a.tmps->E.P.funcs[fr.fn]?=F fn->fr.kind= .normal->
         ∃ρ' w' m',Mw E (GE D E) ρ s1 w ρ' {s' with u:=s1.u} w'/\aO ρ' (dD u') m'/\Steps E.P (lone fr cs w) (lone {fr with mode:=m',defers:=cds} cs w'):=by
        intro fr cs g1 g2 g3 g4 g5
        obtain⟨e,um,w',frX,⟨x,ρ',um',rfl,hmw,hs',hmr⟩,hcomes,hk,hgo⟩:=hcd {fr with defers:=cds} cs g1
        rw[hsu]at hs'
        injection hs' with hs'
        subst hs'
        have hlast:=step_going_returned (c:={{fr with defers:=cds}with mode:=um}) (cs:=cs) hk hgo
        exact⟨ρ',w',settle um,hmw.withL.withR _,jF hmr, .head (hstep fr cs g1 g2) (Steps.trans hcomes (.one hlast))⟩
       exact aP.via (st':={s' with u:=s1.u}) rfl fin λρ' w' m' hm hmr=>ih.leave fn T ds _ _ ρ' {a with defers:=cds} m' w' hm.rel (hE.mono hm.ext.mono) (hds.mono hm.ext.mono) hmr
     |panic pc T' df' s'=>
      show aP D E ρ fn a mode s1 w (match s'.u with|some u'=>ev (.leave fn T ds (dG u' pc)) {s' with u:=s1.u}|none=> .no 526)
      cases hsu:s'.u with
      |none=>trivial
      |some u'=>
       show aP D E ρ fn a mode s1 w (ev (.leave fn T ds (dG u' pc)) {s' with u:=s1.u})
       have fin:∀(fr:Frame) (cs:List Frame),fr.mode=mode->fr.defers=a.defers->fr.tmps=a.tmps->E.P.funcs[fr.fn]?=F fn->fr.kind= .normal->
         ∃ρ' w' m',Mw E (GE D E) ρ s1 w ρ' {s' with u:=s1.u} w'/\aO ρ' (dG u' pc) m'/\Steps E.P (lone fr cs w) (lone {fr with mode:=m',defers:=cds} cs w'):=by
        intro fr cs g1 g2 g3 g4 g5
        obtain⟨e,um,w',frX,⟨chain,ρ',um',rfl,hp,hmw,hs',hmr⟩,hcomes,hk,hgo⟩:=hcd {fr with defers:=cds} cs g1
        rw[hsu]at hs'
        injection hs' with hs'
        subst hs'
        have hlast:=step_going_panicked (c:={{fr with defers:=cds}with mode:=um}) (cs:=cs) hgo
        exact⟨ρ',w',raised um chain,hmw.withL.withR _,jm hmr hp, .head (hstep fr cs g1 g2) (Steps.trans hcomes (.one hlast))⟩
       exact aP.via (st':={s' with u:=s1.u}) rfl fin λρ' w' m' hm hmr=>ih.leave fn T ds _ _ ρ' {a with defers:=cds} m' w' hm.rel (hE.mono hm.ext.mono) (hds.mono hm.ext.mono) hmr
    ·trivial
theorem ff:∀(ps:List Tmp) (args:List AV) (xs:List N) (T:Tr AV) (tmps:Array N),ER ρ T tmps->VRs ρ args xs->(∀t∈ps,t<tmps.size)->
  ER ρ ((ps.zip args).foldl (λT p=>T.put bits p.1 (F p.2)) T) ((ps.zip xs).foldl (λ(tmps:Array N) (p:Tmp×N)=>tmps.setIfInBounds p.1 p.2) tmps)/\
   ((ps.zip xs).foldl (λ(tmps:Array N) (p:Tmp×N)=>tmps.setIfInBounds p.1 p.2) tmps).size=tmps.size
 |[],_,_,T,tmps,h,_,_=>by simpa using h
 |p :: ps,[],xs,T,tmps,h,hv,_=>by cases hv;simpa using h
 |p :: ps,x :: args,xs,T,tmps,h,hv,hb=>by
  cases hv with
  |@cons _ y _ ys h1 h2=>
  simp
  have hlt:p<tmps.size:=hb p (List.mem_cons_self ..)
  obtain⟨g1,g2⟩:=ff ps args ys (T.put bits p (F x)) (tmps.setIfInBounds p y) (h.put hlt h1) h2 (λt ht=>by simpa using hb t (List.mem_cons_of_mem _ ht))
  exact⟨g1,by rw[g2];simp⟩
theorem fY (lp:Loop) (xs:List N):aM lp xs=(lp.params.toList.zip xs).foldl (λ(tmps:Array N) (p:Tmp×N)=>tmps.setIfInBounds p.1 p.2) lp.tmps:=by
 unfold aM
 rw[<-Array.foldl_toList,Array.toList_zip]
theorem gN {l lb e:Nat} {s2:St} {w2:aa} {a2:Act} {todo:List Item} {j:Option Code} (hR:Rel E (GE D E) ρ s2 w2.heap) (hl:ρ l=F (lb,e)) (hbk:b.kind= .normal)
  (ht:(todo=[]/\j=H)\/(∃k,todo= .code .ret :: k/\j=F .ret)\/(∃id k,todo= .code (.exit id) :: k/\exitTo id k=H/\j=F (.exit id))) {u:Option AMode} {v:AV} {st':St} (h:bi l u j s2= .val v st'):
  v= .bool j.isNone/\st'.u=u/\∀(c:Frame) (cs:List Frame),∃w',Steps E.P (lone (At b (F lb) a2 todo) (c :: cs) w2) (lone (c.finish (.bool j.isNone)) cs w')/\Mw E (GE D E) ρ s2 w2 ρ st' w':=by
 unfold bi at h
 split at h
 ·rename_i q0 q1 f1 T1 ps1 a1 b1 d1 hg
  cases h
  refine⟨rfl,rfl,?_⟩
  intro c cs
  obtain⟨ob,hb,hor⟩:=hR.obj _ _ _ _ hg hl
  cases hor with
  |loop lp hlp=>
  have hgo:=ai (P:=E.P) hb (λ_ _ _ h=>by cases h)
  have hgp:∀c,j=F c->c= .ret\/∃id,c= .exit id:=by
   intro c hc
   rcases ht with⟨_,rfl⟩|⟨_,_,rfl⟩|⟨id,_,_,_,rfl⟩
   ·cases hc
   ·cases hc;exact .inl rfl
   ·cases hc;exact .inr ⟨id,rfl⟩
  have hnew:OR E (GE D E) ρ e (.loop (if j.isNone then .ready else .done) j f1 T1 ps1 a1 b1 d1) (.loop {lp with state:=if j.isNone then .ready else .done,pending:=j}):=
   .loop _ {hstate:=rfl,hpend:=rfl,hfn:=hlp.hfn,tmps:=hlp.tmps,hparams:=hlp.hparams,hassign:=hlp.hassign,hbody:=hlp.hbody,defers:=hlp.defers,goodA:=hlp.goodA,goodB:=hlp.goodB,inb:=hlp.inb,goodP:=hgp}
  obtain⟨w',r1,r2⟩:=aG hR hl hg hb (λ_ _ _ h=>by cases h) hnew
  have hrun:(Instr.endRound lb j).run E.P w2= .ok (.bool j.isNone) w':=by
   simp only[Instr.endRound,Instr.getLoop,J,hgo,I,O,r1]
  exact⟨w', .one (fC hbk ht hrun),r2.mw.withR u⟩
 ·cases h
theorem hZ (hOK:EOK E) (ih:RecOK D E ev) {l lb e:Nat} {args:List AV} {xs:List N} (hR:Rel E (GE D E) ρ st w.heap) (hxs:VRs ρ args xs) (hl:ρ l=F (lb,e)):eM D E ρ lb xs st w (f8 E ev l args st):=by
 unfold f8
 split
 ·rename_i q0 q1 f T ps assign body q2 hg
  obtain⟨ob,hb,hor⟩:=hR.obj _ _ _ _ hg hl
  cases hor with
  |loop lp hlp=>
  split
  ·trivial
  ·rename_i fn hfn
   split
   ·rename_i hlen
    have hlen':=U hlen
    have hxl:xs.length=lp.params.size:=by
     rw[<-hxs.length,hlen',<-hlp.hparams];simp
    have hF:=hOK.fn _ _ hfn
    have hlpf:lp.fn=f:=hlp.hfn
    let b:Frame:={(default:Frame)with fn:=f,kind:= .normal}
    let a0:Act:={tmps:=aM lp xs,defers:=[]}
    have hround:Frame.round lb lp.fn (aM lp xs) lp.assign lp.body .normal=At b (F lb) a0 [.code assign, .beginRound, .code body]:=by
     simp[Frame.round,At,b,a0,hlp.hfn,hlp.hassign,hlp.hbody]
    obtain⟨ht1,ht2⟩:=ff ps args xs T lp.tmps hlp.tmps hxs hlp.inb
    have heq:aM lp xs=(ps.zip xs).foldl (λ(tmps:Array N) (p:Tmp×N)=>tmps.setIfInBounds p.1 p.2) lp.tmps:=by rw[fY,hlp.hparams]
    rw[<-heq]at ht1 ht2
    have hga:goodC D E.P.globals.size lp.tmps.size assign=true:=hlp.goodA
    have hgb:goodC D E.P.globals.size lp.tmps.size body=true:=hlp.goodB
    have hsit:∀cs,Sit D E ρ b lp.tmps.size ((ps.zip args).foldl (λT p=>T.put bits p.1 (F p.2)) T) [] {st with u:=H} a0 w cs:=λcs=>⟨hR.withU _,ht1,by rw[ht2];exact Nat.le_refl _,trivial,rfl⟩
    have hass:=λcs=>ih.code (F l) assign _ [] f {st with u:=H} ρ b (F lb) lp.tmps.size [.beginRound, .code body] a0 w cs (hsit cs) hga ⟨e,hl⟩ (λ_=>rfl) rfl ⟨fn,hF⟩ _ (.code assign)
    generalize hout:ev (.code (F l) assign ((ps.zip args).foldl (λT p=>T.put bits p.1 (F p.2)) T) [] f) {st with u:=H}=out at hass
    show eM D E ρ lb xs st w (dh ev l body f st.u out)
    cases out with
    |no wy=>trivial
    |val v s=>trivial
    |exit id T' df' s=>trivial
    |ret T' df' s=>trivial
    |panic c T' df' s=>trivial
    |normal T1 df1 s1=>
     unfold dh
     dsimp only
     split
     ·rename_i p f0 T0 ps0 a0' b0 d0 hg1
      have hbeg:∀(c:Frame) (cs:List Frame),∃ρ1 a1 w1,To D E ρ b lp.tmps.size {st with u:=H} w (c :: cs) ρ1 T1 df1 (s1.upd l (F (.loop .busy p f0 T0 ps0 a0' b0 d0))) a1 w1 (c :: cs)/\
        Steps E.P (lone (At b (F lb) a0 [.code assign, .beginRound, .code body]) (c :: cs) w) (lone (At b (F lb) a1 [.code body]) (c :: cs) w1):=by
       intro c cs
       obtain⟨ρ1,a1,w1,cs1,hto,hs⟩:=hass (c :: cs)
       have:=hto.cs.none
       subst this
       have hl1:=hto.mw.ext.mono _ _ hl
       obtain⟨ob1,hb1,hor1⟩:=hto.sit.rel.obj _ _ _ _ hg1 hl1
       cases hor1 with
       |loop lp1 hlp1=>
       have hgo:=ai (P:=E.P) hb1 (λ_ _ _ h=>by cases h)
       have hnew:OR E (GE D E) ρ1 e (.loop .busy p f0 T0 ps0 a0' b0 d0) (.loop {lp1 with state:= .busy}):=
        .loop _ {hstate:=rfl,hpend:=hlp1.hpend,hfn:=hlp1.hfn,tmps:=hlp1.tmps,hparams:=hlp1.hparams,hassign:=hlp1.hassign,hbody:=hlp1.hbody,defers:=hlp1.defers,goodA:=hlp1.goodA,goodB:=hlp1.goodB,inb:=hlp1.inb,goodP:=hlp1.goodP}
       obtain⟨w2,r1,r2⟩:=aG hto.sit.rel hl1 hg1 hb1 (λ_ _ _ h=>by cases h) hnew
       have hrun:(Instr.beginRound lb).run E.P w1= .ok () w2:=by
        simp only[Instr.beginRound,Instr.getLoop,J,hgo,I,O,r1,hlp1.hstate]
       have hto2:To D E ρ1 b lp.tmps.size s1 w1 (c :: cs) ρ1 T1 df1 (s1.upd l (F (.loop .busy p f0 T0 ps0 a0' b0 d0))) a1 w2 (c :: cs):=
        ⟨⟨r2.rel,hto.sit.er,hto.sit.n,hto.sit.df,hto.sit.ur⟩,r2.mw, .inl rfl,rfl⟩
       exact⟨ρ1,a1,w2,hto.trans hto2,hs.trans (.one (fx hrun))⟩
      have hbody:=λρ1 a1 w1 cs (hs:Sit D E ρ1 b lp.tmps.size T1 df1 (s1.upd l (F (.loop .busy p f0 T0 ps0 a0' b0 d0))) a1 w1 cs) (hu:(s1.upd l (F (.loop .busy p f0 T0 ps0 a0' b0 d0))).u=H) (hl1:ρ1 l=F (lb,e))=>
       ih.code (F l) body T1 df1 f (s1.upd l (F (.loop .busy p f0 T0 ps0 a0' b0 d0))) ρ1 b (F lb) lp.tmps.size [] a1 w1 cs hs hgb ⟨e,hl1⟩ (λ_=>hu) rfl ⟨fn,hF⟩ _ (.code body)
      generalize ev (.code (F l) body T1 df1 f) (s1.upd l (F (.loop .busy p f0 T0 ps0 a0' b0 d0)))=out2 at hbody
      have whole:∀(c:Frame) (cs:List Frame),∃ρ1 a1 w1,To D E ρ b lp.tmps.size {st with u:=H} w (c :: cs) ρ1 T1 df1 (s1.upd l (F (.loop .busy p f0 T0 ps0 a0' b0 d0))) a1 w1 (c :: cs)/\(s1.upd l (F (.loop .busy p f0 T0 ps0 a0' b0 d0))).u=H/\
        Steps E.P (lone (At b (F lb) a0 [.code assign, .beginRound, .code body]) (c :: cs) w) (lone (At b (F lb) a1 [.code body]) (c :: cs) w1)/\ah D E ρ1 b (F lb) lp.tmps.size [] (s1.upd l (F (.loop .busy p f0 T0 ps0 a0' b0 d0))) w1 (c :: cs) (lone (At b (F lb) a1 [.code body]) (c :: cs) w1) out2:=by
       intro c cs
       obtain⟨ρ1,a1,w1,hto,hs⟩:=hbeg c cs
       have hu1:=hto.uNone (ar:=F l) (λ_=>rfl) rfl
       exact⟨ρ1,a1,w1,hto,hu1,hs,hbody ρ1 a1 w1 (c :: cs) hto.sit hu1 (hto.mw.ext.mono _ _ hl)⟩
      have leave:∀(T2:Tr AV) (df2:List ADef) (s2:St) (j:Option Code),(∀(c:Frame) (cs:List Frame),∃ρ2 a2 w2 todo,To D E ρ b lp.tmps.size {st with u:=H} w (c :: cs) ρ2 T2 df2 s2 a2 w2 (c :: cs)/\
        ((todo=[]/\j=H)\/(∃k,todo= .code .ret :: k/\j=F .ret)\/(∃id k,todo= .code (.exit id) :: k/\exitTo id k=H/\j=F (.exit id)))/\
        Steps E.P (lone (At b (F lb) a0 [.code assign, .beginRound, .code body]) (c :: cs) w) (lone (At b (F lb) a2 todo) (c :: cs) w2))->eM D E ρ lb xs st w (bi l st.u j s2):=by
       intro T2 df2 s2 j hall
       cases hfr:bi l st.u j s2 with
       |val v st'=>
        refine⟨lp,hb,hxl,λc cs=>?_⟩
        obtain⟨ρ2,a2,w2,todo,hto,htd,hs⟩:=hall c cs
        obtain⟨rfl,hu',hfin⟩:=gN (b:=b) (a2:=a2) hto.sit.rel (hto.mw.ext.mono _ _ hl) rfl htd hfr
        obtain⟨w',hs2,hm2⟩:=hfin c cs
        exact⟨.bool j.isNone,ρ2,w',by rw[hround];exact hs.trans hs2, .bool _,hto.mw.withL.trans hm2,hu'⟩
       |panic pc T df s=>unfold bi at hfr;split at hfr<;>cases hfr
       |_=>trivial
      show eM D E ρ lb xs st w (fT l st.u out2)
      cases out2 with
      |no wy=>trivial
      |val v s=>trivial
      |normal T2 df2 s2=>
       refine leave T2 df2 s2 H λc cs=>?_
       obtain⟨ρ1,a1,w1,hto,hu1,hs,ρ2,a2,w2,cs2,hto2,hs2⟩:=whole c cs
       have h0:=hto2.cs;rw[hu1]at h0
       have:=h0.none
       subst this
       exact⟨ρ2,a2,w2,[],hto.trans hto2, .inl ⟨rfl,rfl⟩,hs.trans hs2⟩
      |ret T2 df2 s2=>
       refine leave T2 df2 s2 (F .ret) λc cs=>?_
       obtain⟨ρ1,a1,w1,hto,hu1,hs,ρ2,a2,w2,cs2,k',hto2,hs2⟩:=whole c cs
       have h0:=hto2.cs;rw[hu1]at h0
       have:=h0.none
       subst this
       exact⟨ρ2,a2,w2,_,hto.trans hto2, .inr (.inl ⟨k',rfl,rfl⟩),hs.trans hs2⟩
      |exit id T2 df2 s2=>
       refine leave T2 df2 s2 (F (.exit id)) λc cs=>?_
       obtain⟨ρ1,a1,w1,hto,hu1,hs,ρ2,a2,w2,cs2,k',hto2,he,hs2⟩:=whole c cs
       have h0:=hto2.cs;rw[hu1]at h0
       have:=h0.none
       subst this
       exact⟨ρ2,a2,w2,_,hto.trans hto2, .inr (.inr ⟨id,k',rfl,he,rfl⟩),hs.trans hs2⟩
      |panic pc T2 df2 s2=>
       cases df2 with
       |cons _ _=>trivial
       |nil=>
        refine⟨lp,hb,hxl,λc cs=>?_⟩
        obtain⟨ρ1,a1,w1,hto,hu1,hs,ρ2,a2,w2,cs2,todo,chain,hto2,hp,hs2⟩:=whole c cs
        have h0:=hto2.cs;rw[hu1]at h0
        have:=h0.none
        subst this
        have hd:=hto2.sit.df.nil
        have hlast:=fB (P:=E.P) (b:=b) (a:=a2) (cs:=cs) (w:=w2) (l:=lb) (todo:=todo) (c:=c) (chain:=chain) hd ⟨fn,hF⟩
        exact⟨chain,ρ2,w2,by rw[hround];exact hs.trans (hs2.trans (.one hlast)),hp,((hto.trans hto2).mw.withL).withR st.u,rfl⟩
     ·trivial
   ·trivial
 ·trivial
theorem ky (hOK:EOK E) (hB:BOK D E) (hm:E.P.follows .mixedOrders=true) (ih:RecOK D E ev) (hdr:dt D E ev):RecOK D E (gY E ev) where
 code ar c T df f st ρ b car n k a w cs h hg har hu hbf hfn it hit:=jK hOK hm ih hdr h hg har hu hbf hfn hit
 call f args st ρ w xs hR hxs:=jQ hOK hB ih hR hxs
 calld f args st ρ w xs um mode hR hxs hum hmode:=iV hOK hB ih hR hxs hum hmode
 leave fn T df u st ρ a mode w hR hE hdf hmode:=iO hOK ih hR hE hdf hmode
 round l args st ρ w xs lb e hR hxs hl:=hZ hOK ih hR hxs hl
theorem kz:RecOK D E (ev:=λ_ _=> .no 100) where
 code _ _ _ _ _ _ _ _ _ _ _ _ _ _ _ _ _ _ _ _ _ _:=trivial
 call _ _ _ _ _ _ _ _:=trivial
 calld _ _ _ _ _ _ _ _ _ _ _ _:=trivial
 leave _ _ _ _ _ _ _ _ _ _ _ _ _:=trivial
 round _ _ _ _ _ _ _ _ _ _ _:=trivial
theorem j2 (hOK:EOK E) (hB:BOK D E) (hm:E.P.follows .mixedOrders=true) (hdr:∀ev,RecOK D E ev->dt D E ev):∀k,RecOK D E (Ev.ev E k)
 |0=>kz
 |k+1=>ky hOK hB hm (j2 hOK hB hm hdr k) (hdr _ (j2 hOK hB hm hdr k))
end
end
section
section
variable {E:Env} {G:aD} {ρ:aj} {st:St} {w:aa} {T T':Tr AV} {a:Act} {o:Z}
noncomputable def dW (T:Tr AV):List Tmp->Tr AV
 |[]=>T
 |t :: ts=>(dW T ts).put bits t H
theorem dr (T:Tr AV):∀(X:List Tmp) (t:Tmp) (u:AV),(dW T X).get t=F u->t ∉ X/\T.get t=F u
 |[],t,u,h=>⟨by simp,h⟩
 |x :: X,t,u,h=>by
  rcases Tr.put_some (h:((dW T X).put bits x H).get t=F u)with⟨_,h2⟩|⟨hne,h2⟩
  ·cases h2
  ·obtain⟨h3,h4⟩:=dr T X t u h2
   exact⟨by simp[hne,h3],h4⟩
theorem b4 (T:Tr AV):∀(X:List Tmp) (t:Tmp),t ∉ X->(dW T X).get t=T.get t
 |[],_,_=>rfl
 |x :: X,t,h=>by
  simp at h
  rw[<-b4 T X t h.2]
  exact Tr.get_put_ne _ _ _ _ _ h.1
theorem iu {x:W} (h:∀t,x= .tmp t->T.get t=T'.get t):V T x=V T' x:=by
 cases x<;>first|rfl|skip
 rename_i t
 show gb (T.get t)=gb (T'.get t)
 rw[h t rfl]
def br (ops:Array Z) (o:Z) (T T':Tr AV):Prop:=∀d,cZ ops o d=true->T.get d=T'.get d
theorem br.same {ops:Array Z} (h:br ops o T T'):cd T T' o:=by
 intro x hx
 refine iu λt ht=>h t ?_
 subst ht
 unfold cZ
 simp only[Bool.or_eq_true]
 left
 rw[List.any_eq_true]
 exact⟨.tmp t,by simpa using hx,by simp⟩
theorem iY:∀(l:List Z) (j:Nat),jw l j=l[j]?
 |[],j=>rfl
 |o :: os,j=>by cases j with
  |zero=>rfl
  |succ j=>simp[jw,iY os j]
theorem eV {ops:List Z}:au ops o T=match o.guard with|none=>F true|some g=>dC ops T g:=by
 unfold au;cases o.guard<;>rfl
theorem br.wanted {ops:Array Z} (h:br ops o T T'):au ops.toList o T=au ops.toList o T':=by
 rw[eV,eV]
 cases hg:o.guard with
 |none=>rfl
 |some g=>
  obtain⟨j,want⟩:=g
  simp only[dC,iY]
  have hj:ops.toList[j]?=ops[j]?:=by simp
  rw[hj]
  cases ho:ops[j]? with
  |none=>rfl
  |some q=>
   dsimp only
   cases hd:q.dst with
   |none=>rfl
   |some d=>
    have:T.get d=T'.get d:=h d (by
     unfold cZ
     simp
     right
     simp[hg,ho,hd])
    dsimp only
    rw[this]
def Res.at (st:St):Res->Res
 | .val v _=> .val v st
 | .skip _=> .skip st
 | .enter f a _=> .enter f a st
 | .panic v _=> .panic v st
 |r=>r
theorem dL (st1:St):ak E o T st1=(ak E o T st).at st1:=by
 unfold ak
 split
 ·split<;>rfl
 ·rfl
noncomputable def bg (E:Env) (t:S) (l c:AV):Option (List AV×S×Option (Nat×Nat)):=
 match E.ty t,bq l,bq c with
 |some ti,F l,F c=>match ti.k with
  | .slice elem _ bytes=>
   if 0<=l/\l<=c/\c*bytes<=2 ^ 40/\c<2 ^ 40 then
    match E.ty elem with
    |some te=>F (bv te.zero c.toNat,elem,F (l.toNat,c.toNat))
    |none=>H
   else H
  |_=>H
 |_,_,_=>H
noncomputable def aq (E:Env) (o:Z) (T:Tr AV):Option (List AV×S×Option (Nat×Nat)):=
 match o.op with
 | .alloc t=>match E.ty t with
  |some ti=>F (ti.zero,t,H)
  |none=>H
 | .box t x=>match (V T x).cells with
  |some cs=>F (cs,t,H)
  |none=>H
 | .buildSlice t len parts=>match aV E t len (parts.toList.map λ(i,x)=>(i,V T x))with
  |some (cs,e)=>F (cs,e,F (len,len))
  |none=>H
 | .makeSlice t l c=>bg E t (V T l) (V T c)
 |_=>H
def aT (o:Z):Bool:=
 match o.op with
 | .alloc _| .box ..| .buildSlice ..| .makeSlice ..=>true
 |_=>false
def lr (l:Option (Nat×Nat)) (i:Nat):AV:=match l with|none=> .ptr i 0|some p=> .sl i 0 p.1 p.2 false
def mkV (l:Option (Nat×Nat)) (b:Nat):N:=match l with|none=> .pointer (F ⟨b,0,H⟩)|some p=> .slice (F ⟨b,0,H⟩) p.1 p.2
theorem iD (h:aT o=true):an E o T st=match aq E o T with
  |some (cs,el,l)=> .val (lr l st.n) (st.new (.cells cs el false))
  |none=>an E o T st:=by
 obtain⟨dst,op,ty,pos,af,gd⟩:=o
 cases op<;>simp only[aT]at h<;>try(cases h;done)
 case alloc t=>
  simp only[aq]
  cases ht:E.ty t with
  |none=>rfl
  |some ti=>simp only[an,cV,ht];rfl
 case box t x=>
  simp only[aq]
  cases ht:(V T x).cells with
  |none=>rfl
  |some ti=>simp only[an,eF,ht];rfl
 case buildSlice t n ps=>
  simp only[aq]
  cases ht:aV E t n (ps.toList.map λ(i,x)=>(i,V T x))with
  |none=>rfl
  |some r=>obtain⟨cs,e⟩:=r;simp only[an,aC,ht];rfl
 case makeSlice t l c=>
  simp only[aq]
  cases hm:bg E t (V T l) (V T c)with
  |none=>rfl
  |some r=>
   obtain⟨cs,e,p⟩:=r
   simp only[an,aI]
   unfold bg at hm
   unfold bI
   repeat' split at hm
   all_goals first|(cases hm;done)|skip
   cases hm
   simp only[*]
   rfl
theorem iJ (h:aT o=true) (hn:aq E o T=H):∃wy,an E o T st= .no wy:=by
 obtain⟨dst,op,ty,pos,af,gd⟩:=o
 cases op<;>simp only[aT]at h<;>try(cases h;done)
 case alloc t=>
  simp only[aq]at hn
  cases ht:E.ty t with
  |none=>exact⟨9,by simp only[an,cV,ht]⟩
  |some ti=>rw[ht]at hn;cases hn
 case box t x=>
  simp only[aq]at hn
  cases ht:(V T x).cells with
  |none=>exact⟨94,by simp only[an,eF,ht]⟩
  |some ti=>rw[ht]at hn;cases hn
 case buildSlice t n ps=>
  simp only[aq]at hn
  cases ht:aV E t n (ps.toList.map λ(i,x)=>(i,V T x))with
  |none=>exact⟨12,by simp only[an,aC,ht]⟩
  |some r=>rw[ht]at hn;cases hn
 case makeSlice t l c=>
  simp only[aq]at hn
  refine⟨60,?_⟩
  simp only[an,aI]
  have:bI E t (V T l) (V T c) st=H:=by
   unfold bg at hn
   unfold bI
   repeat' split at hn
   all_goals first|(cases hn;done)|(simp;done)|(simp[*];done)|(simp[*];intros;exfalso;omega)
  rw[this]
theorem kO {op:BinOp} {t:S} {u v:AV} (hop:op≠ .eql) (hop':op≠ .neq) (st1:St):j7 E o op t u v T st1=(j7 E o op t u v T st).at st1:=by
 have hp:=dL (E:=E) (o:=o) (T:=T) (st:=st) st1
 have hV:∀u,aF E o op t u v T st1=(aF E o op t u v T st).at st1:=λu=>by
  unfold aF;cases op<;>first|exact hp|exact absurd rfl hop|exact absurd rfl hop'
 cases u<;>first|exact hV _|rfl|skip
 rename_i m
 show dI E o op m v T st1=(dI E o op m v T st).at st1
 cases v<;>first|exact hp|rfl|skip
 rename_i n
 show a4 E o T st1 (dU op m n)=(a4 E o T st (dU op m n)).at st1
 cases dU op m n<;>first|exact hp|rfl
theorem eP (h:c3 o=true) (hr:bo o=false) (ha:aT o=false) (st1:St):an E o T st1=(an E o T st).at st1:=by
 have hp:=dL (E:=E) (o:=o) (T:=T) (st:=st) st1
 have hb:=λop t u v h1 h2=>kO (E:=E) (o:=o) (T:=T) (st:=st) (op:=op) (t:=t) (u:=u) (v:=v) h1 h2 st1
 obtain⟨dst,op,ty,pos,af,gd⟩:=o
 cases op<;>simp only[c3]at h<;>simp only[aT]at ha<;>try(cases h;done)
 all_goals try(cases ha;done)
 case move x=>rfl
 case assign x=>rfl
 case pick c x y=>simp only[an,dX];split<;>rfl
 case build t ps=>simp only[an,cO];split<;>rfl
 case load t x=>cases hr
 case nilCheck x=>simp only[an,bf];split<;>rfl
 case binOp op t x y yt=>
  simp only[an,bP]
  exact hb _ _ _ _ (by rintro rfl;cases hr) (by rintro rfl;cases hr)
 case unOp op t x=>
  simp only[an,jz]
  split
  ·split<;>first|rfl|exact hp
  ·split<;>first|rfl|exact hp
  ·exact hp
 case makeInterface t x=>simp only[an,ap];split<;>(try split)<;>rfl
 case makeFunc f xs ys=>simp only[an,bc];split<;>rfl
 case slice t x lo hi mx=>
  simp only[an,cT]
  split
  ·exact hp
  ·split<;>rfl
 case fieldAddr t x f=>simp only[an,aX];repeat' split
                       all_goals rfl
 case field t x f=>simp only[an,cP];repeat' split
                   all_goals(try dsimp only)<;>(try split)<;>rfl
 case indexAddr t x ix=>simp only[an,aY];split<;>rfl
 case index t x ix=>
  simp only[an,cU]
  split
  ·repeat' split
   all_goals(try dsimp only)<;>(try split)<;>rfl
  ·exact hp
 case lookup t x k ok=>cases hr
 case typeAssert x xt t ok=>
  simp only[an,aN]
  split
  ·repeat' split
   all_goals first|rfl|exact hp
  ·exact hp
 case extract t i=>simp only[an,bz];repeat' split
                   all_goals rfl
 case call c=>
  simp only[an,bV]
  cases hc:c.callee with
  |value f=>rw[hc]at h;cases h
  |invoke r m=>rw[hc]at h;cases h
  |builtin b=>
   rw[hc]at h
   dsimp only at h
   cases b<;>first|(cases h;done)|skip
   case len=>simp only[bo,hc]at hr;cases hr
   all_goals
    dsimp only
    rcases c.args.toList with _|⟨x,_|⟨y,_|⟨z,l⟩⟩⟩<;>first|exact hp|skip
    dsimp only
    split
    ·split<;>first|rfl|exact hp
    ·exact hp
theorem bH {P:Program} (el:S) (vs:List N) (w:aa):(newRow el ⟨vs⟩).run P w= .ok ⟨w.heap.size,0,H⟩ {w with heap:=w.heap.push (.cells ⟨vs⟩ el)}:=by simp[newRow]
theorem cM {P:Program} {s:Sem N} {x:N} {w w':aa} (h:s.run P w= .ok x w'):(do let y<-s;pure (.value y):Sem Next).run P w= .ok (.value x) w':=by simp[h]
theorem jE (hOK:EOK E) (hR:Rel E G ρ st w.heap) (hE:ER ρ T a.tmps) (ho:ao E.P.globals.size o=true) {cs:List AV} {el:S} {l:Option (Nat×Nat)} (h:aq E o T=F (cs,el,l)):
  ∃vs,VRs ρ cs vs/\(execOp a.eval o).run E.P w= .ok (.value (mkV l w.heap.size)) {w with heap:=w.heap.push (.cells ⟨vs⟩ el)}:=by
 have hg:∀x∈o.op.operands,ac E.P.globals.size x=true:=λx hx=>cu ho hx
 have hgl:=λi hi=>hR.glob i hi
 obtain⟨dst,op,ty,pos,af,gd⟩:=o
 simp only[aq]at h
 cases op<;>try(cases h;done)
 case alloc t=>
  dsimp only at h
  split at h
  ·rename_i ti hti
   obtain⟨z,h1,h2,h3,_⟩:=(hOK.ty _ _ hti).zero_run w
   cases h
   refine⟨z.cells.toList,h2 ρ,cM ?_⟩
   simp[Instr.alloc,h1,newVar]
   rw[show z.cells=⟨z.cells.toList⟩from rfl,bH]
   rfl
  ·cases h
 case box t x=>
  dsimp only at h
  split at h
  ·rename_i cs' hcs
   cases h
   have h1:=VR.evalO hE hgl (hg x (by simp[Op.operands]))
   refine⟨(a.eval x).cells.toList,h1.cells hcs,cM ?_⟩
   simp[Instr.box,newVar]
   rw[show(a.eval x).cells=⟨(a.eval x).cells.toList⟩from rfl,bH]
   rfl
  ·cases h
 case buildSlice t len parts=>
  dsimp only at h
  split at h
  ·rename_i cs' e' hv
   cases h
   unfold aV at hv
   split at hv
   ·rename_i ti hti
    obtain⟨d,hd,hu⟩:=(hOK.ty _ _ hti).run_underlying
    have hpr:=PR.eval hR hE (ps:=parts.toList) (λp hp=>hg p.2 (by simp[Op.operands];exact⟨p.1,by simpa using hp⟩))
    split at hv
    ·rename_i el' es by_ hk
     rw[hk]at hd
     obtain⟨rfl,rfl,_,hkn⟩:=hd
     split at hv
     ·cases hv
     ·rename_i hle
      split at hv
      ·rename_i te hte
       split at hv
       ·rename_i cs2 hf
        obtain⟨rfl,rfl⟩:cs2=cs/\el'=el:=by simpa using hv
        have hel:=hOK.ty _ _ hte
        obtain⟨z,hz,hzv,hzs,_⟩:=hel.zero_run w
        have hsz:E.P.cellsOf el'=z.cells.size:=by rw[hel.size,hzs]
        have hrep:=ba (hzv ρ) len
        obtain⟨vs,h1,h2⟩:=dM (place':=λi=>F (i*E.P.cellsOf el',E.P.cellsOf el')) (vs:=(Array.range (len*E.P.cellsOf el')).map λi=>z.cells[i % z.cells.size]!)
         (λi os h=>h) hpr (by rw[dm,hsz];simpa using hrep) hf
        have h1':Instr.fill (λi=>F (i*E.P.cellsOf el',E.P.cellsOf el')) ((Array.range (len*E.P.cellsOf el')).map λi=>z.cells[i % z.cells.size]!) (parts.map λ(i,x)=>(i,a.eval x)).toList=F vs:=by
         rw[Array.toList_map];exact h1
        refine⟨vs.toList,h2,cM ?_⟩
        simp only[Instr.buildSlice,J,hu,I,ab hkn,Sem.run_ite,hle,if_false,O]
        by_cases h0:len*E.P.cellsOf el'=0
        ·simp only[h0,if_true,I]
         rw[h0]at h1'
         have e0:∀(f:Nat->N),(Array.range 0).map f=#[]:=λf=>by simp
         rw[e0]at h1'⊢
         simp only[h1',J]
         rw[show vs=⟨vs.toList⟩from rfl,bH]
         rfl
        ·simp only[h0,if_false,J,hz,I,O,h1']
         rw[show vs=⟨vs.toList⟩from rfl,bH]
         rfl
       ·cases hv
      ·cases hv
    ·cases hv
   ·cases hv
  ·cases h
 case makeSlice t x y=>
  dsimp only at h
  unfold bg at h
  have h1:=VR.evalO hE hgl (hg x (by simp[Op.operands]))
  have h2:=VR.evalO hE hgl (hg y (by simp[Op.operands]))
  split at h
  ·rename_i ti l' c hti hl hc
   obtain⟨k1,e1⟩:=aR h1 hl
   obtain⟨k2,e2⟩:=aR h2 hc
   simp only[execOp]
   rw[e1,e2]
   obtain⟨d,hd,hu⟩:=(hOK.ty _ _ hti).run_underlying
   split at h
   ·rename_i el' es bytes hk
    rw[hk]at hd
    obtain⟨rfl,rfl,rfl,hkn⟩:=hd
    split at h
    ·rename_i hb
     obtain⟨hl0,hlc,hcb,hc40⟩:=hb
     split at h
     ·rename_i te hte
      obtain⟨rfl,rfl,rfl⟩:bv te.zero c.toNat=cs/\el'=el/\F (l'.toNat,c.toNat)=l:=by simpa using h
      have hel:=hOK.ty _ _ hte
      obtain⟨z,hz,hzv,hzs,_⟩:=hel.zero_run w
      have hsz:E.P.cellsOf el'=z.cells.size:=by rw[hel.size,hzs]
      have hrep:=ba (hzv ρ) c.toNat
      have h4:=bH (P:=E.P) el' ((List.range (c.toNat*z.cells.toList.length)).map λi=>z.cells.toList[i % z.cells.toList.length]!) w
      refine⟨_,hrep,cM ?_⟩
      obtain⟨d',info,z',i1,i2,i3,i4,_⟩:=hel.ex
      have hty:(typeInfo el').run E.P w= .ok info w:=by simp[typeInfo,i2]
      have hbytes:E.P.bytesOf el'=info.bytes:=by simp[Program.bytesOf,i2]
      have hwl:IntKind.i64.wrap l'=l':=a9 hl0 (by omega)
      have hwc:IntKind.i64.wrap c=c:=a9 (by omega) (by omega)
      have hbc:¬((info.bytes:Int)*c>2 ^ 48):=by
       rw[hbytes]at hcb
       rw[Int.mul_comm]
       have:(2:Int) ^ 40<=2 ^ 48:=by decide
       omega
      have hcond:((decide (c<0)||decide ((info.bytes:Int)*c>2 ^ 48))||decide (l'<0)||decide (l'>c))=false:=by
       simp only[hbc,decide_false,Bool.or_false]
       have q1:¬c<0:=by omega
       have q2:¬l'<0:=by omega
       have q3:¬l'>c:=by omega
       simp[q1,q2,q3]
      have hrow:∀zs:Array N,zs=z.cells\/(c.toNat*E.P.cellsOf el'=0)->(newRow el' ((Array.range (c.toNat*E.P.cellsOf el')).map λi=>zs[i % zs.size]!)).run E.P w= .ok ⟨w.heap.size,0,H⟩ {w with heap:=w.heap.push (.cells ⟨(List.range (c.toNat*z.cells.toList.length)).map λi=>z.cells.toList[i % z.cells.toList.length]!⟩ el')}:=by
       intro zs hzs'
       have he:(Array.range (c.toNat*E.P.cellsOf el')).map (λi=>zs[i % zs.size]!)=⟨(List.range (c.toNat*z.cells.toList.length)).map λi=>z.cells.toList[i % z.cells.toList.length]!⟩:=by
        apply Array.ext'
        rcases hzs' with rfl|h0
        ·rw[dm,hsz];simp
        ·have h0':c.toNat*z.cells.toList.length=0:=by rw[hsz]at h0;simpa using h0
         rw[h0,h0'];simp
       rw[he];exact h4
      simp only[Instr.makeSlice,J,hu,I,asInt,asIntOf,O,hty,hwl,hwc,hcond,Bool.false_eq_true,if_false,run_askRoom,ab hkn]
      by_cases h0:c.toNat*E.P.cellsOf el'=0
      ·simp only[h0,if_true,O,I]
       have:=hrow #[] (.inr h0)
       rw[h0]at this
       simp only[J,O,I,this]
       rfl
      ·simp only[h0,if_false,J,hz,I,O,hrow _ (.inl rfl)]
       rfl
     ·cases h
    ·cases h
   ·cases h
  ·cases h
theorem k0 {l:Option (Nat×Nat)} {i b:Nat} (h:ρ i=F (b,0)):VR ρ (lr l i) (mkV l b):=by
 cases l with
 |none=>exact .ptr h
 |some p=>exact .sl (x:=false) h
theorem ed (h:c3 o=true) (ha:aT o=false) {v:AV} {st':St} (hv:an E o T st= .val v st'):st'=st:=by
 cases hr:bo o with
 |false=>
  have:=eP (E:=E) (T:=T) (st:=st) h hr ha st
  rw[hv]at this
  cases this;rfl
 |true=>
  have hp:=dL (E:=E) (o:=o) (T:=T) (st:=st) st
  have hps:∀v st',ak E o T st= .val v st'->st'=st:=λv st' he=>by rw[he]at hp;cases hp;rfl
  obtain⟨dst,op,ty,pos,af,gd⟩:=o
  cases op<;>simp only[bo]at hr<;>try(cases hr;done)
  case load t x=>simp only[an,c7]at hv;split at hv<;>cases hv;rfl
  case binOp op t x y yt=>
   simp only[an,bP]at hv
   have hV:∀u,aF E ⟨dst, .binOp op t x y yt,ty,pos,af,gd⟩ op t u (V T y) T st= .val v st'->st'=st:=λu hu=>by
    unfold aF at hu
    split at hu
    ·split at hu<;>first|(cases hu;rfl)|exact hps _ _ hu
    ·split at hu<;>first|(cases hu;rfl)|exact hps _ _ hu
    ·exact hps _ _ hu
   generalize V T x=u at hv
   cases u<;>first|exact hV _ hv|(cases hv;done)|skip
   rename_i m
   have hv:dI E ⟨dst, .binOp op t x y yt,ty,pos,af,gd⟩ op m (V T y) T st= .val v st':=hv
   generalize V T y=u at hv
   cases u<;>first|exact hps _ _ hv|(cases hv;done)|skip
   rename_i n
   have hv:a4 E ⟨dst, .binOp op t x y yt,ty,pos,af,gd⟩ T st (dU op m n)= .val v st':=hv
   generalize dU op m n=u at hv
   cases u<;>first|exact hps _ _ hv|(cases hv;done)|(cases hv;rfl)
  case lookup t x k ok=>
   simp only[an,bJ]at hv
   repeat' split at hv
   all_goals first|(cases hv;done)|(cases hv;rfl)
  case entry x=>simp only[c3]at h;cases h
  case call c=>
   simp only[an,bV]at hv
   cases hc:c.callee with
   |value f=>rw[hc]at hr;cases hr
   |invoke r m=>rw[hc]at hr;cases hr
   |builtin b=>
    rw[hc]at hr hv
    cases b<;>first|(cases hr;done)|skip
    generalize c.args.toList=la at hv
    generalize c.argTypes.toList=lt at hv
    rcases la with _|⟨x,_|⟨y,l⟩⟩<;>first|exact hps _ _ hv|skip
    rcases lt with _|⟨t,_|⟨t2,l⟩⟩<;>first|exact hps _ _ hv|skip
    dsimp only at hv
    split at hv
    ·cases hv;rfl
    ·exact hps _ _ hv
theorem br.alloc {ops:Array Z} (h:br ops o T T') (hs:cw o=true):aq E o T=aq E o T':=by
 have h':=h.same
 unfold cd at h'
 unfold aq
 obtain⟨dst,op,ty,pos,af,gd⟩:=o
 cases op<;>try rfl
 case box t x=>dsimp only;rw[h' x (by simp[Op.operands])]
 case buildSlice t n ps=>dsimp only;rw[cI (T:=T) (T':=T') (ps:=ps) (λp hp'=>h' p.2 (by simp[Op.operands];exact⟨p.1,hp'⟩))]
 case makeSlice t x y=>dsimp only;rw[h' x (by simp[Op.operands]),h' y (by simp[Op.operands])]
mutual
theorem AV.same_eq:∀{a b:AV},AV.same a b=true->a=b
 | .num x,b,h=>by cases b<;>simp_all[AV.same]
 | .bool x,b,h=>by cases b<;>simp_all[AV.same]
 | .val x,b,h=>by
  cases b<;>try(simp[AV.same]at h;done)
  rename_i y
  simp only[AV.same]at h
  split at h
  case h_3=>
   rename_i p q
   cases p;cases q
   rename_i a b
   have h2:(a==b)=true:=h
   rw[eq_of_beq h2]
  all_goals simp_all
 | .ptr i o,b,h=>by cases b<;>simp_all[AV.same]
 | .nes,b,h=>by cases b<;>simp_all[AV.same]
 | .sl i o l c x,b,h=>by cases b<;>simp_all[AV.same]
 | .mp i,b,h=>by cases b<;>simp_all[AV.same]
 | .fn f a c,b,h=>by
  cases b<;>try(simp[AV.same]at h;done)
  simp only[AV.same,Q]at h
  rw[AV.sames_eq h.1.2,AV.sames_eq h.2]
  simp_all
 | .yld l,b,h=>by cases b<;>simp_all[AV.same]
 | .ifc t v,b,h=>by
  cases b<;>try(simp[AV.same]at h;done)
  simp only[AV.same,Q]at h
  rw[AV.same_eq h.2]
  simp_all
 | .agg a,b,h=>by
  cases b<;>try(simp[AV.same]at h;done)
  simp only[AV.same]at h
  rw[AV.sames_eq h]
 | .tup a,b,h=>by
  cases b<;>try(simp[AV.same]at h;done)
  simp only[AV.same]at h
  rw[AV.sames_eq h]
 | .top,b,h=>by cases b<;>simp[AV.same]at h
theorem AV.sames_eq:∀{a b:List AV},AV.sames a b=true->a=b
 |[],b,h=>by cases b<;>simp_all[AV.sames]
 |x :: xs,b,h=>by
  cases b with
  |nil=>simp[AV.sames]at h
  |cons y ys=>
   simp only[AV.sames,Q]at h
   rw[AV.same_eq h.1,AV.sames_eq h.2]
end
end
end
section
section
variable {E:Env} {G:aD} {ρ ρ0:aj} {st st0:St} {w:aa} {T T':Tr AV} {a:Act} {o:Z} {h h0:Array Obj}
theorem Rel.virt (r:Rel E G ρ st h) (o:AObj):Rel E G ρ (st.new o) h:=by
 have hn:ρ st.n=H:=(r.fresh st.n (Nat.le_refl _)).1
 have hlive:∀i b e,cc (st.new o) i->ρ i=F (b,e)->cc st i:=by
  rintro i b e ⟨x,hx⟩ hr
  rcases cn hx with⟨rfl,_⟩|⟨_,h2⟩
  ·rw[hn]at hr;cases hr
  ·exact⟨x,h2⟩
 refine⟨?_,?_,?_,r.below,r.glob⟩
 ·intro i x b e hx hr
  rcases cn hx with⟨rfl,_⟩|⟨_,h2⟩
  ·rw[hn]at hr;cases hr
  ·exact r.obj i x b e h2 hr
 ·exact λi j b e e' hi hj h1 h2=>r.inj i j b e e' (hlive i b e hi h1) (hlive j b e' hj h2) h1 h2
 ·intro i hi
  have hi':st.n+1<=i:=hi
  refine⟨(r.fresh i (by omega)).1,?_⟩
  show(st.h.put bits st.n (F o)).get i=H
  rw[Tr.get_put_ne _ _ _ _ _ (by omega)]
  exact(r.fresh i (by omega)).2
theorem Ext.virtual (r:Rel E G ρ st h) (o:AObj):Ext ρ st h ρ (st.new o) h:=by
 have hn:ρ st.n=H:=(r.fresh st.n (Nat.le_refl _)).1
 refine⟨Le.refl ρ,λ_ _ h=>h,?_,by show st.n<=st.n+1;omega,Nat.le_refl _,λ_ _ _=>rfl,?_⟩
 ·intro i hi _
  show(st.h.put bits st.n (F o)).get i=_
  exact Tr.get_put_ne _ _ _ _ _ (by omega)
 ·rintro i b e ⟨x,hx⟩ hr
  rcases cn hx with⟨rfl,_⟩|⟨_,h2⟩
  ·rw[hn]at hr;cases hr
  ·exact .inr ⟨i,e,⟨x,h2⟩,hr⟩
theorem Rel.bind (r:Rel E G ρ st h) {id e:Nat} {ob:Obj} (hid:id<st.n) (hn:ρ id=H) (hob:∀x,st.h.get id=F x->OR E G (aK ρ id h.size e) e x ob):Rel E G (aK ρ id h.size e) st (h.push ob):=by
 have le:=cK (b:=h.size) (e:=e) hn
 have hne:∀{i b e'},i≠id->aK ρ id h.size e i=F (b,e')->ρ i=F (b,e'):=by
  intro i b e' hi hr;simpa[aK,hi]using hr
 have hself:∀{b e'},aK ρ id h.size e id=F (b,e')->b=h.size/\e'=e:=by
  intro b e' hr;rw[ae]at hr;cases hr;exact⟨rfl,rfl⟩
 refine⟨?_,?_,?_,?_,λg hg=>le _ _ (r.glob g hg)⟩
 ·intro i x b e' hx hr
  by_cases hi:i=id
  ·subst hi
   obtain⟨rfl,rfl⟩:=hself hr
   exact⟨ob,by simp,hob x hx⟩
  ·obtain⟨oc,h1,h2⟩:=r.obj i x b e' hx (hne hi hr)
   refine⟨oc,?_,h2.mono le⟩
   have hlt:=cr h1
   rw[Array.getElem?_push,if_neg (by omega)];exact h1
 ·intro i j b e1 e2 hi hj h1 h2
  by_cases hi':i=id<;>by_cases hj':j=id
  ·rw[hi',hj']
  ·subst hi'
   obtain⟨rfl,rfl⟩:=hself h1
   have:=r.below j _ _ (hne hj' h2)
   omega
  ·subst hj'
   obtain⟨rfl,rfl⟩:=hself h2
   have:=r.below i _ _ (hne hi' h1)
   omega
  ·exact r.inj i j b e1 e2 hi hj (hne hi' h1) (hne hj' h2)
 ·intro i hi
  have:i≠id:=by omega
  exact⟨by simpa[aK,this]using(r.fresh i hi).1,(r.fresh i hi).2⟩
 ·intro i b e' hr
  by_cases hi:i=id
  ·subst hi;obtain⟨rfl,rfl⟩:=hself hr;simp
  ·have:=r.below i b e' (hne hi hr);simp;omega
theorem Ext.bind (x:Ext ρ0 st0 h0 ρ st h) {id e:Nat} (ob:Obj) (h0id:st0.n<=id) (hn:ρ id=H):Ext ρ0 st0 h0 (aK ρ id h.size e) st (h.push ob):=by
 refine⟨x.mono.trans (cK hn),?_,x.virt,x.n,by have:=x.size;simp;omega,?_,?_⟩
 ·intro i hi hr
  have:i≠id:=by omega
  simpa[aK,this]using x.old i hi hr
 ·intro c hc hno
  have:=x.size
  rw[<-x.keep c hc hno,Array.getElem?_push,if_neg (by omega)]
 ·intro i b e' hl hr
  by_cases hi:i=id
  ·subst hi;rw[ae]at hr;cases hr;exact .inl x.size
  ·exact x.dom i b e' hl (by simpa[aK,hi]using hr)
theorem dK (hf:st.h.get st.n=H) {ob:AObj} {i:Nat} {x:AObj} (h:st.h.get i=F x):(st.new ob).h.get i=F x:=by
 have:i≠st.n:=λhe=>by rw[he,hf]at h;cases h
 show(st.h.put bits st.n (F ob)).get i=F x
 rw[Tr.get_put_ne _ _ _ _ _ this];exact h
theorem fF (hf:st.h.get st.n=H) {ob:AObj} {i o n:Nat} {r:List AV} (h:aA st i o n=F r):aA (st.new ob) i o n=F r:=by
 unfold aA at h⊢
 split at h
 ·rename_i cs e x hx
  rw[dK hf hx];exact h
 ·cases h
theorem ib (hf:st.h.get st.n=H) {ob:AObj} {i o:Nat} {v:AV} (h:a8 o (st.h.get i)=F v):a8 o ((st.new ob).h.get i)=F v:=by
 cases hx:st.h.get i with
 |none=>rw[hx]at h;cases h
 |some x=>rw[dK hf hx];rw[hx]at h;exact h
theorem hQ (hf:st.h.get st.n=H) {ob:AObj} {i o n:Nat} {v:AV} (h:cN (aA st i o n)=F v):cN (aA (st.new ob) i o n)=F v:=by
 cases hx:aA st i o n with
 |none=>rw[hx]at h;cases h
 |some x=>rw[fF hf hx];rw[hx]at h;exact h
theorem jp (hf:st.h.get st.n=H) {ob:AObj} {t:S} {p v:AV} (h:e9 E t p st=F v):e9 E t p (st.new ob)=F v:=by
 unfold e9 at h⊢
 split at h
 ·unfold gx at h⊢
  cases hti:E.ty t with
  |none=>rw[hti]at h;cases h
  |some ti=>
   rw[hti]at h
   dsimp only at h⊢
   unfold jb at h⊢
   split at h<;>first|exact hQ hf h|exact ib hf h
 ·cases h
theorem fP (hf:st.h.get st.n=H) {ob:AObj} {i:Nat} {x:Bool} (h:dp st i=F x):dp (st.new ob) i=F x:=by
 unfold dp at h⊢
 split at h
 ·rename_i hx;rw[dK hf hx];exact h
 ·cases h
theorem iM (hf:st.h.get st.n=H) {ob:AObj} {i p j q:Nat} {x:Bool} (h:dR st i p j q=F x):dR (st.new ob) i p j q=F x:=by
 unfold dR at h⊢
 cases hb:Nat.beq i j with
 |true=>rw[hb]at h;exact h
 |false=>
  rw[hb]at h
  dsimp only at h⊢
  cases h1:dp st i with
  |none=>rw[h1]at h;cases h
  |some y=>
   rw[h1]at h
   rw[fP hf h1]
   cases y with
   |true=>cases h
   |false=>
    dsimp only at h⊢
    cases h2:dp st j with
    |none=>rw[h2]at h;cases h
    |some z=>
     rw[h2]at h
     rw[fP hf h2]
     exact h
theorem kc (hf:st.h.get st.n=H) {ob:AObj} {k:TK} {x y:AV}:fy k x y (st.new ob)=fy k x y st\/((∃i p j q,x= .ptr i p/\y= .ptr j q)/\∀r,fy k x y st=F r->fy k x y (st.new ob)=F r):=by
 cases k
 case ptr es=>
  by_cases hh:∃i p j q,x= .ptr i p/\y= .ptr j q
  ·refine .inr ⟨hh,?_⟩
   obtain⟨i,p,j,q,rfl,rfl⟩:=hh
   intro r h
   unfold fy at h⊢
   dsimp only at h⊢
   cases hb:Nat.beq es 0 with
   |true=>rw[hb]at h;cases h
   |false=>rw[hb]at h;exact iM hf h
  ·left
   unfold fy
   dsimp only
   split
   ·exact absurd ⟨_,_,_,_,rfl,rfl⟩ hh
   ·rfl
   ·rfl
   ·rfl
 all_goals exact .inl rfl
theorem kx (hf:st.h.get st.n=H) {ob:AObj} {t:S} {x y:AV}:kE E t x y (st.new ob)=kE E t x y st\/((∃i p j q,x= .ptr i p/\y= .ptr j q)/\∀r,kE E t x y st=F r->kE E t x y (st.new ob)=F r):=by
 unfold kE
 cases E.ty t with
 |none=>exact .inl rfl
 |some ti=>exact kc hf
theorem jq {x:W} {i p:Nat} (hx:x∈o.op.operands) (hp:V T x= .ptr i p):ak E o T st= .no 2:=by
 unfold ak
 rw[if_neg]
 intro hall
 have:=(Array.all_eq_true_iff_forall_mem.1 hall) x hx
 rw[hp]at this
 cases this
theorem jW (hf:st.h.get st.n=H) {ob:AObj} {t:S} {x:AV}:iA E t x (st.new ob)=iA E t x st\/((∃i,x= .mp i)/\∀r,iA E t x st=F r->iA E t x (st.new ob)=F r):=by
 unfold iA
 cases E.ty t with
 |none=>exact .inl rfl
 |some ti=>
  dsimp only
  unfold ku
  cases ti.k<;>try exact .inl rfl
  cases x<;>try exact .inl rfl
  rename_i i
  refine .inr ⟨⟨i,rfl⟩,?_⟩
  intro r h
  dsimp only at h⊢
  split at h
  ·rename_i hx;rw[dK hf hx];exact h
  ·cases h
theorem jZ {x:W} {i:Nat} (hx:x∈o.op.operands) (hp:V T x= .mp i):ak E o T st= .no 2:=by
 unfold ak
 rw[if_neg]
 intro hall
 have:=(Array.all_eq_true_iff_forall_mem.1 hall) x hx
 rw[hp]at this
 cases this
theorem jP (hf:st.h.get st.n=H) {ob:AObj} {kt:S} {kv:N} {x:AV} {r:Option (Nat×N×AV×Nat)} (h:ft E kt kv x st=F r):ft E kt kv x (st.new ob)=F r:=by
 unfold ft at h⊢
 split at h
 ·exact h
 ·split at h
  ·rename_i hx
   try dsimp only
   rw[dK hf hx];exact h
  ·cases h
 ·cases h
theorem jO (h:c3 o=true) (ha:aT o=false) (hf:st.h.get st.n=H) {ob:AObj} {v:AV} (hv:an E o T st= .val v st):an E o T (st.new ob)= .val v (st.new ob):=by
 have hp:=dL (E:=E) (o:=o) (T:=T) (st:=st) (st.new ob)
 have hps:ak E o T st= .val v st->ak E o T (st.new ob)= .val v (st.new ob):=λhe=>by rw[hp,he];rfl
 cases hr:bo o with
 |false=>rw[eP (E:=E) (T:=T) (st:=st) h hr ha (st.new ob),hv];rfl
 |true=>
  have hptr:=λ(x:W) (i p:Nat) h1 h2=>jq (E:=E) (T:=T) (o:=o) (st:=st) (x:=x) (i:=i) (p:=p) h1 h2
  have hmp:=λ(x:W) (i:Nat) h1 h2=>jZ (E:=E) (T:=T) (o:=o) (st:=st) (x:=x) (i:=i) h1 h2
  obtain⟨dst,op,ty,pos,af,gd⟩:=o
  cases op<;>simp only[bo]at hr<;>try(cases hr;done)
  case load t x=>
   simp only[an,c7]at hv⊢
   split at hv
   ·rename_i u hu;cases hv;rw[jp hf hu]
   ·cases hv
  case binOp op t x y yt=>
   simp only[an,bP]at hv⊢
   have hV:∀u,(u=V T x)->aF E ⟨dst, .binOp op t x y yt,ty,pos,af,gd⟩ op t u (V T y) T st= .val v st->aF E ⟨dst, .binOp op t x y yt,ty,pos,af,gd⟩ op t u (V T y) T (st.new ob)= .val v (st.new ob):=λu hue hu=>by
    rcases kx (E:=E) (t:=t) (x:=u) (y:=V T y) hf (ob:=ob)with he|⟨⟨i,p,j,q,h1,h2⟩,he⟩
    ·unfold aF at hu⊢
     rw[he]
     cases op<;>first|exact hps hu|skip
     all_goals
      try dsimp only at hu⊢
      split at hu
      ·cases hu;rfl
      ·exact hps hu
    ·have hn:=hptr x i p (by simp[Op.operands]) (by rw[<-hue,h1])
     unfold aF at hu⊢
     cases op<;>first|exact hps hu|skip
     all_goals
      try dsimp only at hu⊢
      split at hu
      ·rename_i hh;cases hu;rw[he _ hh]
      ·rw[hn]at hu;cases hu
   revert hv
   generalize hu:V T x=u
   intro hv
   cases u<;>first|exact hV _ hu.symm hv|(cases hv;done)|skip
   rename_i m
   have hv:dI E ⟨dst, .binOp op t x y yt,ty,pos,af,gd⟩ op m (V T y) T st= .val v st:=hv
   show dI E ⟨dst, .binOp op t x y yt,ty,pos,af,gd⟩ op m (V T y) T (st.new ob)= .val v (st.new ob)
   generalize V T y=u at hv
   cases u<;>first|exact hps hv|(cases hv;done)|skip
   rename_i n
   have hv:a4 E ⟨dst, .binOp op t x y yt,ty,pos,af,gd⟩ T st (dU op m n)= .val v st:=hv
   show a4 E ⟨dst, .binOp op t x y yt,ty,pos,af,gd⟩ T (st.new ob) (dU op m n)= .val v (st.new ob)
   generalize dU op m n=u at hv
   cases u<;>first|exact hps hv|(cases hv;done)|(cases hv;rfl)
  case lookup t x k ok=>
   simp only[an,bJ]at hv⊢
   cases hti:E.ty t with
   |none=>rw[hti]at hv;cases hv
   |some ti=>
    rw[hti]at hv
    dsimp only at hv⊢
    cases hk:ti.k<;>rw[hk]at hv<;>try(cases hv;done)
    rename_i kt et
    dsimp only at hv⊢
    cases hkv:(V T k).toVal with
    |none=>rw[hkv]at hv;cases hv
    |some kv=>
     rw[hkv]at hv
     dsimp only at hv⊢
     cases hm:ft E kt kv (V T x) st with
     |none=>rw[hm]at hv;cases hv
     |some r=>
      rw[hm]at hv
      rw[jP hf hm]
      cases r with
      |some r=>
       obtain⟨r1,r2,r3,r4⟩:=r
       dsimp only at hv⊢
       injection hv with hv _
       rw[hv]
      |none=>
       cases hte:E.ty et with
       |none=>rw[hte]at hv;cases hv
       |some te=>
        rw[hte]at hv
        dsimp only at hv⊢
        injection hv with hv _
        rw[hv]
  case entry x=>simp only[c3]at h;cases h
  case call c=>
   simp only[an,bV]at hv⊢
   cases hc:c.callee with
   |value f=>rw[hc]at hr;cases hr
   |invoke r m=>rw[hc]at hr;cases hr
   |builtin b=>
    rw[hc]at hr hv
    cases b<;>first|(cases hr;done)|skip
    have hops:∀x∈c.args.toList,x∈(Op.call c).operands:=λx hx=>by simp[Op.operands,Call.operands];exact .inr (by simpa using hx)
    revert hops
    generalize c.args.toList=la at hv⊢
    generalize c.argTypes.toList=lt at hv⊢
    intro hops
    rcases la with _|⟨x,_|⟨y,l⟩⟩<;>first|exact hps hv|skip
    rcases lt with _|⟨t,_|⟨t2,l⟩⟩<;>first|exact hps hv|skip
    dsimp only at hv⊢
    rcases jW (E:=E) (t:=t) (x:=V T x) hf (ob:=ob)with he|⟨⟨i,h1⟩,he⟩
    ·rw[he]
     split at hv
     ·cases hv;rfl
     ·exact hps hv
    ·split at hv
     ·rename_i hh;cases hv;rw[he _ hh]
     ·rw[hmp x i (hops x (by simp)) h1]at hv;cases hv
end
end
section
section
variable {D:Array Z->Bool} {E:Env} {b:Frame} {n:Nat} {car:Option Nat} {k:List Item} {cs:List Frame} {ev:b8} {ops:Array Z} {ρ0 ρ:aj} {st0 st:St} {w0 w:aa} {T T':Tr AV} {df:List ADef} {a:Act}
 {listed:Array Bool} {Dn:List Nat} {vid:Nat->Option Nat} {o q:Z} {i j:Nat}
def bT (E:Env) (ops:Array Z) (ρ:aj) (n0:Nat) (st:St) (T:Tr AV) (o:Z) (vi:Option Nat):Prop:=
 (au ops.toList o T=F false/\vi=H/\∀d u,o.dst=F d->T.get d=F u->u=ax)\/
 (au ops.toList o T=F true/\∃v,(∀d u,o.dst=F d->T.get d=F u->u=v)/\
  ((vi=H/\aT o=false/\an E o T st= .val v st)\/
   (∃id cs el l,vi=F id/\aq E o T=F (cs,el,l)/\v=lr l id/\ρ id=H/\n0<=id/\id<st.n/\∀x,st.h.get id=F x->x= .cells cs el false)))
theorem bT.vnone {n0:Nat} {vi:Option Nat} (h:bT E ops ρ n0 st T o vi) {id:Nat} (hid:vi=F id):ρ id=H/\n0<=id/\id<st.n:=by
 rcases h with⟨_,h,_⟩|⟨_,v,_,⟨h,_⟩|⟨id',cs,el,l,h,_,_,h1,h2,h3,_⟩⟩
 ·rw[h]at hid;cases hid
 ·rw[h]at hid;cases hid
 ·rw[h]at hid;cases hid;exact⟨h1,h2,h3⟩
theorem bT.mono {n0:Nat} {vi:Option Nat} {ρ':aj} (h:bT E ops ρ n0 st T o vi) (hv:∀id,vi=F id->ρ' id=H):bT E ops ρ' n0 st T o vi:=by
 rcases h with h|⟨h0,v,h1,h|⟨id,cs,el,l,g1,g2,g3,g4,g5⟩⟩
 ·exact .inl h
 ·exact .inr ⟨h0,v,h1, .inl h⟩
 ·exact .inr ⟨h0,v,h1, .inr ⟨id,cs,el,l,g1,g2,g3,hv id g1,g5⟩⟩
theorem bT.turn {n0:Nat} {vi:Option Nat} {ρ':aj} {st':St} (h:bT E ops ρ n0 st T q vi) (hal:br ops q T T') (hdst:∀d,q.dst=F d->T'.get d=T.get d) (hs:cw q=true)
  (hval:∀v,aT q=false->au ops.toList q T=F true->(∀d u,q.dst=F d->T.get d=F u->u=v)->an E q T st= .val v st->an E q T' st'= .val v st')
  (hid:∀id,vi=F id->ρ id=H->id<st.n->ρ' id=H/\id<st'.n/\st'.h.get id=st.h.get id):bT E ops ρ' n0 st' T' q vi:=by
 rcases h with⟨h0,h1,h2⟩|⟨h0,v,h1,⟨g1,g2,g3⟩|⟨id,cs,el,l,g1,g2,g3,g4,g5,g6,g7⟩⟩
 ·exact .inl ⟨hal.wanted▸h0,h1,λd u hd hu=>h2 d u hd (hdst d hd▸hu)⟩
 ·exact .inr ⟨hal.wanted▸h0,v,λd u hd hu=>h1 d u hd (hdst d hd▸hu), .inl ⟨g1,g2,hval v g2 h0 h1 g3⟩⟩
 ·obtain⟨e1,e2,e3⟩:=hid id g1 g4 g6
  exact .inr ⟨hal.wanted▸h0,v,λd u hd hu=>h1 d u hd (hdst d hd▸hu), .inr ⟨id,cs,el,l,g1,hal.alloc hs▸g2,g3,e1,g5,e2,λx hx=>g7 x (e3▸hx)⟩⟩
def f7 (ops:Array Z) (Dn:List Nat) (listed:Array Bool):List Tmp:=Dn.filterMap λi=>if listed.getD i false then H else(ops[i]?).bind (·.dst)
theorem aJ {t:Tmp}:t∈f7 ops Dn listed↔∃i∈Dn,listed.getD i false=false/\∃o,ops[i]?=F o/\o.dst=F t:=by
 unfold f7
 rw[List.mem_filterMap]
 constructor
 ·rintro⟨i,hi,h⟩
  cases hl:listed.getD i false with
  |true=>rw[hl]at h;cases h
  |false=>
   rw[hl]at h
   cases ho:ops[i]? with
   |none=>rw[ho]at h;cases h
   |some o=>rw[ho]at h;exact⟨i,hi,hl,o,ho,h⟩
 ·rintro⟨i,hi,hl,o,ho,hd⟩
  exact⟨i,hi,by simp only[hl,ho];exact hd⟩
def je (ops:Array Z):List Nat->Prop
 |[]=>True
 |i :: Dn=>(i ∉ Dn/\∃o,ops[i]?=F o/\∀e∈o.after,Region.binds .any e=true->e.on∈Dn)/\je ops Dn
theorem je.mem:∀{Dn:List Nat},je ops Dn->i∈Dn->∃o,ops[i]?=F o/\∀e∈o.after,Region.binds .any e=true->e.on∈Dn
 |[],_,h=>by cases h
 |x :: Dn,h,hi=>by
  rcases List.mem_cons.1 hi with rfl|hi
  ·obtain⟨o,ho,he⟩:=h.1.2
   exact⟨o,ho,λe h1 h2=>List.mem_cons_of_mem _ (he e h1 h2)⟩
  ·obtain⟨o,ho,he⟩:=je.mem h.2 hi
   exact⟨o,ho,λe h1 h2=>List.mem_cons_of_mem _ (he e h1 h2)⟩
theorem je.ready:∀{Dn:List Nat},je ops Dn->(∃i∈Dn,listed.getD i false=false)->∃i∈Dn,listed.getD i false=false/\∃o,ops[i]?=F o/\∀e∈o.after,Region.binds .any e=true->listed.getD e.on false=true
 |[],_,h=>by obtain⟨i,hi,_⟩:=h;cases hi
 |x :: Dn,h,hu=>by
  by_cases hin:∃i∈Dn,listed.getD i false=false
  ·obtain⟨i,hi,h1⟩:=je.ready h.2 hin
   exact⟨i,List.mem_cons_of_mem _ hi,h1⟩
  ·obtain⟨i,hi,hl⟩:=hu
   rcases List.mem_cons.1 hi with rfl|hi
   ·obtain⟨o,ho,he⟩:=h.1.2
    refine⟨i,List.mem_cons_self ..,hl,o,ho,λe h1 h2=>?_⟩
    cases hle:listed.getD e.on false with
    |true=>rfl
    |false=>exact absurd ⟨_,he e h1 h2,hle⟩ hin
   ·exact absurd ⟨i,hi,hl⟩ hin
theorem bw (h:hasEdge o j=true):∃e∈o.after,Region.binds .any e=true/\e.on=j:=by
 unfold hasEdge at h
 rw[List.any_eq_true]at h
 obtain⟨e,he,h⟩:=h
 simp only[Q]at h
 exact⟨e,by simpa using he,h.1,U h.2⟩
structure Fix (E:Env) (n:Nat) (ops:Array Z):Prop where
 ok:EOK E
 pair:∀i j oi oj,ops[i]?=F oi->ops[j]?=F oj->gy ops i j oi oj=true
 all:∀(i:Nat) (o:Z),ops[i]?=F o->cW E.P.globals.size n o=true
theorem Fix.p1 (hF:Fix E n ops) {oi oj:Z} (hi:ops[i]?=F oi) (hj:ops[j]?=F oj) (hl:lightIn ops i oi=true\/lightIn ops j oj=true) {d:Tmp} (hd:oj.dst=F d) (hlook:cZ ops oi d=true):
  hasEdge oi j=true\/(lightIn ops j oj=false/\hasEdge oj i=true):=by
 have h:=hF.pair i j oi oj hi hj
 unfold gy at h
 rw[hd]at h
 have h0:(lightIn ops i oi||lightIn ops j oj)=true:=by rcases hl with h|h<;>simp[h]
 simp only[h0,hlook,Bool.not_true,Bool.false_or,Q,Bool.or_eq_true,Bool.not_eq_true']at h
 rcases h.1 with h|h
 ·exact .inl h
 ·exact .inr h
theorem Fix.p2 (hF:Fix E n ops) {oi oj:Z} (hi:ops[i]?=F oi) (hj:ops[j]?=F oj) (hl:lightIn ops i oi=true\/lightIn ops j oj=true) (hne:i≠j) {d:Tmp} (hd:oj.dst=F d):oi.dst≠F d:=by
 intro hdi
 have h:=hF.pair i j oi oj hi hj
 unfold gy at h
 rw[hd]at h
 have h0:(lightIn ops i oi||lightIn ops j oj)=true:=by rcases hl with h|h<;>simp[h]
 have h1:Nat.beq i j=false:=by
  cases hb:Nat.beq i j with
  |false=>rfl
  |true=>exact absurd (U hb) hne
 rw[h0,hdi]at h
 simp[h1]at h
structure Game (D:Array Z->Bool) (E:Env) (b:Frame) (n:Nat) (cs:List Frame) (ops:Array Z) (ρ0:aj) (st0:St) (w0:aa) (df:List ADef)
  (listed:Array Bool) (Dn:List Nat) (vid:Nat->Option Nat) (T:Tr AV) (ρ:aj) (st:St) (a:Act) (w:aa):Prop where
 mw:Mw E (GE D E) ρ0 st0 w0 ρ st w
 er:ER ρ (dW T (f7 ops Dn listed)) a.tmps
 n:n<=a.tmps.size
 df:fN ρ df a.defers
 u:st.u=st0.u
 ur:UR ρ b st.u cs
 size:listed.size=ops.size
 ord:je ops Dn
 sub:∀i,listed.getD i false=true->i∈Dn
 lit:∀i∈Dn,listed.getD i false=false->∀o,ops[i]?=F o->lightIn ops i o=true/\bT E ops ρ st0.n st T o (vid i)
 vinj:∀i j id,i∈Dn->j∈Dn->listed.getD i false=false->listed.getD j false=false->vid i=F id->vid j=F id->i=j
theorem Game.alike (hF:Fix E n ops) (g:Game D E b n cs ops ρ0 st0 w0 df listed Dn vid T ρ st a w) (ho:ops[i]?=F o)
  (hready:∀e∈o.after,Region.binds .any e=true->listed.getD e.on false=true):br ops o T (dW T (f7 ops Dn listed)):=by
 intro d hd
 refine(b4 _ _ _ ?_).symm
 intro hm
 obtain⟨j,hj,hu,q,hq,hqd⟩:=aJ.1 hm
 obtain⟨hlj,_⟩:=g.lit j hj hu q hq
 rcases hF.p1 ho hq (.inr hlj) hqd hd with h|⟨h,_⟩
 ·obtain⟨e,he,h1,rfl⟩:=bw h
  rw[hready e he h1]at hu;cases hu
 ·rw[hlj]at h;cases h
theorem ec {d:Option Tmp} {t:Tmp} {x:N} (h:d≠F t):(a.put d x).tmps.getD t undef=a.tmps.getD t undef:=by
 cases d with
 |none=>rfl
 |some d=>
  have:d≠t:=λhe=>h (by rw[he])
  simp[Act.put,Array.getElem?_setIfInBounds_ne this]
theorem hH {i j:Nat} (hs:i<listed.size):(listed.setIfInBounds i true).getD j false=if j=i then true else listed.getD j false:=by
 by_cases h:j=i
 ·subst h;simp[hs]
 ·rw[if_neg h,getD_set_ne false (Ne.symm h)]
theorem fd {d:Option Tmp} {t:Tmp} {u v:AV} (h:(aB T d v).get t=F u):(d=F t/\u=v)\/(d≠F t/\T.get t=F u):=by
 cases d with
 |none=>exact .inr ⟨by simp,h⟩
 |some d=>
  rcases Tr.put_some (h:(T.put bits d (F v)).get t=F u)with⟨rfl,h2⟩|⟨hne,h2⟩
  ·cases h2;exact .inl ⟨rfl,rfl⟩
  ·exact .inr ⟨by simpa using Ne.symm hne,h2⟩
theorem eC {d:Option Tmp} {t:Tmp} {v:AV} (h:d≠F t):(aB T d v).get t=T.get t:=by
 cases d with
 |none=>rfl
 |some d=>
  have:t≠d:=λhe=>h (by rw[he])
  exact Tr.get_put_ne _ _ _ _ _ this
theorem az {i:Nat} {o:Z} (h:ops[i]?=F o):i<ops.size:=(Array.getElem?_eq_some_iff.1 h).1
theorem iW (hop:cW E.P.globals.size n o=true) (hn:n<=a.tmps.size) {t:Tmp} (h:o.dst=F t):t<a.tmps.size:=by
 unfold cW at hop
 simp at hop
 exact ja hop.2 hn t h
theorem ei {d:Option Tmp} {x:N}:(a.put d x).defers=a.defers:=by cases d<;>rfl
theorem Game.finish (hF:Fix E n ops) (g:Game D E b n cs ops ρ0 st0 w0 df listed Dn vid T ρ st a w) (ho:ops[i]?=F o) {ρ':aj} {w':aa} {x:N} (hle:Le ρ ρ')
  (hi:i∈Dn) (hmw:Mw E (GE D E) ρ0 st0 w0 ρ' st w') (hx:∀d u,o.dst=F d->T.get d=F u->VR ρ' u x) (hv:∀j∈Dn,j≠i->listed.getD j false=false->∀id,vid j=F id->ρ' id=H):
  Game D E b n cs ops ρ0 st0 w0 df (listed.setIfInBounds i true) Dn vid T ρ' st (a.put o.dst x) w':=by
 have hlt:i<listed.size:=by rw[g.size];exact az ho
 have hset:=λj=>hH (listed:=listed) (i:=i) (j:=j) hlt
 have hun:∀j,(listed.setIfInBounds i true).getD j false=false->j≠i/\listed.getD j false=false:=by
  intro j hj
  rw[hset]at hj
  split at hj
  ·cases hj
  ·exact⟨‹_›,hj⟩
 refine⟨hmw,?_,by rw[bF];exact g.n,by rw[ei];exact g.df.mono hle,g.u,g.ur.mono hle,by simpa using g.size,g.ord,?_,?_,?_⟩
 ·intro t u ht
  obtain⟨hm,hu⟩:=dr _ _ _ _ ht
  by_cases hd:o.dst=F t
  ·have htl:=iW (hF.all i o ho) g.n hd
   refine⟨by rw[bF];exact htl,?_⟩
   rw[hd]
   simp[Act.put,htl]
   exact hx t u hd hu
  ·have hm':t ∉ f7 ops Dn listed:=by
    intro hmem
    obtain⟨j,hj,hju,q,hq,hqd⟩:=aJ.1 hmem
    refine hm (aJ.2 ⟨j,hj,?_,q,hq,hqd⟩)
    rw[hset]
    split
    ·rename_i he;subst he;rw[ho]at hq;cases hq;exact absurd hqd hd
    ·exact hju
   obtain⟨h1,h2⟩:=g.er t u (by rw[b4 _ _ _ hm'];exact hu)
   exact⟨by rw[bF];exact h1,by rw[ec hd];exact h2.mono hle⟩
 ·intro j hj
  rw[hset]at hj
  split at hj
  ·rename_i he;subst he;exact hi
  ·exact g.sub j hj
 ·intro j hj hju q hq
  obtain⟨hne,hju'⟩:=hun j hju
  obtain⟨h1,h2⟩:=g.lit j hj hju' q hq
  exact⟨h1,h2.mono (λid hid=>hv j hj hne hju' id hid)⟩
 ·intro x y id hx hy hux huy h1 h2
  exact g.vinj x y id hx hy (hun x hux).2 (hun y huy).2 h1 h2
theorem Game.vnone (g:Game D E b n cs ops ρ0 st0 w0 df listed Dn vid T ρ st a w) (hj:j∈Dn) (hju:listed.getD j false=false) {id:Nat} (hid:vid j=F id):ρ id=H/\st0.n<=id/\id<st.n:=by
 obtain⟨q,hq,_⟩:=g.ord.mem hj
 exact(g.lit j hj hju q hq).2.vnone hid
theorem aQ (h:lightIn ops i o=true):c3 o=true:=by
 unfold lightIn at h;simp at h;exact h.1
theorem gI (h:c3 o=true):∀c,o.op≠ .defer c:=by
 intro c hc;unfold c3 at h;rw[hc]at h;cases h
theorem Game.pend_step (hF:Fix E n ops) (g:Game D E b n cs ops ρ0 st0 w0 df listed Dn vid T ρ st a w) (ho:ops[i]?=F o) (hi:i∈Dn) (hu:listed.getD i false=false)
  (hready:∀e∈o.after,Region.binds .any e=true->listed.getD e.on false=true) (l:List Nat):
  ∃ρ' a' w',step E.P (lone (At b car a (.inRegion ops (i :: l) :: k)) cs w)= .next (lone (At b car a' (.inRegion ops l :: k)) cs w')/\
   Game D E b n cs ops ρ0 st0 w0 df (listed.setIfInBounds i true) Dn vid T ρ' st a' w':=by
 obtain⟨hl,hp⟩:=g.lit i hi hu o ho
 have hop:=hF.all i o ho
 have hgo:ao E.P.globals.size o=true:=by unfold cW at hop;simp at hop;exact hop.1
 have hal:=g.alike hF ho hready
 have hnd:car=H\/∀c,o.op≠ .defer c:= .inr (gI (aQ hl))
 have hvn:∀j∈Dn,j≠i->listed.getD j false=false->∀id,vid j=F id->ρ id=H:=λj hj _ hju id hid=>(g.vnone hj hju hid).1
 rcases hp with⟨hw,_,hd⟩|⟨hw,v,hd,⟨_,hna,hval⟩|⟨id,cs',el,lx,hvid,hall,rfl,hn,h0,hlt,hobj⟩⟩
 ·have hwant:=bG (ops:=ops) g.er (hal.wanted▸hw)
  have hs:=dg (P:=E.P) (b:=b) (ar:=car) (a:=a) (k:=k) (cs:=cs) (w:=w) (ops:=ops) (i:=i) (rest:=l) (by simp[ho,hwant])
  simp only[ho,Option.bind_some]at hs
  exact⟨ρ,_,w,hs,g.finish hF ho (Le.refl ρ) hi g.mw (λd u h1 h2=>by rw[hd d u h1 h2];exact bB) hvn⟩
 ·have hwant:=bG (ops:=ops) g.er (hal.wanted▸hw)
  have hOp:=il hF.ok g.mw.rel g.er hgo
  rw[<-b3 hal.same (aw hgo),hval]at hOp
  obtain⟨x,w',ρ',hr,hvr,hm⟩:=hOp
  have hs:=dx (P:=E.P) (b:=b) (ar:=car) (k:=k) (cs:=cs) (rest:=l) ho hwant hnd hr
  refine⟨ρ',_,w',hs,g.finish hF ho hm.ext.mono hi (g.mw.trans hm.mw) (λd u h1 h2=>by rw[hd d u h1 h2];exact hvr) ?_⟩
  intro j hj hne hju id hid
  obtain⟨h1,_,h3⟩:=g.vnone hj hju hid
  exact hm.ext.old id h3 h1
 ·have hwant:=bG (ops:=ops) g.er (hal.wanted▸hw)
  obtain⟨vs,hvs,hr⟩:=jE hF.ok g.mw.rel g.er hgo (hal.alloc (aw hgo)▸hall)
  have hs:=dx (P:=E.P) (b:=b) (ar:=car) (k:=k) (cs:=cs) (rest:=l) ho hwant hnd hr
  refine⟨aK ρ id w.heap.size 0,_,_,hs,g.finish hF ho (cK hn) hi ⟨?_,?_,?_⟩ (λd u h1 h2=>by rw[hd d u h1 h2];exact k0 (ae ρ id _ 0)) ?_⟩
  ·exact g.mw.rel.bind hlt hn (λx hx=>by rw[hobj x hx];exact OR.exact el false (hvs.mono (cK hn)) rfl)
  ·exact g.mw.ext.bind _ h0 hn
  ·exact g.mw.same.trans ⟨rfl,rfl,rfl⟩
  ·intro j hj hne hju id' hid'
   have hne':id'≠id:=λhe=>hne (g.vinj j i id hj hi hju hu (he▸hid') hvid)
   simpa[aK,hne']using hvn j hj hne hju id' hid'
theorem je.noEdge {Dn:List Nat} (h:je ops Dn) (hj:j∈Dn) (hq:ops[j]?=F q) (hi:i ∉ Dn):hasEdge q i=false:=by
 cases he:hasEdge q i with
 |false=>rfl
 |true=>
  obtain⟨e,h1,h2,rfl⟩:=bw he
  obtain⟨q',hq',hall⟩:=h.mem hj
  rw[hq]at hq';cases hq'
  exact absurd (hall e h1 h2) hi
theorem br.putT {d:Option Tmp} {v:AV} (h:∀t,d=F t->cZ ops q t=false):br ops q T (aB T d v):=by
 intro t ht
 refine(eC λhd=>?_).symm
 rw[h t hd]at ht;cases ht
theorem Game.light (hF:Fix E n ops) (g:Game D E b n cs ops ρ0 st0 w0 df listed Dn vid T ρ st a w) (ho:ops[i]?=F o) (hi:i ∉ Dn) (hl:lightIn ops i o=true) (hord:je ops (i :: Dn))
  {v:AV} {st':St} {vi:Option Nat} (hmw:Mw E (GE D E) ρ0 st0 w0 ρ st' w) (hu:st'.u=st.u) (hme:bT E ops ρ st0.n st' (aB T o.dst v) o vi)
  (hval:∀q u,c3 q=true->aT q=false->an E q T st= .val u st->an E q T st'= .val u st') (hid:∀id,ρ id=H->id<st.n->id<st'.n/\st'.h.get id=st.h.get id)
  (hvi:∀j∈Dn,listed.getD j false=false->∀id,vi=F id->vid j≠F id):
  Game D E b n cs ops ρ0 st0 w0 df listed (i :: Dn) (λj=>if j=i then vi else vid j) (aB T o.dst v) ρ st' a w:=by
 have hiu:listed.getD i false=false:=by
  cases h:listed.getD i false with
  |false=>rfl
  |true=>exact absurd (g.sub i h) hi
 refine⟨hmw,?_,g.n,g.df,hu.trans g.u,hu▸g.ur,g.size,hord,λj hj=>List.mem_cons_of_mem _ (g.sub j hj),?_,?_⟩
 ·intro t u ht
  obtain⟨hm,hu'⟩:=dr _ _ _ _ ht
  have hd:o.dst≠F t:=λhd=>hm (aJ.2 ⟨i,List.mem_cons_self ..,hiu,o,ho,hd⟩)
  have hm':t ∉ f7 ops Dn listed:=λhmem=>by
   obtain⟨j,hj,hju,q,hq,hqd⟩:=aJ.1 hmem
   exact hm (aJ.2 ⟨j,List.mem_cons_of_mem _ hj,hju,q,hq,hqd⟩)
  rw[eC hd]at hu'
  exact g.er t u (by rw[b4 _ _ _ hm'];exact hu')
 ·intro j hj hju q hq
  by_cases hji:j=i
  ·subst hji
   rw[ho]at hq;cases hq
   exact⟨hl,by simpa using hme⟩
  ·have hj':j∈Dn:=by rcases List.mem_cons.1 hj with h|h;exact absurd h hji;exact h
   obtain⟨h1,h2⟩:=g.lit j hj' hju q hq
   refine⟨h1,?_⟩
   simp only[hji,if_false]
   have hgo:ao E.P.globals.size q=true:=by have:=hF.all j q hq;unfold cW at this;simp at this;exact this.1
   have hal:br ops q T (aB T o.dst v):=br.putT λt ht=>by
    cases hlk:cZ ops q t with
    |false=>rfl
    |true=>
     rcases hF.p1 hq ho (.inr hl) ht hlk with h|⟨h,_⟩
     ·rw[g.ord.noEdge hj' hq hi]at h;cases h
     ·rw[hl]at h;cases h
   refine h2.turn hal (λd hd=>eC (hF.p2 ho hq (.inl hl) (Ne.symm hji) hd)) (aw hgo) ?_ ?_
   ·intro u hna _ _ hv
    rw[<-b3 hal.same (aw hgo)]
    exact hval q u (aQ h1) hna hv
   ·intro id _ hr hlt
    exact⟨hr,hid id hr hlt⟩
 ·intro x y id hx hy hux huy h1 h2
  by_cases hxi:x=i<;>by_cases hyi:y=i
  ·rw[hxi,hyi]
  ·rw[if_pos hxi]at h1
   rw[if_neg hyi]at h2
   have hy':y∈Dn:=by rcases List.mem_cons.1 hy with h|h;exact absurd h hyi;exact h
   exact absurd h2 (hvi y hy' huy id h1)
  ·rw[if_neg hxi]at h1
   rw[if_pos hyi]at h2
   have hx':x∈Dn:=by rcases List.mem_cons.1 hx with h|h;exact absurd h hxi;exact h
   exact absurd h1 (hvi x hx' hux id h2)
  ·rw[if_neg hxi]at h1
   rw[if_neg hyi]at h2
   have hx':x∈Dn:=by rcases List.mem_cons.1 hx with h|h;exact absurd h hxi;exact h
   have hy':y∈Dn:=by rcases List.mem_cons.1 hy with h|h;exact absurd h hyi;exact h
   exact g.vinj x y id hx' hy' hux huy h1 h2
theorem gs {l:List Z}:bS E ops.toList T st (o :: l)=match o.dst with|none=>bS E ops.toList T st l|some d=>(cB E ops.toList T st o d&&bS E ops.toList T st l):=by
 unfold bS
 dsimp only
 cases o.dst with
 |none=>rfl
 |some d=>
  dsimp only
  cases cB E ops.toList T st o d<;>rfl
theorem d8:∀{l:List Z},bS E ops.toList T st l=true->q∈l->∀d,q.dst=F d->cB E ops.toList T st q d=true
 |[],_,h,_,_=>by cases h
 |o :: l,hr,h,d,hd=>by
  rw[gs]at hr
  rcases List.mem_cons.1 h with rfl|h
  ·rw[hd]at hr
   simp at hr
   exact hr.1
  ·refine d8 (l:=l) ?_ h d hd
   split at hr
   ·exact hr
   ·simp at hr;exact hr.2
theorem jT {rs:List Nat} (hj:j∈rs) (hq:ops[j]?=F q):q∈pick ops rs:=List.mem_filterMap.2 ⟨j,hj,hq⟩
theorem Game.heavy (hF:Fix E n ops) (g:Game D E b n cs ops ρ0 st0 w0 df listed Dn vid T ρ st a w) (ho:ops[i]?=F o) (hi:i ∉ Dn) (hord:je ops (i :: Dn))
  (hready:∀e∈o.after,Region.binds .any e=true->listed.getD e.on false=true) {rs:List Nat}
  (hrd:∀j∈Dn,∀q,ops[j]?=F q->lightIn ops j q=true->bo q=true->hasEdge o j=true\/(j∈rs/\∃d,q.dst=F d))
  {ρ':aj} {st':St} {w':aa} {v:AV} {x:N} (hm:Mw E (GE D E) ρ st w ρ' st' w') (hmu:st'.u=st.u) (hv:VR ρ' v x) (hrc:bS E ops.toList (aB T o.dst v) st' (pick ops rs)=true):
  Game D E b n cs ops ρ0 st0 w0 df (listed.setIfInBounds i true) (i :: Dn) vid (aB T o.dst v) ρ' st' (a.put o.dst x) w':=by
 have hlt:i<listed.size:=by rw[g.size];exact az ho
 have hset:=λj=>hH (listed:=listed) (i:=i) (j:=j) hlt
 have hle:=hm.ext.mono
 have hun:∀j,j∈i :: Dn->(listed.setIfInBounds i true).getD j false=false->j≠i/\j∈Dn/\listed.getD j false=false:=by
  intro j hj hju
  rw[hset]at hju
  split at hju
  ·cases hju
  ·rename_i hne
   rcases List.mem_cons.1 hj with h|h
   ·exact absurd h hne
   ·exact⟨hne,h,hju⟩
 have hnoe:∀j,listed.getD j false=false->hasEdge o j=false:=by
  intro j hju
  cases he:hasEdge o j with
  |false=>rfl
  |true=>
   obtain⟨e,h1,h2,rfl⟩:=bw he
   rw[hready e h1 h2]at hju;cases hju
 refine⟨g.mw.trans hm,?_,by rw[bF];exact g.n,by rw[ei];exact g.df.mono hle,hmu.trans g.u,hmu▸g.ur.mono hle,by simpa using g.size,hord,?_,?_,?_⟩
 ·intro t u ht
  obtain⟨hmt,hu⟩:=dr _ _ _ _ ht
  rcases fd hu with⟨hd,rfl⟩|⟨hd,hu⟩
  ·have htl:=iW (hF.all i o ho) g.n hd
   refine⟨by rw[bF];exact htl,?_⟩
   rw[hd]
   simp[Act.put,htl]
   exact hv
  ·have hm':t ∉ f7 ops Dn listed:=by
    intro hmem
    obtain⟨j,hj,hju,q,hq,hqd⟩:=aJ.1 hmem
    refine hmt (aJ.2 ⟨j,List.mem_cons_of_mem _ hj,?_,q,hq,hqd⟩)
    rw[hset,if_neg (show¬j=i from λhe=>hi (he▸hj))]
    exact hju
   obtain⟨h1,h2⟩:=g.er t u (by rw[b4 _ _ _ hm'];exact hu)
   exact⟨by rw[bF];exact h1,by rw[ec hd];exact h2.mono hle⟩
 ·intro j hj
  rw[hset]at hj
  split at hj
  ·rename_i he;subst he;exact List.mem_cons_self ..
  ·exact List.mem_cons_of_mem _ (g.sub j hj)
 ·intro j hj hju q hq
  obtain⟨hne,hj',hju'⟩:=hun j hj hju
  obtain⟨h1,h2⟩:=g.lit j hj' hju' q hq
  refine⟨h1,?_⟩
  have hgo:ao E.P.globals.size q=true:=by have:=hF.all j q hq;unfold cW at this;simp at this;exact this.1
  have hal:br ops q T (aB T o.dst v):=br.putT λt ht=>by
   cases hlk:cZ ops q t with
   |false=>rfl
   |true=>
    rcases hF.p1 hq ho (.inl h1) ht hlk with h|⟨_,h⟩
    ·rw[g.ord.noEdge hj' hq hi]at h;cases h
    ·rw[hnoe j hju']at h;cases h
  have hdd:∀d,q.dst=F d->(aB T o.dst v).get d=T.get d:=λd hd=>eC (hF.p2 ho hq (.inr h1) (Ne.symm hne) hd)
  refine h2.turn hal hdd (aw hgo) ?_ ?_
  ·intro u hna hw hu hval
   have hval':an E q (aB T o.dst v) st= .val u st:=by rw[<-b3 hal.same (aw hgo)];exact hval
   cases hr:bo q with
   |false=>
    rw[eP (E:=E) (st:=st) (aQ h1) hr hna st',hval'];rfl
   |true=>
    rcases hrd j hj' q hq h1 hr with h|⟨hjr,d,hd⟩
    ·rw[hnoe j hju']at h;cases h
    ·have hk:=d8 hrc (jT hjr hq) d hd
     unfold cB at hk
     rw[<-hal.wanted,hw]at hk
     dsimp only at hk
     cases hres:an E q (aB T o.dst v) st'<;>rw[hres]at hk<;>try(cases hk;done)
     rename_i u' s'
     dsimp only at hk
     have hst:=ed (aQ h1) hna hres
     subst hst
     cases hg:(aB T o.dst v).get d with
     |none=>rw[hg]at hk;cases hk
     |some z=>
      rw[hg]at hk
      have e1:=AV.same_eq hk
      have e2:=hu d z hd (by rw[<-hdd d hd];exact hg)
      rw[e1,e2]
  ·intro id _ hr hlt'
   exact⟨hm.ext.old id hlt' hr,Nat.lt_of_lt_of_le hlt' hm.ext.n,hm.ext.virt id hlt' hr⟩
 ·intro x y id hx hy hux huy h1 h2
  obtain⟨_,hx',hux'⟩:=hun x hx hux
  obtain⟨_,hy',huy'⟩:=hun y hy huy
  exact g.vinj x y id hx' hy' hux' huy' h1 h2
end
end
section
section
variable {D:Array Z->Bool} {E:Env} {b:Frame} {n:Nat} {car:Option Nat} {k:List Item} {cs:List Frame} {ev:b8} {ops:Array Z} {ρ0 ρ:aj} {st0 st:St} {w0 w:aa} {T T':Tr AV} {df:List ADef} {a:Act}
 {listed:Array Bool} {Dn:List Nat} {vid:Nat->Option Nat} {o q:Z} {i j:Nat} {m0:Machine}
theorem eO:∀(L:List Z) (T:Tr AV) {t:Tmp} {u:AV},(eS T L).get t=F u->(u= .top/\∃o∈L,o.dst=F t)\/(T.get t=F u/\∀o∈L,o.dst≠F t)
 |[],T,t,u,h=> .inr ⟨h,by simp⟩
 |o :: os,T,t,u,h=>by
  rcases eO os (aB T o.dst .top) (h:(eS (aB T o.dst .top) os).get t=F u)with⟨h1,q,hq,h2⟩|⟨h1,h2⟩
  ·exact .inl ⟨h1,q,List.mem_cons_of_mem _ hq,h2⟩
  ·rcases fd h1 with⟨h3,h4⟩|⟨h3,h4⟩
   ·exact .inl ⟨h4,o,List.mem_cons_self ..,h3⟩
   ·refine .inr ⟨h4,λq hq=>?_⟩
    rcases List.mem_cons.1 hq with rfl|hq
    ·exact h3
    ·exact h2 q hq
theorem Game.forget (hF:Fix E n ops) (g:Game D E b n cs ops ρ0 st0 w0 df listed Dn vid T ρ st a w):ER ρ (eS T ops.toList) a.tmps:=by
 intro t u ht
 rcases eO _ _ ht with⟨rfl,o,ho,hd⟩|⟨h1,h2⟩
 ·obtain⟨i,hi⟩:=List.getElem?_of_mem ho
  exact⟨iW (hF.all i o (by simpa using hi)) g.n hd, .top _⟩
 ·refine g.er t u ?_
  rw[b4]
  ·exact h1
  ·intro hm
   obtain⟨j,_,_,q,hq,hqd⟩:=aJ.1 hm
   exact h2 q (by simpa using Array.mem_of_getElem? hq) hqd
theorem j8 (hF:Fix E n ops) (ih:RecOK D E ev) (g:Game D E b n cs ops ρ0 st0 w0 df listed Dn vid T ρ st a w) (ho:ops[i]?=F o) (hi:i ∉ Dn) (hord:je ops (i :: Dn))
  (hready:∀e∈o.after,Region.binds .any e=true->listed.getD e.on false=true) {rs:List Nat}
  (hrd:∀j∈Dn,∀q,ops[j]?=F q->lightIn ops j q=true->bo q=true->hasEdge o j=true\/(j∈rs/\∃d,q.dst=F d)) {K:bE} {l:List Nat}
  (hs0:Steps E.P m0 (lone (At b car a (.inRegion ops (i :: l) :: k)) cs w))
  (hK:∀T' st' ρ' a' w',Game D E b n cs ops ρ0 st0 w0 df (listed.setIfInBounds i true) (i :: Dn) vid T' ρ' st' a' w'->Steps E.P m0 (lone (At b car a' (.inRegion ops l :: k)) cs w')->ah D E ρ0 b car n k st0 w0 cs m0 (K T' df st')):
  ah D E ρ0 b car n k st0 w0 cs m0 (gA E ev ops.toList (pick ops rs) o K T df st):=by
 have hop:=hF.all i o ho
 have hgo:ao E.P.globals.size o=true:=by unfold cW at hop;simp at hop;exact hop.1
 have hal:=g.alike hF ho hready
 have hD:∀v x ρ' st' w',Mw E (GE D E) ρ st w ρ' st' w'->st'.u=st.u->VR ρ' v x->Steps E.P m0 (lone (At b car (a.put o.dst x) (.inRegion ops l :: k)) cs w')->
   ah D E ρ0 b car n k st0 w0 cs m0 (fO E ops.toList (pick ops rs) K (aB T o.dst v) df st'):=by
  intro v x ρ' st' w' hm hmu hv hs
  unfold fO
  cases hrc:bS E ops.toList (aB T o.dst v) st' (pick ops rs)with
  |false=>trivial
  |true=>exact hK _ _ _ _ _ (g.heavy hF ho hi hord hready hrd hm hmu hv hrc) hs
 have hP:∀c chain ρ' st' w' todo,Mw E (GE D E) ρ st w ρ' st' w'->st'.u=st.u->co ρ' c chain->Steps E.P m0 (lone {At b car a todo with mode:= .panicking chain} cs w')->
   ah D E ρ0 b car n k st0 w0 cs m0 (.panic c (eS T ops.toList) df st'):=by
  intro c chain ρ' st' w' todo hm hmu hp hs
  have hle:=hm.ext.mono
  exact⟨ρ',a,w',cs,todo,chain,⟨⟨hm.rel,(g.forget hF).mono hle,g.n,g.df.mono hle,hmu▸g.ur.mono hle⟩,g.mw.trans hm, .inl rfl,by rw[hmu,g.u]⟩,hp,hs⟩
 unfold gA
 cases hw:au ops.toList o T with
 |none=>trivial
 |some r=>
  have hwant:=bG (ops:=ops) g.er (hal.wanted▸hw)
  cases r with
  |false=>
   have hs:=dg (P:=E.P) (b:=b) (ar:=car) (a:=a) (k:=k) (cs:=cs) (w:=w) (ops:=ops) (i:=i) (rest:=l) (by simp[ho,hwant])
   simp only[ho,Option.bind_some]at hs
   exact hD ax undef ρ st w (Mw.refl g.mw.rel) rfl bB (hs0.trans (.one hs))
  |true=>
   show ah D E ρ0 b car n k st0 w0 cs m0 (jh E ev ops.toList (pick ops rs) o.dst T df K st (an E o T st))
   have hOp:=il hF.ok g.mw.rel g.er hgo
   have hd:(∀d,an E o T st≠ .defer d)->(∀wy,an E o T st≠ .no wy)->car=H\/∀c,o.op≠ .defer c:=by
    intro h1 h2
    right
    intro c hc
    rcases fL (E:=E) (T:=T) (st:=st) hc with⟨d,hd⟩|⟨wy,hd⟩
    ·exact h1 d hd
    ·exact h2 wy hd
   rw[<-b3 hal.same (aw hgo)]at hOp
   generalize an E o T st=r at hOp hd⊢
   cases r with
   |val v st'=>
    obtain⟨x,w',ρ',hr,hv,hm⟩:=hOp
    have hs:=dx (P:=E.P) (b:=b) (ar:=car) (k:=k) (cs:=cs) (rest:=l) ho hwant (hd (by simp) (by simp)) hr
    exact hD v x ρ' st' w' hm.mw hm.u hv (hs0.trans (.one hs))
   |skip st'=>
    obtain⟨w',ρ',hr,hm⟩:=hOp
    have hs:=fi (P:=E.P) (b:=b) (ar:=car) (k:=k) (cs:=cs) (rest:=l) ho hwant (hd (by simp) (by simp)) hr
    exact hD ax undef ρ' st' w' hm.mw hm.u bB (hs0.trans (.one hs))
   |enter f args st1=>
    obtain⟨rfl,xs,hr,hxs⟩:=hOp
    have hs:=gD (P:=E.P) (b:=b) (ar:=car) (k:=k) (cs:=cs) (rest:=l) ho hwant (hd (by simp) (by simp)) hr
    show ah D E ρ0 b car n k st0 w0 cs m0 (cQ E ops.toList (pick ops rs) o.dst T df K (ev (.call f args) st1))
    have hc:=ih.call f args st1 ρ w xs g.mw.rel hxs
    generalize ev (.call f args) st1=out at hc⊢
    cases out with
    |val v st'=>
     obtain⟨e,w',fr,⟨x,ρ',rfl,hv,hm,hu'⟩,hcomes,_,hleave⟩:=hc (At b car a (.inRegion ops (i :: l) :: k) :: cs)
     have hlast:=step_leave_returned (c:=At b car a (.inRegion ops (i :: l) :: k)) (cs:=cs) hleave
     have hf:=aH b car a ops i l k x
     rw[ho]at hf
     rw[hf]at hlast
     exact hD v x ρ' st' w' hm hu' hv (hs0.trans (.head hs (Steps.trans hcomes (.one hlast))))
    |panic c T' df' st'=>
     obtain⟨e,w',fr,⟨chain,ρ',rfl,hp,hm,hu'⟩,hcomes,_,hleave⟩:=hc (At b car a (.inRegion ops (i :: l) :: k) :: cs)
     have hlast:=step_leave_panicked (c:=At b car a (.inRegion ops (i :: l) :: k)) (cs:=cs) hleave
     rw[cF]at hlast
     exact hP c chain ρ' st' w' _ hm hu' hp (hs0.trans (.head hs (Steps.trans hcomes (.one hlast))))
    |_=>trivial
   |round l' args=>
    obtain⟨lb,e,xs,hl,hxs,hr⟩:=hOp
    show ah D E ρ0 b car n k st0 w0 cs m0 (cQ E ops.toList (pick ops rs) o.dst T df K (ev (.round l' args) st))
    have hc:=ih.round l' args st ρ w xs lb e g.mw.rel hxs hl
    have hstep:∀lp,w.heap[lb]?=F (.loop lp)->xs.length=lp.params.size->
      step E.P (lone (At b car a (.inRegion ops (i :: l) :: k)) cs w)= .next (lone (Frame.round lb lp.fn (aM lp xs) lp.assign lp.body .normal) (At b car a (.inRegion ops (i :: l) :: k) :: cs) w):=by
     intro lp hlp hlen
     refine hJ ho hwant (hd (by simp) (by simp)) ?_
     rw[hr]
     have hgo:=ai (P:=E.P) hlp (λ_ _ _ h=>by cases h)
     simp only[Instr.yield,Instr.getLoop,J,hgo,I,O]
     have:¬((⟨xs⟩:Array N).size≠lp.params.size):=by simp[hlen]
     simp only[this,if_false,O]
     rfl
    generalize ev (.round l' args) st=out at hc⊢
    cases out with
    |val v st'=>
     obtain⟨lp,hlp,hlen,hc⟩:=hc
     obtain⟨x,ρ',w',hsteps,hv,hm,hu'⟩:=hc (At b car a (.inRegion ops (i :: l) :: k)) cs
     have hf:=aH b car a ops i l k x
     rw[ho]at hf
     rw[hf]at hsteps
     exact hD v x ρ' st' w' hm hu' hv (hs0.trans (.head (hstep lp hlp hlen) hsteps))
    |panic c T' df' st'=>
     obtain⟨lp,hlp,hlen,hc⟩:=hc
     obtain⟨chain,ρ',w',hsteps,hp,hm,hu'⟩:=hc (At b car a (.inRegion ops (i :: l) :: k)) cs
     rw[cF]at hsteps
     exact hP c chain ρ' st' w' _ hm hu' hp (hs0.trans (.head (hstep lp hlp hlen) hsteps))
    |_=>trivial
   |defer d=>trivial
   |recover=>trivial
   |panic v st1=>
    obtain⟨rfl,x,hr,hv⟩:=hOp
    have hs:=gZ (P:=E.P) (b:=b) (ar:=car) (k:=k) (cs:=cs) (rest:=l) ho hwant (hd (by simp) (by simp)) hr
    exact hP [⟨v,false⟩] [{v:=x,recovered:=false}] ρ st1 w _ (Mw.refl g.mw.rel) rfl ⟨⟨hv,rfl,rfl⟩,trivial⟩ (hs0.trans (.one hs))
   |no wy=>trivial
end
end
section
section
variable {D:Array Z->Bool} {E:Env} {b:Frame} {n:Nat} {car:Option Nat} {k:List Item} {cs:List Frame} {ev:b8} {ops:Array Z} {ρ0 ρ:aj} {st0 st:St} {w0 w:aa} {T T':Tr AV} {df:List ADef} {a:Act}
 {listed:Array Bool} {Dn:List Nat} {vid:Nat->Option Nat} {o q:Z} {i j:Nat} {m0:Machine}
theorem kF (h:Region.ready .any ops listed=[]):∀(fuel t:Nat),Region.linearise.go .any ops fuel t listed []=[]
 |0,_=>rfl
 |fuel+1,t=>by
  simp only[Region.linearise.go]
  change (match (Region.ready .any ops listed)[t % (Region.ready .any ops listed).length]? with
   |some i=>Region.linearise.go .any ops fuel (t / (Region.ready .any ops listed).length) (listed.setIfInBounds i true) [i]
   |none=>[].reverse)=[]
  rw[h];rfl
theorem kD (h:Region.ready .any ops listed≠[]) (fuel t:Nat):∃i t',i∈Region.ready .any ops listed/\Region.linearise.go .any ops (fuel+1) t listed []=i :: Region.linearise.go .any ops fuel t' (listed.setIfInBounds i true) []:=by
 simp only[Region.linearise.go]
 change ∃i t',i∈Region.ready .any ops listed/\(match (Region.ready .any ops listed)[t % (Region.ready .any ops listed).length]? with
   |some i=>Region.linearise.go .any ops fuel (t / (Region.ready .any ops listed).length) (listed.setIfInBounds i true) [i]
   |none=>[].reverse)=_
 cases hi:(Region.ready .any ops listed)[t % (Region.ready .any ops listed).length]? with
 |none=>
  cases hr:Region.ready .any ops listed with
  |nil=>exact absurd hr h
  |cons x xs=>
   rw[hr]at hi
   have hlt:t % (x :: xs).length<(x :: xs).length:=Nat.mod_lt _ (by simp)
   simp at hi
   simp at hlt
   omega
 |some i=>
  refine⟨i,t / (Region.ready .any ops listed).length,List.mem_of_getElem? hi,?_⟩
  dsimp only
  rw[linearise_go_acc,List.reverse_singleton,List.singleton_append]
def ks (listed:Array Bool):Nat:=listed.toList.count false
theorem i0 (h:listed.getD i true=false):ks (listed.setIfInBounds i true)+1=ks listed:=by
 have hlt:i<listed.size:=by
  rcases Nat.lt_or_ge i listed.size with h'|h'
  ·exact h'
  ·simp[Array.getElem?_eq_none h']at h
 have hg:listed.toList[i]'(by simpa using hlt)=false:=by simpa[hlt]using h
 unfold ks
 have e:(listed.setIfInBounds i true).toList=listed.toList.set i true:=by simp
 rw[e]
 have key:∀(l:List Bool) (i:Nat) (h:i<l.length),l[i]=false->(l.set i true).count false+1=l.count false:=by
  intro l
  induction l with
  |nil=>intro i h;simp at h
  |cons x l ih=>
   intro i h hx
   cases i with
   |zero=>simp at hx;subst hx;simp
   |succ i=>
    simp at hx h
    simp only[List.set_cons_succ,List.count_cons]
    have:=ih i h hx
    omega
 exact key _ i (by simpa using hlt) hg
theorem kC (h:listed.getD i true=false):0<ks listed:=by have:=i0 h;omega
theorem cg (hne:Region.ready .any ops listed≠[]) {fuel:Nat} (hf:ks listed<=fuel) (t:Nat):
  ∃i t' f',fuel=f'+1/\ks (listed.setIfInBounds i true)<=f'/\listed.getD i false=false/\(∃o,ops[i]?=F o/\∀e∈o.after,Region.binds .any e=true->listed.getD e.on false=true)/\
   Region.linearise.go .any ops fuel t listed []=i :: Region.linearise.go .any ops f' t' (listed.setIfInBounds i true) []:=by
 have hpos:0<ks listed:=by
  cases hr:Region.ready .any ops listed with
  |nil=>exact absurd hr hne
  |cons x xs=>exact kC (mem_ready.1 (hr▸List.mem_cons_self ..:x∈Region.ready .any ops listed)).1
 obtain⟨f',rfl⟩:∃f',fuel=f'+1:=⟨fuel - 1,by omega⟩
 obtain⟨i,t',hi,he⟩:=kD hne f' t
 obtain⟨h1,o,h2,h3⟩:=mem_ready.1 hi
 have hs:=i0 h1
 refine⟨i,t',f',rfl,by omega,?_,⟨o,h2,h3⟩,he⟩
 cases hl:listed.getD i false with
 |false=>rfl
 |true=>
  have hlt:i<listed.size:=by
   rcases Nat.lt_or_ge i listed.size with h'|h'
   ·exact h'
   ·simp[Array.getElem?_eq_none h']at h1
  simp[hlt]at hl h1
  rw[hl]at h1;cases h1
theorem Game.exists_ready (g:Game D E b n cs ops ρ0 st0 w0 df listed Dn vid T ρ st a w) (h:∃i∈Dn,listed.getD i false=false):Region.ready .any ops listed≠[]:=by
 obtain⟨i,hi,hu,o,ho,he⟩:=g.ord.ready h
 have:i∈Region.ready .any ops listed:=by
  refine mem_ready.2 ⟨?_,o,ho,he⟩
  have hlt:i<listed.size:=by rw[g.size];exact az ho
  simpa[hlt]using hu
 intro hn;rw[hn]at this;cases this
theorem cG {l:List Nat}:memN i l=true↔i∈l:=by
 unfold memN
 rw[List.any_eq_true]
 constructor
 ·rintro⟨x,hx,h⟩;rw[U h];exact hx
 ·intro h;exact⟨i,h,by simp⟩
theorem kb (hF:Fix E n ops) (hall:∀i,i<ops.size->i∈Dn):∀(fuel t:Nat) (listed:Array Bool) (vid:Nat->Option Nat) (ρ:aj) (a:Act) (w:aa),
  Game D E b n cs ops ρ0 st0 w0 df listed Dn vid T ρ st a w->ks listed<=fuel->Steps E.P m0 (lone (At b car a (.inRegion ops (Region.linearise.go .any ops fuel t listed []) :: k)) cs w)->
  ah D E ρ0 b car n k st0 w0 cs m0 (.normal T df st):=by
 intro fuel
 induction fuel with
 |zero=>
  intro t listed vid ρ a w g hf hs
  by_cases hu:∃i∈Dn,listed.getD i false=false
  ·obtain⟨_,_,_,he,_⟩:=cg (g.exists_ready hu) hf t
   cases he
  ·have hX:f7 ops Dn listed=[]:=by
    rw[List.eq_nil_iff_forall_not_mem]
    intro t ht
    obtain⟨i,hi,hiu,_⟩:=aJ.1 ht
    exact hu ⟨i,hi,hiu⟩
   have her:=g.er
   rw[hX]at her
   exact⟨ρ,a,w,cs,⟨⟨g.mw.rel,her,g.n,g.df,g.ur⟩,g.mw, .inl rfl,by rw[g.u]⟩,hs.trans (.one bW)⟩
 |succ fuel ih=>
  intro t listed vid ρ a w g hf hs
  by_cases hu:∃i∈Dn,listed.getD i false=false
  ·obtain⟨i,t',f',he,hf',hiu,⟨o,ho,hready⟩,hgo⟩:=cg (g.exists_ready hu) hf t
   cases he
   rw[hgo]at hs
   obtain⟨ρ',a',w',hstep,g'⟩:=g.pend_step (car:=car) (k:=k) hF ho (hall i (az ho)) hiu hready (Region.linearise.go .any ops fuel t' (listed.setIfInBounds i true) [])
   exact ih t' _ vid ρ' a' w' g' hf' (hs.trans (.one hstep))
  ·have hX:f7 ops Dn listed=[]:=by
    rw[List.eq_nil_iff_forall_not_mem]
    intro t ht
    obtain⟨i,hi,hiu,_⟩:=aJ.1 ht
    exact hu ⟨i,hi,hiu⟩
   have her:=g.er
   rw[hX]at her
   have hr:Region.ready .any ops listed=[]:=by
    rw[List.eq_nil_iff_forall_not_mem]
    intro i hi
    obtain⟨h1,o,ho,_⟩:=mem_ready.1 hi
    have hlt:i<listed.size:=by rw[g.size];exact az ho
    exact hu ⟨i,hall i (az ho),by simpa[hlt]using h1⟩
   rw[kF hr]at hs
   exact⟨ρ,a,w,cs,⟨⟨g.mw.rel,her,g.n,g.df,g.ur⟩,g.mw, .inl rfl,by rw[g.u]⟩,hs.trans (.one bW)⟩
end
end
section
section
variable {D:Array Z->Bool} {E:Env} {b:Frame} {n:Nat} {car:Option Nat} {k:List Item} {cs:List Frame} {ev:b8} {ops:Array Z} {ρ0 ρ:aj} {st0 st:St} {w0 w:aa} {T T':Tr AV} {df:List ADef} {a:Act}
 {listed:Array Bool} {Dn:List Nat} {vid:Nat->Option Nat} {o q:Z} {i j:Nat} {m0:Machine}
theorem gH {r:Option (List Nat)} {rest:List (Nat×Option (List Nat))} (h:kS ops Dn ((i,r) :: rest)=true):
  ∃o,ops[i]?=F o/\i ∉ Dn/\(∀e∈o.after,Region.binds .any e=true->e.on∈Dn)/\kS ops (i :: Dn) rest=true/\(r=H->lightIn ops i o=true)/\
   (∀rs,r=F rs->(∀p∈rest,∃oq,ops[p.1]?=F oq/\∃e∈oq.after,Region.binds .any e=true/\e.on ∉ Dn)/\
    (∀j∈Dn,∀q,ops[j]?=F q->lightIn ops j q=true->bo q=true->hasEdge o j=true\/(j∈rs/\∃d,q.dst=F d))):=by
 simp only[kS]at h
 cases ho:ops[i]? with
 |none=>rw[ho]at h;simp at h
 |some o=>
  rw[ho]at h
  simp only[Q,Bool.not_eq_true']at h
  obtain⟨⟨⟨h1,h2⟩,h3⟩,h4⟩:=h
  refine⟨o,rfl,λhm=>?_,?_,h4,?_,?_⟩
  ·rw[cG.2 hm]at h1;cases h1
  ·intro e he hb
   rw[List.all_eq_true]at h2
   have:=h2 e (by simpa using he)
   rw[hb]at this
   simpa[cG]using this
  ·rintro rfl;exact h3
  ·rintro rs rfl
   simp only[Q,List.all_eq_true]at h3
   refine⟨λp hp=>?_,λj hj q hq hl hr=>?_⟩
   ·have:=h3.1 p hp
    cases hoq:ops[p.1]? with
    |none=>rw[hoq]at this;cases this
    |some oq=>
     rw[hoq]at this
     simp only[List.any_eq_true,Q,Bool.not_eq_true']at this
     obtain⟨e,he,hb,hm⟩:=this
     exact⟨oq,rfl,e,by simpa using he,hb,λhmem=>by rw[cG.2 hmem]at hm;cases hm⟩
   ·have:=h3.2 j hj
    rw[hq]at this
    simp only[hl,hr,Bool.not_true,Bool.false_or,Bool.or_false,Bool.or_eq_true,Q]at this
    rcases this with h|⟨h,hd⟩
    ·exact .inl h
    ·refine .inr ⟨cG.1 h,?_⟩
     cases hqd:q.dst with
     |none=>rw[hqd]at hd;cases hd
     |some d=>exact⟨d,rfl⟩
theorem gf:∀{pl:List (Nat×Option (List Nat))} {Dn:List Nat},kS ops Dn pl=true->∀i,i<ops.size->i∈Dn\/∃p∈pl,p.1=i
 |[],Dn,h,i,hi=>by
  simp only[kS,List.all_eq_true]at h
  exact .inl (cG.1 (h i (List.mem_range.2 hi)))
 |(x,r) :: rest,Dn,h,i,hi=>by
  obtain⟨o,_,_,_,h4,_⟩:=gH h
  rcases gf h4 i hi with h|⟨p,hp,he⟩
  ·rcases List.mem_cons.1 h with rfl|h
   ·exact .inr ⟨(i,r),List.mem_cons_self ..,rfl⟩
   ·exact .inl h
  ·exact .inr ⟨p,List.mem_cons_of_mem _ hp,he⟩
theorem kG (hF:Fix E n ops) (ih:RecOK D E ev):∀(pl:List (Nat×Option (List Nat))) (Dn:List Nat),kS ops Dn pl=true->∀(fuel t:Nat) (listed:Array Bool) (vid:Nat->Option Nat) (T:Tr AV) (ρ:aj) (st:St) (a:Act) (w:aa),
  Game D E b n cs ops ρ0 st0 w0 df listed Dn vid T ρ st a w->ks listed<=fuel->Steps E.P m0 (lone (At b car a (.inRegion ops (Region.linearise.go .any ops fuel t listed []) :: k)) cs w)->
  ah D E ρ0 b car n k st0 w0 cs m0 (b9 E ev ops.toList (cx ops pl) T df st):=by
 intro pl
 induction pl with
 |nil=>
  intro Dn hchk fuel t listed vid T ρ st a w g hf hs
  refine kb hF (λi hi=>?_) fuel t listed vid ρ a w g hf hs
  rcases gf hchk i hi with h|⟨p,hp,_⟩
  ·exact h
  ·cases hp
 |cons p rest ihp=>
  obtain⟨i,r⟩:=p
  intro Dn hchk fuel t listed vid T ρ st a w g hf hs
  obtain⟨o,ho,hi,hedge,hchk',hlight,hheavy⟩:=gH hchk
  have hord:je ops (i :: Dn):=⟨⟨hi,o,ho,hedge⟩,g.ord⟩
  have hgo:ao E.P.globals.size o=true:=by have:=hF.all i o ho;unfold cW at this;simp at this;exact this.1
  cases r with
  |none=>
   have hl:=hlight rfl
   have e:cx ops ((i,H) :: rest)=(o,H) :: cx ops rest:=by simp[cx,ho]
   rw[e]
   show ah D E ρ0 b car n k st0 w0 cs m0 (d2 E ops.toList o (b9 E ev ops.toList (cx ops rest)) T df st)
   have hal:∀v,br ops o T (aB T o.dst v):=λv=>br.putT λt ht=>by
    cases hlk:cZ ops o t with
    |false=>rfl
    |true=>
     rcases hF.p1 ho ho (.inl hl) ht hlk with h|⟨h,_⟩
     ·obtain⟨e,h1,h2,h3⟩:=bw h
      exact absurd (h3▸hedge e h1 h2) hi
     ·rw[hl]at h;cases h
   have hput:∀v d u,o.dst=F d->(aB T o.dst v).get d=F u->u=v:=by
    intro v d u hd hu
    rcases fd hu with⟨_,h⟩|⟨h,_⟩
    ·exact h
    ·exact absurd hd h
   have hfr:=g.mw.rel.fresh st.n (Nat.le_refl _)
   unfold d2
   cases hw:au ops.toList o T with
   |none=>trivial
   |some r=>
    cases r with
    |false=>
     exact ihp _ hchk' fuel t listed _ _ ρ st a w (g.light hF ho hi hl hord (vi:=H) g.mw rfl (.inl ⟨(hal ax).wanted▸hw,rfl,hput ax⟩) (λ_ _ _ _ h=>h) (λid _ h=>⟨h,rfl⟩) (λ_ _ _ _ h=>by cases h)) hf hs
    |true=>
     show ah D E ρ0 b car n k st0 w0 cs m0 (fK o.dst T df (b9 E ev ops.toList (cx ops rest)) (an E o T st))
     cases hres:an E o T st with
     |val v st'=>
      cases ha:aT o with
      |false=>
       have:=ed (aQ hl) ha hres
       subst this
       exact ihp _ hchk' fuel t listed _ _ ρ _ a w (g.light hF ho hi hl hord (vi:=H) g.mw rfl (.inr ⟨(hal v).wanted▸hw,v,hput v, .inl ⟨rfl,ha,by rw[<-b3 (hal v).same (aw hgo)];exact hres⟩⟩)
        (λ_ _ _ _ h=>h) (λid _ h=>⟨h,rfl⟩) (λ_ _ _ _ h=>by cases h)) hf hs
      |true=>
       cases hall:aq E o T with
       |none=>
        obtain⟨wy,hno⟩:=iJ (st:=st) ha hall
        rw[hno]at hres;cases hres
       |some c=>
        obtain⟨cs',el,l⟩:=c
        have hform:=iD (E:=E) (T:=T) (st:=st) ha
        rw[hall]at hform
        dsimp only at hform
        rw[hform]at hres
        cases hres
        refine ihp _ hchk' fuel t listed _ _ ρ _ a w (g.light hF ho hi hl hord (vi:=F st.n) ⟨g.mw.rel.virt _,g.mw.ext.trans (Ext.virtual g.mw.rel _),g.mw.same⟩ rfl
         (.inr ⟨(hal _).wanted▸hw,lr l st.n,hput _, .inr ⟨st.n,cs',el,l,rfl,(hal _).alloc (aw hgo)▸hall,rfl,hfr.1,g.mw.ext.n,Nat.lt_succ_self _,λx hx=>?_⟩⟩) ?_ ?_ ?_) hf hs
        ·rcases cn hx with⟨_,h⟩|⟨h,_⟩
         ·exact h
         ·exact absurd rfl h
        ·intro q u hq hnq hv
         exact jO hq hnq hfr.2 hv
        ·intro id hn hlt
         refine⟨Nat.lt_succ_of_lt hlt,?_⟩
         show(st.h.put bits st.n _).get id=_
         exact Tr.get_put_ne _ _ _ _ _ (by omega)
        ·intro j hj hju id h1 h2
         cases h1
         have:=(g.vnone hj hju h2).2.2
         omega
     |_=>trivial
  |some rs=>
   obtain⟨hlater,hrd⟩:=hheavy rs rfl
   have e:cx ops ((i,F rs) :: rest)=(o,F (pick ops rs)) :: cx ops rest:=by simp[cx,ho]
   rw[e]
   show ah D E ρ0 b car n k st0 w0 cs m0 (gA E ev ops.toList (pick ops rs) o (b9 E ev ops.toList (cx ops rest)) T df st)
   clear hord
   induction fuel generalizing t listed vid ρ a w with
   |zero=>
    have hne:Region.ready .any ops listed≠[]:=by
     by_cases hu:∃j∈Dn,listed.getD j false=false
     ·exact g.exists_ready hu
     ·have:i∈Region.ready .any ops listed:=by
       refine mem_ready.2 ⟨?_,o,ho,λe he hb=>?_⟩
       ·have hlt:i<listed.size:=by rw[g.size];exact az ho
        cases h:listed.getD i false with
        |false=>simpa[hlt]using h
        |true=>exact absurd (g.sub i h) hi
       ·cases h:listed.getD e.on false with
        |true=>rfl
        |false=>exact absurd ⟨_,hedge e he hb,h⟩ hu
      intro hn;rw[hn]at this;cases this
    obtain⟨_,_,_,he,_⟩:=cg hne hf t
    cases he
   |succ fuel ihf=>
    have hne:Region.ready .any ops listed≠[]:=by
     by_cases hu:∃j∈Dn,listed.getD j false=false
     ·exact g.exists_ready hu
     ·have:i∈Region.ready .any ops listed:=by
       refine mem_ready.2 ⟨?_,o,ho,λe he hb=>?_⟩
       ·have hlt:i<listed.size:=by rw[g.size];exact az ho
        cases h:listed.getD i false with
        |false=>simpa[hlt]using h
        |true=>exact absurd (g.sub i h) hi
       ·cases h:listed.getD e.on false with
        |true=>rfl
        |false=>exact absurd ⟨_,hedge e he hb,h⟩ hu
      intro hn;rw[hn]at this;cases this
    obtain⟨i',t',f',he,hf',hiu,⟨o',ho',hready⟩,hgo'⟩:=cg hne hf t
    cases he
    rw[hgo']at hs
    by_cases hin:i'∈Dn
    ·obtain⟨ρ',a',w',hstep,g'⟩:=g.pend_step (car:=car) (k:=k) hF ho' hin hiu hready (Region.linearise.go .any ops fuel t' (listed.setIfInBounds i' true) [])
     exact ihf t' _ vid ρ' a' w' g' hf' (hs.trans (.one hstep))
    ·have hii:i'=i:=by
      rcases gf hchk i' (az ho')with h|⟨p,hp,hpe⟩
      ·exact absurd h hin
      ·rcases List.mem_cons.1 hp with rfl|hp
       ·exact hpe.symm
       ·obtain⟨oq,hoq,e,he,hb,hn⟩:=hlater p hp
        rw[hpe,ho']at hoq
        cases hoq
        exact absurd (g.sub _ (hready e he hb)) hn
     subst hii
     rw[ho]at ho'
     cases ho'
     exact j8 hF ih g ho hi ⟨⟨hi,o,ho,hedge⟩,g.ord⟩ hready hrd hs (λT' st' ρ' a' w' g' hs'=>ihp _ hchk' fuel t' _ vid T' ρ' st' a' w' g' hf' hs')
theorem kn (hOK:EOK E) (ih:RecOK planOK E ev):dt planOK E ev:=by
 intro ops t n T df st ρ b ar car k a w cs hD hall h har hu
 unfold planOK at hD
 simp only[Q]at hD
 obtain⟨hchk,hpair⟩:=hD
 have hF:Fix E n ops:=by
  refine⟨hOK,λi j oi oj hi hj=>?_,λi o ho=>?_⟩
  ·simp at hpair
   have:=hpair i (az hi) j (az hj)
   rw[hi,hj]at this
   exact this
  ·exact(Array.all_eq_true_iff_forall_mem.1 hall) o (Array.mem_of_getElem? ho)
 have hrep:∀i,(Array.replicate ops.size false).getD i false=false:=by
  intro i
  by_cases hi:i<ops.size
  ·simp[hi]
  ·simp[hi]
 refine kG hF ih (kq ops) [] hchk ops.size t (Array.replicate ops.size false) (λ_=>H) T ρ st a w ⟨Mw.refl h.rel,h.er,h.n,h.df,rfl,h.ur,by simp,trivial,λi hi=>?_,λi hi=>?_,λi j id hi=>?_⟩ ?_ (Steps.refl (P:=E.P) _)
 ·rw[hrep]at hi;cases hi
 ·cases hi
 ·cases hi
 ·unfold ks;simp
end
end
section
theorem kl {E:Env} (hOK:EOK E) (hB:BOK planOK E) (hm:E.P.follows .mixedOrders=true) (k:Nat):RecOK planOK E (ev E k):=
 j2 hOK hB hm (λ_ ih=>kn hOK ih) k
end
section
def lw (P:Program) (d:TypeDesc):Option TK:=
 match d with
 | .struct fs=>if fs.all (λf=>bC P f.type)then F (.struct (fs.toList.map λf=>(f.offset,P.cellsOf f.type,av P f.type)))else H
 | .array n e=>if bC P e then F (.array n (P.cellsOf e) (av P e))else H
 | .slice e=>if bC P e then F (.slice e (P.cellsOf e) (P.bytesOf e))else H
 | .interface _=>F .iface
 | .map k e=>F (.mapT k e)
 | .string=>F .str
 | .int k=>F (.sc k)
 | .pointer e=>if bC P e then F (.ptr (P.cellsOf e))else H
 | .func ..=>F .func
 |_=>F .other
theorem kY {P:Program} {d:TypeDesc} {k:TK} (h:lw P d=F k):ir P d k:=by
 unfold lw at h
 split at h
 case h_1=>
  split at h
  ·rename_i hk
   cases h
   rw[Array.all_eq_true_iff_forall_mem]at hk
   exact⟨_,rfl,rfl,hk⟩
  ·cases h
 case h_2=>
  split at h
  ·cases h;exact⟨_,rfl,rfl,rfl,‹_›⟩
  ·cases h
 case h_3=>
  split at h
  ·cases h;exact⟨rfl,rfl,rfl,‹_›⟩
  ·cases h
 case h_4=>cases h;exact⟨_,rfl⟩
 case h_5=>cases h;rfl
 case h_6=>cases h;rfl
 case h_7=>cases h;rfl
 case h_8=>
  split at h
  ·cases h;exact⟨_,rfl,rfl,‹_›⟩
  ·cases h
 case h_9=>cases h;exact⟨_,_,_,rfl⟩
 case h_10=>
  cases h
  cases d<;>simp_all[ir]
def ke:N->Bool
 | .agg _=>true
 |_=>false
noncomputable def tiOf (P:Program) (t:S):Option TI:=
 match P.underlying t,P.info? t with
 |some d,F info=>match info.zero,lw P d with
  |some z,F k=>if z.cells.size=info.size/\ke z=av P t then F ⟨k,info.size,z.cells.toList.map lz⟩else H
  |_,_=>H
 |_,_=>H
theorem tiOf_ok {P:Program} {t:S} {ti:TI} (h:tiOf P t=F ti):TIOK P t ti:=by
 unfold tiOf at h
 split at h
 ·rename_i d info h1 h2
  split at h
  ·rename_i z k h3 h4
   split at h
   ·rename_i hc
    cases h
    refine⟨d,info,z,h1,h2,rfl,h3,rfl,hc.1,?_,kY h4⟩
    rw[<-hc.2]
    cases z<;>simp[ke]
   ·cases h
  ·cases h
 ·cases h
end
section
noncomputable def dq (a b:N):Bool:=
 match a,b with
  | .int k x, .int q y=>k==q&&x==y
  | .bool x, .bool y=>x==y
  | .string x, .string y=>x==y
  | .pointer H, .pointer H=>true
  | .slice H l c, .slice H l' c'=>l==l'&&c==c'
  | .map H, .map H=>true
  | .nilFunc, .nilFunc=>true
  | .nilIface, .nilIface=>true
  | .func (.func f) ⟨[]⟩ ⟨[]⟩, .func (.func g) ⟨[]⟩ ⟨[]⟩=>f==g
  |_,_=>false
theorem eI {a b:N} (h:dq a b=true):a=b:=by
 unfold dq at h
 split at h
 case h_3=>
  rename_i p q
  cases p;cases q
  rename_i a b
  have h2:(a==b)=true:=h
  rw[eq_of_beq h2]
 all_goals simp_all
noncomputable def ii (bs:List AV):Bool:=@List.casesOn AV (λ_=>Bool) bs true (λ_ _=>false)
noncomputable def eW (bs:List AV) (f:AV->List AV->Bool):Bool:=@List.casesOn AV (λ_=>Bool) bs false (λy ys=>f y ys)
noncomputable def AV.sameR (r:Nat->Nat) (a:AV):AV->Bool:=
 @AV.rec (λ_=>AV->Bool) (λ_=>List AV->Bool)
  (λ_=>false)
  (λn b=>match b with| .num m=>eo n m|_=>false)
  (λx b=>match b with| .bool y=>@Bool.rec (λ_=>Bool) (!y) y x|_=>false)
  (λv b=>match b with| .val w=>dq v w|_=>false)
  (λi o b=>match b with| .ptr j p=>Nat.beq (r i) j&&Nat.beq o p|_=>false)
  (λi o l c x b=>match b with| .sl j p m d y=>Nat.beq (r i) j&&(Nat.beq o p&&(Nat.beq l m&&(Nat.beq c d&&@Bool.rec (λ_=>Bool) (!y) y x)))|_=>false)
  (λb=>match b with| .nes=>true|_=>false)
  (λi b=>match b with| .mp j=>Nat.beq (r i) j|_=>false)
  (λf _ _ ia ic b=>match b with| .fn g b d=>Nat.beq f g&&(ia b&&ic d)|_=>false)
  (λl b=>match b with| .yld m=>Nat.beq (r l) m|_=>false)
  (λt _ ih b=>match b with| .ifc u w=>Nat.beq t u&&ih w|_=>false)
  (λ_ ih b=>match b with| .agg cs=>ih cs|_=>false)
  (λ_ ih b=>match b with| .tup cs=>ih cs|_=>false)
  ii
  (λ_ _ ix ixs bs=>eW bs λy ys=>ix y&&ixs ys) a
noncomputable def bp (r:Nat->Nat) (a:List AV):List AV->Bool:=
 @List.rec AV (λ_=>List AV->Bool) ii (λx _ ih bs=>eW bs λy ys=>AV.sameR r x y&&ih ys) a
noncomputable def AV.ren (r:Nat->Nat) (a:AV):AV:=
 @AV.rec (λ_=>AV) (λ_=>List AV)
  .top (λn=> .num n) (λx=> .bool x) (λv=> .val v) (λi o=> .ptr (r i) o) (λi o l c x=> .sl (r i) o l c x) .nes (λi=> .mp (r i))
  (λf _ _ ia ic=> .fn f ia ic) (λl=> .yld (r l)) (λt _ ih=> .ifc t ih) (λ_ ih=> .agg ih) (λ_ ih=> .tup ih)
  [] (λ_ _ ix ixs=>ix :: ixs) a
noncomputable def dj (r:Nat->Nat) (a:List AV):List AV:=@List.rec AV (λ_=>List AV) [] (λx _ ih=>AV.ren r x :: ih) a
@[simp] theorem ln (r:Nat->Nat):dj r []=[]:=rfl
@[simp] theorem fI (r:Nat->Nat) (x:AV) (xs:List AV):dj r (x :: xs)=AV.ren r x :: dj r xs:=rfl
theorem b5 (r:Nat->Nat):∀cs:List AV,(@AV.rec_1 (λ_=>AV) (λ_=>List AV)
  .top (λn=> .num n) (λx=> .bool x) (λv=> .val v) (λi o=> .ptr (r i) o) (λi o l c x=> .sl (r i) o l c x) .nes (λi=> .mp (r i))
  (λf _ _ ia ic=> .fn f ia ic) (λl=> .yld (r l)) (λt _ ih=> .ifc t ih) (λ_ ih=> .agg ih) (λ_ ih=> .tup ih)
  [] (λ_ _ ix ixs=>ix :: ixs) cs)=dj r cs
 |[]=>rfl
 |x :: xs=>by
  show AV.ren r x :: _=AV.ren r x :: dj r xs
  congr 1
  exact b5 r xs
theorem eE (r:Nat->Nat) (cs:List AV):AV.ren r (.agg cs)= .agg (dj r cs):=congrArg AV.agg (b5 r cs)
theorem eD (r:Nat->Nat) (cs:List AV):AV.ren r (.tup cs)= .tup (dj r cs):=congrArg AV.tup (b5 r cs)
theorem fZ (r:Nat->Nat) (f:FuncId) (as cs:List AV):AV.ren r (.fn f as cs)= .fn f (dj r as) (dj r cs):=by
 show AV.fn f _ _=_
 congr 1
 ·exact b5 r as
 ·exact b5 r cs
theorem bR (r:Nat->Nat) (a:List AV):@AV.rec_1 (λ_=>AV->Bool) (λ_=>List AV->Bool)
  (λ_=>false)
  (λn b=>match b with| .num m=>eo n m|_=>false)
  (λx b=>match b with| .bool y=>@Bool.rec (λ_=>Bool) (!y) y x|_=>false)
  (λv b=>match b with| .val w=>dq v w|_=>false)
  (λi o b=>match b with| .ptr j p=>Nat.beq (r i) j&&Nat.beq o p|_=>false)
  (λi o l c x b=>match b with| .sl j p m d y=>Nat.beq (r i) j&&(Nat.beq o p&&(Nat.beq l m&&(Nat.beq c d&&@Bool.rec (λ_=>Bool) (!y) y x)))|_=>false)
  (λb=>match b with| .nes=>true|_=>false)
  (λi b=>match b with| .mp j=>Nat.beq (r i) j|_=>false)
  (λf _ _ ia ic b=>match b with| .fn g b d=>Nat.beq f g&&(ia b&&ic d)|_=>false)
  (λl b=>match b with| .yld m=>Nat.beq (r l) m|_=>false)
  (λt _ ih b=>match b with| .ifc u w=>Nat.beq t u&&ih w|_=>false)
  (λ_ ih b=>match b with| .agg cs=>ih cs|_=>false)
  (λ_ ih b=>match b with| .tup cs=>ih cs|_=>false)
  ii
  (λ_ _ ix ixs bs=>eW bs λy ys=>ix y&&ixs ys) a=bp r a:=by
 induction a with
 |nil=>rfl
 |cons x xs ih=>
  funext bs
  show eW bs (λy ys=>AV.sameR r x y&&_)=eW bs (λy ys=>AV.sameR r x y&&bp r xs ys)
  rw[<-ih]
theorem jU {a b:Int} (h:eo a b=true):a=b:=by
 rw[dP]at h
 exact eq_of_beq h
mutual
theorem dO (r:Nat->Nat):∀{a b:AV},AV.sameR r a b=true->AV.ren r a=b
 | .top,b,h=>by cases b<;>cases h
 | .num n,b,h=>by cases b<;>first|cases h|exact congrArg AV.num (jU h)
 | .bool x,b,h=>by cases b<;>first|cases h|(rename_i y;cases x<;>cases y<;>first|rfl|cases h)
 | .val v,b,h=>by cases b<;>first|cases h|exact congrArg AV.val (eI h)
 | .ptr i o,b,h=>by
  cases b<;>try(cases h;done)
  rename_i j p
  have h:(Nat.beq (r i) j&&Nat.beq o p)=true:=h
  simp only[Q]at h
  show AV.ptr (r i) o=_
  rw[U h.1,U h.2]
 | .sl i o l c x,b,h=>by
  cases b<;>try(cases h;done)
  rename_i j p m d y
  have h:(Nat.beq (r i) j&&(Nat.beq o p&&(Nat.beq l m&&(Nat.beq c d&&@Bool.rec (λ_=>Bool) (!y) y x))))=true:=h
  simp only[Q]at h
  show AV.sl (r i) o l c x=_
  have hx:x=y:=by have:=h.2.2.2.2;cases x<;>cases y<;>first|rfl|cases this
  rw[U h.1,U h.2.1,U h.2.2.1,U h.2.2.2.1,hx]
 | .nes,b,h=>by cases b<;>first|rfl|cases h
 | .mp i,b,h=>by
  cases b<;>try(cases h;done)
  exact congrArg AV.mp (U h)
 | .fn f a c,b,h=>by
  cases b<;>try(cases h;done)
  rename_i g b d
  have h:(Nat.beq f g&&_)=true:=h
  rw[Q]at h
  obtain⟨h1,h2⟩:=h
  rw[Q]at h2
  obtain⟨h2,h3⟩:=h2
  have h2':bp r a b=true:=by rw[<-bR];exact h2
  have h3':bp r c d=true:=by rw[<-bR];exact h3
  rw[fZ,U h1,aU r h2',aU r h3']
 | .yld l,b,h=>by
  cases b<;>try(cases h;done)
  exact congrArg AV.yld (U h)
 | .ifc t v,b,h=>by
  cases b<;>try(cases h;done)
  rename_i u w
  have h:(Nat.beq t u&&AV.sameR r v w)=true:=h
  rw[Q]at h
  show AV.ifc t (AV.ren r v)=_
  rw[U h.1,dO r h.2]
 | .agg a,b,h=>by
  cases b<;>try(cases h;done)
  rename_i cs
  have h':bp r a cs=true:=by rw[<-bR];exact h
  rw[eE,aU r h']
 | .tup a,b,h=>by
  cases b<;>try(cases h;done)
  rename_i cs
  have h':bp r a cs=true:=by rw[<-bR];exact h
  rw[eD,aU r h']
theorem aU (r:Nat->Nat):∀{a b:List AV},bp r a b=true->dj r a=b
 |[],b,h=>by cases b<;>first|rfl|cases h
 |x :: xs,b,h=>by
  cases b with
  |nil=>cases h
  |cons y ys=>
   have h:(AV.sameR r x y&&bp r xs ys)=true:=h
   rw[Q]at h
   rw[fI,dO r h.1,aU r h.2]
end
noncomputable def AV.refsOK (p:Nat->Bool) (a:AV):Bool:=
 @AV.rec (λ_=>Bool) (λ_=>Bool) true (λ_=>true) (λ_=>true) (λ_=>true) (λi _=>p i) (λi _ _ _ _=>p i) true (λi=>p i)
  (λ_ _ _ ia ic=>ia&&ic) (λl=>p l) (λ_ _ ih=>ih) (λ_ ih=>ih) (λ_ ih=>ih) true (λ_ _ ix ixs=>ix&&ixs) a
noncomputable def ce (p:Nat->Bool) (a:List AV):Bool:=@List.rec AV (λ_=>Bool) true (λx _ ih=>AV.refsOK p x&&ih) a
theorem a6 (p:Nat->Bool):∀cs:List AV,(@AV.rec_1 (λ_=>Bool) (λ_=>Bool) true (λ_=>true) (λ_=>true) (λ_=>true) (λi _=>p i) (λi _ _ _ _=>p i) true (λi=>p i)
  (λ_ _ _ ia ic=>ia&&ic) (λl=>p l) (λ_ _ ih=>ih) (λ_ ih=>ih) (λ_ ih=>ih) true (λ_ _ ix ixs=>ix&&ixs) cs)=ce p cs
 |[]=>rfl
 |x :: xs=>by
  show(AV.refsOK p x&&_)=(AV.refsOK p x&&ce p xs)
  congr 1
  exact a6 p xs
mutual
theorem VR.unren {ρ ρc:aj} {r:Nat->Nat} {p:Nat->Bool} (h:∀j y,p j=true->ρ (r j)=F y->ρc j=F y):∀{a:AV} {v:N},AV.refsOK p a=true->VR ρ (AV.ren r a) v->VR ρc a v
 | .top,v,_,_=> .top v
 | .num n,_,_,hv=>by cases hv;exact .num n
 | .bool x,_,_,hv=>by cases hv;exact .bool x
 | .val x,_,_,hv=>by cases hv;exact .val x
 | .ptr i o,_,hp,hv=>by cases hv with|ptr hr=>exact .ptr (h i _ hp hr)
 | .sl i o l c x,_,hp,hv=>by cases hv with|sl hr=>exact .sl (h i _ hp hr)
 | .nes,_,_,hv=>by cases hv;exact .nes _ _
 | .mp i,_,hp,hv=>by cases hv with|mp hr=>exact .mp (h i _ hp hr)
 | .fn f as cs,_,hp,hv=>by
  rw[fZ]at hv
  have hp:(_&&_)=true:=hp
  rw[Q]at hp
  obtain⟨h1,h2⟩:=hp
  cases hv with
  |fn g1 g2=>exact .fn (VRs.unren h (a6 p as▸h1) g1) (VRs.unren h (a6 p cs▸h2) g2)
 | .yld l,_,hp,hv=>by cases hv with|yld hr=>exact .yld (h l _ hp hr)
 | .ifc t a,_,hp,hv=>by cases hv with|ifc g=>exact .ifc (VR.unren h hp g)
 | .agg cs,_,hp,hv=>by
  rw[eE]at hv
  cases hv with
  |agg g=>exact .agg (VRs.unren h (a6 p cs▸hp) g)
 | .tup cs,_,hp,hv=>by
  rw[eD]at hv
  cases hv with
  |tup g=>exact .tup (VRs.unren h (a6 p cs▸hp) g)
theorem VRs.unren {ρ ρc:aj} {r:Nat->Nat} {p:Nat->Bool} (h:∀j y,p j=true->ρ (r j)=F y->ρc j=F y):∀{a:List AV} {v:List N},ce p a=true->VRs ρ (dj r a) v->VRs ρc a v
 |[],_,_,hv=>by cases hv;exact .nil
 |x :: xs,_,hp,hv=>by
  have hp:(AV.refsOK p x&&ce p xs)=true:=hp
  rw[Q]at hp
  cases hv with
  |cons g1 g2=>exact .cons (VR.unren h hp.1 g1) (VRs.unren h hp.2 g2)
end
mutual
theorem VR.reren {ρ ρc:aj} {r:Nat->Nat} (h:∀j y,ρc j=F y->ρ (r j)=F y):∀{a:AV} {v:N},VR ρc a v->VR ρ (AV.ren r a) v
 | .top,v,_=> .top v
 | .num n,_,hv=>by cases hv;exact .num n
 | .bool x,_,hv=>by cases hv;exact .bool x
 | .val x,_,hv=>by cases hv;exact .val x
 | .ptr i o,_,hv=>by cases hv with|ptr hr=>exact .ptr (h i _ hr)
 | .sl i o l c x,_,hv=>by cases hv with|sl hr=>exact .sl (h i _ hr)
 | .nes,_,hv=>by cases hv;exact .nes _ _
 | .mp i,_,hv=>by cases hv with|mp hr=>exact .mp (h i _ hr)
 | .fn f as cs,_,hv=>by
  rw[fZ]
  cases hv with
  |fn g1 g2=>exact .fn (VRs.reren h g1) (VRs.reren h g2)
 | .yld l,_,hv=>by cases hv with|yld hr=>exact .yld (h l _ hr)
 | .ifc t a,_,hv=>by cases hv with|ifc g=>exact .ifc (VR.reren h g)
 | .agg cs,_,hv=>by
  rw[eE]
  cases hv with
  |agg g=>exact .agg (VRs.reren h g)
 | .tup cs,_,hv=>by
  rw[eD]
  cases hv with
  |tup g=>exact .tup (VRs.reren h g)
theorem VRs.reren {ρ ρc:aj} {r:Nat->Nat} (h:∀j y,ρc j=F y->ρ (r j)=F y):∀{a:List AV} {v:List N},VRs ρc a v->VRs ρ (dj r a) v
 |[],_,hv=>by cases hv;exact .nil
 |x :: xs,_,hv=>by
  cases hv with
  |cons g1 g2=>exact .cons (VR.reren h g1) (VRs.reren h g2)
end
end
section
structure ME where
 f:FuncId
 args:List AV
 n:Nat
 pre:List (Nat×AObj)
 v:AV
 n':Nat
 post:List (Nat×Option AObj)
noncomputable def dZ (r:Nat->Nat) (a b:List (N×AV×Nat)):Bool:=
 match a,b with
 |[],[]=>true
 |x :: xs,y :: ys=>dq x.1 y.1&&AV.sameR r x.2.1 y.2.1&&Nat.beq x.2.2 y.2.2&&dZ r xs ys
 |_,_=>false
noncomputable def AObj.sameR (r:Nat->Nat) (a b:AObj):Bool:=
 match a with
 | .cells cs e x=>match b with
  | .cells ds f y=>Nat.beq e f&&(x==y)&&bp r cs ds
  |_=>false
 | .map es c=>match b with
  | .map fs d=>Nat.beq c d&&dZ r es fs
  |_=>false
 | .ro k cs=>match b with
  | .ro l ds=>Nat.beq k l&&bp r cs ds
  |_=>false
 |_=>false
noncomputable def fk (r:Nat->Nat) (a:List (N×AV×Nat)):List (N×AV×Nat):=
 match a with
 |[]=>[]
 |x :: xs=>(x.1,AV.ren r x.2.1,x.2.2) :: fk r xs
noncomputable def AObj.ren (r:Nat->Nat) (a:AObj):AObj:=
 match a with
 | .cells cs e x=> .cells (dj r cs) e x
 | .map es c=> .map (fk r es) c
 | .ro k cs=> .ro k (dj r cs)
 |o=>o
noncomputable def AObj.plain (a:AObj):Bool:=
 match a with
 | .cells ..=>true
 | .map ..=>true
 | .ro ..=>true
 |_=>false
theorem fM (r:Nat->Nat):∀{a b:List (N×AV×Nat)},dZ r a b=true->fk r a=b
 |[],[],_=>rfl
 |[],_ :: _,h=>by simp[dZ]at h
 |_ :: _,[],h=>by simp[dZ]at h
 |x :: xs,y :: ys,h=>by
  simp only[dZ,Q]at h
  have h1:=eI h.1.1.1
  have h2:=dO r h.1.1.2
  have h3:=U h.1.2
  obtain⟨x1,x2,x3⟩:=x
  obtain⟨y1,y2,y3⟩:=y
  simp only at h1 h2 h3
  show(x1,AV.ren r x2,x3) :: fk r xs=_
  rw[fM r h.2,h1,h2,h3]
theorem AObj.sameR_eq {r:Nat->Nat} {a b:AObj} (h:AObj.sameR r a b=true):AObj.ren r a=b/\a.plain=true:=by
 unfold AObj.sameR at h
 split at h
 ·split at h
  ·simp only[Q,beq_iff_eq]at h
   refine⟨?_,rfl⟩
   show AObj.cells _ _ _=_
   rw[aU r h.2,U h.1.1,h.1.2]
  ·cases h
 ·split at h
  ·simp only[Q]at h
   refine⟨?_,rfl⟩
   show AObj.map _ _=_
   rw[fM r h.2,U h.1]
  ·cases h
 ·split at h
  ·simp only[Q]at h
   refine⟨?_,rfl⟩
   show AObj.ro _ _=_
   rw[aU r h.2,U h.1]
  ·cases h
 ·cases h
noncomputable def gj (p:Nat->Bool) (a:List (N×AV×Nat)):Bool:=
 match a with
 |[]=>true
 |x :: xs=>AV.refsOK p x.2.1&&gj p xs
noncomputable def AObj.refsOK (p:Nat->Bool) (a:AObj):Bool:=
 match a with
 | .cells cs _ _=>ce p cs
 | .map es _=>gj p es
 | .ro _ cs=>ce p cs
 |_=>false
theorem MR.unren {ρ ρc:aj} {r:Nat->Nat} {p:Nat->Bool} (h:∀j y,p j=true->ρ (r j)=F y->ρc j=F y):∀{es:List (N×AV×Nat)} {ms:List MapEntry},gj p es=true->MR ρ (fk r es) ms->MR ρc es ms
 |[],[],_,_=>trivial
 |[],_ :: _,_,hm=>hm.elim
 |_ :: _,[],_,hm=>hm.elim
 |e :: es,m :: ms,hp,hm=>by
  simp only[gj,Q]at hp
  exact⟨⟨hm.1.1,hm.1.2.1.unren h hp.1,hm.1.2.2⟩,MR.unren h hp.2 hm.2⟩
theorem MR.reren {ρ ρc:aj} {r:Nat->Nat} (h:∀j y,ρc j=F y->ρ (r j)=F y):∀{es:List (N×AV×Nat)} {ms:List MapEntry},MR ρc es ms->MR ρ (fk r es) ms
 |[],[],_=>trivial
 |[],_ :: _,hm=>hm.elim
 |_ :: _,[],hm=>hm.elim
 |e :: es,m :: ms,hm=>⟨⟨hm.1.1,hm.1.2.1.reren h,hm.1.2.2⟩,MR.reren h hm.2⟩
theorem OR.unren {E:Env} {G:aD} {ρ ρc:aj} {r:Nat->Nat} {p:Nat->Bool} (h:∀j y,p j=true->ρ (r j)=F y->ρc j=F y) {e:Nat} {o:AObj} {b:Obj} (hp:o.refsOK p=true) (ho:OR E G ρ e (o.ren r) b):OR E G ρc e o b:=by
 cases o with
 |cells cs el x=>cases ho with|cells vs rest fr h1 h2 h3 h4=>exact .cells vs rest fr (h1.unren h hp) h2 h3 h4
 |map es c=>cases ho with|map l h1=>exact .map l (h1.unren h hp)
 |ro k cs=>cases ho with|ro vs el fr h1 hg=>exact .ro vs el fr (h1.unren h hp) hg
 |_=>cases hp
theorem OR.reren {E:Env} {G:aD} {ρ ρc:aj} {r:Nat->Nat} (h:∀j y,ρc j=F y->ρ (r j)=F y) {e:Nat} {o:AObj} {b:Obj} (hp:o.plain=true) (ho:OR E G ρc e o b):OR E G ρ e (o.ren r) b:=by
 cases o with
 |cells cs el x=>cases ho with|cells vs rest fr h1 h2 h3 h4=>exact .cells vs rest fr (h1.reren h) h2 h3 h4
 |map es c=>cases ho with|map l h1=>exact .map l (h1.reren h)
 |ro k cs=>cases ho with|ro vs el fr h1 hg=>exact .ro vs el fr (h1.reren h) hg
 |_=>cases hp
noncomputable def cC (h:Tr AObj):List (Nat×AObj)->Tr AObj
 |[]=>h
 |p :: ps=>cC (h.put bits p.1 (F p.2)) ps
noncomputable def ME.st (me:ME):St:=⟨cC .nil me.pre,me.n,H⟩
theorem ck {ps:List (Nat×AObj)}:∀{h:Tr AObj} {i:Nat} {o:AObj},(cC h ps).get i=F o->(i,o)∈ps\/h.get i=F o:=by
 induction ps with
 |nil=>intro h i o hg;exact .inr hg
 |cons p ps ih=>
  intro h i o hg
  rcases ih hg with h1|h1
  ·exact .inl (List.mem_cons_of_mem _ h1)
  ·rcases Tr.put_some h1 with⟨h2,h3⟩|⟨_,h2⟩
   ·injection h3 with h3
    refine .inl ?_
    obtain⟨p1,p2⟩:=p
    simp only at h2 h3
    subst h2;subst h3
    exact List.mem_cons_self ..
   ·exact .inr h2
theorem ME.st_get {me:ME} {i:Nat} {o:AObj} (h:me.st.h.get i=F o):(i,o)∈me.pre:=by
 rcases ck (h:(cC .nil me.pre).get i=F o)with h1|h1
 ·exact h1
 ·cases h1
noncomputable def bX (σ:Tr Nat) (n m:Nat) (j:Nat):Nat:=
 @Bool.rec (λ_=>Nat) (match σ.get j with|some i=>i|none=>j) (Nat.add m (Nat.sub j n)) (Nat.ble n j)
theorem be {σ:Tr Nat} {n m j:Nat} (h:n<=j):bX σ n m j=m+(j - n):=by
 unfold bX
 rw[Nat.ble_eq_true_of_le h]
 rfl
theorem jN {σ:Tr Nat} {n m j:Nat} (h:j<n):bX σ n m j=match σ.get j with|some i=>i|none=>j:=by
 unfold bX
 cases hb:Nat.ble n j with
 |false=>rfl
 |true=>have:=Nat.le_of_ble_eq_true hb;omega
noncomputable def iv (r:Nat->Nat) (h:Tr AObj):List (Nat×Option AObj)->Tr AObj
 |[]=>h
 |p :: ps=>iv r (h.put bits (r p.1) (match p.2 with|some o=>F (o.ren r)|none=>H)) ps
noncomputable def kf (r:Nat->Nat) (o:Option AObj):Option AObj:=match o with|some o=>F (o.ren r)|none=>H
theorem Tr.get_one_lt {α:Type} (k:Nat):∀(n:Nat) (x:Option α),n+1<2 ^ k->(Tr.one k n x).get n=x:=by
 induction k with
 |zero=>intro n x h;omega
 |succ k ih=>
  intro n x h
  cases n with
  |zero=>rfl
  |succ n=>
   rw[Tr.one_succ]
   have:2 ^ (k+1)=2*2 ^ k:=by rw[Nat.pow_succ];omega
   split<;>rename_i h1<;>rw[Tr.get_succ]<;>simp[h1]<;>apply ih<;>omega
theorem Tr.get_put_lt {α:Type} (k:Nat) (t:Tr α):∀(n:Nat) (x:Option α),n+1<2 ^ k->(t.put k n x).get n=x:=by
 induction t with
 |nil=>intro n x h;rw[Tr.put_nil];exact Tr.get_one_lt k n x h
 |node v l r ihl ihr=>
  intro n x h
  cases n with
  |zero=>rfl
  |succ n=>
   rw[Tr.put_succ]
   split<;>rename_i h1<;>rw[Tr.get_succ]<;>simp[h1]<;>first|(apply ihl;omega)|(apply ihr;omega)
theorem gB {r:Nat->Nat} {ps:List (Nat×Option AObj)}:∀{h:Tr AObj} {i:Nat},(∀p∈ps,r p.1+1<2 ^ bits)->
  (∃p∈ps,r p.1=i/\(iv r h ps).get i=kf r p.2)\/((∀p∈ps,r p.1≠i)/\(iv r h ps).get i=h.get i):=by
 induction ps with
 |nil=>intro h i _;exact .inr ⟨(λ_ h=>by cases h),rfl⟩
 |cons p ps ih=>
  intro h i hb
  rcases ih (h:=h.put bits (r p.1) (kf r p.2)) (i:=i) (λq hq=>hb q (List.mem_cons_of_mem _ hq))with⟨x,h1,h2,h3⟩|⟨h1,h2⟩
  ·exact .inl ⟨x,List.mem_cons_of_mem _ h1,h2,h3⟩
  ·by_cases hi:r p.1=i
   ·refine .inl ⟨p,List.mem_cons_self ..,hi,?_⟩
    show(iv r (h.put bits (r p.1) (kf r p.2)) ps).get i=_
    rw[h2,hi]
    exact Tr.get_put_lt _ _ _ _ (hi▸hb p (List.mem_cons_self ..))
   ·refine .inr ⟨λq hq=>?_,?_⟩
    ·rcases List.mem_cons.1 hq with rfl|hq
     ·exact hi
     ·exact h1 q hq
    ·show(iv r (h.put bits (r p.1) (kf r p.2)) ps).get i=h.get i
     rw[h2]
     exact Tr.get_put_ne _ _ _ _ _ (Ne.symm hi)
noncomputable def bm (g:Nat) (σ:Tr Nat) (j:Nat):Bool:=Nat.blt j g||(σ.get j).isSome
noncomputable def ge (me:ME) (s':St) (p:Nat×Option AObj):Bool:=
 (Nat.blt p.1 me.n'&&(Nat.ble me.n p.1||(me.st.h.get p.1).isSome))&&
 match p.2 with
 |some o=>match s'.h.get p.1 with
  |some o'=>AObj.sameR (λi=>i) o o'
  |none=>false
 |none=>Nat.ble me.n p.1||(s'.h.get p.1).isNone
noncomputable def jX (me:ME) (s':St) (p:Nat×AObj):Bool:=
 Nat.blt p.1 me.n&&((me.post.any λq=>Nat.beq q.1 p.1)||match s'.h.get p.1 with
  |some o'=>AObj.sameR (λi=>i) p.2 o'
  |none=>false)
noncomputable def ME.okOut (me:ME) (r:Out):Bool:=
 match r with
 | .val v s'=>AV.sameR (λi=>i) me.v v&&Nat.beq me.n' s'.n&&me.post.all (ge me s')&&me.pre.all (jX me s')
 |_=>false
noncomputable def ME.ok (E:Env) (k:Nat) (me:ME):Bool:=me.okOut (ev E k (.call me.f me.args) me.st)
mutual
theorem gz:∀a:AV,AV.ren (λi=>i) a=a
 | .top=>rfl
 | .num _=>rfl
 | .bool _=>rfl
 | .val _=>rfl
 | .ptr _ _=>rfl
 | .sl ..=>rfl
 | .nes=>rfl
 | .mp _=>rfl
 | .fn f a c=>by rw[fZ,ci a,ci c]
 | .yld _=>rfl
 | .ifc t a=>by show AV.ifc t (AV.ren _ a)=_;rw[gz a]
 | .agg cs=>by rw[eE,ci cs]
 | .tup cs=>by rw[eD,ci cs]
theorem ci:∀a:List AV,dj (λi=>i) a=a
 |[]=>rfl
 |x :: xs=>by rw[fI,gz x,ci xs]
end
theorem gS:∀es:List (N×AV×Nat),fk (λi=>i) es=es
 |[]=>rfl
 |e :: es=>by show(_,_,_) :: _=_;rw[gz,gS es]
theorem AObj.ren_id (o:AObj):o.ren (λi=>i)=o:=by
 cases o<;>try rfl
 ·show AObj.cells _ _ _=_;rw[ci]
 ·show AObj.map _ _=_;rw[gS]
 ·show AObj.ro _ _=_;rw[ci]
theorem kT {o o':AObj} (h:AObj.sameR (λi=>i) o o'=true):o=o'/\o.plain=true:=by
 obtain⟨h1,h2⟩:=AObj.sameR_eq h
 rw[AObj.ren_id]at h1
 exact⟨h1,h2⟩
abbrev GT:=Tr Nat
noncomputable def kA (r:GT) (i j:Nat):GT:=r.put bits i (F j)
noncomputable def gV (a:AV):AV->GT->GT:=
 @AV.rec (λ_=>AV->GT->GT) (λ_=>List AV->GT->GT)
  (λ_ r=>r) (λ_ _ r=>r) (λ_ _ r=>r) (λ_ _ r=>r)
  (λi _ b r=>match b with| .ptr j _=>kA r i j|_=>r)
  (λi _ _ _ _ b r=>match b with| .sl j _ _ _ _=>kA r i j|_=>r)
  (λ_ r=>r)
  (λi b r=>match b with| .mp j=>kA r i j|_=>r)
  (λ_ _ _ ia ic b r=>match b with| .fn _ x y=>ic y (ia x r)|_=>r)
  (λl b r=>match b with| .yld m=>kA r l m|_=>r)
  (λ_ _ ih b r=>match b with| .ifc _ w=>ih w r|_=>r)
  (λ_ ih b r=>match b with| .agg cs=>ih cs r|_=>r)
  (λ_ ih b r=>match b with| .tup cs=>ih cs r|_=>r)
  (λ_ r=>r)
  (λ_ _ ix ixs bs r=>@List.casesOn AV (λ_=>GT) bs r (λy ys=>ixs ys (ix y r))) a
noncomputable def gL (a:List AV):List AV->GT->GT:=
 @List.rec AV (λ_=>List AV->GT->GT) (λ_ r=>r) (λx _ ih bs r=>@List.casesOn AV (λ_=>GT) bs r (λy ys=>ih ys (gV x y r))) a
noncomputable def gEs (a b:List (N×AV×Nat)) (r:GT):GT:=
 match a with
 |[]=>r
 |x :: xs=>match b with
  |[]=>r
  |y :: ys=>gEs xs ys (gV x.2.1 y.2.1 r)
noncomputable def gO (a b:AObj) (r:GT):GT:=
 match a with
 | .cells cs _ _=>match b with
  | .cells ds _ _=>gL cs ds r
  |_=>r
 | .map es _=>match b with
  | .map fs _=>gEs es fs r
  |_=>r
 | .ro _ cs=>match b with
  | .ro _ ds=>gL cs ds r
  |_=>r
 |_=>r
noncomputable def lq (g:Nat) (s:St):List (Nat×AObj)->GT->GT
 |[],r=>r
 |p :: ps,r=>match s.h.get (match r.get p.1 with|some i=>i|none=>p.1)with
  |some o=>lq g s ps (gO p.2 o r)
  |none=>r
noncomputable def ME.guess (me:ME) (args:List AV) (s:St):GT:=lq 0 s me.pre (gL me.args args .nil)
noncomputable def f9:List Nat->Bool
 |[]=>true
 |x :: xs=>!(xs.any λy=>Nat.beq x y)&&f9 xs
noncomputable def kU (g:Nat) (σ:Tr Nat) (n:Nat) (s:St) (p:Nat×AObj):Bool:=
 bm g σ p.1&&(p.2.refsOK (bm g σ)&&match s.h.get (bX σ n s.n p.1)with
 |some o=>AObj.sameR (bX σ n s.n) p.2 o
 |none=>false)
noncomputable def kL (g:Nat) (σ:Tr Nat):Bool:=(List.range g).all λj=>match σ.get j with|some i=>Nat.beq i j|none=>true
noncomputable def ME.fits (g:Nat) (me:ME) (args:List AV) (s:St) (σ:Tr Nat):Bool:=
 ce (bm g σ) me.args&&bp (bX σ me.n s.n) me.args args&&me.pre.all (kU g σ me.n s)&&f9 (me.pre.map λp=>bX σ me.n s.n p.1)&&kL g σ&&Nat.ble g me.n&&
  Nat.blt (Nat.add s.n me.n') 1000000000&&(me.post.all λp=>match p.2 with|some o=>o.plain|none=>true)&&Nat.ble me.n me.n'
noncomputable def ME.after (me:ME) (s:St) (σ:Tr Nat):St:=⟨iv (bX σ me.n s.n) s.h me.post,s.n+(me.n' - me.n),s.u⟩
noncomputable def ME.use (g:Nat) (me:ME) (args:List AV) (s:St) (σ:Tr Nat):Option (AV×St):=
 match bp (bX σ me.n s.n) me.args args with
 |true=>match me.fits g args s σ with
  |true=>F (me.v.ren (bX σ me.n s.n),me.after s σ)
  |false=>H
 |false=>H
noncomputable def i9 (g:Nat) (args:List AV) (s:St):List ME->Option (AV×St)
 |[]=>H
 |me :: ms=>match me.use g args s (me.guess args s)with
  |some r=>F r
  |none=>i9 g args s ms
end
section
theorem OR.env {E E':Env} (hty:E.ty=E'.ty) (hgh:E.gh=E'.gh) {G:aD} {ρ:aj} {e:Nat} {o:AObj} {b:Obj} (h:OR E G ρ e o b):OR E' G ρ e o b:=by
 cases h with
 |cells vs rest fr h hf hx he=>exact .cells vs rest fr h hf hx (λti ht=>he ti (hty▸ht))
 |map l h=>exact .map l h
 |siter s p=>exact .siter s p
 |miter0 a b c=>exact .miter0 a b c
 |miter a b c h=>exact .miter a b c h
 |loop lp h=>exact .loop lp h
 |deferred l h=>exact .deferred l h
 |ro vs el fr h hg=>exact .ro vs el fr h (hgh▸hg)
theorem Rel.env {E E':Env} (hP:E.P=E'.P) (hty:E.ty=E'.ty) (hgh:E.gh=E'.gh) {D:Array Z->Bool} {ρ:aj} {st:St} {h:Array Obj} (r:Rel E (GE D E) ρ st h):Rel E' (GE D E') ρ st h:=by
 have hG:GE D E=GE D E':=by unfold GE;rw[hP]
 refine⟨λi o b e h1 h2=>?_,r.inj,r.fresh,r.below,λg hg=>r.glob g (hP▸hg)⟩
 obtain⟨ob,h3,h4⟩:=r.obj i o b e h1 h2
 exact⟨ob,h3,hG▸h4.env hty hgh⟩
theorem Mv.env {E E':Env} (hP:E.P=E'.P) (hty:E.ty=E'.ty) (hgh:E.gh=E'.gh) {D:Array Z->Bool} {ρ ρ':aj} {st st':St} {w w':aa} (h:Mv E (GE D E) ρ st w ρ' st' w'):Mv E' (GE D E') ρ st w ρ' st' w':=
 ⟨h.rel.env hP hty hgh,h.ext,h.same,h.u⟩
def CallF (D:Array Z->Bool) (E:Env) (me:ME):Prop:=
 ∀(σ:Tr Nat) (ρ:aj) (st:St) (w:aa) args xs,Rel E (GE D E) ρ st w.heap->VRs ρ args xs->me.fits E.P.globals.size args st σ=true->
  Calls E.P me.f ⟨xs⟩ w λe w'=>∃x ρ',e= .returned x/\VR ρ' (me.v.ren (bX σ me.n st.n)) x/\Mv E (GE D E) ρ st w ρ' (me.after st σ) w'
theorem CallF.env {E E':Env} (hP:E.P=E'.P) (hty:E.ty=E'.ty) (hgh:E.gh=E'.gh) {D:Array Z->Bool} {me:ME} (h:CallF D E me):CallF D E' me:=by
 intro σ ρ st w args xs hR hxs hf
 rw[<-hP]
 exact(h σ ρ st w args xs (hR.env hP.symm hty.symm hgh.symm) hxs (by rw[hP];exact hf)).mono λe w' ⟨x,ρ',h1,h2,h3⟩=>⟨x,ρ',h1,h2,h3.env hP hty hgh⟩
theorem eX {α:Type} {r:α->Nat}:∀{l:List α},f9 (l.map r)=true->∀{x y:α},x∈l->y∈l->r x=r y->x=y
 |[],_,_,_,h,_,_=>by cases h
 |a :: as,hn,x,y,hx,hy,hr=>by
  simp only[List.map_cons,f9,Q,Bool.not_eq_true',List.any_eq_false]at hn
  rcases List.mem_cons.1 hx with hx|hx<;>rcases List.mem_cons.1 hy with hy|hy
  ·rw[hx,hy]
  ·exact absurd (by rw[<-hr,hx];exact Nat.beq_refl _) (hn.1 (r y) (List.mem_map_of_mem hy))
  ·exact absurd (by rw[hr,hy];exact Nat.beq_refl _) (hn.1 (r x) (List.mem_map_of_mem hx))
  ·exact eX hn.2 hx hy hr
theorem gu {E:Env} {k:Nat} {me:ME} (hrec:RecOK planOK E (ev E k)) (h:me.ok E k=true):CallF planOK E me:=by
 intro σ ρ st w args xs hR hxs hf
 simp only[ME.fits,Q,List.all_eq_true]at hf
 obtain⟨⟨⟨⟨⟨⟨⟨⟨hf1,hf2⟩,hf3⟩,hf4⟩,hf5⟩,hf6⟩,hf7⟩,hf8⟩,hf9⟩:=hf
 have hf6:=Nat.le_of_ble_eq_true hf6
 have hf9:=Nat.le_of_ble_eq_true hf9
 have hlim:st.n+me.n'<1000000000:=by simpa[Nat.blt_eq]using hf7
 let g:=E.P.globals.size
 let r:=bX σ me.n st.n
 let ρc:aj:=λj=>if j<me.n/\bm g σ j=true then ρ (r j)else H
 have hρ:∀j y,ρc j=F y->j<me.n/\bm g σ j=true/\ρ (r j)=F y:=by
  intro j y hj
  by_cases hc:j<me.n/\bm g σ j=true
  ·exact⟨hc.1,hc.2,by simpa[ρc,hc]using hj⟩
  ·simp[ρc,hc]at hj
 have hρi:∀j,j<me.n->bm g σ j=true->ρc j=ρ (r j):=λj h1 h2=>by simp[ρc,h1,h2]
 have hun:∀j y,bm g σ j=true->ρ (r j)=F y->ρc j=F y:=by
  intro j y hk hy
  rcases Nat.lt_or_ge j me.n with hj|hj
  ·rw[hρi j hj hk];exact hy
  ·have:r j=st.n+(j - me.n):=be hj
   rw[this,(hR.fresh (st.n+(j - me.n)) (by omega)).1]at hy
   cases hy
 have hglob:∀j,j<g->r j=j:=by
  intro j hj
  have h1:r j=match σ.get j with|some i=>i|none=>j:=jN (by omega)
  rw[h1]
  have:=List.all_eq_true.1 hf5 j (by simpa using hj)
  split
  ·rename_i i hi
   rw[hi]at this
   exact U this
  ·rfl
 have hpre:∀j o,me.st.h.get j=F o->bm g σ j=true/\o.refsOK (bm g σ)=true/\o.plain=true/\st.h.get (r j)=F (o.ren r):=by
  intro j o hj
  have:=hf3 _ (ME.st_get hj)
  simp only[kU,Q]at this
  obtain⟨h1,h2,h3⟩:=this
  split at h3
  ·rename_i o' ho'
   obtain⟨h4,h5⟩:=AObj.sameR_eq h3
   exact⟨h1,h2,h5,by rw[show st.h.get (r j)=F o' from ho',h4]⟩
  ·cases h3
 have hc0:∀j o,me.st.h.get j=F o->cc st (r j):=λj o hj=>⟨_,(hpre j o hj).2.2.2⟩
 have hRlt:∀i,cc st i->i<st.n:=by
  rintro i ⟨o,ho⟩
  rcases Nat.lt_or_ge i st.n with h|h
  ·exact h
  ·rw[(hR.fresh i h).2]at ho;cases ho
 have hinj:∀j k o o',me.st.h.get j=F o->me.st.h.get k=F o'->r j=r k->j=k:=by
  intro j k o o' hj hk hr
  have h1:=eX hf4 (ME.st_get hj) (ME.st_get hk) hr
  exact congrArg Prod.fst h1
 have hsub:Rel E (GE planOK E) ρc me.st w.heap:=by
  refine⟨?_,?_,?_,?_,?_⟩
  ·intro j o b e hj hr
   obtain⟨h1,h2,h3,h4⟩:=hpre j o hj
   obtain⟨_,_,h5⟩:=hρ j _ hr
   obtain⟨ob,h6,h7⟩:=hR.obj _ _ _ _ h4 h5
   exact⟨ob,h6,h7.unren hun h2⟩
  ·intro j k b e e' ⟨o,hj⟩ ⟨o',hk⟩ h1 h2
   exact hinj j k o o' hj hk (hR.inj _ _ b e e' (hc0 j o hj) (hc0 k o' hk) (hρ j _ h1).2.2 (hρ k _ h2).2.2)
  ·intro j hj
   have hj':me.n<=j:=hj
   refine⟨?_,?_⟩
   ·cases hx:ρc j with
    |none=>rfl
    |some y=>have:=(hρ j y hx).1;omega
   ·cases hx:me.st.h.get j with
    |none=>rfl
    |some o=>
     have h0:=hRlt _ (hc0 j o hx)
     have:r j=st.n+(j - me.n):=be hj'
     omega
  ·intro j b e hj;exact hR.below _ b e (hρ j _ hj).2.2
  ·intro j hj
   have hk:bm g σ j=true:=by
    have:Nat.blt j g=true:=by rw[Nat.blt_eq];exact hj
    simp[bm,this]
   rw[hρi j (by omega) hk,hglob j hj]
   exact hR.glob j hj
 have hargs:VRs ρc me.args xs:=by
  have he:=aU _ hf2
  rw[<-he]at hxs
  exact hxs.unren hun hf1
 have hc:=hrec.call me.f me.args me.st ρc w xs hsub hargs
 unfold ME.ok at h
 cases hout:ev E k (.call me.f me.args) me.st with
 |val v s'=>
  rw[hout]at hc h
  simp only[ME.okOut,Q,List.all_eq_true]at h
  obtain⟨⟨⟨h1,h2⟩,hpost⟩,hprek⟩:=h
  have hv:=dO _ h1
  rw[gz]at hv
  subst hv
  have hn':me.n'=s'.n:=U h2
  refine Calls.mono hc ?_
  rintro e w' ⟨x,ρc',he,hv,hm,hu⟩
  have hmn:me.n<=s'.n:=hm.ext.n
  let ρ':aj:=λi=>if i<st.n then ρ i else ρc' (me.n+(i - st.n))
  have hρ'o:∀i,i<st.n->ρ' i=ρ i:=λi hi=>by simp[ρ',hi]
  have hρ'n:∀i,st.n<=i->ρ' i=ρc' (me.n+(i - st.n)):=λi hi=>by
   have:¬i<st.n:=by omega
   simp[ρ',this]
  have hle:Le ρ ρ':=by
   intro i y hy
   have:i<st.n:=by
    rcases Nat.lt_or_ge i st.n with h|h
    ·exact h
    ·rw[(hR.fresh i h).1]at hy;cases hy
   rw[hρ'o i this];exact hy
  have hold:∀j y,j<me.n->ρc' j=F y->ρc j=F y:=by
   intro j y hj hy
   cases hx:ρc j with
   |none=>rw[hm.ext.old j hj hx]at hy;cases hy
   |some z=>rw[hm.ext.mono j z hx]at hy;exact hy
  have hrr:∀j y,ρc' j=F y->ρ' (r j)=F y:=by
   intro j y hy
   rcases Nat.lt_or_ge j me.n with hj|hj
   ·exact hle _ _ (hρ j y (hold j y hj hy)).2.2
   ·have:r j=st.n+(j - me.n):=be hj
    rw[this,hρ'n _ (by omega)]
    have e:me.n+(st.n+(j - me.n) - st.n)=j:=by omega
    rw[e];exact hy
  refine⟨x,ρ',he,hv.reren hrr,?_⟩
  have hkey:∀p∈me.post,p.1<me.n'/\(me.n<=p.1\/∃o,me.st.h.get p.1=F o):=by
   intro p hp
   have:=hpost p hp
   simp only[ge,Q,Bool.or_eq_true,Nat.blt_eq]at this
   refine⟨this.1.1,?_⟩
   rcases this.1.2 with h3|h3
   ·exact .inl (Nat.le_of_ble_eq_true h3)
   ·exact .inr (Option.isSome_iff_exists.1 h3)
  have hlt0:∀j o,me.st.h.get j=F o->j<me.n:=by
   intro j o hj
   have:=hprek _ (ME.st_get hj)
   simp only[jX,Q,Nat.blt_eq]at this
   exact this.1
  have hval:∀p∈me.post,∀o,p.2=F o->s'.h.get p.1=F o/\o.plain=true:=by
   intro p hp o ho
   have:=hpost p hp
   simp only[ge,Q]at this
   have h3:=this.2
   rw[ho]at h3
   cases hs:s'.h.get p.1 with
   |none=>simp[hs]at h3
   |some o2=>
    simp only[hs]at h3
    obtain⟨h6,h7⟩:=kT h3
    rw[h6]
    exact⟨rfl,h6▸h7⟩
  have hplim:∀p∈me.post,r p.1+1<2 ^ bits:=by
   intro p hp
   have hb:(1000000000:Nat)+2<2 ^ bits:=by decide
   obtain⟨h4,h3⟩:=hkey p hp
   rcases h3 with h3|⟨o,h3⟩
   ·have h5:r p.1=st.n+(p.1 - me.n):=be h3
    omega
   ·have:=hRlt _ (hc0 _ _ h3)
    omega
  have hget:∀i o,(me.after st σ).h.get i=F o->(∃j oc,i=r j/\o=oc.ren r/\oc.plain=true/\s'.h.get j=F oc/\(me.n<=j\/∃o,me.st.h.get j=F o))\/(i<st.n/\st.h.get i=F o/\∀j o',me.st.h.get j=F o'->r j≠i):=by
   intro i o hg
   rcases gB (h:=st.h) (i:=i) hplim with⟨p,hp,h1,h2⟩|⟨h1,h2⟩
   ·have hx:kf r p.2=F o:=h2.symm.trans hg
    cases hp2:p.2 with
    |none=>rw[hp2]at hx;cases hx
    |some oc=>
     rw[hp2]at hx
     injection hx with hx
     obtain⟨h3,h4⟩:=hval p hp oc hp2
     exact .inl ⟨p.1,oc,h1.symm,hx.symm,h4,h3,(hkey p hp).2⟩
   ·have hg':st.h.get i=F o:=h2.symm.trans hg
    have hi:i<st.n:=hRlt i ⟨o,hg'⟩
    by_cases hex:∃j o',me.st.h.get j=F o'/\r j=i
    ·obtain⟨j,o',h3,h4⟩:=hex
     left
     have h5:=hprek _ (ME.st_get h3)
     simp only[jX,Q,Bool.or_eq_true]at h5
     obtain⟨h50,h5⟩:=h5
     rcases h5 with h5|h5
     ·obtain⟨q,hq,hqi⟩:=List.any_eq_true.1 h5
      exact absurd (by rw[U hqi];exact h4) (h1 q hq)
     ·cases hs:s'.h.get j with
      |none=>simp[hs]at h5
      |some o2=>
       simp only[hs]at h5
       obtain⟨h6,h7⟩:=kT h5
       have h8:=(hpre j o' h3).2.2.2
       rw[h4,hg']at h8
       injection h8 with h8
       exact⟨j,o',h4.symm,h8,h7,h6▸hs, .inr ⟨o',h3⟩⟩
    ·exact .inr ⟨hi,hg',λj o' h3 h4=>hex ⟨j,o',h3,h4⟩⟩
  have hcan:∀j y,(me.n<=j\/∃o,me.st.h.get j=F o)->ρ' (r j)=F y->ρc' j=F y:=by
   intro j y hj hy
   rcases hj with hj|⟨o,hj⟩
   ·have h5:r j=st.n+(j - me.n):=be hj
    rw[h5,hρ'n _ (by omega)]at hy
    have e:me.n+(st.n+(j - me.n) - st.n)=j:=by omega
    rw[e]at hy;exact hy
   ·rw[hρ'o _ (hRlt _ (hc0 _ _ hj))]at hy
    exact hm.ext.mono j y (by rw[hρi j (hlt0 j o hj) (hpre j o hj).1];exact hy)
  have hkeep:∀i b e o,st.h.get i=F o->(∀j o',me.st.h.get j=F o'->r j≠i)->ρ i=F (b,e)->w'.heap[b]?=w.heap[b]?:=by
   intro i b e o ho hno hr
   refine hm.ext.keep b (hR.below i b e hr) ?_
   intro j e' ⟨o',hj⟩ hrj
   exact hno j o' hj (hR.inj _ i b e' e (hc0 j o' hj) ⟨o,ho⟩ (hρ j _ hrj).2.2 hr)
  have hmix:∀j i b e e' o,ρc' j=F (b,e)->cc s' j->i<st.n->st.h.get i=F o->(∀j o',me.st.h.get j=F o'->r j≠i)->ρ i=F (b,e')->False:=by
   intro j i b e e' o h1 hl hi ho hno hr
   rcases hm.ext.dom j b e hl h1 with h3|⟨k,e2,⟨o2,h3⟩,h4⟩
   ·have:=hR.below i b e' hr;omega
   ·exact hno k o2 h3 (hR.inj _ i b e2 e' (hc0 k o2 h3) ⟨o,ho⟩ (hρ k _ h4).2.2 hr)
  have han:(me.after st σ).n=st.n+(s'.n - me.n):=by show st.n+(me.n' - me.n)=_;rw[hn']
  refine⟨⟨?_,?_,?_,?_,?_⟩,⟨hle,?_,?_,?_,hm.ext.size,?_,?_⟩,hm.same,rfl⟩
  ·intro i o b e hg hr
   rcases hget i o hg with⟨j,oc,rfl,rfl,h2,h3,h4⟩|⟨h1,h2,h3⟩
   ·obtain⟨ob,h5,h6⟩:=hm.rel.obj j oc b e h3 (hcan j _ h4 hr)
    exact⟨ob,h5,h6.reren hrr h2⟩
   ·have hr0:ρ i=F (b,e):=by rw[<-hρ'o i h1];exact hr
    obtain⟨ob,h4,h5⟩:=hR.obj i o b e h2 hr0
    exact⟨ob,by rw[hkeep i b e o h2 h3 hr0];exact h4,h5.mono hle⟩
  ·intro i k b e e' ⟨o,hi⟩ ⟨o',hk⟩ h1 h2
   rcases hget i o hi with⟨j,oc,rfl,_,_,gi,gi4⟩|⟨gi,gi2,gi3⟩<;>rcases hget k o' hk with⟨j',oc',rfl,_,_,gk,gk4⟩|⟨gk,gk2,gk3⟩
   ·rw[hm.rel.inj j j' b e e' ⟨oc,gi⟩ ⟨oc',gk⟩ (hcan j _ gi4 h1) (hcan j' _ gk4 h2)]
   ·exact(hmix j k b e e' o' (hcan j _ gi4 h1) ⟨oc,gi⟩ gk gk2 gk3 (by rw[<-hρ'o k gk];exact h2)).elim
   ·exact(hmix j' i b e' e o (hcan j' _ gk4 h2) ⟨oc',gk⟩ gi gi2 gi3 (by rw[<-hρ'o i gi];exact h1)).elim
   ·exact hR.inj i k b e e' ⟨o,gi2⟩ ⟨o',gk2⟩ (by rw[<-hρ'o i gi];exact h1) (by rw[<-hρ'o k gk];exact h2)
  ·intro i hi
   rw[han]at hi
   have hsi:st.n<=i:=by omega
   refine⟨?_,?_⟩
   ·rw[hρ'n i hsi]
    exact(hm.rel.fresh _ (by omega)).1
   ·cases hg:(me.after st σ).h.get i with
    |none=>rfl
    |some o=>
     rcases hget i o hg with⟨j,oc,h1,_,_,h3,h4⟩|⟨h1,_⟩
     ·have hj:j<s'.n:=by
       rcases Nat.lt_or_ge j s'.n with h|h
       ·exact h
       ·rw[(hm.rel.fresh j h).2]at h3;cases h3
      rcases h4 with h4|⟨o2,h4⟩
      ·have h5:r j=st.n+(j - me.n):=be h4
       omega
      ·have:=hRlt _ (hc0 _ _ h4)
       omega
     ·omega
  ·intro i b e hr
   rcases Nat.lt_or_ge i st.n with hi|hi
   ·exact Nat.lt_of_lt_of_le (hR.below i b e (by rw[<-hρ'o i hi];exact hr)) hm.ext.size
   ·exact hm.rel.below _ b e (by rw[<-hρ'n i hi];exact hr)
  ·intro j hj
   have h0:=hR.glob j hj
   exact hle _ _ h0
  ·intro i hi hr;rw[hρ'o i hi];exact hr
  ·intro i hi hr
   rcases gB (h:=st.h) (i:=i) hplim with⟨p,hp,h1,h2⟩|⟨h1,h2⟩
   ·have h3:=hpost p hp
    have h30:=(hkey p hp).2
    rcases h30 with h4|⟨o,h4⟩
    ·have h5:r p.1=st.n+(p.1 - me.n):=be h4
     omega
    ·have hjn:=hlt0 _ _ h4
     have hr0:ρc p.1=H:=by rw[hρi p.1 hjn (hpre _ _ h4).1];rw[show r p.1=i from h1];exact hr
     have hv0:=hm.ext.virt p.1 hjn hr0
     rw[h4]at hv0
     have h8:=(hpre _ _ h4).2.2.2
     show(iv r st.h me.post).get i=st.h.get i
     rw[h2,<-h1,h8]
     cases hp2:p.2 with
     |some o2=>
      have:=(hval p hp o2 hp2).1
      rw[hv0]at this
      injection this with this
      rw[this];rfl
     |none=>
      simp only[ge,hp2,hv0,Option.isNone_some,Bool.or_false,Q]at h3
      have:=Nat.le_of_ble_eq_true h3.2
      omega
   ·exact h2
  ·show st.n<=st.n+(me.n' - me.n);omega
  ·intro b hb hno
   refine hm.ext.keep b hb ?_
   intro j e ⟨o,hj⟩ hr
   exact hno (r j) e (hc0 j o hj) (hρ j _ hr).2.2
  ·intro i b e ⟨o,hg⟩ hr
   rcases hget i o hg with⟨j,oc,rfl,_,_,h3,h4⟩|⟨h1,h2,_⟩
   ·rcases hm.ext.dom j b e ⟨oc,h3⟩ (hcan j _ h4 hr)with h5|⟨k,e',⟨o',h5⟩,h6⟩
    ·exact .inl h5
    ·exact .inr ⟨r k,e',hc0 k o' h5,(hρ k _ h6).2.2⟩
   ·exact .inr ⟨i,e,⟨o,h2⟩,by rw[<-hρ'o i h1];exact hr⟩
 |_=>rw[hout]at h;cases h
end
section
noncomputable def dY {α:Type} (t:Tr α):List (Nat×α)->Tr α
 |[]=>t
 |p :: ps=>dY (t.put bits p.1 (F p.2)) ps
noncomputable def ofAssoc {α:Type} (l:List (Nat×α)):Tr α:=dY .nil l
theorem cX {α:Type}:∀{l:List (Nat×α)} {t:Tr α} {i:Nat} {x:α},(dY t l).get i=F x->(i,x)∈l\/t.get i=F x
 |[],_,_,_,h=> .inr h
 |p :: ps,t,i,x,h=>by
  rcases cX (l:=ps) h with h1|h1
  ·exact .inl (List.mem_cons_of_mem _ h1)
  ·rcases Tr.put_some h1 with⟨h2,h3⟩|⟨_,h2⟩
   ·injection h3 with h3
    obtain⟨p1,p2⟩:=p
    simp only at h2 h3
    subst h2;subst h3
    exact .inl (List.mem_cons_self ..)
   ·exact .inr h2
theorem ofAssoc_get {α:Type} {l:List (Nat×α)} {i:Nat} {x:α} (h:(ofAssoc l).get i=F x):(i,x)∈l:=by
 rcases cX h with h1|h1
 ·exact h1
 ·cases h1
theorem assoc_ok {α:Type} {g:Nat->Option α}:∀{l:List (Nat×α)},l.map (λp=>g p.1)=l.map (λp=>F p.2)->∀{i:Nat} {x:α},(i,x)∈l->g i=F x
 |[],_,_,_,h=>by cases h
 |p :: ps,hl,i,x,h=>by
  simp only[List.map_cons,List.cons.injEq]at hl
  rcases List.mem_cons.1 h with h1|h1
  ·rw[<-h1]at hl;exact hl.1
  ·exact assoc_ok hl.2 h1
theorem kX {D:Array Z->Bool} {E:Env} {me:ME} (hF:CallF D E me) {args:List AV} {st:St} {σ:Tr Nat} {v:AV×St} (h:me.use E.P.globals.size args st σ=F v) {ρ:aj} {w:aa} {xs:List N} (hR:Rel E (GE D E) ρ st w.heap)
  (hxs:VRs ρ args xs):Calls E.P me.f ⟨xs⟩ w λe w'=>∃x ρ',e= .returned x/\VR ρ' v.1 x/\Mv E (GE D E) ρ st w ρ' v.2 w':=by
 unfold ME.use at h
 split at h
 ·split at h
  ·rename_i hf
   injection h with h
   subst h
   exact hF σ ρ st w args xs hR hxs hf
  ·cases h
 ·cases h
theorem ji {D:Array Z->Bool} {E:Env} {f:FuncId}:∀{t:List ME},(∀me∈t,me.f=f/\CallF D E me)->∀{args:List AV} {st:St} {v:AV×St},i9 E.P.globals.size args st t=F v->∀{ρ:aj} {w:aa} {xs:List N},Rel E (GE D E) ρ st w.heap->VRs ρ args xs->
  Calls E.P f ⟨xs⟩ w λe w'=>∃x ρ',e= .returned x/\VR ρ' v.1 x/\Mv E (GE D E) ρ st w ρ' v.2 w'
 |[],_,_,_,_,h,_,_,_,_,_=>by cases h
 |me :: ms,ht,args,st,v,h,ρ,w,xs,hR,hxs=>by
  unfold i9 at h
  split at h
  ·rename_i r hr
   injection h with h
   subst h
   obtain⟨h1,h2⟩:=ht me (List.mem_cons_self ..)
   rw[<-h1]
   exact kX h2 hr hR hxs
  ·exact ji (λx hx=>ht x (List.mem_cons_of_mem _ hx)) h hR hxs
noncomputable def iH (M:Tr (List ME)):List ME->Tr (List ME)
 |[]=>M
 |me :: ms=>iH (M.put bits me.f (F ((match M.get me.f with|some t=>t|none=>[])++[me]))) ms
noncomputable def k8 (l:List ME):Tr (List ME):=iH .nil l
theorem fc:∀{l:List ME} {M:Tr (List ME)} {f:Nat} {t:List ME} {me:ME},(∀f t me,M.get f=F t->me∈t->me.f=f)->(iH M l).get f=F t->me∈t->
  me.f=f/\(me∈l\/∃t',M.get f=F t'/\me∈t')
 |[],_,_,_,_,hM,h,h'=>⟨hM _ _ _ h h', .inr ⟨_,h,h'⟩⟩
 |x :: xs,M,f,t,me,hM,h,h'=>by
  have hM':∀f t me,(M.put bits x.f (F ((match M.get x.f with|some t=>t|none=>[])++[x]))).get f=F t->me∈t->me.f=f:=by
   intro f t me h1 h2
   rcases Tr.put_some h1 with⟨h3,h4⟩|⟨_,h3⟩
   ·injection h4 with h4
    subst h4
    rcases List.mem_append.1 h2 with h5|h5
    ·cases hx:M.get x.f with
     |none=>rw[hx]at h5;cases h5
     |some t0=>rw[hx]at h5;rw[h3];exact hM _ _ _ hx h5
    ·rw[List.mem_singleton.1 h5,h3]
   ·exact hM _ _ _ h3 h2
  obtain⟨h1,h2⟩:=fc (l:=xs) hM' h h'
  refine⟨h1,?_⟩
  rcases h2 with h2|⟨t',h2,h3⟩
  ·exact .inl (List.mem_cons_of_mem _ h2)
  ·rcases Tr.put_some h2 with⟨h4,h5⟩|⟨_,h4⟩
   ·injection h5 with h5
    subst h5
    rcases List.mem_append.1 h3 with h6|h6
    ·cases hx:M.get x.f with
     |none=>rw[hx]at h6;cases h6
     |some t0=>rw[hx]at h6;rw[h4];exact .inr ⟨_,hx,h6⟩
    ·exact .inl (List.mem_singleton.1 h6▸List.mem_cons_self ..)
   ·exact .inr ⟨_,h4,h3⟩
abbrev gE:=List AV->St->Option (AV×St)
def dQ (D:Array Z->Bool) (E:Env) (f:FuncId) (p:gE):Prop:=
 ∀args st v,p args st=F v->∀(ρ:aj) (w:aa) xs,Rel E (GE D E) ρ st w.heap->VRs ρ args xs->
  Calls E.P f ⟨xs⟩ w λe w'=>∃x ρ',e= .returned x/\VR ρ' v.1 x/\Mv E (GE D E) ρ st w ρ' v.2 w'
theorem dQ.env {E E':Env} (hP:E.P=E'.P) (hty:E.ty=E'.ty) (hgh:E.gh=E'.gh) {D:Array Z->Bool} {f:FuncId} {p:gE} (h:dQ D E f p):dQ D E' f p:=by
 intro args st v hv ρ w xs hR hxs
 rw[<-hP]
 exact(h args st v hv ρ w xs (hR.env hP.symm hty.symm hgh.symm) hxs).mono λe w' ⟨x,ρ',h1,h2,h3⟩=>⟨x,ρ',h1,h2,h3.env hP hty hgh⟩
noncomputable def Env.plugs (E:Env) (C:List (Nat×gE)) (l:List ME):Env:=
 {E with plug:=λf=>match (ofAssoc C).get f with
   |some p=>F p
   |none=>match (k8 l).get f with
    |some t=>F (λargs s=>i9 E.P.globals.size args s t)
    |none=>H}
def jr (D:Array Z->Bool) (E:Env):List ME->Prop
 |[]=>True
 |me :: ms=>CallF D E me/\jr D E ms
def jt (D:Array Z->Bool) (E:Env):List (Nat×gE)->Prop
 |[]=>True
 |p :: ps=>dQ D E p.1 p.2/\jt D E ps
theorem jr.mem {D:Array Z->Bool} {E:Env}:∀{l:List ME} {me:ME},jr D E l->me∈l->CallF D E me
 |x :: xs,me,h,hm=>by
  rcases List.mem_cons.1 hm with rfl|hm
  ·exact h.1
  ·exact jr.mem h.2 hm
theorem jt.mem {D:Array Z->Bool} {E:Env}:∀{l:List (Nat×gE)} {p:Nat×gE},jt D E l->p∈l->dQ D E p.1 p.2
 |x :: xs,p,h,hm=>by
  rcases List.mem_cons.1 hm with rfl|hm
  ·exact h.1
  ·exact jt.mem h.2 hm
def BodyOK (D:Array Z->Bool) (E:Env):Prop:=∀f fn c,E.fn f=F fn->fn.body=F c->goodC D E.P.globals.size fn.ntmps c=true
theorem seg {E:Env} (hOK:EOK E) (hB:BodyOK planOK E) (hm:E.P.follows .mixedOrders=true) {C:List (Nat×gE)} (hC:jt planOK E C) {l:List ME} (hl:jr planOK E l) {k:Nat} {me:ME}
  (h:me.ok (E.plugs C l) k=true):CallF planOK E me:=by
 have hOK':EOK (E.plugs C l):=⟨hOK.ty,hOK.fn,hOK.name⟩
 have hBOK:BOK planOK (E.plugs C l):=by
  refine⟨hB,?_⟩
  intro f p hp args st v hv ρ w xs hR hxs
  simp only[Env.plugs]at hp
  split at hp
  ·rename_i p' hp'
   injection hp with hp
   subst hp
   exact(jt.mem hC (ofAssoc_get hp')).env (E:=E) (E':=E.plugs C l) rfl rfl rfl args st v hv ρ w xs hR hxs
  ·split at hp
   ·rename_i t ht
    injection hp with hp
    subst hp
    refine ji (D:=planOK) (E:=E.plugs C l) (f:=f) (t:=t) ?_ hv hR hxs
    intro me' hme
    obtain⟨h1,h2⟩:=fc (M:= .nil) (λ_ _ _ h=>by cases h) ht hme
    refine⟨h1,?_⟩
    rcases h2 with h2|⟨t',h2,_⟩
    ·exact CallF.env (E:=E) (E':=E.plugs C l) rfl rfl rfl (jr.mem hl h2)
    ·cases h2
   ·cases hp
 exact CallF.env (E:=E.plugs C l) (E':=E) rfl rfl rfl (gu (kl hOK' hBOK hm k) h)
end
section
open Go Go.RowKit
theorem jY {E:Env} {G:aD} {ρ:aj} {st:St} {w w':aa} (hR:Rel E G ρ st w.heap) (hb:Below w.heap.size w w'):Mv E G ρ st w ρ st w':=by
 refine⟨⟨?_,hR.inj,hR.fresh,λi b e h=>Nat.lt_of_lt_of_le (hR.below i b e h) hb.size,hR.glob⟩,⟨Le.refl ρ,λ_ _ h=>h,λ_ _ _=>rfl,Nat.le_refl _,hb.size,λb h _=>hb.block b h,λi b e hl hr=> .inr ⟨i,e,hl,hr⟩⟩,⟨hb.os,hb.tape,hb.output⟩,rfl⟩
 intro i o b e h1 h2
 obtain⟨ob,h3,h4⟩:=hR.obj i o b e h1 h2
 exact⟨ob,by rw[hb.block b (hR.below i b e h2)];exact h3,h4⟩
noncomputable def f3:List N->Option (List ByteArray)
 |[]=>F []
 |v :: vs=>match v with
  | .string s=>match f3 vs with
   |some l=>F (s :: l)
   |none=>H
  |_=>H
theorem eJ:∀{vs:List N} {l:List ByteArray},f3 vs=F l->vs=l.map .string
 |[],l,h=>by cases h;rfl
 |v :: vs,l,h=>by
  unfold f3 at h
  split at h
  ·split at h
   ·rename_i s l' hl
    injection h with h
    subst h
    rw[eJ hl];rfl
   ·cases h
  ·cases h
noncomputable def kP (bs:List ByteArray) (sep:ByteArray):List UInt8:=Lib.join (bs.map (·.data.toList)) sep.data.toList
noncomputable def kV:gE:=λargs s=>
 match args with
 |[x,y]=>match x,y with
  | .sl i o l c _, .val v=>match v with
   | .string sep=>match aA s i o l with
    |some cs=>match AV.toVals cs with
     |some vs=>match f3 vs with
      |some bs=>if bs.length=l/\l<=c/\l<=140737488355328/\(kP bs sep).length<=140737488355328 then F (.val (.string ⟨(kP bs sep).toArray⟩),s)else H
      |none=>H
     |none=>H
    |none=>H
   |_=>H
  |_,_=>H
 |_=>H
theorem join_plug {D:Array Z->Bool} {E:Env} {f:FuncId}
  (hc:∀(bk o c:Nat) (xs:List ByteArray) (sep:ByteArray) (w:aa),(∀(j:Nat) x,xs[j]?=F x->w.cell? ⟨bk,o+j,H⟩=F (.string x))->bk<w.heap.size->xs.length<=140737488355328->xs.length<=c->
   (Lib.join (xs.map (·.data.toList)) sep.data.toList).length<=140737488355328->
   Calls E.P f #[.slice (F ⟨bk,o,H⟩) xs.length c, .string sep] w λe w'=>e= .returned (.string ⟨(Lib.join (xs.map (·.data.toList)) sep.data.toList).toArray⟩)/\Below w.heap.size w w'):dQ D E f kV:=by
 intro args st v hv ρ w xs hR hxs
 unfold kV at hv
 split at hv
 ·rename_i x y
  split at hv
  ·rename_i i o l c xx v'
   split at hv
   ·rename_i sep
    split at hv
    ·rename_i cs hcs
     split at hv
     ·rename_i vs hvs
      split at hv
      ·rename_i bs hbs
       split at hv
       ·rename_i hk
        injection hv with hv
        subst hv
        obtain⟨k1,k2,k3,k4⟩:=hk
        cases hxs with
        |cons h1 h2=>
         cases h2 with
         |cons h3 h4=>
          cases h4
          cases h3
          cases h1 with
          |sl hr=>
           rename_i b e
           have hcell:∀(j:Nat) x,bs[j]?=F x->w.cell? ⟨b,o+j,H⟩=F (.string x):=by
            unfold aA at hcs
            split at hcs
            ·rename_i all el xf hg
             obtain⟨ob,g1,g2⟩:=hR.obj _ _ _ _ hg hr
             cases g2 with
             |cells vs0 rest fr g3 g4 g5 g6=>
              dsimp only at hcs
              split at hcs
              ·rename_i hl
               injection hcs with hcs
               have g7:=(g3.drop o).take l
               rw[hcs]at g7
               have g8:=g7.toVals hvs
               have g9:=eJ hbs
               intro j x hj
               rw[dJ w b _ g1]
               have h10:((vs0.drop o).take l)[j]?=F (.string x):=by rw[g8,g9];simp[hj]
               rw[List.getElem?_take]at h10
               split at h10
               ·rw[List.getElem?_drop]at h10
                rw[List.getElem?_append_left (by
                 rcases Nat.lt_or_ge (o+j) vs0.length with h|h
                 ·exact h
                 ·rw[List.getElem?_eq_none h]at h10;cases h10)]
                exact h10
               ·cases h10
              ·cases hcs
            ·cases hcs
           have hcall:=hc b o (if xx then c+e else c) bs sep w hcell (hR.below _ _ _ hr) (by omega) (by split<;>omega) k4
           rw[k1]at hcall
           exact hcall.mono λe' w' ⟨h5,h6⟩=>⟨_,ρ,h5, .val _,jY hR h6⟩
       ·cases hv
      ·cases hv
     ·cases hv
    ·cases hv
   ·cases hv
  ·cases hv
 ·cases hv
end
section
open Go Go.RowKit
def Tabs (P:Program) (tabs:List (Nat×List AV)) (w:aa):Prop:=
 P.globals.size<=w.heap.size/\∀p∈tabs,p.1<P.globals.size/\∃vs el fr,w.heap[p.1]?=F (.cells ⟨vs⟩ el fr)/\∀ρ,VRs ρ p.2 vs
theorem Tabs.below {P:Program} {tabs:List (Nat×List AV)} {w w':aa} (h:Tabs P tabs w) (hb:Below w.heap.size w w'):Tabs P tabs w':=by
 refine⟨Nat.le_trans h.1 hb.size,λp hp=>?_⟩
 obtain⟨h1,vs,el,fr,h2,h3⟩:=h.2 p hp
 exact⟨h1,vs,el,fr,by rw[hb.block p.1 (by have:=h.1;omega)];exact h2,h3⟩
noncomputable def ghOf (w:aa):Nat->Obj:=λk=>match w.heap[k]? with|some o=>o|none=> .cells #[] 0 (0,0)
noncomputable def jo (n:Nat) (tabs:List (Nat×List AV)):St:=⟨cC .nil (tabs.map λp=>(p.1, .ro p.1 p.2)),n,H⟩
def d6 (n:Nat):aj:=λi=>if i<n then F (i,0)else H
theorem hN {D:Array Z->Bool} {E:Env} {w:aa} (hgh:E.gh=ghOf w) {tabs:List (Nat×List AV)} (h:Tabs E.P tabs w):Rel E (GE D E) (d6 E.P.globals.size) (jo E.P.globals.size tabs) w.heap:=by
 have hg:∀i o,(jo E.P.globals.size tabs).h.get i=F o->∃p∈tabs,i=p.1/\o= .ro p.1 p.2:=by
  intro i o hi
  rcases ck (hi:(cC .nil _).get i=F o)with h1|h1
  ·obtain⟨p,hp,he⟩:=List.mem_map.1 h1
   injection he with e1 e2
   exact⟨p,hp,e1.symm,e2.symm⟩
  ·cases h1
 have hr:∀i b e,d6 E.P.globals.size i=F (b,e)->i<E.P.globals.size/\b=i/\e=0:=by
  intro i b e hi
  unfold d6 at hi
  split at hi
  ·injection hi with hi
   injection hi with h1 h2
   exact⟨‹_›,h1.symm,h2.symm⟩
  ·cases hi
 refine⟨?_,?_,?_,?_,?_⟩
 ·intro i o b e hi hb
  obtain⟨p,hp,rfl,rfl⟩:=hg i o hi
  obtain⟨_,rfl,rfl⟩:=hr _ _ _ hb
  obtain⟨_,vs,el,fr,h2,h3⟩:=h.2 p hp
  exact⟨_,h2, .ro vs el fr (h3 _) (by rw[hgh];unfold ghOf;rw[h2])⟩
 ·intro i j b e e' _ _ h1 h2
  rw[<-(hr _ _ _ h1).2.1,<-(hr _ _ _ h2).2.1]
 ·intro i hi
  have hi':E.P.globals.size<=i:=hi
  refine⟨?_,?_⟩
  ·unfold d6
   rw[if_neg (by omega)]
  ·cases hx:(jo E.P.globals.size tabs).h.get i with
   |none=>rfl
   |some o=>
    obtain⟨p,hp,rfl,_⟩:=hg i o hx
    have:=(h.2 p hp).1
    omega
 ·intro i b e hi
  obtain⟨h1,rfl,_⟩:=hr _ _ _ hi
  have:=h.1
  omega
 ·intro g hg
  unfold d6
  rw[if_pos hg]
theorem run_closed {D:Array Z->Bool} {E:Env} {w:aa} (hgh:E.gh=ghOf w) {tabs:List (Nat×List AV)} (h:Tabs E.P tabs w) {me:ME} (hF:CallF D E me) {f:FuncId} (hf:me.f=f) {v:N} (hv:me.v=lz v) (hcell:(lz v).toVal=F v) (hpost:me.post=[])
  (hfit:me.fits E.P.globals.size [] (jo E.P.globals.size tabs) .nil=true):Calls E.P f #[] w λe w'=>e= .returned v/\Below w.heap.size w w':=by
 subst hf
 have hR:=hN (D:=D) hgh h
 refine(hF .nil _ _ w [] [] hR .nil hfit).mono ?_
 rintro e w' ⟨x,ρ',rfl,hx,hm⟩
 have hren:∀r:Nat->Nat,AV.ren r (lz v)=lz v:=by
  intro r
  cases v<;>try rfl
  rename_i k n
  cases k<;>rfl
 rw[hv,hren]at hx
 refine⟨by rw[hx.toVal hcell],hm.same.os,hm.same.tape,hm.same.output,hm.ext.size,?_⟩
 intro k hk
 by_cases hex:∃p∈tabs,p.1=k
 ·obtain⟨p,hp,rfl⟩:=hex
  by_cases hl:∃o,(jo E.P.globals.size tabs).h.get p.1=F o
  ·obtain⟨o,ho⟩:=hl
   obtain⟨q,hq,hqe,rfl⟩:∃q∈tabs,p.1=q.1/\o= .ro q.1 q.2:=by
    rcases ck (ho:(cC .nil _).get p.1=F o)with h1|h1
    ·obtain⟨q,hq,he⟩:=List.mem_map.1 h1
     injection he with e1 e2
     exact⟨q,hq,e1.symm,e2.symm⟩
    ·cases h1
   have hr:ρ' p.1=F (p.1,0):=hm.ext.mono _ _ (by unfold d6;rw[if_pos (h.2 p hp).1])
   have ho':(me.after (jo E.P.globals.size tabs) .nil).h.get p.1=F (.ro q.1 q.2):=by
    unfold ME.after
    rw[hpost]
    exact ho
   obtain⟨ob,h1,h2⟩:=hm.rel.obj _ _ _ _ ho' hr
   obtain⟨_,vs,el,fr,h3,_⟩:=h.2 q hq
   cases h2 with
   |ro vs' el' fr' _ hg2=>
    rw[h1,<-hg2,hgh,<-hqe]
    unfold ghOf
    rw[hqe,h3]
  ·refine hm.ext.keep _ hk ?_
   intro i e ⟨o,hi⟩ hri
   have:i=p.1:=by
    unfold d6 at hri
    split at hri
    ·injection hri with hri;injection hri
    ·cases hri
   subst this
   exact hl ⟨o,hi⟩
 ·refine hm.ext.keep _ hk ?_
  intro i e ⟨o,hi⟩ hri
  have hik:i=k:=by
   unfold d6 at hri
   split at hri
   ·injection hri with hri;injection hri
   ·cases hri
  subst hik
  rcases ck (hi:(cC .nil _).get i=F o)with h1|h1
  ·obtain⟨p,hp,he⟩:=List.mem_map.1 h1
   injection he with e1 _
   exact hex ⟨p,hp,e1⟩
  ·cases h1
end
end Ev
