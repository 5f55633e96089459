/- Parts of the proof. -/
import Derived.Test.YtbpnallaifdcpaaGreatDoorZn
set_option linter.unusedVariables false
set_option linter.unusedSimpArgs false
set_option maxRecDepth 100000
set_option maxHeartbeats 4000000
namespace Go.Proofs.YtbpnallaifdcpaaGreatDoor
open Go.Value renaming int→M
open Go.IntKind renaming i64→U
open Go.Value renaming slice→T,pointer→ax,string→ay,bool→aA,agg→aN
open Go.Lib renaming hid→af
open Option renaming none→ag,some→ai
open Go renaming World→aj,Value→aw,Calls→aC,below_drewN→aM,TypeId→aT
open Go.RowKit renaming Below→ap,intOf→aV,Hid→bj
open Go.Ending renaming returned→ar
open Go.RowKit.Below renaming refl→au
open Go.IntWalk renaming i64_in→aD
open Nat renaming zero_le→aF,le_trans→aO,add_zero→bq
open Go.World renaming block_lt_of_cell?→aG
section
open Tryz
open Go.RowKit Go.Shelf
attribute [local go_sem] Oper.semAt_some
structure ey where
 ns:Nat
 N:Nat->ByteArray
 S:Nat->Nat->Int
 nd:Nat
 Q:Nat->Nat->Int
 nc:Nat
 C:Nat->Nat->Int
 age:Int
 shear:Int
 sv:aw
 qv:aw
 cv:aw
 t:jV
 rv:aw
 av:aw
 dn:Nat
 DX:Nat->Nat->Int
 dv:aw
 nm:ByteArray
 glo:Int
 ghi:Int
 na:Nat
 A:Nat->Nat->Int
 np:Nat
 H:Nat->Nat->Int
 nf:Nat
 FN:Nat->ByteArray
 FR:Nat->Nat->Int
 fa:aw
 fp:aw
 fc:aw
 cx:Int
 cy:Int
 size:Int
 cols:Int
 rows:Int
 nz:Nat
 ZR:Nat->Nat->Int
 zv:aw
 ln:Nat
 LX:Nat->Nat->Int
 lv:aw
 rn:Int
 rd:Int
 kn:Nat
 KN:Nat->ByteArray
 KX:Nat->Nat->Int
 Ks:Nat->Nat
 KA:Nat->Option Addr
 KC:Nat->Nat
 KS:Nat->Nat->Nat->Int
 kv:aw
 c:fO
 tf:Int
 ts:Int
 ta:Int
 tt:Nat
 TN:Nat->ByteArray
 TR:Nat->Nat->Int
 tp:Nat
 TQ:Nat->Nat->Int
 tv:aw
 pv:aw
 en:Nat
 EL:Nat->Nat->Int
 elo:Int
 ehi:Int
 ew:Int
 eb:Int
 ev:aw
 margin:Int
 slack:Int
def ey.craftC (D:ey) (k j:Nat):aw:=match j with
 |0=>ay (D.KN k)
 |1=>M U (D.KX k 0)
 |2=>M U (D.KX k 1)
 |3=>M U (D.KX k 2)
 |4=>M U (D.KX k 3)
 |_=>T (D.KA k) (D.Ks k) (D.KC k)
def ey.cells (D:ey):Array aw:=#[D.sv,D.qv,D.cv,M U D.age,M U D.shear,
 D.rv,D.av,M U D.t.tx,M U D.t.ty,M U D.t.xl,M U D.t.xh,M U D.t.yl,M U D.t.yh,M U D.t.gain,M U D.t.turn,M U D.t.freeze,
 D.dv,ay D.nm,M U D.glo,M U D.ghi,D.fa,D.fp,D.fc,
 M U D.cx,M U D.cy,M U D.size,M U D.cols,M U D.rows,D.zv,
 D.lv,M U D.rn,M U D.rd,D.kv,
 D.c.pd.vz,D.c.pd.vd,D.c.pd.vp,D.c.pd.vk,D.c.pd.vq,M U D.c.pd.panel,M U D.c.pd.wait,D.c.vs,D.c.vb,D.c.vt,D.c.vp,M U D.c.wlo,M U D.c.whi,
 M U D.tf,M U D.ts,M U D.ta,D.tv,D.pv,
 D.ev,M U D.elo,M U D.ehi,M U D.ew,M U D.eb,M U D.margin,M U D.slack]
structure rM (w:aj) (D:ey):Prop where
 w1:aU w D.sv D.ns 7 (em D.N D.S)
 w2:aU w D.qv D.nd 5 (bw D.Q)
 w3:aU w D.cv D.nc 1 (bw D.C)
 wn:∀i,i<D.ns->(D.N i).size<=9223372036854775806
 a1:aU w D.rv D.t.rn 4 (bw D.t.R)
 a2:aU w D.av D.t.sn 5 (bw D.t.S)
 d:aU w D.dv D.dn 3 (bw D.DX)
 fn:D.nm.size<=9223372036854775806
 f1:aU w D.fa D.na 2 (bw D.A)
 f2:aU w D.fp D.np 13 (bw D.H)
 f3:aU w D.fc D.nf 13 (em D.FN D.FR)
 ff:∀i,i<D.nf->(D.FN i).size<=9223372036854775806
 z:aU w D.zv D.nz 1 (bw D.ZR)
 l:aU w D.lv D.ln 2 (bw D.LX)
 k:aU w D.kv D.kn 6 D.craftC
 ks:∀i,i<D.kn->aU w (T (D.KA i) (D.Ks i) (D.KC i)) (D.Ks i) 5 (bw (D.KS i))
 kk:∀i,i<D.kn->(D.KN i).size<=9223372036854775806
 c:rf w D.c
 t1:aU w D.tv D.tt 6 (em D.TN D.TR)
 t2:aU w D.pv D.tp 5 (bw D.TQ)
 tt:∀i,i<D.tt->(D.TN i).size<=9223372036854775806
 e:aU w D.ev D.en 4 (bw D.EL)
theorem rM.below {w w':aj} {D:ey} (h:rM w D) (hb:ap w.heap.size w w'):rM w' D:=
 ⟨h.w1.below hb,h.w2.below hb,h.w3.below hb,h.wn,h.a1.below hb,h.a2.below hb,h.d.below hb,h.fn,h.f1.below hb,h.f2.below hb,h.f3.below hb,h.ff,h.z.below hb,h.l.below hb,h.k.below hb,λi hi=>(h.ks i hi).below hb,h.kk,h.c.below hb,h.t1.below hb,h.t2.below hb,h.tt,h.e.below hb⟩
theorem bu {W:aj} {b:Nat} {t:aT} {cs ds:Array aw} (h:am W b t cs) (e:cs=ds) (i:Nat) {v:aw} (hv:ds[i]?=ai v:=by rfl):W.cell? ⟨b,i,ag⟩=ai v:=by
 subst e
 rw[h.cell i,hv]
def ey.wE (D:ey):=ue D.ns D.N D.S D.nd D.Q D.nc D.C D.age D.shear
def ey.aE (D:ey):=ot D.t
def ir (D:ey) (i:Nat):Option Int:=if iw (D.DX i 0) (D.DX i 1) (D.DX i 2)=0 then ag else ai (iw (D.DX i 0) (D.DX i 1) (D.DX i 2))
def ey.fE (D:ey):=sW D.nm D.glo D.ghi D.na D.A D.np D.H D.nf D.FN D.FR
def ey.zE (D:ey):=uA D.cx D.cy D.size D.cols D.rows D.nz D.ZR
def fM (D:ey) (i:Nat):Option Int:=if aI (D.LX i 0) 0 10000||aI (D.LX i 1) 1 1000000 then ai 2 else ag
def ey.kE (D:ey) (i:Nat):Int×Int:=oo (D.KN i) (D.KX i 0) (D.KX i 1) (D.KX i 2) (D.KX i 3) (D.Ks i) (D.KS i)
def ey.kM (D:ey) (i:Nat):Int:=if(D.kE i).2=0/\bI (λk=>ej (D.KN k) (D.KN i)) i=true then 5 else(D.kE i).2
def fH (D:ey) (i:Nat):Option Int:=if D.kM i=0 then ag else ai (D.kM i)
def ey.tE (D:ey):=uR D.tf D.ts D.ta D.tt D.TN D.TR D.tp D.TQ
def ey.eE (D:ey):=rk D.en D.EL D.elo D.ehi D.ew D.eb
def pN (D:ey):Int×Int×Int:=if D.eE.2.2≠0 then(9,0,D.eE.2.2)else if aI D.margin 0 2000000000||aI D.slack 0 100000 then(10,0,7)else(0,0,0)
def ob (D:ey):Int×Int×Int:=if(qj D.c).2.2≠0 then(7,0,(qj D.c).2.2)else if D.tE.2.2≠0 then(8,0,D.tE.2.2)else if 0<D.tp then(8,0,2)else pN D
def rt (D:ey):Int×Int×Int:=match aB (fH D) D.kn 0 with
 |some (i,e)=>(6,((i:Nat):Int),e)
 |none=>ob D
def qw (D:ey):Int×Int×Int:=if nK D.rn D.rd≠0 then(5,0,nK D.rn D.rd)else if 12<D.kn then(6,0,3)else rt D
def rB (D:ey):Int×Int×Int:=match aB (fM D) D.ln 0 with
 |some (i,e)=>(5,((i:Nat):Int),e)
 |none=>qw D
def lf (D:ey):Int×Int×Int:=if D.fE.2.2≠0 then(4,0,D.fE.2.2)else if D.zE.2.2≠0 then(5,0,D.zE.2.2)else if D.ln≠D.nf+1 then(5,0,2)else rB D
def pL (D:ey):Int×Int×Int:=match aB (ir D) D.dn 0 with
 |some (i,e)=>(3,((i:Nat):Int),e)
 |none=>lf D
def tJ (D:ey):Int×Int×Int:=if D.wE.2.2≠0 then(1,0,D.wE.2.2)else if D.aE.2.2≠0 then(2,0,D.aE.2.2)else if D.dn≠D.t.sn then(3,0,2)else pL D
theorem lV (f:FuncId) (eg:∀(args:Array aw) (w:aj),(callFunc f args).run prog w= .ok (.enter f args) w) (cs:Array aw) (n:Nat) (F:Nat->Nat->aw) (p:Nat->Bool) (v:aw) (w:aj) (hRr:aU w v n 6 F) (hn:n<=1125899906842624) (hF:∀(i:Nat) (W:aj),i<n->ap w.heap.size w W->aC prog f (#[aN #[F i 0,F i 1,F i 2,F i 3,F i 4,F i 5]]++cs) W λe w'=>e=ar (aA (p i))/\ap W.heap.size W w'):
  aC prog 88 #[v, .func (.func f) #[] cs] w λe w'=>e=ar (M U (cH p n 0))/\ap w.heap.size w w':=by
 obtain⟨ra,rc,rfl,hrc,hx⟩:=id hRr
 have HRr:=af hRr
 have HF:=af hF
 clear hRr hF
 go_enter func88,ntmps88
 go_wp2_with fail
 go_loopw [8] (λi wr=>∃j:Nat,j<=n/\i=M U j/\ap w.heap.size w wr/\bj (cH p n 0=cH p (n - j) j)) (λi _=>n - (aV i).toNat)
 case atStart=>exact⟨0,aF _,rfl,au _ _,rfl⟩
 case round=>
  obtain⟨j,hj,rfl,hB,HI⟩:=hrel
  by_cases hlt:j<n
  rotate_left
  ·exact mv
  have HC:=af (λW (h:ap w.heap.size w W)=>HF.out j W hlt h)
  have HS:=af (dj p hlt)
  obtain⟨bb,bo,rfl,bl,hc⟩:=(HRr.out.below hB).elem hlt
  have e0:wr.cell? ⟨bb,bo+j*6,ag⟩=ai (F j 0):=hc 0 om
  have e1:wr.cell? ⟨bb,bo+j*6+1,ag⟩=ai (F j 1):=hc 1 om
  have e2:wr.cell? ⟨bb,bo+j*6+2,ag⟩=ai (F j 2):=hc 2 om
  have e3:wr.cell? ⟨bb,bo+j*6+3,ag⟩=ai (F j 3):=hc 3 om
  have e4:wr.cell? ⟨bb,bo+j*6+4,ag⟩=ai (F j 4):=hc 4 om
  have e5:wr.cell? ⟨bb,bo+j*6+5,ag⟩=ai (F j 5):=hc 5 om
  exact T20
theorem jn (f:FuncId) (eg:∀(args:Array aw) (w:aj),(callFunc f args).run prog w= .ok (.enter f args) w) (cs:Array aw) (n:Nat) (F:Nat->Nat->aw) (p:Nat->Bool) (v:aw) (w:aj) (hRr:aU w v n 6 F) (hn:n<=1125899906842624) (hF:∀(i:Nat) (W:aj),i<n->ap w.heap.size w W->aC prog f (#[aN #[F i 0,F i 1,F i 2,F i 3,F i 4,F i 5]]++cs) W λe w'=>e=ar (aA (p i))/\ap W.heap.size W w'):
  aC prog 28 #[v, .func (.func f) #[] cs] w λe w'=>e=ar (aA (bI p n))/\ap w.heap.size w w':=by
 have HI:=af (lV f eg cs n F p v w hRr hn hF)
 have HK:=af (dp p n)
 obtain⟨ra,rc,rfl,hrc,hx⟩:=id hRr
 clear hRr hF hx
 go_enter func28,ntmps28
 exact vn
theorem lD (na nb:ByteArray) (x1 x2 x3 x4:Int) (xa:Option Addr) (xn xc cb:Nat) (w:aj) (h1:w.cell? ⟨cb,0,ag⟩=ai (ay nb)):
  aC prog 29 #[aN #[ay na,M U x1,M U x2,M U x3,M U x4,T xa xn xc],ax (ai ⟨cb,0,ag⟩)] w λe w'=>e=ar (aA (ej na nb))/\ap w.heap.size w w':=by
 have hl1:=aG w _ h1
 obtain⟨W0,hW0⟩:∃W0,w.alloc (.cells #[ay na,M U x1,M U x2,M U x3,M U x4,T xa xn xc] 108)=W0:=⟨_,rfl⟩
 have hC:am W0 w.heap.size 108 #[ay na,M U x1,M U x2,M U x3,M U x4,T xa xn xc]:=by rw[<-hW0];exact aK _ _
 have hB:ap w.heap.size w W0:=by rw[<-hW0];exact aP (au _ _) _
 have h2:W0.cell? ⟨cb,0,ag⟩=ai (ay nb):=((hB.cell hl1).trans h1)
 have HW0:=af hW0
 clear hW0
 go_enter func29,ntmps29
 go_upto_region 1 with fail
 rw[HW0.out]
 obtain⟨xb,hxe⟩:=bY w.heap.size
 rw[<-hxe]at hC⊢
 clear hxe HW0
 have y0:=hC.cell 0
 go_wp2_with fail
 go_ret
 exact⟨bt rfl,hB⟩
end
section
open Tryz
open Go.RowKit Go.Shelf
attribute [local go_sem] Oper.semAt_some
theorem rM.lit {w:aj} {D:ey} (h:rM w D):∃(a:Nat->Option Addr) (c:Nat->Nat),bj (D.cells=#[.slice (a 0) D.ns (c 0), .slice (a 1) D.nd (c 1), .slice (a 2) D.nc (c 2), .int .i64 D.age, .int .i64 D.shear, .slice (a 3) D.t.rn (c 3), .slice (a 4) D.t.sn (c 4), .int .i64 D.t.tx, .int .i64 D.t.ty, .int .i64 D.t.xl, .int .i64 D.t.xh, .int .i64 D.t.yl, .int .i64 D.t.yh, .int .i64 D.t.gain, .int .i64 D.t.turn, .int .i64 D.t.freeze, .slice (a 5) D.dn (c 5), .string D.nm, .int .i64 D.glo, .int .i64 D.ghi, .slice (a 6) D.na (c 6), .slice (a 7) D.np (c 7), .slice (a 8) D.nf (c 8), .int .i64 D.cx, .int .i64 D.cy, .int .i64 D.size, .int .i64 D.cols, .int .i64 D.rows, .slice (a 9) D.nz (c 9), .slice (a 10) D.ln (c 10), .int .i64 D.rn, .int .i64 D.rd, .slice (a 11) D.kn (c 11), .slice (a 15) D.c.pd.zn (c 15), .slice (a 16) D.c.pd.dn (c 16), .slice (a 17) D.c.pd.pn (c 17), .slice (a 18) D.c.pd.kn (c 18), .slice (a 19) D.c.pd.qn (c 19), .int .i64 D.c.pd.panel, .int .i64 D.c.pd.wait, .slice (a 20) D.c.sn (c 20), .slice (a 21) D.c.bn (c 21), .slice (a 22) D.c.tn (c 22), .slice (a 23) D.c.pn (c 23), .int .i64 D.c.wlo, .int .i64 D.c.whi, .int .i64 D.tf, .int .i64 D.ts, .int .i64 D.ta, .slice (a 12) D.tt (c 12), .slice (a 13) D.tp (c 13), .slice (a 14) D.en (c 14), .int .i64 D.elo, .int .i64 D.ehi, .int .i64 D.ew, .int .i64 D.eb, .int .i64 D.margin, .int .i64 D.slack])/\D.sv= .slice (a 0) D.ns (c 0)/\D.qv= .slice (a 1) D.nd (c 1)/\D.cv= .slice (a 2) D.nc (c 2)/\D.rv= .slice (a 3) D.t.rn (c 3)/\D.av= .slice (a 4) D.t.sn (c 4)/\D.dv= .slice (a 5) D.dn (c 5)/\D.fa= .slice (a 6) D.na (c 6)/\D.fp= .slice (a 7) D.np (c 7)/\D.fc= .slice (a 8) D.nf (c 8)/\D.zv= .slice (a 9) D.nz (c 9)/\D.lv= .slice (a 10) D.ln (c 10)/\D.kv= .slice (a 11) D.kn (c 11)/\D.tv= .slice (a 12) D.tt (c 12)/\D.pv= .slice (a 13) D.tp (c 13)/\D.ev= .slice (a 14) D.en (c 14)/\D.c.pd.vz= .slice (a 15) D.c.pd.zn (c 15)/\D.c.pd.vd= .slice (a 16) D.c.pd.dn (c 16)/\D.c.pd.vp= .slice (a 17) D.c.pd.pn (c 17)/\D.c.pd.vk= .slice (a 18) D.c.pd.kn (c 18)/\D.c.pd.vq= .slice (a 19) D.c.pd.qn (c 19)/\D.c.vs= .slice (a 20) D.c.sn (c 20)/\D.c.vb= .slice (a 21) D.c.bn (c 21)/\D.c.vt= .slice (a 22) D.c.tn (c 22)/\D.c.vp= .slice (a 23) D.c.pn (c 23):=by
 obtain⟨a0,c0,h0,-⟩:=h.w1.form
 obtain⟨a1,c1,h1,-⟩:=h.w2.form
 obtain⟨a2,c2,h2,-⟩:=h.w3.form
 obtain⟨a3,c3,h3,-⟩:=h.a1.form
 obtain⟨a4,c4,h4,-⟩:=h.a2.form
 obtain⟨a5,c5,h5,-⟩:=h.d.form
 obtain⟨a6,c6,h6,-⟩:=h.f1.form
 obtain⟨a7,c7,h7,-⟩:=h.f2.form
 obtain⟨a8,c8,h8,-⟩:=h.f3.form
 obtain⟨a9,c9,h9,-⟩:=h.z.form
 obtain⟨a10,c10,h10,-⟩:=h.l.form
 obtain⟨a11,c11,h11,-⟩:=h.k.form
 obtain⟨a12,c12,h12,-⟩:=h.t1.form
 obtain⟨a13,c13,h13,-⟩:=h.t2.form
 obtain⟨a14,c14,h14,-⟩:=h.e.form
 obtain⟨a15,c15,h15,-⟩:=h.c.p.z.form
 obtain⟨a16,c16,h16,-⟩:=h.c.p.d.form
 obtain⟨a17,c17,h17,-⟩:=h.c.p.p.form
 obtain⟨a18,c18,h18,-⟩:=h.c.p.k.form
 obtain⟨a19,c19,h19,-⟩:=h.c.p.q.form
 obtain⟨a20,c20,h20,-⟩:=h.c.s.form
 obtain⟨a21,c21,h21,-⟩:=h.c.b.form
 obtain⟨a22,c22,h22,-⟩:=h.c.t.form
 obtain⟨a23,c23,h23,-⟩:=h.c.q.form
 refine⟨λi=>[a0,a1,a2,a3,a4,a5,a6,a7,a8,a9,a10,a11,a12,a13,a14,a15,a16,a17,a18,a19,a20,a21,a22,a23].getD i ag,λi=>[c0,c1,c2,c3,c4,c5,c6,c7,c8,c9,c10,c11,c12,c13,c14,c15,c16,c17,c18,c19,c20,c21,c22,c23].getD i 0,?_,h0,h1,h2,h3,h4,h5,h6,h7,h8,h9,h10,h11,h12,h13,h14,h15,h16,h17,h18,h19,h20,h21,h22,h23⟩
 unfold bj ey.cells
 rw[h0,h1,h2,h3,h4,h5,h6,h7,h8,h9,h10,h11,h12,h13,h14,h15,h16,h17,h18,h19,h20,h21,h22,h23]
 rfl
theorem rR {A:Nat->Nat->Int} {i:Nat} {e:Int} (h:el A i=ai e):e≠0:=by
 unfold el at h
 repeat' split at h
 all_goals(simp at h;try omega)
theorem sP {A:Nat->Nat->Int} {i:Nat} {e:Int} (h:jl A i=ai e):e≠0:=by
 unfold jl at h
 repeat' split at h
 all_goals(simp at h;try omega)
theorem qM {nm:ByteArray} {glo ghi:Int} {na:Nat} {A:Nat->Nat->Int} {np:Nat} {H:Nat->Nat->Int} {nc:Nat} {N:Nat->ByteArray} {R:Nat->Nat->Int} (h:(sW nm glo ghi na A np H nc N R).2.2=0):nc<=6:=by
 unfold sW at h
 split at h
 ·simp at h
 split at h
 ·simp at h
 split at h
 ·simp at h
 cases hf:aB (el A) na 0 with
 |some p=>
  obtain⟨i,e⟩:=p
  rw[hf]at h
  exact absurd h (rR (cJ _ _ hf).2.2)
 |none=>
  rw[hf]at h
  simp only at h
  split at h
  ·simp at h
  cases hg:aB (jl H) np 0 with
  |some p=>
   obtain⟨i,e⟩:=p
   rw[hg]at h
   exact absurd h (sP (cJ _ _ hg).2.2)
  |none=>
   rw[hg]at h
   simp only at h
   split at h
   ·simp at h
   omega
theorem aU.le {w:aj} {a:Option Addr} {n m c k:Nat} {F:Nat->Nat->aw} (h:aU w (T a n c) m k F):n<=c:=by
 obtain⟨a2,c2,he,hc,-⟩:=h
 simp only[aw.slice.injEq]at he
 omega
theorem q8 {t:jV} (h:(ot t).2.2=0):t.sn<=40:=by
 unfold ot at h
 split at h
 ·simp at h
 rename_i h4
 unfold aI at h4
 simp at h4
 omega
end
section
open Tryz
open Go.RowKit Go.Shelf
attribute [local go_sem] Oper.semAt_some
theorem mR (D:ey) (w:aj) (hV:rM w D):
  aC prog 7 #[aN D.cells] w (E3 w (tJ D)):=by
 obtain⟨a,c,HDC,h0,h1,h2,h3,h4,h5,h6,h7,h8,h9,h10,h11,h12,h13,h14,h15,h16,h17,h18,h19,h20,h21,h22,h23⟩:=hV.lit
 have HW:=af (show∀W,ap w.heap.size w W->aC prog 20 #[aN #[T (a 0) D.ns (c 0),T (a 1) D.nd (c 1),T (a 2) D.nc (c 2),M U D.age,M U D.shear]] W (E3 W D.wE)from λW h=>by have g:=oD D.ns D.N D.S D.nd D.Q D.nc D.C D.age D.shear D.sv D.qv D.cv W (hV.w1.below h) (hV.w2.below h) (hV.w3.below h) hV.wn;rw[h0,h1,h2]at g;exact g)
 unfold E3 at HW
 obtain⟨⟨w1,w2,w3⟩,hwr⟩:∃p,D.wE=p:=⟨_,rfl⟩
 rw[hwr]at HW
 simp only at HW
 have HA:=af (show∀W,ap w.heap.size w W->aC prog 21 #[aN #[T (a 3) D.t.rn (c 3),T (a 4) D.t.sn (c 4),M U D.t.tx,M U D.t.ty,M U D.t.xl,M U D.t.xh,M U D.t.yl,M U D.t.yh,M U D.t.gain,M U D.t.turn,M U D.t.freeze]] W (E3 W D.aE)from λW h=>by have g:=oE D.t D.rv D.av W (hV.a1.below h) (hV.a2.below h);rw[h3,h4]at g;exact g)
 unfold E3 at HA
 obtain⟨⟨a1,a2,a3⟩,har⟩:∃p,D.aE=p:=⟨_,rfl⟩
 rw[har]at HA
 simp only at HA
 have HF:=af (show∀W,ap w.heap.size w W->aC prog 23 #[aN #[ay D.nm,M U D.glo,M U D.ghi,T (a 6) D.na (c 6),T (a 7) D.np (c 7),T (a 8) D.nf (c 8)]] W (E3 W D.fE)from λW h=>by have g:=nA D.nm D.glo D.ghi D.na D.A D.np D.H D.nf D.FN D.FR D.fa D.fp D.fc W hV.fn (hV.f1.below h) (hV.f2.below h) (hV.f3.below h) hV.ff;rw[h6,h7,h8]at g;exact g)
 unfold E3 at HF
 obtain⟨⟨f1,f2,f3⟩,hfr⟩:∃p,D.fE=p:=⟨_,rfl⟩
 rw[hfr]at HF
 simp only at HF
 have HZ:=af (show∀W,ap w.heap.size w W->aC prog 24 #[aN #[M U D.cx,M U D.cy,M U D.size,M U D.cols,M U D.rows,T (a 9) D.nz (c 9)]] W (E3 W D.zE)from λW h=>by have g:=ox D.cx D.cy D.size D.cols D.rows D.nz D.ZR D.zv W (hV.z.below h);rw[h9]at g;exact g)
 unfold E3 at HZ
 obtain⟨⟨z1,z2,z3⟩,hzr⟩:∃p,D.zE=p:=⟨_,rfl⟩
 rw[hzr]at HZ
 simp only at HZ
 have HT:=af (show∀W,ap w.heap.size w W->aC prog 30 #[aN #[T (a 15) D.c.pd.zn (c 15),T (a 16) D.c.pd.dn (c 16),T (a 17) D.c.pd.pn (c 17),T (a 18) D.c.pd.kn (c 18),T (a 19) D.c.pd.qn (c 19),M U D.c.pd.panel,M U D.c.pd.wait,T (a 20) D.c.sn (c 20),T (a 21) D.c.bn (c 21),T (a 22) D.c.tn (c 22),T (a 23) D.c.pn (c 23),M U D.c.wlo,M U D.c.whi]] W (E3 W (qj D.c))from λW h=>by have g:=mC D.c W (hV.c.below h);unfold fO.cells at g;rw[h15,h16,h17,h18,h19,h20,h21,h22,h23]at g;exact g)
 unfold E3 at HT
 obtain⟨⟨c1,c2,c3⟩,hcr⟩:∃p,(qj D.c)=p:=⟨_,rfl⟩
 rw[hcr]at HT
 simp only at HT
 have HP:=af (show∀W,ap w.heap.size w W->aC prog 31 #[aN #[M U D.tf,M U D.ts,M U D.ta,T (a 12) D.tt (c 12),T (a 13) D.tp (c 13)]] W (E3 W D.tE)from λW h=>by have g:=lX D.tf D.ts D.ta D.tt D.TN D.TR D.tp D.TQ D.tv D.pv W (hV.t1.below h) (hV.t2.below h) hV.tt;rw[h12,h13]at g;exact g)
 unfold E3 at HP
 obtain⟨⟨t1,t2,t3⟩,htr⟩:∃p,D.tE=p:=⟨_,rfl⟩
 rw[htr]at HP
 simp only at HP
 have HE:=af (show∀W,ap w.heap.size w W->aC prog 32 #[aN #[T (a 14) D.en (c 14),M U D.elo,M U D.ehi,M U D.ew,M U D.eb]] W (E3 W D.eE)from λW h=>by have g:=oB D.en D.EL D.elo D.ehi D.ew D.eb D.ev W (hV.e.below h);rw[h14]at g;exact g)
 unfold E3 at HE
 obtain⟨⟨e1,e2,e3⟩,her⟩:∃p,D.eE=p:=⟨_,rfl⟩
 rw[her]at HE
 simp only at HE
 have HR:=af (λW=>mL D.rn D.rd W)
 have HK:=af (λ(i:Nat) (hi:i<D.kn) W (h:ap w.heap.size w W)=>oQ (D.KN i) (D.KX i 0) (D.KX i 1) (D.KX i 2) (D.KX i 3) (D.Ks i) (D.KS i) (T (D.KA i) (D.Ks i) (D.KC i)) W (hV.kk i hi) ((hV.ks i hi).below h))
 unfold E2 at HK
 have hsn:=af (@q8 D.t)
 have hnp:=af (@qM D.nm D.glo D.ghi D.na D.A D.np D.H D.nf D.FN D.FR)
 have HRd:=af (show aU w (T (a 5) D.dn (c 5)) D.dn 3 (bw D.DX)from h5▸hV.d)
 have HRl:=af (show aU w (T (a 10) D.ln (c 10)) D.ln 2 (bw D.LX)from h10▸hV.l)
 have HRk:=af (show aU w (T (a 11) D.kn (c 11)) D.kn 6 D.craftC from h11▸hV.k)
 obtain⟨W0,HW0,hC,hB⟩:=qX w 68 HDC
 rw[HDC.out]
 generalize a 5=da at *
 generalize c 5=dc at *
 generalize a 10=la at *
 generalize c 10=lc at *
 generalize a 11=ka at *
 generalize c 11=kc at *
 obtain⟨r,HS⟩:=dR (tJ D)
 rw[<-HS.out]
 go_enter func7,ntmps7
 go_upto_region 1 with fail
 rw[HW0.out]
 clear HW0
 obtain⟨xb,hxe⟩:=bY w.heap.size
 rw[<-hxe]at hC⊢
 clear hxe
 have x0:=bu hC HDC.out 0
 have x1:=bu hC HDC.out 1
 have x2:=bu hC HDC.out 2
 have x3:=bu hC HDC.out 3
 have x4:=bu hC HDC.out 4
 go_wp2_with fail
 refine aZ (HW.out _ hB) ?_
 intro w1 hb
 obtain⟨hC,hB⟩:=bS hC hB hb
 clear HW
 clear x0 x1 x2 x3 x4
 by_cases hew:w3=0
 rotate_left
 ·exact ww
 subst hew
 have x5:=bu hC HDC.out 5
 have x6:=bu hC HDC.out 6
 have x7:=bu hC HDC.out 7
 have x8:=bu hC HDC.out 8
 have x9:=bu hC HDC.out 9
 have x10:=bu hC HDC.out 10
 have x11:=bu hC HDC.out 11
 have x12:=bu hC HDC.out 12
 have x13:=bu hC HDC.out 13
 have x14:=bu hC HDC.out 14
 have x15:=bu hC HDC.out 15
 go_wp2_with fail
 refine aZ (HA.out _ hB) ?_
 intro w1 hb
 obtain⟨hC,hB⟩:=bS hC hB hb
 clear HA
 clear x5 x6 x7 x8 x9 x10 x11 x12 x13 x14 x15
 by_cases hea:a3=0
 rotate_left
 ·exact wB
 subst hea
 have hsn2:D.t.sn<=40:=hsn.out (by unfold ey.aE at har;rw[har])
 clear hsn
 have x16:=bu hC HDC.out 16
 have x6:=bu hC HDC.out 6
 by_cases hdn:D.dn=D.t.sn
 rotate_left
 ·exact T74
 have hdi:((D.dn:Int) != (D.t.sn:Int))=false:=bne_eq_false_iff_eq.2 om
 have HDN:=af hdn
 have hdb:D.dn<=40:=om
 clear hdn
 go_wp2_with fail
 clear x16 x6
 replace HS:bj (r=pL D):=show _=_ by rw[HS.out];unfold tJ;simp[hwr,har,HDN.out]
 clear hdi hwr har HDN
 have x16:=bu hC HDC.out 16
 go_wp2_with fail
 clear x16
 go_loopw [42] (λt wr=>∃j:Nat,j<=D.dn/\t=M U (j:Int)/\bj (aB (ir D) D.dn 0=aB (ir D) (D.dn - j) j)/\am wr xb 68 D.cells/\ap w.heap.size w wr) (λt _=>D.dn - (aV t).toNat)
 case atStart=>exact⟨0,aF _,rfl,show _=_ from rfl,hC,hB⟩
 case round=>
  clear hC hB
  obtain⟨j,hj,rfl,HJ,hC,hB⟩:=hrel
  by_cases hlt:j<D.dn
  ·have HF:=af (HJ.out.trans (bf (ir D) hlt))
   clear HJ
   have i2:(j:Int)<(D.dn:Int):=om
   have HQ:bj (ir D j=if iw (D.DX j 0) (D.DX j 1) (D.DX j 2)=0 then ag else ai (iw (D.DX j 0) (D.DX j 1) (D.DX j 2))):=show _=_ from rfl
   obtain⟨bb,bo,rfl,bl,hc⟩:=(HRd.out.below hB).elem hlt
   have ee:=r3 hc
   simp only[bw,bq]at ee
   obtain⟨e0,e1,e2⟩:=ee
   clear hc
   generalize D.DX j 0=d0 at *
   generalize D.DX j 1=d1 at *
   generalize D.DX j 2=d2 at *
   go_upto_region 12 with fail
   obtain⟨w8,hW9,hN9,hb⟩:=bW wr 97 #[M U d0,M U d1,M U d2]
   rw[hW9.out]
   clear hW9
   obtain⟨hC,hB⟩:=bS hC hB hb
   generalize wr.heap.size=db at *
   have hD:=hN9
   obtain⟨y0,y1,y2⟩:=dT hD
   clear hN9 e0 e1 e2
   go_wp2_with fail
   refine aZ (sS _ _ _ _) ?_
   intro w9 hb
   obtain⟨hC,hD,hB⟩:=bM hC hD hB hb
   clear y0 y1 y2 hD
   exact T11
  have hjn:j=D.dn:=om
  have hk:=HJ.out
  rw[hjn]at hk
  replace hk:=hk.trans (bh (ir D) D.dn)
  clear HJ
  have hnj:¬(j:Int)<(D.dn:Int):=om
  clear hjn
  have hk2:=hk
  clear hk
  replace HS:bj (r=lf D):=show _=_ by rw[HS.out];unfold pL;rw[hk2]
  clear hk2
  have x17:=bu hC HDC.out 17
  have x18:=bu hC HDC.out 18
  have x19:=bu hC HDC.out 19
  have x20:=bu hC HDC.out 20
  have x21:=bu hC HDC.out 21
  have x22:=bu hC HDC.out 22
  go_wp2_with fail
  refine aZ (HF.out _ hB) ?_
  intro w1 hb
  obtain⟨hC,hB⟩:=bS hC hB hb
  clear HF
  clear x17 x18 x19 x20 x21 x22
  by_cases hef:f3=0
  rotate_left
  ·exact wJ
  subst hef
  have x23:=bu hC HDC.out 23
  have x24:=bu hC HDC.out 24
  have x25:=bu hC HDC.out 25
  have x26:=bu hC HDC.out 26
  have x27:=bu hC HDC.out 27
  have x28:=bu hC HDC.out 28
  go_wp2_with fail
  refine aZ (HZ.out _ hB) ?_
  intro w1 hb
  obtain⟨hC,hB⟩:=bS hC hB hb
  clear HZ
  clear x23 x24 x25 x26 x27 x28
  by_cases hez:z3=0
  rotate_left
  ·exact wg
  subst hez
  have hnp2:=hnp.out (by unfold ey.fE at hfr;rw[hfr])
  have hwr2:=aD ((D.nf:Int)+1) ⟨by omega,by omega⟩
  have x29:=bu hC HDC.out 29
  have x22:=bu hC HDC.out 22
  by_cases hln:D.ln=D.nf+1
  rotate_left
  ·have hli:((D.ln:Int) != (D.nf:Int)+1)=true:=bne_iff_ne.2 om
   go_wp2_with fail
   go_ret3
   refine⟨?_,hB⟩
   rw[HS.out]
   unfold lf
   simp[*]
  have hli:((D.ln:Int) != (D.nf:Int)+1)=false:=bne_eq_false_iff_eq.2 om
  have HLN:=af hln
  have hlb:D.ln<=7:=om
  clear hln
  go_wp2_with fail
  clear x29 x22
  replace HS:bj (r=rB D):=show _=_ by rw[HS.out];unfold lf;simp[hfr,hzr,HLN.out]
  clear hli hwr2 hnp hfr hzr hnp2 HLN
  have x29:=bu hC HDC.out 29
  go_wp2_with fail
  clear x29
  go_loopw [86] (λt wr=>∃j:Nat,j<=D.ln/\t=M U (j:Int)/\bj (aB (fM D) D.ln 0=aB (fM D) (D.ln - j) j)/\am wr xb 68 D.cells/\ap w.heap.size w wr) (λt _=>D.ln - (aV t).toNat)
  case atStart=>exact⟨0,aF _,rfl,show _=_ from rfl,hC,hB⟩
  case round=>
   clear hC hB
   obtain⟨j,hj,rfl,HJ,hC,hB⟩:=hrel
   by_cases hlt:j<D.ln
   ·have HF:=af (HJ.out.trans (bf (fM D) hlt))
    clear HJ
    have i2:(j:Int)<(D.ln:Int):=om
    have HQ:bj (fM D j=if aI (D.LX j 0) 0 10000||aI (D.LX j 1) 1 1000000 then ai 2 else ag):=show _=_ from rfl
    obtain⟨bb,bo,rfl,bl,hc⟩:=(HRl.out.below hB).elem hlt
    have e0:wr.cell? ⟨bb,bo+j*2,ag⟩=ai (M U (D.LX j 0)):=hc 0 om
    have e1:wr.cell? ⟨bb,bo+j*2+1,ag⟩=ai (M U (D.LX j 1)):=hc 1 om
    clear hc
    generalize D.LX j 0=l0 at *
    generalize D.LX j 1=l1 at *
    go_upto_region 27 with fail
    obtain⟨w8,hW9,hN9,hb⟩:=bW wr 102 #[M U l0,M U l1]
    rw[hW9.out]
    clear hW9
    obtain⟨hC,hB⟩:=bS hC hB hb
    generalize wr.heap.size=db at *
    have hD:=hN9
    obtain⟨y0,y1⟩:=bA hD
    clear hN9 e0 e1
    go_wp2_with fail
    refine bm (iV _ _ _ _) ?_
    rintro(_|_) g1
    rotate_left
    ·exact T81
    go_wp2_with fail
    refine bm (iV _ _ _ _) ?_
    rintro(_|_) g2
    rotate_left
    ·exact T81
    have HJ2:bj (aB (fM D) D.ln 0=aB (fM D) (D.ln - (j+1)) (j+1)):=by
     exact tu
    exact qG
   have hjn:j=D.ln:=om
   have hk:=HJ.out
   rw[hjn]at hk
   replace hk:=hk.trans (bh (fM D) D.ln)
   clear HJ
   have hnj:¬(j:Int)<(D.ln:Int):=om
   clear hjn
   have hk4:=hk
   clear hk
   replace HS:bj (r=qw D):=show _=_ by rw[HS.out];unfold rB;rw[hk4]
   clear hk4
   have x30:=bu hC HDC.out 30
   have x31:=bu hC HDC.out 31
   go_wp2_with fail
   refine(HR.out _).mono ?_
   rintro e w1 ⟨⟨cc,rfl⟩,hb⟩
   obtain⟨hC,hB⟩:=bS hC hB hb
   clear HR
   clear x30 x31
   have HWI:=af (@rfl _ (nK D.rn D.rd))
   generalize hwi:nK D.rn D.rd=q at *
   by_cases hq:q=0
   rotate_left
   ·have heb:(q != 0)=true:=by simpa using hq
    go_wp2_with fail
    go_ret3
    refine⟨?_,hB⟩
    rw[HS.out]
    unfold qw
    simp[*]
   subst hq
   have x32:=bu hC HDC.out 32
   by_cases h12:12<D.kn
   ·have h12i:(12:Int)<(D.kn:Int):=om
    go_wp2_with fail
    go_ret3
    refine⟨?_,hB⟩
    rw[HS.out]
    unfold qw
    simp[*]
   have h12i:¬(12:Int)<(D.kn:Int):=om
   replace HS:bj (r=rt D):=show _=_ by rw[HS.out];unfold qw;rw[hwi];simp[h12]
   clear hwi HWI
   have x32:=bu hC HDC.out 32
   go_wp2_with fail
   clear x32
   go_loopw [119] (λt wr=>∃j:Nat,j<=D.kn/\t=M U (j:Int)/\bj (aB (fH D) D.kn 0=aB (fH D) (D.kn - j) j)/\am wr xb 68 D.cells/\ap w.heap.size w wr) (λt _=>D.kn - (aV t).toNat)
   case atStart=>exact⟨0,aF _,rfl,show _=_ from rfl,hC,hB⟩
   case round=>
    clear hC hB
    obtain⟨j,hj,rfl,HJ,hC,hB⟩:=hrel
    by_cases hlt:j<D.kn
    rotate_left
    ·have hjn:j=D.kn:=om
     have hk:=HJ.out
     rw[hjn]at hk
     replace hk:=hk.trans (bh (fH D) D.kn)
     clear HJ
     have hnj:¬(j:Int)<(D.kn:Int):=om
     clear hjn
     have hk6:=hk
     clear hk
     replace HS:bj (r=ob D):=show _=_ by rw[HS.out];unfold rt;rw[hk6]
     clear hk6
     have x33:=bu hC HDC.out 33
     have x34:=bu hC HDC.out 34
     have x35:=bu hC HDC.out 35
     have x36:=bu hC HDC.out 36
     have x37:=bu hC HDC.out 37
     have x38:=bu hC HDC.out 38
     have x39:=bu hC HDC.out 39
     have x40:=bu hC HDC.out 40
     have x41:=bu hC HDC.out 41
     have x42:=bu hC HDC.out 42
     have x43:=bu hC HDC.out 43
     have x44:=bu hC HDC.out 44
     have x45:=bu hC HDC.out 45
     go_wp2_with fail
     refine aZ (HT.out _ hB) ?_
     intro w1 hb
     obtain⟨hC,hB⟩:=bS hC hB hb
     clear HT
     clear x33 x34 x35 x36 x37 x38 x39 x40 x41 x42 x43 x44 x45
     by_cases hec:c3=0
     rotate_left
     ·exact vi
     subst hec
     have x46:=bu hC HDC.out 46
     have x47:=bu hC HDC.out 47
     have x48:=bu hC HDC.out 48
     have x49:=bu hC HDC.out 49
     have x50:=bu hC HDC.out 50
     go_wp2_with fail
     refine aZ (HP.out _ hB) ?_
     intro w1 hb
     obtain⟨hC,hB⟩:=bS hC hB hb
     clear HP
     clear x46 x47 x48 x49 x50
     by_cases het:t3=0
     rotate_left
     ·exact wj
     subst het
     have x50:=bu hC HDC.out 50
     by_cases htp:0<D.tp
     ·exact vF
     have hti:¬(0:Int)<(D.tp:Int):=om
     replace HS:bj (r=pN D):=show _=_ by rw[HS.out];unfold ob;simp[hcr,htr,htp]
     clear hcr htr
     have x51:=bu hC HDC.out 51
     have x52:=bu hC HDC.out 52
     have x53:=bu hC HDC.out 53
     have x54:=bu hC HDC.out 54
     have x55:=bu hC HDC.out 55
     go_wp2_with fail
     refine aZ (HE.out _ hB) ?_
     intro w1 hb
     obtain⟨hC,hB⟩:=bS hC hB hb
     clear HE
     clear x51 x52 x53 x54 x55
     by_cases hee:e3=0
     rotate_left
     ·exact vM
     subst hee
     clear x50
     have x56:=bu hC HDC.out 56
     have x57:=bu hC HDC.out 57
     go_wp2_with fail
     refine bm (iV _ _ _ _) ?_
     rintro(_|_) g1
     rotate_left
     ·go_wp2_with fail
      go_ret3
      refine⟨?_,hB⟩
      rw[HS.out]
      unfold pN
      simp[*]
     go_wp2_with fail
     refine bm (iV _ _ _ _) ?_
     exact T59
    have HF:=af (HJ.out.trans (bf (fH D) hlt))
    clear HJ
    have i2:(j:Int)<(D.kn:Int):=om
    have HQ:bj (fH D j=if D.kM j=0 then ag else ai (D.kM j)):=show _=_ from rfl
    have HM:bj (D.kM j=if(D.kE j).2=0/\bI (λk=>ej (D.KN k) (D.KN j)) j=true then 5 else(D.kE j).2):=show _=_ from rfl
    have HKj:=af (show∀W,ap w.heap.size w W->aC _ _ _ _ λe w'=>e=ar (.tuple #[M U (D.kE j).1,M U (D.kE j).2])/\ap W.heap.size W w' from HK.out j hlt)
    obtain⟨bb,bo,rfl,bl,hc⟩:=(HRk.out.below hB).elem hlt
    have e0:wr.cell? ⟨bb,bo+j*6,ag⟩=ai (ay (D.KN j)):=hc 0 om
    have e1:wr.cell? ⟨bb,bo+j*6+1,ag⟩=ai (M U (D.KX j 0)):=hc 1 om
    have e2:wr.cell? ⟨bb,bo+j*6+2,ag⟩=ai (M U (D.KX j 1)):=hc 2 om
    have e3:wr.cell? ⟨bb,bo+j*6+3,ag⟩=ai (M U (D.KX j 2)):=hc 3 om
    have e4:wr.cell? ⟨bb,bo+j*6+4,ag⟩=ai (M U (D.KX j 3)):=hc 4 om
    have e5:wr.cell? ⟨bb,bo+j*6+5,ag⟩=ai (T (D.KA j) (D.Ks j) (D.KC j)):=hc 5 om
    clear hc
    generalize D.kM j=m at *
    generalize D.kE j=ke at *
    obtain⟨q1,q2⟩:=ke
    simp only at HKj HM
    generalize hkn:D.KN j=kn at e0 HKj
    have HKN:=af hkn
    clear hkn
    generalize D.KX j 0=k0 at *
    generalize D.KX j 1=k1 at *
    generalize D.KX j 2=k2 at *
    generalize D.KX j 3=k3 at *
    generalize D.KA j=ks at *
    generalize D.Ks j=kl at *
    generalize D.KC j=kc2 at *
    go_upto_region 38 with fail
    obtain⟨w8,hW9,hN9,hb⟩:=bW wr 108 #[ay kn,M U k0,M U k1,M U k2,M U k3,T ks kl kc2]
    rw[hW9.out]
    clear hW9
    obtain⟨hC,hB⟩:=bS hC hB hb
    generalize wr.heap.size=db at *
    have hD:=hN9
    obtain⟨y0,y1,y2,y3,y4,y5⟩:=aH hD
    clear hN9 e0 e1 e2 e3 e4 e5
    go_wp2_with fail
    refine aZ (HKj.out _ hB) ?_
    intro w9 hb
    obtain⟨hC,hD,hB⟩:=bM hC hD hB hb
    clear HKj y0 y1 y2 y3 y4 y5
    by_cases hq:q2=0
    rotate_left
    ·have hqb:(q2 != 0)=true:=by simpa using hq
     have hqc:(q2==0)=false:=by simpa using hq
     have hmq:m=q2:=by rw[HM.out];simp[hq]
     clear HM HKN
     subst hmq
     exact T82
    subst hq
    have HT2:=af ((HRk.out.below hB).take (Nat.le_of_lt hlt))
    have x32:=bu hC HDC.out 32
    have hkc:j<=kc:=aO (Nat.le_of_lt hlt) HRk.out.le
    obtain⟨y0,-,-,-,-,-⟩:=aH hD
    have hcl:=af (λ(k:Nat) (W:aj) (hk:k<j) (h:ap w9.heap.size w9 W)=>lD (D.KN k) kn (D.KX k 0) (D.KX k 1) (D.KX k 2) (D.KX k 3) (D.KA k) (D.Ks k) (D.KC k) db W (aH (hD.below h)).1)
    go_wp2_with fail
    refine aZ (jn 29 (λ_ _=>by kernel_rfl) #[ax (ai ⟨db,0,ag⟩)] j D.craftC (λk=>ej (D.KN k) kn) _ _ HT2.out om (λk W hk h=>hcl.out k W hk h)) ?_
    intro w7 hb
    obtain⟨hC,hD,hB⟩:=bM hC hD hB hb
    clear hcl HT2 y0 x32 hkc
    rw[HKN.out]at HM
    generalize bI (λk=>ej (D.KN k) kn) j=q at *
    cases q
    rotate_left
    ·have hm5:m=5:=by rw[HM.out];simp
     clear HM HKN
     subst hm5
     exact T82
    have hm0:m=0:=by rw[HM.out];simp
    clear HM HKN
    have HJ2:bj (aB (fH D) D.kn 0=aB (fH D) (D.kn - (j+1)) (j+1)):=by
     have h9:=HQ.out
     simp[hm0]at h9
     unfold bj;rw[HF.out,h9]
    exact qG
end
section
open Tryz
open Go.RowKit Go.Shelf
attribute [local go_sem] Oper.semAt_some
def si (D:ey):Int×Int:=if D.ln≠D.nf+1 then(0,2)else match aB (fM D) D.ln 0 with
 |some (i,e)=>(((i:Nat):Int),e)
 |none=>(0,nK D.rn D.rd)
def sj (D:ey):Int×Int:=if 12<D.kn then(0,3)else match aB (fH D) D.kn 0 with
 |some (i,e)=>(((i:Nat):Int),e)
 |none=>(0,0)
theorem mr (D:ey) (w:aj) (hV:rM w D) (hnf:D.nf<=6):
  aC prog 38 #[aN D.cells] w (E2 w (si D)):=by
 obtain⟨a,c,HDC,h0,h1,h2,h3,h4,h5,h6,h7,h8,h9,h10,h11,h12,h13,h14,h15,h16,h17,h18,h19,h20,h21,h22,h23⟩:=hV.lit
 have HR:=af (λW=>kZ D.rn D.rd W)
 have HRl:=af (show aU w (T (a 10) D.ln (c 10)) D.ln 2 (bw D.LX)from h10▸hV.l)
 obtain⟨W0,HW0,hC,hB⟩:=qX w 68 HDC
 rw[HDC.out]
 generalize a 10=la at *
 generalize c 10=lc at *
 obtain⟨r,HS⟩:=dR (si D)
 rw[<-HS.out]
 go_enter func38,ntmps38
 go_upto_region 1 with fail
 rw[HW0.out]
 clear HW0
 obtain⟨xb,hxe⟩:=bY w.heap.size
 rw[<-hxe]at hC⊢
 clear hxe
 have hwr2:=aD ((D.nf:Int)+1) ⟨by omega,by omega⟩
 have x29:=bu hC HDC.out 29
 have x22:=bu hC HDC.out 22
 by_cases hln:D.ln=D.nf+1
 rotate_left
 ·have hli:((D.ln:Int) != (D.nf:Int)+1)=true:=bne_iff_ne.2 om
  go_wp2_with fail
  go_ret2
  refine⟨?_,hB⟩
  rw[HS.out]
  unfold si
  simp[*]
 have hli:((D.ln:Int) != (D.nf:Int)+1)=false:=bne_eq_false_iff_eq.2 om
 have HLN:=af hln
 have hlb:D.ln<=7:=om
 clear hln
 go_wp2_with fail
 clear x29 x22 hli hwr2
 go_loopw [4] (λt wr=>∃j:Nat,j<=D.ln/\t=M U (j:Int)/\bj (aB (fM D) D.ln 0=aB (fM D) (D.ln - j) j)/\am wr xb 68 D.cells/\ap w.heap.size w wr) (λt _=>D.ln - (aV t).toNat)
 case atStart=>exact⟨0,aF _,rfl,show _=_ from rfl,hC,hB⟩
 case round=>
  clear hC hB
  obtain⟨j,hj,rfl,HJ,hC,hB⟩:=hrel
  by_cases hlt:j<D.ln
  rotate_left
  ·have hjn:j=D.ln:=om
   have hk:=HJ.out
   rw[hjn]at hk
   replace hk:=hk.trans (bh (fM D) D.ln)
   clear HJ
   have hnj:¬(j:Int)<(D.ln:Int):=om
   clear hjn
   have hk4:=hk
   clear hk
   have x29:=bu hC HDC.out 29
   have x30:=bu hC HDC.out 30
   have x31:=bu hC HDC.out 31
   go_wp2_with fail
   refine(HR.out _).mono ?_
   rintro e w1 ⟨⟨cc,rfl⟩,hb⟩
   obtain⟨hC,hB⟩:=bS hC hB hb
   generalize hwi:nK D.rn D.rd=q at *
   go_wp2_with fail
   go_ret2
   refine⟨?_,hB⟩
   rw[HS.out]
   unfold si
   rw[if_neg (by have h:=HLN.out;omega),hk4]
   simp[hwi]
  have HF:=af (HJ.out.trans (bf (fM D) hlt))
  clear HJ
  have i2:(j:Int)<(D.ln:Int):=om
  have HQ:bj (fM D j=if aI (D.LX j 0) 0 10000||aI (D.LX j 1) 1 1000000 then ai 2 else ag):=show _=_ from rfl
  obtain⟨bb,bo,rfl,bl,e0,e1⟩:=(HRl.out.below hB).eI2 hlt
  generalize D.LX j 0=l0 at *
  generalize D.LX j 1=l1 at *
  have x29:=bu hC HDC.out 29
  go_wp2_with fail
  refine aR (i7 _ _ _ _) ?_
  rintro(_|_) g1
  rotate_left
  ·exact T60
  go_wp2_with fail
  refine aR (i7 _ _ _ _) ?_
  rintro(_|_) g2
  rotate_left
  ·exact T60
  have HJ2:bj (aB (fM D) D.ln 0=aB (fM D) (D.ln - (j+1)) (j+1)):=by
   exact tu
  clear HF HQ e0 e1 x29
  exact qV
theorem j4 (D:ey) (w:aj) (hV:rM w D):
  aC prog 39 #[aN D.cells] w (E2 w (sj D)):=by
 obtain⟨a,c,HDC,h0,h1,h2,h3,h4,h5,h6,h7,h8,h9,h10,h11,h12,h13,h14,h15,h16,h17,h18,h19,h20,h21,h22,h23⟩:=hV.lit
 have HK:=af (λ(i:Nat) (hi:i<D.kn) W (h:ap w.heap.size w W)=>mF (D.KN i) (D.KX i 0) (D.KX i 1) (D.KX i 2) (D.KX i 3) (D.Ks i) (D.KS i) (T (D.KA i) (D.Ks i) (D.KC i)) W (hV.kk i hi) ((hV.ks i hi).below h))
 unfold E2 at HK
 have HRk:=af (show aU w (T (a 11) D.kn (c 11)) D.kn 6 D.craftC from h11▸hV.k)
 obtain⟨W0,HW0,hC,hB⟩:=qX w 68 HDC
 rw[HDC.out]
 generalize a 11=ka at *
 generalize c 11=kc at *
 obtain⟨r,HS⟩:=dR (sj D)
 rw[<-HS.out]
 go_enter func39,ntmps39
 go_upto_region 1 with fail
 rw[HW0.out]
 clear HW0
 obtain⟨xb,hxe⟩:=bY w.heap.size
 rw[<-hxe]at hC⊢
 clear hxe
 have x32:=bu hC HDC.out 32
 by_cases h12:12<D.kn
 ·have h12i:(12:Int)<(D.kn:Int):=om
  go_wp2_with fail
  go_ret2
  refine⟨?_,hB⟩
  rw[HS.out]
  unfold sj
  simp[*]
 have h12i:¬(12:Int)<(D.kn:Int):=om
 go_wp2_with fail
 clear x32
 go_loopw [4] (λt wr=>∃j:Nat,j<=D.kn/\t=M U (j:Int)/\bj (aB (fH D) D.kn 0=aB (fH D) (D.kn - j) j)/\am wr xb 68 D.cells/\ap w.heap.size w wr) (λt _=>D.kn - (aV t).toNat)
 case atStart=>exact⟨0,aF _,rfl,show _=_ from rfl,hC,hB⟩
 case round=>
  clear hC hB
  obtain⟨j,hj,rfl,HJ,hC,hB⟩:=hrel
  by_cases hlt:j<D.kn
  rotate_left
  ·have hjn:j=D.kn:=om
   have hk:=HJ.out
   rw[hjn]at hk
   replace hk:=hk.trans (bh (fH D) D.kn)
   clear HJ
   have hnj:¬(j:Int)<(D.kn:Int):=om
   clear hjn
   have hk6:=hk
   clear hk
   have x32:=bu hC HDC.out 32
   go_wp2_with fail
   go_ret2
   refine⟨?_,hB⟩
   rw[HS.out]
   unfold sj
   simp[*]
  have HF:=af (HJ.out.trans (bf (fH D) hlt))
  clear HJ
  have i2:(j:Int)<(D.kn:Int):=om
  have HQ:bj (fH D j=if D.kM j=0 then ag else ai (D.kM j)):=show _=_ from rfl
  have HM:bj (D.kM j=if(D.kE j).2=0/\bI (λk=>ej (D.KN k) (D.KN j)) j=true then 5 else(D.kE j).2):=show _=_ from rfl
  have HKj:=af (show∀W,ap w.heap.size w W->aC _ _ _ _ λe w'=>e=ar (.tuple #[M U (D.kE j).1,M U (D.kE j).2])/\ap W.heap.size W w' from HK.out j hlt)
  obtain⟨bb,bo,rfl,bl,hc⟩:=(HRk.out.below hB).elem hlt
  have e0:wr.cell? ⟨bb,bo+j*6,ag⟩=ai (ay (D.KN j)):=hc 0 om
  have e1:wr.cell? ⟨bb,bo+j*6+1,ag⟩=ai (M U (D.KX j 0)):=hc 1 om
  have e2:wr.cell? ⟨bb,bo+j*6+2,ag⟩=ai (M U (D.KX j 1)):=hc 2 om
  have e3:wr.cell? ⟨bb,bo+j*6+3,ag⟩=ai (M U (D.KX j 2)):=hc 3 om
  have e4:wr.cell? ⟨bb,bo+j*6+4,ag⟩=ai (M U (D.KX j 3)):=hc 4 om
  have e5:wr.cell? ⟨bb,bo+j*6+5,ag⟩=ai (T (D.KA j) (D.Ks j) (D.KC j)):=hc 5 om
  clear hc
  generalize D.kM j=m at *
  generalize D.kE j=ke at *
  obtain⟨q1,q2⟩:=ke
  simp only at HKj HM
  generalize hkn:D.KN j=kn at e0 HKj
  have HKN:=af hkn
  clear hkn
  rw[HKN.out]at HM
  generalize D.KX j 0=k0 at *
  generalize D.KX j 1=k1 at *
  generalize D.KX j 2=k2 at *
  generalize D.KX j 3=k3 at *
  generalize D.KA j=ks at *
  generalize D.Ks j=kl at *
  generalize D.KC j=kc2 at *
  have x32:=bu hC HDC.out 32
  go_wp2_with fail
  refine aZ (HKj.out _ hB) ?_
  intro w9 hb
  obtain⟨hC,hB⟩:=bS hC hB hb
  clear HKj e0 e1 e2 e3 e4 e5 x32
  go_wp2_with fail
  go_loopw [6,7] (λe t wr=>∃(i:Nat) (q:Int),i<=j/\e=M U q/\t=M U (i:Int)/\bj ((q=0/\q2=0/\∀k,k<i->ej (D.KN k) kn=false)\/(q≠0/\m=q))/\am wr xb 68 D.cells/\ap w.heap.size w wr) (λe t _=>j - (aV t).toNat)
  case atStart=>
   refine⟨0,q2,aF _,rfl,rfl,show _\/_ from ?_,hC,hB⟩
   by_cases hq:q2=0
   ·exact .inl ⟨hq,hq,λk h=>absurd h om⟩
   exact .inr ⟨hq,by rw[HM.out];simp[hq]⟩
  clear hC hB
  obtain⟨i,q,hij,rfl,rfl,HO,hC,hB⟩:=hrel
  rcases HO.out with⟨rfl,hq2,ho⟩|⟨hq,hmq⟩
  rotate_left
  ·have hqb:(q != 0)=true:=by simpa using hq
   have hqc:(q==0)=false:=by simpa using hq
   clear HM HKN HO
   subst hmq
   by_cases hil:(i:Int)<(j:Int)
   ·exact T84
   exact T84
  by_cases hil:i<j
  rotate_left
  ·obtain rfl:i=j:=om
   have hA:=bT ho
   have hm0:m=0:=by rw[HM.out,hA,hq2];simp
   clear ho HO HM HKN
   have hmm:¬(i:Int)<(i:Int):=om
   have HJ2:bj (aB (fH D) D.kn 0=aB (fH D) (D.kn - (i+1)) (i+1)):=by
    have h9:=HQ.out
    simp[hm0]at h9
    unfold bj;rw[HF.out,h9]
   clear HF HQ
   have x32:=bu hC HDC.out 32
   go_wp2_with fail
   go_roundw
   case rel=>exact⟨i+1,by omega,by go_num,HJ2,hC,hB⟩
   case measure=>simp[aV];omega
  obtain⟨cb,co,hcq,-,hc⟩:=(HRk.out.below hB).elem (show i<D.kn by omega)
  obtain⟨rfl,rfl⟩:bb=cb/\bo=co:=by simpa using hcq
  have e0:wr.cell? ⟨bb,bo+i*6,ag⟩=ai (ay (D.KN i)):=hc 0 om
  clear hc hcq
  obtain⟨cb,co,hcq,-,hc⟩:=(HRk.out.below hB).elem hlt
  obtain⟨rfl,rfl⟩:bb=cb/\bo=co:=by simpa using hcq
  have e1:wr.cell? ⟨bb,bo+j*6,ag⟩=ai (ay (D.KN j)):=hc 0 om
  clear hc hcq
  rw[HKN.out]at e1
  have x32:=bu hC HDC.out 32
  have HH:=af (λh=>dS (p:=λk=>ej (D.KN k) kn) (m:=i) ho h)
  have HA:=af (λh=>cd (p:=λk=>ej (D.KN k) kn) hil h)
  clear ho HO
  have i3:(i:Int)<(j:Int):=om
  have i4:(i:Int)<(D.kn:Int):=om
  obtain⟨nn,hnn⟩:∃nn,nn=D.KN i:=⟨_,rfl⟩
  simp only[<-hnn]at HH HA e0
  clear hnn
  go_upto_region 10 with fail
  go_quiet (fail)
  have hb:=aM (au wr.heap.size wr) nq
  obtain⟨hC,hB⟩:=bS hC hB hb
  clear e0 e1 x32
  generalize wr.drewN nq=w2 at *
  cases hg:(nn.toList==kn.toList)
  ·have ho2:=HH.out hg
   have HO2:bj (((0:Int)=0/\q2=0/\∀k,k<i+1->ej (D.KN k) kn=false)\/((0:Int)≠0/\m=0)):=show _\/_ from .inl ⟨rfl,hq2,ho2⟩
   clear HH HA ho2
   go_wp2_with fail
   go_roundw
   case rel=>exact⟨i+1,0,by omega,by go_num,by go_num,HO2,hC,hB⟩
   case measure=>simp[aV];omega
  have HO2:bj (((5:Int)=0/\q2=0/\∀k,k<i+1->ej (D.KN k) kn=false)\/((5:Int)≠0/\m=5)):=show _\/_ from .inr ⟨by decide,by rw[HM.out,HA.out hg,hq2];simp⟩
  clear HH HA
  go_wp2_with fail
  go_roundw
  case rel=>exact⟨i+1,5,by omega,by go_num,by go_num,HO2,hC,hB⟩
  case measure=>simp[aV];omega
end
section
open Tryz
open Go.RowKit Go.Shelf
attribute [local go_sem] Oper.semAt_some
theorem rH {D:ey} {i:Nat} {e:Int} (h:fH D i=ai e):e≠0:=by
 unfold fH at h
 split at h
 ·cases h
 rename_i h2;cases h;exact h2
theorem sF (D:ey) (hf:D.fE.2.2=0) (hz:D.zE.2.2=0):lf D=if(si D).2≠0 then(5,(si D).1,(si D).2)else if(sj D).2≠0 then(6,(sj D).1,(sj D).2)else ob D:=by
 unfold lf si
 rw[if_neg (by simp[hf]),if_neg (by simp[hz])]
 by_cases h1:D.ln≠D.nf+1
 ·rw[if_pos h1,if_pos h1];simp
 rw[if_neg h1,if_neg h1]
 unfold rB
 cases hl:aB (fM D) D.ln 0 with
 |some p=>
  obtain⟨i,e⟩:=p
  have h4:e≠0:=by
   have h5:=(cJ _ _ hl).2.2
   unfold fM at h5
   split at h5
   ·cases h5;decide
   cases h5
  simp[h4]
 |none=>
  simp only
  unfold qw
  by_cases h2:nK D.rn D.rd≠0
  ·rw[if_pos h2,if_pos h2]
  rw[if_neg h2,if_neg h2]
  unfold sj
  by_cases h3:12<D.kn
  ·rw[if_pos h3,if_pos h3];simp
  rw[if_neg h3,if_neg h3]
  unfold rt
  cases hk:aB (fH D) D.kn 0 with
  |some p=>
   obtain⟨i,e⟩:=p
   have h4:=rH (cJ _ _ hk).2.2
   simp[h4]
  |none=>simp
theorem ef {W:aj} {b:Nat} {t:aT} {cs ds:Array aw} (h:am W b t cs) (e:cs=ds) (l:List aw) (hl:ds.toList=l:=by rfl):W.rangeAt b 0 l:=λj v hv=>by
 subst e
 subst hl
 rw[Nat.zero_add,h.cell j]
 simpa using hv
theorem lK (D:ey) (w:aj) (hV:rM w D):
  aC prog 8 #[aN D.cells] w (E3 w (tJ D)):=by
 obtain⟨a,c,HDC,h0,h1,h2,h3,h4,h5,h6,h7,h8,h9,h10,h11,h12,h13,h14,h15,h16,h17,h18,h19,h20,h21,h22,h23⟩:=hV.lit
 have HW:=af (show∀W,ap w.heap.size w W->aC prog 33 #[aN #[T (a 0) D.ns (c 0),T (a 1) D.nd (c 1),T (a 2) D.nc (c 2),M U D.age,M U D.shear]] W (E3 W D.wE)from λW h=>by have g:=mz D.ns D.N D.S D.nd D.Q D.nc D.C D.age D.shear D.sv D.qv D.cv W (hV.w1.below h) (hV.w2.below h) (hV.w3.below h) hV.wn;rw[h0,h1,h2]at g;exact g)
 unfold E3 at HW
 obtain⟨⟨w1,w2,w3⟩,hwr⟩:∃p,D.wE=p:=⟨_,rfl⟩
 rw[hwr]at HW
 simp only at HW
 have HA:=af (show∀W,ap w.heap.size w W->aC prog 34 #[aN #[T (a 3) D.t.rn (c 3),T (a 4) D.t.sn (c 4),M U D.t.tx,M U D.t.ty,M U D.t.xl,M U D.t.xh,M U D.t.yl,M U D.t.yh,M U D.t.gain,M U D.t.turn,M U D.t.freeze]] W (E3 W D.aE)from λW h=>by have g:=nj D.t.rn D.t.R D.t.sn D.t.S D.t.tx D.t.ty D.t.xl D.t.xh D.t.yl D.t.yh D.t.gain D.t.turn D.t.freeze D.rv D.av W (hV.a1.below h) (hV.a2.below h);rw[h3,h4]at g;exact g)
 unfold E3 at HA
 obtain⟨⟨a1,a2,a3⟩,har⟩:∃p,D.aE=p:=⟨_,rfl⟩
 rw[har]at HA
 simp only at HA
 have HF:=af (show∀W,ap w.heap.size w W->aC prog 36 #[aN #[ay D.nm,M U D.glo,M U D.ghi,T (a 6) D.na (c 6),T (a 7) D.np (c 7),T (a 8) D.nf (c 8)]] W (E3 W D.fE)from λW h=>by have g:=mq D.nm D.glo D.ghi D.na D.A D.np D.H D.nf D.FN D.FR D.fa D.fp D.fc W hV.fn (hV.f1.below h) (hV.f2.below h) (hV.f3.below h) hV.ff;rw[h6,h7,h8]at g;exact g)
 unfold E3 at HF
 obtain⟨⟨f1,f2,f3⟩,hfr⟩:∃p,D.fE=p:=⟨_,rfl⟩
 rw[hfr]at HF
 simp only at HF
 have HZ:=af (show∀W,ap w.heap.size w W->aC prog 37 #[aN #[M U D.cx,M U D.cy,M U D.size,M U D.cols,M U D.rows,T (a 9) D.nz (c 9)]] W (E3 W D.zE)from λW h=>by have g:=mN D.cx D.cy D.size D.cols D.rows D.nz D.ZR D.zv W (hV.z.below h);rw[h9]at g;exact g)
 unfold E3 at HZ
 obtain⟨⟨z1,z2,z3⟩,hzr⟩:∃p,D.zE=p:=⟨_,rfl⟩
 rw[hzr]at HZ
 simp only at HZ
 have HT:=af (show∀W,ap w.heap.size w W->aC prog 40 #[aN #[T (a 15) D.c.pd.zn (c 15),T (a 16) D.c.pd.dn (c 16),T (a 17) D.c.pd.pn (c 17),T (a 18) D.c.pd.kn (c 18),T (a 19) D.c.pd.qn (c 19),M U D.c.pd.panel,M U D.c.pd.wait,T (a 20) D.c.sn (c 20),T (a 21) D.c.bn (c 21),T (a 22) D.c.tn (c 22),T (a 23) D.c.pn (c 23),M U D.c.wlo,M U D.c.whi]] W (E3 W (qj D.c))from λW h=>by have g:=mg D.c W (hV.c.below h);unfold fO.cells at g;rw[h15,h16,h17,h18,h19,h20,h21,h22,h23]at g;exact g)
 unfold E3 at HT
 obtain⟨⟨c1,c2,c3⟩,hcr⟩:∃p,(qj D.c)=p:=⟨_,rfl⟩
 rw[hcr]at HT
 simp only at HT
 have HP:=af (show∀W,ap w.heap.size w W->aC prog 41 #[aN #[M U D.tf,M U D.ts,M U D.ta,T (a 12) D.tt (c 12),T (a 13) D.tp (c 13)]] W (E3 W D.tE)from λW h=>by have g:=lY D.tf D.ts D.ta D.tt D.TN D.TR D.tp D.TQ D.tv D.pv W (hV.t1.below h) (hV.t2.below h) hV.tt;rw[h12,h13]at g;exact g)
 unfold E3 at HP
 obtain⟨⟨t1,t2,t3⟩,htr⟩:∃p,D.tE=p:=⟨_,rfl⟩
 rw[htr]at HP
 simp only at HP
 have HE:=af (show∀W,ap w.heap.size w W->aC prog 42 #[aN #[T (a 14) D.en (c 14),M U D.elo,M U D.ehi,M U D.ew,M U D.eb]] W (E3 W D.eE)from λW h=>by have g:=mP D.en D.EL D.elo D.ehi D.ew D.eb D.ev W (hV.e.below h);rw[h14]at g;exact g)
 unfold E3 at HE
 obtain⟨⟨e1,e2,e3⟩,her⟩:∃p,D.eE=p:=⟨_,rfl⟩
 rw[her]at HE
 simp only at HE
 have hsn:=af (@q8 D.t)
 have hnp:=af (@qM D.nm D.glo D.ghi D.na D.A D.np D.H D.nf D.FN D.FR)
 have HL:=af (λ(hn:D.nf<=6) W (h:ap w.heap.size w W)=>mr D W (hV.below h) hn)
 have HK:=af (λW (h:ap w.heap.size w W)=>j4 D W (hV.below h))
 unfold E2 at HL HK
 rw[HDC.out]at HL HK
 have H3:=af (sF D)
 have HRd:=af (show aU w (T (a 5) D.dn (c 5)) D.dn 3 (bw D.DX)from h5▸hV.d)
 obtain⟨⟨l1,l2⟩,hlr⟩:∃p,si D=p:=⟨_,rfl⟩
 rw[hlr]at HL H3
 obtain⟨⟨k1,k2⟩,hkr⟩:∃p,sj D=p:=⟨_,rfl⟩
 rw[hkr]at HK H3
 simp only at HL HK H3
 clear hlr hkr
 obtain⟨W0,HW0,hC,hB⟩:=qX w 68 HDC
 rw[HDC.out]
 generalize a 5=da at *
 generalize c 5=dc at *
 obtain⟨r,HS⟩:=dR (tJ D)
 rw[<-HS.out]
 go_enter func8,ntmps8
 go_upto_region 1 with fail
 rw[HW0.out]
 clear HW0
 obtain⟨xb,hxe⟩:=bY w.heap.size
 rw[<-hxe]at hC⊢
 clear hxe
 have x0:=bu hC HDC.out 0
 have x1:=bu hC HDC.out 1
 have x2:=bu hC HDC.out 2
 have x3:=bu hC HDC.out 3
 have x4:=bu hC HDC.out 4
 go_wp2_with fail
 refine aZ (HW.out _ hB) ?_
 intro w1 hb
 obtain⟨hC,hB⟩:=bS hC hB hb
 clear HW
 clear x0 x1 x2 x3 x4
 by_cases hew:w3=0
 rotate_left
 ·exact ww
 subst hew
 have x5:=bu hC HDC.out 5
 have x6:=bu hC HDC.out 6
 have x7:=bu hC HDC.out 7
 have x8:=bu hC HDC.out 8
 have x9:=bu hC HDC.out 9
 have x10:=bu hC HDC.out 10
 have x11:=bu hC HDC.out 11
 have x12:=bu hC HDC.out 12
 have x13:=bu hC HDC.out 13
 have x14:=bu hC HDC.out 14
 have x15:=bu hC HDC.out 15
 go_wp2_with fail
 refine aZ (HA.out _ hB) ?_
 intro w1 hb
 obtain⟨hC,hB⟩:=bS hC hB hb
 clear HA
 clear x5 x6 x7 x8 x9 x10 x11 x12 x13 x14 x15
 by_cases hea:a3=0
 rotate_left
 ·exact wB
 subst hea
 have hsn2:D.t.sn<=40:=hsn.out (by unfold ey.aE at har;rw[har])
 clear hsn
 have x16:=bu hC HDC.out 16
 have x6:=bu hC HDC.out 6
 by_cases hdn:D.dn=D.t.sn
 rotate_left
 ·exact T74
 have hdi:((D.dn:Int) != (D.t.sn:Int))=false:=bne_eq_false_iff_eq.2 om
 have HDN:=af hdn
 have hdb:D.dn<=40:=om
 clear hdn
 go_wp2_with fail
 clear x16 x6
 replace HS:bj (r=pL D):=show _=_ by rw[HS.out];unfold tJ;simp[hwr,har,HDN.out]
 clear hdi hwr har HDN
 go_loopw [8] (λt wr=>∃j:Nat,j<=D.dn/\t=M U (j:Int)/\bj (aB (ir D) D.dn 0=aB (ir D) (D.dn - j) j)/\am wr xb 68 D.cells/\ap w.heap.size w wr) (λt _=>D.dn - (aV t).toNat)
 case atStart=>exact⟨0,aF _,rfl,show _=_ from rfl,hC,hB⟩
 case round=>
  clear hC hB
  obtain⟨j,hj,rfl,HJ,hC,hB⟩:=hrel
  by_cases hlt:j<D.dn
  ·have HF:=af (HJ.out.trans (bf (ir D) hlt))
   clear HJ
   have i2:(j:Int)<(D.dn:Int):=om
   have HQ:bj (ir D j=if iw (D.DX j 0) (D.DX j 1) (D.DX j 2)=0 then ag else ai (iw (D.DX j 0) (D.DX j 1) (D.DX j 2))):=show _=_ from rfl
   obtain⟨bb,bo,rfl,bl,hc⟩:=(HRd.out.below hB).elem hlt
   have ee:=r3 hc
   simp only[bw,bq]at ee
   obtain⟨e0,e1,e2⟩:=ee
   clear hc
   generalize D.DX j 0=d0 at *
   generalize D.DX j 1=d1 at *
   generalize D.DX j 2=d2 at *
   have x16:=bu hC HDC.out 16
   go_wp2_with fail
   refine aZ (qB _ _ _ _) ?_
   intro w9 hb
   obtain⟨hC,hB⟩:=bS hC hB hb
   clear e0 e1 e2 x16
   exact T11
  have hjn:j=D.dn:=om
  have hk:=HJ.out
  rw[hjn]at hk
  replace hk:=hk.trans (bh (ir D) D.dn)
  clear HJ
  have hnj:¬(j:Int)<(D.dn:Int):=om
  clear hjn
  have hk2:=hk
  clear hk
  replace HS:bj (r=lf D):=show _=_ by rw[HS.out];unfold pL;rw[hk2]
  clear hk2
  have x16:=bu hC HDC.out 16
  have x17:=bu hC HDC.out 17
  have x18:=bu hC HDC.out 18
  have x19:=bu hC HDC.out 19
  have x20:=bu hC HDC.out 20
  have x21:=bu hC HDC.out 21
  have x22:=bu hC HDC.out 22
  go_wp2_with fail
  refine aZ (HF.out _ hB) ?_
  intro w1 hb
  obtain⟨hC,hB⟩:=bS hC hB hb
  clear HF
  clear x17 x18 x19 x20 x21 x22
  by_cases hef:f3=0
  rotate_left
  ·exact wJ
  subst hef
  have x23:=bu hC HDC.out 23
  have x24:=bu hC HDC.out 24
  have x25:=bu hC HDC.out 25
  have x26:=bu hC HDC.out 26
  have x27:=bu hC HDC.out 27
  have x28:=bu hC HDC.out 28
  go_wp2_with fail
  refine aZ (HZ.out _ hB) ?_
  intro w1 hb
  obtain⟨hC,hB⟩:=bS hC hB hb
  clear HZ
  clear x23 x24 x25 x26 x27 x28
  by_cases hez:z3=0
  rotate_left
  ·exact wg
  subst hez
  have hnp2:=hnp.out (by unfold ey.fE at hfr;rw[hfr])
  replace HS:bj (r=_):=show _=_ from HS.out.trans (H3.out (by rw[hfr]) (by rw[hzr]))
  clear H3 hnp hfr hzr
  have hRG:=af (ef hC HDC.out _ List.toList_toArray)
  go_wp2_with (refine wpList_load_mid (by rfl) 68 _ (by rfl) xb 0 (by rfl) _ _ hRG.out (by rfl) (by rfl) (by rfl) ?_)
  clear hRG
  refine aZ (HL.out hnp2 _ hB) ?_
  intro w1 hb
  obtain⟨hC,hB⟩:=bS hC hB hb
  clear HL hnp2
  by_cases hl2:l2=0
  rotate_left
  ·have heb:(l2 != 0)=true:=by simpa using hl2
   go_wp2_with fail
   go_ret3
   refine⟨?_,hB⟩
   rw[HS.out]
   simp[*]
  subst hl2
  replace HS:bj (r=_):=show _=_ from HS.out.trans (if_neg (by simp))
  have hRG:=af (ef hC HDC.out _ List.toList_toArray)
  go_wp2_with (refine wpList_load_mid (by rfl) 68 _ (by rfl) xb 0 (by rfl) _ _ hRG.out (by rfl) (by rfl) (by rfl) ?_)
  clear hRG
  refine aZ (HK.out _ hB) ?_
  intro w1 hb
  obtain⟨hC,hB⟩:=bS hC hB hb
  clear HK
  by_cases hk2:k2=0
  rotate_left
  ·have heb:(k2 != 0)=true:=by simpa using hk2
   go_wp2_with fail
   go_ret3
   refine⟨?_,hB⟩
   rw[HS.out]
   simp[*]
  subst hk2
  replace HS:bj (r=ob D):=show _=_ by rw[HS.out];simp
  have x33:=bu hC HDC.out 33
  have x34:=bu hC HDC.out 34
  have x35:=bu hC HDC.out 35
  have x36:=bu hC HDC.out 36
  have x37:=bu hC HDC.out 37
  have x38:=bu hC HDC.out 38
  have x39:=bu hC HDC.out 39
  have x40:=bu hC HDC.out 40
  have x41:=bu hC HDC.out 41
  have x42:=bu hC HDC.out 42
  have x43:=bu hC HDC.out 43
  have x44:=bu hC HDC.out 44
  have x45:=bu hC HDC.out 45
  go_wp2_with fail
  refine aZ (HT.out _ hB) ?_
  intro w1 hb
  obtain⟨hC,hB⟩:=bS hC hB hb
  clear HT
  clear x33 x34 x35 x36 x37 x38 x39 x40 x41 x42 x43 x44 x45
  by_cases hec:c3=0
  rotate_left
  ·exact vi
  subst hec
  have x46:=bu hC HDC.out 46
  have x47:=bu hC HDC.out 47
  have x48:=bu hC HDC.out 48
  have x49:=bu hC HDC.out 49
  have x50:=bu hC HDC.out 50
  go_wp2_with fail
  refine aZ (HP.out _ hB) ?_
  intro w1 hb
  obtain⟨hC,hB⟩:=bS hC hB hb
  clear HP
  clear x46 x47 x48 x49 x50
  by_cases het:t3=0
  rotate_left
  ·exact wj
  subst het
  have x50:=bu hC HDC.out 50
  by_cases htp:0<D.tp
  ·exact vF
  have hti:¬(0:Int)<(D.tp:Int):=om
  replace HS:bj (r=pN D):=show _=_ by rw[HS.out];unfold ob;simp[hcr,htr,htp]
  clear hcr htr
  have x51:=bu hC HDC.out 51
  have x52:=bu hC HDC.out 52
  have x53:=bu hC HDC.out 53
  have x54:=bu hC HDC.out 54
  have x55:=bu hC HDC.out 55
  go_wp2_with fail
  refine aZ (HE.out _ hB) ?_
  intro w1 hb
  obtain⟨hC,hB⟩:=bS hC hB hb
  clear HE
  clear x51 x52 x53 x54 x55
  by_cases hee:e3=0
  rotate_left
  ·exact vM
  subst hee
  clear x50
  have x56:=bu hC HDC.out 56
  have x57:=bu hC HDC.out 57
  go_wp2_with fail
  refine aR (i7 _ _ _ _) ?_
  rintro(_|_) g1
  rotate_left
  ·go_wp2_with fail
   go_ret3
   refine⟨?_,hB⟩
   rw[HS.out]
   unfold pN
   simp[*]
  go_wp2_with fail
  refine aR (i7 _ _ _ _) ?_
  exact T59
end
section
open Tryz
open Go.RowKit Go.Shelf
attribute [local go_sem] Oper.semAt_some
theorem uB (D:ey) (w:aj) (hV:rM w D) (hAW:∀W,ap w.heap.size w W->aC prog 9 #[] W λe W'=>e=ar (aA true)/\ap W.heap.size W W'):
  aC prog 3 #[aN D.cells] w λe W'=>e=ar (aA true)/\ap w.heap.size w W':=by
 obtain⟨a,c,HDC,h0,h1,h2,h3,h4,h5,h6,h7,h8,h9,h10,h11,h12,h13,h14,h15,h16,h17,h18,h19,h20,h21,h22,h23⟩:=hV.lit
 have H1:=af (λW (h:ap w.heap.size w W)=>mR D W (hV.below h))
 have H2:=af (λW (h:ap w.heap.size w W)=>lK D W (hV.below h))
 have HAW:=af hAW
 clear hAW
 unfold E3 at H1 H2
 obtain⟨⟨q1,q2,q3⟩,hr⟩:∃p,tJ D=p:=⟨_,rfl⟩
 rw[hr,HDC.out]at H1 H2
 simp only at H1 H2
 obtain⟨W0,HW0,hC,hB⟩:=qX w 68 HDC
 rw[HDC.out]
 go_enter func3,ntmps3
 go_upto_region 1 with fail
 rw[HW0.out]
 clear HW0
 obtain⟨xb,hxe⟩:=bY w.heap.size
 rw[<-hxe]at hC⊢
 clear hxe
 have hRG:=af (ef hC HDC.out _ List.toList_toArray)
 go_wp2_with (refine wpList_load_mid (by rfl) 68 _ (by rfl) xb 0 (by rfl) _ _ hRG.out (by rfl) (by rfl) (by rfl) ?_)
 clear hRG
 refine aZ (H1.out _ hB) ?_
 intro w1 hb
 obtain⟨hC,hB⟩:=bS hC hB hb
 clear H1
 have hRG:=af (ef hC HDC.out _ List.toList_toArray)
 go_wp2_with (refine wpList_load_mid (by rfl) 68 _ (by rfl) xb 0 (by rfl) _ _ hRG.out (by rfl) (by rfl) (by rfl) ?_)
 clear hRG
 refine aZ (H2.out _ hB) ?_
 intro w2 hb
 obtain⟨hC,hB⟩:=bS hC hB hb
 clear H2
 go_wp2_with fail
 refine aZ (HAW.out _ hB) ?_
 intro w3 hb
 obtain⟨hC,hB⟩:=bS hC hB hb
 clear HAW
 exact gU
end
end Go.Proofs.YtbpnallaifdcpaaGreatDoor
